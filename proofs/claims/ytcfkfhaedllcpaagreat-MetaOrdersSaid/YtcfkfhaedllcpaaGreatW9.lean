import Derived.Scope
import Derived.OrdersIn
import Derived.RangeFuncWrites
import Derived.RangeFuncNested
import Derived.Test.YtcfkfhaedllcpaaGreatW8
set_option linter.all false
set_option linter.defProp false
set_option maxHeartbeats 8000000
noncomputable section
namespace Go.Gl
inductive AV where
 | skip
 | B5 (ops:List Am)
 | EG (l:List Nat) (ops:List Cd)
 | seq (l:List Nat) (a b:AV)
 | cond (c:Bf) (a b:AV)
 | block (id:Nat) (a:AV)
 | loop (l:List Nat) (a:AV)
 | exit (id:Nat)
 | ret
 | scope (a:AV)
 | Dg (l:List Nat) (g:Bf) (ps:List Nat) (a b:AV)
 deriving Inhabited
inductive Aa where
 | normal
 | exit (id:Nat)
 | ret
 | Bb (v:V)
def prune:List Nat->Env->Env
 | [],_=>[]
 | s::r,env=>match get s env with
   | some v=>(s,v)::prune r env
   | none=>prune r env
def yS (Z Z2:AE) (env env2:Env):Prop:= ∀j v2,get j env2=some v2-> ∃v,get j env=some v/\Ez Z Z2 v v2
def Fz (env:Env) (Z:AE) (K:Env->AE->Prop):Prop:=K env Z\/ ∃env2 Z2,pR Z Z2/\yS Z Z2 env env2/\K env2 Z2
def Fz.mono {env:Env} {Z:AE} {K K':Env->AE->Prop} (h:Fz env Z K) (hk: ∀env Z,K env Z->K' env Z):Fz env Z K':=by
 rcases h with h|⟨e2,s2,h1,h2,h3⟩
 .exact .inl (hk _ _ h)
 .exact .inr ⟨e2,s2,h1,h2,hk _ _ h3⟩
def I3 (P:Program):List Am->(Env->AE->Prop)->(Env->V->AE->Prop)->Env->AE->Prop
 | [],K,_,env,Z=>K env Z
 | o::r,K,kp,env,Z=>Hm P o env Z (fun v Z'=>I3 P r K kp (put o.dst v env) Z') (kp env)
def Aa.andThen (next:Env->AE->Prop) (Q:Aa->Env->AE->Prop):Aa->Env->AE->Prop
 | .normal,env,Z=>next env Z
 | .exit id,env,Z=>Q (.exit id) env Z
 | .ret,env,Z=>Q .ret env Z
 | .Bb v,env,Z=>Q (.Bb v) env Z
def Aa.inBlock (id:Nat) (Q:Aa->Env->AE->Prop):Aa->Env->AE->Prop
 | .normal,env,Z=>Q .normal env Z
 | .exit id',env,Z=>bif Nat.beq id' id then Q .normal env Z else Q (.exit id') env Z
 | .ret,env,Z=>Q .ret env Z
 | .Bb v,env,Z=>Q (.Bb v) env Z
def erase:AV->AV
 | .EG _ ops=> .EG [] ops
 | .seq _ a b=> .seq [] (erase a) (erase b)
 | .cond c a b=> .cond c (erase a) (erase b)
 | .block id a=> .block id (erase a)
 | .loop _ a=> .loop [] (erase a)
 | .scope a=> .scope (erase a)
 | .Dg _ g ps a b=> .Dg [] g ps (erase a) (erase b)
 | c=>c
def Nn (P:Program) (N:Nat) (ops:Array Oper) (o:Oper):Option Am:=
 match dk P o.op,o.guard with
 | some ao,none=>if(∀d,o.dst=some d->d<N)then some ⟨o.dst,ao,none⟩else none
 | some ao,some (j,b)=>match(ops[j]?).bind (·.dst)with
   | some d=>if(∀d,o.dst=some d->d<N)then some ⟨o.dst,ao,some (d,b)⟩else none
   | none=>none
 | none,_=>none
def Gv (P:Program) (N:Nat) (ops:Array Oper):List Oper->Option (List Am)
 | []=>some []
 | o::r=>match Nn P N ops o,Gv P N ops r with
   | some x,some xs=>some (x::xs)
   | _,_=>none
def direct (ops:Array Oper) (i:Nat):List Nat:=match ops[i]? with|some o=>(o.after.toList.filter (Region.binds .any)).map (·.on)|none=>[]
def C0 (pu:List FuncId) (fz:List Nat) (ao:Am):Am:=match ao.op with
 | .call f as=>bif pu.contains f then {ao with op:= .HK f as}else ao
 | .box x=>bif (match ao.dst with|some d=>fz.contains d|none=>false)then {ao with op:= .Q8 x}else ao
 | .mv x=>bif (match ao.dst with|some d=>fz.contains d|none=>false)then {ao with op:= .jy x}else ao
 | .append sz b x y=>bif (match ao.dst with|some d=>fz.contains d|none=>false)then {ao with op:= .Q9 sz b x y}else ao
 | _=>ao
def Xk (x y:Am):Bool:=
 (match x.dst with|some d=> !(looks y).contains d&&y.dst != some d|none=>true)&&(match y.dst with|some d=> !(looks x).contains d|none=>true)
def Xa (y x:Am):Bool:=match y.dst with|some d=> !(AG x).contains d|none=>true
def Zg:Fh->Bool| .alloc _=>true|_=>false
def okB (x y:Cd):Bool:=x.pJ.isEmpty&&Xk x.o y.o&&((still x.o.op&&calm y.o.op)||kd x.o.op== .P||
 (still x.o.op&&y.pJ.contains x.i&&(match x.o.dst with|some d=> !(looks x.o).contains d|none=>true))||(Yt x.o.op&&y.pJ.isEmpty&&y.o.guard.isNone&&Zg y.o.op))
def J3 (ops:Array Oper) (clo:List (List Nat)) (x y:Cd):Bool:=
 !Nat.beq x.i y.i&& !(direct ops x.i).contains y.i&&(kd x.o.op != .N||Xa y.o x.o)&&((clo.getD y.i []).contains x.i||okB x y)
def xu (ops:Array Oper) (clo:List (List Nat)):List Cd->Bool
 | []=>true
 | x::r=>r.all (J3 ops clo x)&&xu ops clo r
def kV (ops:Array Oper) (clo:List (List Nat)):Bool:=(List.range ops.size).all fun i=>(clo.getD i []).all fun x=>(direct ops i).contains x||(direct ops i).any fun j=>Nat.blt j i&&(clo.getD j []).contains x
def a8 (ops:Array Oper) (clo:List (List Nat)) (C:List Cd):Bool:=
 Nat.beq C.length ops.size&&(List.range ops.size).all (fun j=>C.any fun d=>Nat.beq d.i j)&&C.all (fun d=>Nat.blt d.i ops.size&& !(direct ops d.i).contains d.i&&(direct ops d.i).all (fun e=>Nat.blt e ops.size))&&
 kV ops clo&&xu ops clo C
def Fc (ops:Array Oper):Nat->List (List Nat)
 | 0=>[]
 | n+1=>let r:=Fc ops n;r++[((direct ops n)++(direct ops n).flatMap fun j=>r.getD j []).eraseDups]
def XE (o:Fh):Nat:=match kd o with| .P=>0| .N=>0| .A=>1| .AA=>2| .H=>3
def oM (o:Fh):Nat:=match kd o with| .P=>0| .N=>0| .A=>1| .AA=>3| .H=>2
def qq (XE:Fh->Nat) (ops:Array Oper) (as:List Am) (left done:List Nat):Option Nat:=
 let rs:=left.filter fun i=>(direct ops i).all done.contains
 let of:=fun r=>rs.find? fun i=>match as[i]? with|some ao=>Nat.ble (XE ao.op) r|none=>false
 match of 0 with|some i=>some i|none=>match of 1 with|some i=>some i|none=>match of 2 with|some i=>some i|none=>of 3
def PM (XE:Fh->Nat) (ops:Array Oper) (as:List Am):Nat->List Nat->List Nat->List Nat
 | 0,_,done=>done.reverse
 | n+1,left,done=>match qq XE ops as left done with
   | some i=>PM XE ops as n (left.filter fun j=> !Nat.beq j i) (i::done)
   | none=>done.reverse
def oL (clo:List (List Nat)) (as:List Am) (before:List Nat) (i:Nat):List Nat:=
 match as[i]? with
 | some ao=>match kd ao.op with
   | .H=>before.filter fun j=> !(clo.getD i []).contains j&&(match as[j]? with|some x=>kd x.op== .N|none=>false)
   | _=>[]
 | none=>[]
def jz (clo:List (List Nat)) (as:List Am):List Nat->List Nat->List Cd
 | _,[]=>[]
 | before,i::r=>match as[i]? with
   | some ao=>⟨i,ao,oL clo as before i,(oL clo as before i).filterMap fun j=>as[j]?⟩::jz clo as (i::before) r
   | none=>jz clo as (i::before) r
def kJ (ops:Array Oper) (as:List Am):Option (List Cd):=
 let clo:=Fc ops ops.size
 let C:=jz clo as [] (PM XE ops as ops.size (List.range ops.size) [])
 bif a8 ops clo C then some C else
 let C:=jz clo as [] (PM oM ops as ops.size (List.range ops.size) [])
 bif a8 ops clo C then some C else none
def res (P:Program) (N:Nat) (pu:List FuncId) (fz:List Nat):Code->Option AV
 | .skip=>some .skip
 | .label _=>some .skip
 | .ret=>some .ret
 | .exit id=>some (.exit id)
 | .seq a b=>match res P N pu fz a,res P N pu fz b with|some a,some b=>some (.seq [] a b)|_,_=>none
 | .cond c a b=>match BR c,res P N pu fz a,res P N pu fz b with|some c,some a,some b=>some (.cond c a b)|_,_,_=>none
 | .block id a=>(res P N pu fz a).map (.block id)
 | .loop a=>(res P N pu fz a).map (.loop [])
 | .scope a=>(res P N pu fz a).map .scope
 | .rangeFunc g ps a b=>match BR g,res P N pu fz a,res P N pu fz b with
   | some g,some a,some b=>if ps.toList.all (fun p=>Nat.blt p N)then some (.Dg [] g ps.toList a b)else none
   | _,_,_=>none
 | .region _ ops draw=>match Gv P N ops ops.toList with
   | none=>none
   | some as=>bif draw then(bif P.follows .mixedOrders then(kJ ops (as.map (C0 pu fz))).map (.EG [])else none)else some (.B5 (as.map (C0 pu fz)))
 | _=>none
def Bt (P:Program) (ps:List Nat) (a b:AV):FuncId->Array Tmp->Code->Code->Nat->Prop:=fun fn ps' as bd N=>
 (∃g,P.funcs[fn]? =some g)/\ps'.toList=ps/\(∀p∈ps,p<N)/\ ∃pu fz,res P N pu fz as=some (erase a)/\res P N pu fz bd=some (erase b)
def Ko (L:Nat) (Q:Aa->Env->AE->Prop) (env:Env):R->AE->Prop
 | .ret _,Z=> ∃st env1 ok,Z L=some (.loop st env1 ok)/\match st with
   | .ready=>Q .normal env (del Z L)
   | .ret=>Q .ret env (del Z L)
   | .exit id=>Q (.exit id) env (del Z L)
 | .Bb v,Z=>Q (.Bb v) env (del Z L)
def T (P:Program):AV->(Aa->Env->AE->Prop)->Env->AE->Prop
 | .skip,Q,env,Z=>Q .normal env Z
 | .ret,Q,env,Z=>Q .ret env Z
 | .exit id,Q,env,Z=>Q (.exit id) env Z
 | .B5 ops,Q,env,Z=>I3 P ops (fun env Z=>Q .normal env Z) (fun env v Z=>Q (.Bb v) env Z) env Z
 | .EG l ops,Q,env,Z=>DJ P ops (fun env Z=>Q .normal (prune l env) Z) (fun v Z=> ∀Z',Sub Z Z'->Q (.Bb v) [] Z') env Z
 | .seq l a b,Q,env,Z=>T P a (Aa.andThen (fun env Z=>Fz (prune l env) Z (T P b Q)) Q) env Z
 | .cond c a b,Q,env,Z=>match ev env c with
   | some (.b t)=>(t=true->T P a Q env Z)/\(t=false->T P b Q env Z)
   | _=>False
 | .block id a,Q,env,Z=>T P a (Aa.inBlock id Q) env Z
 | .scope a,Q,env,Z=>T P a Q env Z
 | .loop l a,Q,env,Z=> ∃I:Nat->Env->AE->Prop,(∃n,I n (prune l env) Z)/\
  ∀n env Z,I n env Z->T P a (Aa.andThen (fun env Z=> ∃m,m<n/\I m (prune l env) Z) Q) env Z
 | .Dg l g ps a b,Q,env,Z=>match ev env g with
   | some (.f (.func gf) [] cap)=> ∀L,Z L=none->A3 P gf (.f (.yield L) [] []::cap) (Bd Z L (.loop .ready (prune l env) (Bt P ps a b))) (Ko L Q env)
   | _=>False
def CD.put {H:Nat->Nat->Option Value} {env:Env} {a:Act} (h:CD H env a.tmps) {N:Nat} (hN:a.tmps.size=N) {d:Option Nat} (hd: ∀x,d=some x->x<N) {v:V} {c:Value} (hv:Ab H v c) :
    CD H (Gl.put d v env) (a.put d c).tmps:=by
 cases d with
 | none=>exact h
 | some d=>
   intro j u hu;simp only[Gl.put,get]at hu;cases hb:Nat.beq d j with
   | true=>
     rw[hb]at hu;simp only[cond_true]at hu;cases hu;have:d=j:=UX hb;subst this;refine⟨c,?_,hv⟩;simp only[Act.put];rw[Array.getElem?_setIfInBounds_self_of_lt (by rw[hN];exact hd d rfl)]
   | false=>
     rw[hb]at hu;simp only[cond_false]at hu;have:d≠j:=Nat.ne_of_beq_eq_false hb;obtain⟨c',h1,h2⟩:=h j u hu;refine⟨c',?_,h2⟩;simp only[Act.put];rw[Array.getElem?_setIfInBounds_ne this];exact h1
def NX: ∀(keep:List Nat) (env:Env) (k:Nat) (v:V),get k (prune keep env)=some v->get k env=some v
 | [],_,_,_,h=>by cases h
 | s ::r,env,k,v,h=>by
   simp only[prune]at h;split at h
   .rename_i u hu
    simp only[get]at h;cases hb:Nat.beq s k with
    | true=>
      rw[hb]at h;simp only[cond_true]at h;cases h;have:s=k:=UX hb;subst this;exact hu
    | false=>
      rw[hb]at h;simp only[cond_false]at h;exact NX r env k v h
   .exact NX r env k v h
def CD.prune {H:Nat->Nat->Option Value} {env:Env} {tmps:Array Value} (h:CD H env tmps) (keep:List Nat):CD H (Gl.prune keep env) tmps:=
 fun k v hv=>h k v (NX keep env k v hv)
def CD.fz {F:Nat->Prop} {Z Z2:AE} {w:World} {env env2:Env} {tmps:Array Value} (h:CD (Hh F Z w) env tmps) (hR:Rel F Z w) (h1:pR Z Z2) (h2:yS Z Z2 env env2):CD (Hh F Z2 w) env2 tmps:=fun k v2 hv=>by
 obtain⟨v,q1,q2⟩:=h2 k v2 hv;obtain⟨c,q3,q4⟩:=h k v q1;exact⟨c,q3,q2.HB hR (fun _ hn=>h1.none hn) q4⟩
def Lz (a:Act) (d:Option Nat) (c:Value):(a.put d c).tmps.size=a.tmps.size:=by
 cases d<;>simp[Act.put]
def put_defers (a:Act) (d:Option Nat) (c:Value):(a.put d c).defers=a.defers:=by
 cases d<;>rfl
def NO {k:Nat} {v:V}: ∀ {keep:List Nat} {env:Env},(k,v)∈prune keep env->get k env=some v
 | [],_,h=>by cases h
 | s ::r,env,h=>by
   simp only[prune]at h;split at h
   .rename_i u hu
    rcases Fm.1 h with e|h
    .cases e;exact hu
    .exact NO h
   .exact NO h
def DX (H:Nat->Nat->Option Value):Aa->Exit->Prop
 | .normal,e=>e= .normal
 | .exit id,e=>e= .exit id
 | .ret,e=>e= .ret
 | .Bb v,e=> ∃c,e= .panic [{v:=c,recovered:=false}]/\Ab H v c
def Lb (F:Nat->Prop) (Z₀:AE) (w₀:World) (N:Nat) (ds:List Deferred) (Q:Aa->Env->AE->Prop) (e:Exit) (a:Act) (w:World):Prop:=
 ∃ex env Z,Q ex env Z/\DX (Hh F Z w) ex e/\CD (Hh F Z w) env a.tmps/\Rel F Z w/\Bu F Z₀ w₀ Z w/\a.tmps.size=N/\a.defers=ds
def wide (r:Option Nat):Fence:={Fence.wide with round:=r}
def RG {r:Option Nat} {n:Nat} {P:Program} {l:Nat} {f:FuncId} {tmps:Array Value} {assign body:Code} {w:World} {R:Ending->World->Prop} (h:RoundIn Fence.wide 0 P l f tmps assign body w R):RoundIn (wide r) n P l f tmps assign body w R:=
 ⟨trivial,fun c cs _=>h.2 c cs (room_wide _)⟩
def KF {r:Option Nat} {n:Nat} {P:Program} {f:FuncId} {args:Array Value} {w:World} {R:Ending->World->Prop} (h:Calls P f args w R):CallsIn (wide r) n P f args w R:=
 callsIn_wide (n:=n) |>.2 h
variable {P:Program} {F:Nat->Prop} {N n:Nat} {ds:List Deferred} {r:Option Nat} {pu:List FuncId} {fz:List Nat}
def Qp {Z:AE} {w:World} {k kp:V->AE->Prop} {o:Oper} {a:Act} {next:Act->World->Prop} {Q:Exit->Act->World->Prop} {res:Result Next} (h:Good P F Z w k kp res)
    (hn: ∀v Z' c w',k v Z'->Ab (Hh F Z' w') v c->Rel F Z' w'->Bu F Z w Z' w'->next (a.put o.dst c) w')
    (hp: ∀v Z' c w',kp v Z'->Ab (Hh F Z' w') v c->Rel F Z' w'->Bu F Z w Z' w'->Q (.panic [{v:=c,recovered:=false}]) a w') :
    o.uponIn (wide r) n P a next Q res:=by
 cases res with
 | ok x w'=>
   cases x<;>try exact h.elim
   case value c=>
    obtain⟨v,Z',h1,h2,h3,h4⟩:=h;exact hn v Z' c w' h1 h2 h3 h4
   case skip=>
    obtain⟨Z',h1,h3,h4⟩:=h;exact hn (.t []) Z' undef w' h1 ⟨#[],rfl,rfl,trivial⟩ h3 h4
   case enter f args=>
    refine⟨fun hd=>by simp[wide,Fence.wide]at hd,KF ?_⟩;refine Calls.mono h fun e w'' hq=>?_
    obtain⟨rr,Z',h1,h2,h3,h4⟩:=hq;cases rr with
    | ret v=>obtain⟨c,rfl,hv⟩:=h2;exact hn v Z' c w'' h1 hv h3 h4
    | Bb v=>obtain⟨c,rfl,hv⟩:=h2;exact hp v Z' c w'' h1 hv h3 h4
   case round l f tmps assign body=>
    refine⟨fun hd=>by simp[wide,Fence.wide]at hd,RG ?_⟩;refine RoundIn.mono h fun e w'' hq=>?_
    obtain⟨rr,Z',h1,h2,h3,h4⟩:=hq;cases rr with
    | ret v=>obtain⟨c,rfl,hv⟩:=h2;exact hn v Z' c w'' h1 hv h3 h4
    | Bb v=>obtain⟨c,rfl,hv⟩:=h2;exact hp v Z' c w'' h1 hv h3 h4
 | halt x w'=>
   cases x<;>try exact h.elim
   obtain⟨v,Z',h1,h2,h3,h4⟩:=h;exact hp v Z' _ w' h1 h2 h3 h4
def bX {ops:Array Oper} {o:Oper} {ao:Am} (h:Nn P N ops o=some ao):ao.dst=o.dst/\(∀d,o.dst=some d->d<N)/\dk P o.op=some ao.op/\
    ((o.guard=none/\ao.guard=none)\/ ∃j b d,o.guard=some (j,b)/\(ops[j]?).bind (·.dst)=some d/\ao.guard=some (d,b)):=by
 unfold Nn at h;split at h
 .rename_i x h1 h2
  split at h
  .rename_i hd
   cases h;exact⟨rfl,hd,h1,.inl ⟨h2,rfl⟩⟩
  .cases h
 .rename_i x j b h1 h2
  split at h
  .rename_i d hj
   split at h
   .rename_i hd
    cases h;exact⟨rfl,hd,h1,.inr ⟨j,b,d,h2,hj,rfl⟩⟩
   .cases h
  .cases h
 .cases h
def bZ {o:Op} {ao:Fh} (h:dk P o=some ao): ∀c,o≠ .defer c:=by
 rintro c rfl;cases h
def dO {f:FuncId} {as:List Bf} {env:Env} {Z:AE} {k kp:V->AE->Prop} (h:FQ P (.HK f as) env Z k kp):FQ P (.call f as) env Z k kp:=by
 simp only[FQ]at *;exact Lc h fun vs ⟨v,h1,h2⟩=>Pure.use h1 h2
def Kw (ao:Am):(C0 pu fz ao).dst=ao.dst:=by
 unfold C0;split
 .cases pu.contains _<;>rfl
 .cases(match ao.dst with|some d=>fz.contains d|none=>false)<;>rfl
 .cases(match ao.dst with|some d=>fz.contains d|none=>false)<;>rfl
 .cases(match ao.dst with|some d=>fz.contains d|none=>false)<;>rfl
 .rfl
def Th {ao:Am} {o':Fh} {env:Env} {Z:AE} {k k' kp:V->AE->Prop} (hT:FQ P o' env Z k kp->FQ P ao.op env Z k' kp) (hk:k (.t []) Z->k' (.t []) Z) (h:Hm P {ao with op:=o'} env Z k kp):Hm P ao env Z k' kp:=by
 unfold Hm at *;simp only at h;split at h
 .exact hT h
 .split at h
  .exact⟨fun e=>hT (h.1 e),fun e=>hk (h.2 e)⟩
  .exact hk h
  .exact h.elim
def K8 {ao:Am} {env:Env} {Z:AE} {k kp:V->AE->Prop} (h:Hm P (C0 pu fz ao) env Z k kp):Hm P ao env Z (fun v Z1=> ∃vf Z2,Sub Z2 Z1/\Ez Z1 Z2 v vf/\k vf Z2) kp:=by
 have triv: ∀ {v Z},k v Z-> ∃vf Z2,Sub Z2 Z/\Ez Z Z2 v vf/\k vf Z2:=fun {v Z} h=>⟨v,Z,fun _ _ h=>h,.refl v,h⟩
 unfold C0 at h;split at h
 .rename_i f as he
  cases hb:pu.contains f with
  | false=>rw[hb]at h;exact CA h (fun _ _ h=>triv h) fun _ _ h=>h
  | true=>
    rw[hb]at h;exact Th (fun h=>by rw[he];exact P2 (dO h) (fun _ _ h=>triv h) fun _ _ h=>h) triv h
 .rename_i x he
  cases hb:(match ao.dst with|some d=>fz.contains d|none=>false)with
  | false=>rw[hb]at h;exact CA h (fun _ _ h=>triv h) fun _ _ h=>h
  | true=>
    rw[hb]at h;exact Th (fun h=>by rw[he];exact mj h) triv h
 .rename_i x he
  cases hb:(match ao.dst with|some d=>fz.contains d|none=>false)with
  | false=>rw[hb]at h;exact CA h (fun _ _ h=>triv h) fun _ _ h=>h
  | true=>
    rw[hb]at h;exact Th (fun h=>by rw[he];exact h) triv h
 .rename_i sz b x y he
  cases hb:(match ao.dst with|some d=>fz.contains d|none=>false)with
  | false=>rw[hb]at h;exact CA h (fun _ _ h=>triv h) fun _ _ h=>h
  | true=>
    rw[hb]at h;exact Th (fun h=>by rw[he];exact YH h) triv h
 .exact CA h (fun _ _ h=>triv h) fun _ _ h=>h
def Kx {ops:Array Oper} {o:Oper} {ao:Am} (ho:Nn P N ops o=some ao) {env:Env} {Z:AE} {a:Act} {w:World} (he:CD (Hh F Z w) env a.tmps) (hR:Rel F Z w) (hN:a.tmps.size=N)
    {K:Env->AE->Prop} {kp:V->AE->Prop}
    (h:Hm P ao env Z (fun v Z'=> ∃vf Z2,Sub Z2 Z'/\Ez Z' Z2 v vf/\K (put ao.dst vf env) Z2) kp)
    {next:Act->World->Prop} {Q:Exit->Act->World->Prop}
    (hn: ∀env' Z' c w',K env' Z'->CD (Hh F Z' w') env' (a.put o.dst c).tmps->Rel F Z' w'->Bu F Z w Z' w'->next (a.put o.dst c) w')
    (hp: ∀v Z' c w',kp v Z'->Ab (Hh F Z' w') v c->Rel F Z' w'->Bu F Z w Z' w'->Q (.panic [{v:=c,recovered:=false}]) a w') :
    if Region.wanted o (yielded ops a.tmps)then o.wpIn (wide r) n P a w next Q else(∀f,o.about P w a.eval=some f->(wide r).fn f)/\next (a.put o.dst undef) w:=by
 obtain⟨h1,h2,h3,h4⟩:=bX ho;unfold Hm at h
 have hrun:FQ P ao.op env Z (fun v Z'=> ∃vf Z2,Sub Z2 Z'/\Ez Z' Z2 v vf/\K (put ao.dst vf env) Z2) kp->o.wpIn (wide r) n P a w next Q:=fun ht=>by
  refine⟨fun _ _=>trivial,?_⟩;rw[Oper.semAt_eq _ _ _ (bZ h3)];refine Qp (Xz h3 ht he hR) (fun v Z' c w' hk hv hr ha=>?_) hp;obtain⟨vf,Z2,hs,hf,hk⟩:=hk;exact hn _ Z2 c w' hk (by rw[h1];exact((he.mono ha.hle).mono (Et fun n hn=>hs.none hn)).put hN h2 (hf.rel hr hs hv)) (hr.drop hs) (ha.trans (Bu.drop w' hs))
 rcases h4 with⟨h5,h6⟩|⟨j,b,d,h5,h6,h7⟩
 .rw[h6]at h
  have:Region.wanted o (yielded ops a.tmps)=true:=by simp[Region.wanted,h5]
  rw[if_pos this];exact hrun h
 .rw [h7]at h
  simp only at h;split at h
  .rename_i t hg
   obtain⟨c,hc,hv⟩:=he d _ hg;simp only[Ab]at hv;subst hv
   have hy:yielded ops a.tmps j=some t:=by
    unfold yielded;rw[h6];simp[hc]
   by_cases htb:t=b
   .have:Region.wanted o (yielded ops a.tmps)=true:=by simp[Region.wanted,h5,hy,htb]
    rw[if_pos this];exact hrun (h.1 htb)
   .have: ¬Region.wanted o (yielded ops a.tmps)=true:=by simp[Region.wanted,h5,hy,htb]
    rw[if_neg this];have htn:t= !b:=by cases t<;>cases b<;>simp_all
    obtain⟨vf,Z2,hs,hf,hk⟩:=h.2 htn;refine⟨fun _ _=>trivial,hn _ Z2 undef w hk ?_ (hR.drop hs) (Bu.drop w hs)⟩;rw[h1];exact(he.mono (Et fun n hn=>hs.none hn)).put hN h2 (hf.rel hR hs ⟨#[],rfl,rfl,trivial⟩)
  .rename_i hg
   obtain⟨c,hc,hv⟩:=he d _ hg;simp only[Ab]at hv;obtain⟨c',rfl,hc',_⟩:=hv
   have hy:yielded ops a.tmps j=none:=by
    unfold yielded;rw[h6];simp[hc]
   have: ¬Region.wanted o (yielded ops a.tmps)=true:=by simp[Region.wanted,h5,hy]
   rw[if_neg this];obtain⟨vf,Z2,hs,hf,hk⟩:=h;refine⟨fun _ _=>trivial,hn _ Z2 undef w hk ?_ (hR.drop hs) (Bu.drop w hs)⟩;rw[h1];exact(he.mono (Et fun n hn=>hs.none hn)).put hN h2 (hf.rel hR hs ⟨#[],rfl,rfl,trivial⟩)
  .exact h.elim
def GJ {ops:Array Oper}: ∀ {l:List Oper} {as:List Am},Gv P N ops l=some as->l.length=as.length/\ ∀(i:Nat) (o:Oper),l[i]? =some o-> ∃ao,as[i]? =some ao/\Nn P N ops o=some ao
 | [],as,h=>by cases h;simp
 | o ::l,as,h=>by
   simp only[Gv]at h;split at h
   .rename_i x xs h1 h2
    cases h;obtain⟨h3,h4⟩:=GJ h2;refine⟨by simp[h3],fun i q hq=>?_⟩;cases i with
    | zero=>simp at hq;subst hq;exact⟨x,rfl,h1⟩
    | succ i=>exact h4 i q (by simpa using hq)
   .cases h
def P9 {ops:Array Oper} {K:Env->AE->Prop} {kp:Env->V->AE->Prop} {Q:Aa->Env->AE->Prop} {Z₀:AE} {w₀:World}
    (U: ∀env Z,K env Z->Q .normal env Z) (hkp: ∀env v Z,kp env v Z->Q (.Bb v) env Z): ∀(as:List Am) (j:Nat),(∀(i:Nat) (o:Oper),ops[j+i]? =some o-> ∃ao,as[i]? =some ao/\Nn P N ops o=some ao)->ops.size=j+as.length->
    ∀(env:Env) (Z:AE) (a:Act) (w:World),I3 P (as.map (C0 pu fz)) K kp env Z->CD (Hh F Z w) env a.tmps->Rel F Z w->Bu F Z₀ w₀ Z w->a.tmps.size=N->a.defers=ds->
    wpOpsIn (wide r) n P ops (Lb F Z₀ w₀ N ds Q) (List.range' j as.length) a w
 | [],j,_,_,env,Z,a,w,h,he,hR,hA,hN,hd=>by
   simp only[List.length_nil,List.range'_zero,wpOpsIn];exact⟨.normal,env,Z,U _ _ h,rfl,he,hR,hA,hN,hd⟩
 | ao::as,j,hget,hsz,env,Z,a,w,h,he,hR,hA,hN,hd=>by
   simp only[LF,List.range'_succ,wpOpsIn];have hlt:j<ops.size:=by simp at hsz;omega
   have hj:ops[j]? =some ops[j]:=Array.getElem?_eq_getElem hlt;obtain⟨ao',h1,h2⟩:=hget 0 ops[j] (by simp[hj]);simp at h1;subst h1;simp only[hj]
   refine Kx (K:=I3 P (as.map (C0 pu fz)) K kp) (kp:=kp env) h2 he hR hN (by
    simp only[Ex,I3]at h;have:=K8 h
    rwa [Kw]at this) (fun env' Z' c w' hk he' hR' hA'=>?_) (fun v Z' c w' hk hv hR' hA'=>?_)
   .exact P9 U hkp as (j+1) (fun i o ho=>by
     obtain⟨x,hx,hy⟩:=hget (i+1) o (by rw[<-ho];congr 1;omega)
     exact⟨x,by simpa using hx,hy⟩) (by simp at hsz;omega) env' Z' _ w' hk he' hR' (hA.trans hA') (by rw[Lz];exact hN) (by rw[put_defers];exact hd)
   .exact⟨.Bb v,env,Z',hkp _ _ _ hk,⟨c,rfl,hv⟩,he.mono hA'.hle,hR',hA.trans hA',hN,hd⟩
def Lb.trans {Z₀ Z₁:AE} {w₀ w₁:World} {Q:Aa->Env->AE->Prop} {e:Exit} {a:Act} {w:World} (hA:Bu F Z₀ w₀ Z₁ w₁) (h:Lb F Z₁ w₁ N ds Q e a w):Lb F Z₀ w₀ N ds Q e a w:=by
 obtain⟨ex,env,Z,h1,h2,h3,h4,h5,h6⟩:=h;exact⟨ex,env,Z,h1,h2,h3,h4,hA.trans h5,h6⟩
def YO {p:Nat->Prop} (h: ∃m,p m): ∃m,p m/\ ∀k,p k->m<=k:=by
 obtain⟨n,hn⟩:=h
 induction n using Nat.strongRecOn with
 | _ n ih=>
   by_cases hex: ∃k,k<n/\p k
   .obtain⟨k,h1,h2⟩:=hex
    exact ih k h1 h2
   .exact⟨n,hn,fun k hk=>Nat.le_of_not_lt fun hlt=>hex ⟨k,hlt,hk⟩⟩
def mem_ready {ops:Array Oper} {listed:Array Bool} (hs:listed.size=ops.size) {i:Nat} :
    i∈Region.ready .any ops listed↔i<ops.size/\listed[i]? =some false/\ ∀e∈direct ops i,listed[e]? =some true:=by
 unfold Region.ready;rw[LH,List.mem_range];constructor
 .rintro⟨h1,h2⟩
  simp only[BD,Bool.not_eq_true']at h2;obtain⟨h2,h3⟩:=h2;have hl:i<listed.size:=by omega
  refine⟨h1,?_,fun e he=>?_⟩
  .rw[Array.getElem?_eq_getElem hl]
   rw[Array.getD_eq_getD_getElem?,Array.getElem?_eq_getElem hl]at h2;simpa using h2
  .unfold direct at he
   rw[Array.getElem?_eq_getElem h1]at he h3;simp only[W6,Option.getD_some]at h3;simp only[Mg,LH]at he;obtain⟨g,⟨hg1,hg2⟩,rfl⟩:=he;rw[Array.all_eq_true_iff_forall_mem]at h3;have:=h3 g (by simpa using hg1);rw[hg2]at this;simp only[Bool.not_true,Bool.false_or]at this;rw[Array.getD_eq_getD_getElem?]at this;cases hx:listed[g.on]? with
   | none=>rw[hx]at this;cases this
   | some b=>rw[hx]at this;simp only[Option.getD_some]at this;rw[this]
 .rintro⟨h1,h2,h3⟩
  refine⟨h1,?_⟩;rw[Array.getD_eq_getD_getElem?,h2,Array.getElem?_eq_getElem h1];simp only[Option.getD_some,Bool.not_false,G7,W6];rw[Array.all_eq_true_iff_forall_mem];intro g hg;cases hb:Region.binds .any g with
  | false=>rfl
  | true=>
    simp only[Bool.not_true,Bool.false_or]
    rw[Array.getD_eq_getD_getElem?,h3 g.on (by
     unfold direct;rw[Array.getElem?_eq_getElem h1];simp only[Mg,LH]
     exact⟨g,⟨by simpa using hg,hb⟩,rfl⟩)]
    rfl
def Wv {x y:Am} (h:Xk x y=true):pC x y:=by
 unfold Xk at h;simp only[BD]at h;refine⟨fun d hd=>?_,fun d hd=>?_⟩
 .have h1:=h.1
  rw[hd]at h1;simp only[BD,Bool.not_eq_true',xm,ne_eq]at h1;exact⟨fun hm=>by have:=h1.1;rw[List.contains_eq_mem]at this;simp[hm]at this,h1.2⟩
 .have h2:=h.2
  rw[hd]at h2;simp only[Bool.not_eq_true']at h2;exact fun hm=>by rw[List.contains_eq_mem]at h2;simp[hm]at h2
def Wq {x y:Am} (h:Xa y x=true):fresh y x:=by
 intro d hd;unfold Xa at h;rw[hd]at h;simp only[Bool.not_eq_true']at h;exact fun hm=>by rw[List.contains_eq_mem]at h;simp[hm]at h
def Vc {ops:Array Oper} {clo:List (List Nat)}: ∀ {C:List Cd},xu ops clo C=true->C.Pairwise fun x y=>J3 ops clo x y=true
 | [],_=> .nil
 | x::r,h=>by
   simp only[xu,BD,E3]at h;exact .cons h.1 (Vc h.2)
def Tw {clo:List (List Nat)} {as:List Am}: ∀ {l before:List Nat} {d:Cd},d∈jz clo as before l->as[d.i]? =some d.o/\d.re=d.pJ.filterMap fun j=>as[j]?
 | [],_,_,h=>by cases h
 | i ::r,before,d,h=>by
   simp only[jz]at h;split at h
   .rename_i ao hao
    rcases Fm.1 h with rfl|h
    .exact⟨hao,rfl⟩
    .exact Tw h
   .exact Tw h
def iK {as:List Am} {x y:Cd} (hx:as[x.i]? =some x.o) (hxr:x.re=x.pJ.filterMap fun j=>as[j]?) (hyr:y.re=y.pJ.filterMap fun j=>as[j]?) (h:okB x y=true):yI x y:=by
 unfold okB at h;simp only[BD,Fl,EU]at h;obtain⟨⟨h1,h2⟩,h3⟩:=h;refine⟨by rw[hxr,List.isEmpty_iff.1 h1];rfl,Wv h2,?_⟩;rcases h3 with((h3|h3)|h3)|h3
 .exact .inl h3
 .exact .inr (.inl h3)
 .refine .inr (.inr (.inl ⟨h3.1.1,?_,fun d hd=>?_⟩))
  .rw[hyr,List.mem_filterMap]
   exact⟨x.i,by have:=h3.1.2;rw[List.contains_eq_mem]at this;simpa using this,hx⟩
  .have:=h3.2
   rw[hd]at this;simp only[Bool.not_eq_true']at this;exact fun hm=>by rw[List.contains_eq_mem]at this;simp[hm]at this
 .refine .inr (.inr (.inr ⟨h3.1.1.1,by rw[hyr,List.isEmpty_iff.1 h3.1.1.2];rfl,by simpa using h3.1.2,?_⟩))
  have:=h3.2;unfold Zg at this;split at this
  .rename_i z hz;exact⟨z,hz⟩
  .cases this
def Yb {ops:Array Oper} {clo:List (List Nat)} (hclo:kV ops clo=true) {listed:Array Bool}
    (hdc: ∀j,j<ops.size->listed[j]? =some true-> ∀e∈direct ops j,listed[e]? =some true) :
    ∀(i:Nat),i<ops.size->(∀e∈direct ops i,listed[e]? =some true)-> ∀x∈clo.getD i [],listed[x]? =some true:=by
 intro i
 induction i using Nat.strongRecOn with
 | _ i ih=>
   intro hi hd x hx;unfold kV at hclo;rw[E3]at hclo;have h1:=hclo i (List.mem_range.2 hi);rw[E3]at h1;have h2:=h1 x hx;simp only[Fl,J0,BD]at h2;rcases h2 with h2|⟨j,hj,hlt,hm⟩
   .exact hd x (by rw[List.contains_eq_mem]at h2;simpa using h2)
   .have hji:j<i:=by rw[Nat.blt_eq]at hlt;exact hlt
    have hl:=hd j hj;exact ih j hji (by omega) (hdc j (by omega) hl) x (by rw[List.contains_eq_mem]at hm;simpa using hm)
def Sw {ops : Array Oper} {as:List Am} {clo:List (List Nat)} {C:List Cd} (hclo:kV ops clo=true) (hpw:C.Pairwise fun x y=>J3 ops clo x y=true)
    (hC: ∀d∈C,d.i<ops.size/\d.i∉direct ops d.i/\(∀e∈direct ops d.i,e<ops.size)/\(as.map (C0 pu fz))[d.i]? =some d.o/\d.re=d.pJ.filterMap fun j=>(as.map (C0 pu fz))[j]?)
    (has: ∀(i:Nat) (o:Oper),ops[i]? =some o-> ∃ao,as[i]? =some ao/\Nn P N ops o=some ao)
    {K:Env->AE->Prop} {kp:V->AE->Prop} {Q:Aa->Env->AE->Prop} {Z₀:AE} {w₀:World} (hgeq: ∀env env' Z,jx env env'->K env Z->K env' Z)
    (U: ∀env Z,K env Z-> ∃l,Q .normal (prune l env) Z) (hkp: ∀v Z,kp v Z->Q (.Bb v) [] Z) (hU: ∀v Z m z,Z m=none->kp v Z->kp v (Bd Z m z)): ∀(fuel:Nat) (l:List Cd) (listed:Array Bool) (env:Env) (Z:AE) (a:Act) (w:World),
    l.length=fuel->l.Sublist C->listed.size=ops.size->(∀j,j<ops.size->(listed[j]? =some false↔ ∃d∈l,d.i=j))->
    (∀j,j<ops.size->listed[j]? =some true-> ∀e∈direct ops j,listed[e]? =some true)->
    DJ P l K kp env Z->CD (Hh F Z w) env a.tmps->Rel F Z w->Bu F Z₀ w₀ Z w->a.tmps.size=N->a.defers=ds->wpAnyIn (wide r) n P .any ops (Lb F Z₀ w₀ N ds Q) fuel listed a w
 | 0,l,listed,env,Z,a,w,hl,hsub,hsz,hun,hdc,h,he,hR,hA,hN,hd=>by
   have:l= []:=Yh.1 hl;subst this;simp only[wpAnyIn];obtain⟨l,hq⟩:=U _ _ h;refine⟨?_,.normal,_,Z,hq,rfl,he.prune l,hR,hA,hN,hd⟩;refine List.eq_nil_iff_forall_not_mem.2 fun i hi=>?_
   obtain⟨h1,h2,_⟩:=(mem_ready hsz).1 hi;obtain⟨d,hd,_⟩:=(hun i h1).1 h2;cases hd
 | fuel + 1, l,listed,env,Z,a,w,hl,hsub,hsz,hun,hdc,h,he,hR,hA,hN,hd=>by
   have hval: ∀j,j<ops.size->listed[j]? =some true\/listed[j]? =some false:=fun j hj=>by
    rw[Array.getElem?_eq_getElem (by omega)];cases listed[j]'(by omega)<;>simp
   have hpl:=hpw.sublist hsub;simp only[wpAnyIn];refine⟨fun hr=>?_,fun i hi=>?_⟩
   .exfalso
    cases l with
    | nil=>cases hl
    | cons hd' t=>
      have hCh:=hC hd' (hsub.subset (.head _))
      have:hd'.i∈Region.ready .any ops listed:=by
       refine(mem_ready hsz).2 ⟨hCh.1,(hun _ hCh.1).2 ⟨hd',.head _,rfl⟩,fun e he'=>?_⟩;have hes:=hCh.2.2.1 e he';rcases hval e hes with h1|h1
       .exact h1
       .obtain⟨d,hd1,rfl⟩:=(hun e hes).1 h1
        rcases Fm.1 hd1 with rfl|hd1
        .exact absurd he' hCh.2.1
        .have hp:=(List.pairwise_cons.1 hpl).1 d hd1
         unfold J3 at hp;simp only[BD]at hp;have:=hp.1.1.2;rw[List.contains_eq_mem]at this;simp[he']at this
      rw[hr]at this;cases this
   .obtain ⟨hi1,hi2,hi3⟩:=(mem_ready hsz).1 hi
    obtain⟨d,hdl,rfl⟩:=(hun i hi1).1 hi2;obtain⟨xs,ys,rfl⟩:=List.append_of_mem hdl;have hCd:=hC d (hsub.subset hdl);have hpx:=List.pairwise_append.1 hpl;have hxd: ∀x∈xs,J3 ops clo x d=true:=fun x hx=>hpx.2.2 x hx d (.head _)
    have hdy: ∀y∈ys,J3 ops clo d y=true:=fun y hy=>(List.pairwise_cons.1 hpx.2.1).1 y hy
    have hok: ∀x∈xs,yI x d:=fun x hx=>by
     have hCx:=hC x (hsub.subset (RU _ hx));have hp:=hxd x hx;unfold J3 at hp;simp only[BD,Fl]at hp;rcases hp.2 with h1|h1
     .exfalso
      have h2:=Yb hclo hdc d.i hi1 hi3 x.i (by rw[List.contains_eq_mem]at h1;simpa using h1);have h3:=(hun x.i hCx.1).2 ⟨x,RU _ hx,rfl⟩;rw[h2]at h3;cases h3
     .exact iK hCx.2.2.2.1 hCx.2.2.2.2 hCd.2.2.2.2 h1
    have hfr:xs.Pairwise fun x y=>kd x.o.op= .N->fresh y.o x.o:=hpx.1.imp fun {x y} hp hN=>by
     unfold J3 at hp;simp only[BD,Fl]at hp;rcases hp.1.2 with h1|h1
     .rw[hN]at h1;simp at h1
     .exact Wq h1
    have hb:=gJ hU hgeq hok hfr h;have hops:ops[d.i]? =some ops[d.i]:=Array.getElem?_eq_getElem hi1;obtain⟨ao,hao,hro⟩:=has d.i _ hops
    have hdo:d.o=C0 pu fz ao:=by
     have:=hCd.2.2.2.1;rw[Md,hao]at this;simpa using this.symm
    unfold wpOpIn;simp only[hops];rw[hdo]at hb;refine Kx (K:=DJ P (xs++ys) K kp) (kp:=kp) hro he hR hN ?_ (fun env' Z' c w' hk he' hR' hA'=>?_) (fun v Z' c w' hk hv hR' hA'=>?_)
    .refine CA (K8 hb) (fun v Z' ⟨vf,Z2,h1,h2,hh⟩=>⟨vf,Z2,h1,h2,?_⟩) fun _ _ h=>h
     have:=hh.2
     rwa [Kw]at this
    .refine Sw hclo hpw hC has hgeq U hkp hU fuel (xs++ys) _ env' Z' _ w' ?_ ?_ ?_ ?_ ?_ hk he' hR' (hA.trans hA') (by rw[Lz];exact hN) (by rw[put_defers];exact hd)
     .simp only[RQ,LF]at hl ⊢
      omega
     .exact((List.Sublist.refl xs).append (Mc d ys)).trans hsub
     .simpa using hsz
     .intro j hj
      by_cases hjd:d.i=j
      .subst hjd
       rw[Array.getElem?_setIfInBounds_self_of_lt (by omega)];constructor
       .intro h;cases h
       .rintro⟨x,hx,hxi⟩
        exfalso;rcases E4.1 hx with hx|hx
        .have:=hxd x hx
         unfold J3 at this;simp only[BD]at this;have:=this.1.1.1;rw[hxi]at this;simp at this
        .have:=hdy x hx
         unfold J3 at this;simp only[BD]at this;have:=this.1.1.1;rw[hxi]at this;simp at this
      .rw [Array.getElem?_setIfInBounds_ne hjd,hun j hj]
       constructor
       .rintro⟨x,hx,rfl⟩
        rcases E4.1 hx with hx|hx
        .exact⟨x,RU _ hx,rfl⟩
        .rcases Fm.1 hx with rfl|hx
         .exact absurd rfl hjd
         .exact⟨x,RT _ hx,rfl⟩
       .rintro⟨x,hx,rfl⟩
        rcases E4.1 hx with hx|hx
        .exact⟨x,RU _ hx,rfl⟩
        .exact⟨x,RT _ (.tail _ hx),rfl⟩
     .intro j hj hlj e hej
      have hle:listed[e]? =some true:=by
       by_cases hjd:d.i=j
       .subst hjd;exact hi3 e hej
       .rw[Array.getElem?_setIfInBounds_ne hjd]at hlj
        exact hdc j hj hlj e hej
      by_cases hed:d.i=e
      .subst hed
       rw[Array.getElem?_setIfInBounds_self_of_lt (by omega)]
      .rw[Array.getElem?_setIfInBounds_ne hed]
       exact hle
    .exact⟨.Bb v,[],Z',hkp _ _ hk,⟨c,rfl,hv⟩,fun _ _ hg=>(by cases hg),hR',hA.trans hA',hN,hd⟩
def R8 {env env':Env} (h:jx env env'): ∀l:List Nat,prune l env=prune l env'
 | []=>rfl
 | s::r=>by simp only[prune,h s,R8 h r]
def bU {ops:Array Oper} {as:List Am} {C:List Cd} (h:kJ ops as=some C): ∃order,jz (Fc ops ops.size) as [] order=C/\a8 ops (Fc ops ops.size) C=true:=by
 simp only[kJ]at h;cases h1:a8 ops (Fc ops ops.size) (jz (Fc ops ops.size) as [] (PM XE ops as ops.size (List.range ops.size) []))with
 | true=>
   rw[h1]at h;cases h;exact⟨_,rfl,h1⟩
 | false=>
   rw[h1]at h;simp only[cond_false]at h;cases h2:a8 ops (Fc ops ops.size) (jz (Fc ops ops.size) as [] (PM oM ops as ops.size (List.range ops.size) []))with
   | true=>
     rw[h2]at h;cases h;exact⟨_,rfl,h2⟩
   | false=>rw[h2]at h;cases h
def YS {ops:Array Oper} {as:List Am} {C:List Cd} {id:Nat} (hm:P.follows .mixedOrders=true) (h1:Gv P N ops ops.toList=some as) (h2:kJ ops (as.map (C0 pu fz))=some C) {l:List Nat}
    {Q:Aa->Env->AE->Prop} {env:Env} {Z:AE} {a:Act} {w:World} (h:DJ P C (fun env Z=>Q .normal (prune l env) Z) (fun v Z=> ∀Z',Sub Z Z'->Q (.Bb v) [] Z') env Z)
    (he:CD (Hh F Z w) env a.tmps) (hR:Rel F Z w) (hN:a.tmps.size=N) (hd:a.defers=ds):(Code.region id ops true).wpIn (wide r) n P (Lb F Z w N ds Q) a w:=by
 obtain⟨h3,h4⟩:=GJ h1;obtain⟨order,hC,hb⟩:=bU h2
 .unfold a8 at hb
  simp only[BD]at hb;obtain⟨⟨⟨⟨b1,b2⟩,b3⟩,b4⟩,b5⟩:=hb;have b1:C.length=ops.size:=UX b1;rw[E3]at b2 b3;refine wpIn_region_any hm ?_
  refine Sw (pu:=pu) (fz:=fz) (as:=as) (Z₀:=Z) (w₀:=w) b4 (Vc b5) (fun d hd'=>?_) (fun i o ho=>h4 i o (by simpa using ho)) (K:=fun env Z=>Q .normal (prune l env) Z) (kp:=fun v Z=> ∀Z',Sub Z Z'->Q (.Bb v) [] Z')
   (fun env env' Z hg hq=>by rw[<-R8 hg];exact hq) (fun env Z hq=>⟨l,hq⟩) (fun _ Z h=>h Z fun _ _ h=>h) (fun _ _ _ _ hm h Z' hs=>h Z' fun _ _ hh=>hs _ _ (Gb hm _ _ hh)) ops.size C _ env Z a _ b1 (.refl _) (by simp) (fun j hj=>?_) (fun j hj hlj=>?_) h he ⟨hR.own,hR.lock⟩ ⟨fun _ _ _=>rfl,Io _,rfl,rfl,rfl,fun _ h _=>h⟩ hN hd
  .have:=b3 d hd'
   simp only[BD,E3]at this;obtain⟨⟨c1,c2⟩,c3⟩:=this;obtain⟨m1,m2⟩:=Tw (hC ▸ hd');refine⟨by rw[Nat.blt_eq]at c1;exact c1,fun hm=>?_,fun e he=>by have:=c3 e he;rw[Nat.blt_eq]at this;exact this,m1,m2⟩;rw[List.contains_eq_mem]at c2;simp[hm]at c2
  .constructor
   .intro _
    have:=b2 j (List.mem_range.2 hj);rw[J0]at this;obtain⟨d,hd',hdj⟩:=this;exact⟨d,hd',UX hdj⟩
   .intro _
    simp[hj]
  .simp[hj]at hlj
def ph (P:Program) (f:FuncId):Prop:= ∃g,P.funcs[f]? =some g
def OJ (r:Option Nat) (P:Program) (c:Code) (Q:Exit->Act->World->Prop) (a:Act) (w:World):Prop:=
 ∀ (b:Frame) (k:List Item) (cs:List Frame),b.roundOf=r->ph P b.fn->
   ∃e a' w',Q e a' w'/\ArrivesIn (Machine.fenced P (wide r)) P (lone (b.atR a (.code c::k)) cs w) b k cs e a' w'
section
variable {Q Q':Exit->Act->World->Prop} {a:Act} {w:World}
def Gu {r:Option Nat} {m:Nat}:(wide r).room m:=fun _ h=>by simp[wide,Fence.wide]at h
def Hq {c:Code} (h:c.wpIn (wide r) n P Q a w):OJ r P c Q a w:=fun b k cs hro _=>h b k cs hro trivial Gu
def CK {c:Code} (h:OJ r P c Q a w) (hq: ∀e a w,Q e a w->Q' e a w):OJ r P c Q' a w:=
 fun b k cs hro hb=>let⟨e,a',w',q,x⟩:=h b k cs hro hb;⟨e,a',w',hq _ _ _ q,x⟩
def FZ {b:Frame} {cs:List Frame} {w:World} (h:b.about P w=none):(lone b cs w).fenced P (wide r):=fenced_calm (n:=0) trivial Gu h
def JT {x y:Code} (h:OJ r P x (Exit.then (OJ r P y Q) Q) a w):OJ r P (Code.seq x y) Q a w:=by
 intro b k cs hro hb;have h0:(lone (b.atR a (.code (.seq x y)::k)) cs w).fenced P (wide r):=FZ rfl;obtain⟨e,a₁,w₁,hq,harr⟩:=h b (.code y::k) cs hro hb;cases e with
 | normal=>
   obtain⟨e₂,a₂,w₂,hq₂,harr₂⟩:=hq b k cs hro hb;exact⟨e₂,a₂,w₂,hq₂,.of_steps (.head h0 stepR_seq harr) harr₂⟩
 | exit id=>exact⟨_,a₁,w₁,hq,.of_steps (.one h0 stepR_seq) (.pass (x:= .code y) rfl (fun _ _=> .inl (by simp)) harr)⟩
 | goto l=>exact⟨_,a₁,w₁,hq,.of_steps (.one h0 stepR_seq) (.pass (x:= .code y) rfl (fun _ _=> .inl (by simp)) harr)⟩
 | ret=>exact⟨_,a₁,w₁,hq,.of_steps (.one h0 stepR_seq) (.pass (x:= .code y) rfl (fun _ _=> .inl (by simp)) harr)⟩
 | panic ch=>exact⟨_,a₁,w₁,hq,.of_steps (.one h0 stepR_seq) (.pass (x:= .code y) rfl (fun _ _=> .inl (by simp)) harr)⟩
 | outgrown=>exact⟨_,a₁,w₁,hq,.of_steps (.one h0 stepR_seq) (.pass (x:= .code y) rfl (fun _ _=> .inl (by simp)) harr)⟩
def gh {c:Operand} {x y:Code} {t:Bool} (hc:a.eval c= .bool t) (ht:t=true->OJ r P x Q a w) (hf:t=false->OJ r P y Q a w):OJ r P (Code.cond c x y) Q a w:=by
 have h:OJ r P (if t then x else y) Q a w:=by cases t;exact hf rfl;exact ht rfl
 exact fun b k cs hro hb=>let⟨e,a',w',q,z⟩:=h b k cs hro hb;⟨e,a',w',q,.of_steps (.one (FZ rfl) (stepR_cond hc)) z⟩
def bG {id:Nat} {c:Code} (h:OJ r P c (Exit.inBlock id Q) a w):OJ r P (Code.block id c) Q a w:=by
 intro b k cs hro hb;have h0:(lone (b.atR a (.code (.block id c)::k)) cs w).fenced P (wide r):=FZ rfl;obtain⟨e,a₁,w₁,hq,harr⟩:=h b (.inBlock id::k) cs hro hb;cases e with
 | normal=>exact⟨.normal,a₁,w₁,hq,.head h0 stepR_block (StepsIn.trans harr (.one (FZ rfl) stepR_inBlock))⟩
 | exit id'=>
   by_cases hid:id'=id
   .simp only[Exit.inBlock,hid,if_true]at hq
    exact⟨.normal,a₁,w₁,hq,.head h0 stepR_block (harr.1 k (by simp[exitTo,hid]))⟩
   .simp only[Exit.inBlock,hid,if_false]at hq
    have this:(id==id')=false:=by simp;exact fun h=>hid h.symm
    have hx:exitTo id' (.inBlock id::k)=exitTo id' k:=by simp[exitTo,this]
    exact⟨.exit id',a₁,w₁,hq,fun k' hk=> .head h0 stepR_block (harr.1 k' (by rw[hx];exact hk)),
     fun hr' hk=>let⟨k₁,h1,h2⟩:=harr.2 hr' (by rw[hx];exact hk);⟨k₁,h1,.head h0 stepR_block h2⟩⟩
 | goto l=>
   have hx:gotoIn l (.inBlock id::k)=gotoIn l k:=by simp[gotoIn]
   exact⟨_,a₁,w₁,hq,fun k' hk=> .head h0 stepR_block (harr.1 k' (by rw[hx];exact hk)),
    fun hr' hk=>let⟨k₁,h1,h2⟩:=harr.2 hr' (by rw[hx];exact hk);⟨k₁,h1,.head h0 stepR_block h2⟩⟩
 | ret=>exact⟨_,a₁,w₁,hq,.of_steps (.one h0 stepR_block) harr⟩
 | panic ch=>exact⟨_,a₁,w₁,hq,.of_steps (.one h0 stepR_block) harr⟩
 | outgrown=>exact⟨_,a₁,w₁,hq,.of_steps (.one h0 stepR_block) harr⟩
def bF {c:Code} (h:OJ r P c (Exit.noGoto Q) a w):OJ r P (Code.scope c) Q a w:=by
 intro b k cs hro hb;have s1:step P (lone (b.atR a (.code (.scope c)::k)) cs w)= .next (lone (b.atR a (.code c:: .inScope c::k)) cs w):=step_lone_go (by simp[stepG,stepG.exec,Frame.atR])
 have s2: ∀a w,step P (lone (b.atR a (.inScope c::k)) cs w)= .next (lone (b.atR a k) cs w):=fun a w=>step_lone_go (by simp[stepG,stepG.exec,Frame.atR])
 have h0:(lone (b.atR a (.code (.scope c)::k)) cs w).fenced P (wide r):=FZ rfl;obtain⟨e,a₁,w₁,hq,harr⟩:=h b (.inScope c::k) cs hro hb;cases e with
 | normal=>exact⟨.normal,a₁,w₁,hq,.head h0 s1 (StepsIn.trans harr (.one (FZ rfl) (s2 _ _)))⟩
 | exit id=>
   have hx:exitTo id (.inScope c::k)=exitTo id k:=by simp[exitTo]
   exact⟨_,a₁,w₁,hq,fun k' hk=> .head h0 s1 (harr.1 k' (by rw[hx];exact hk)),fun hr' hk=>let⟨k₁,h1,h2⟩:=harr.2 hr' (by rw[hx];exact hk);⟨k₁,h1,.head h0 s1 h2⟩⟩
 | goto l=>exact hq.elim
 | ret=>exact⟨_,a₁,w₁,hq,.of_steps (.one h0 s1) harr⟩
 | panic ch=>exact⟨_,a₁,w₁,hq,.of_steps (.one h0 s1) harr⟩
 | outgrown=>exact⟨_,a₁,w₁,hq,.of_steps (.one h0 s1) harr⟩
def gg {c:Code} (I:Act->World->Prop) (μ:Act->World->Nat) (h₀:I a w)
    (round: ∀a w,I a w->OJ r P c (Exit.then (fun a' w'=>I a' w'/\μ a' w'<μ a w) Q) a w):OJ r P (Code.loop c) Q a w:=by
 intro b k cs hro hb
 have key: ∀j a w,μ a w=j->I a w->
  ∃e a' w',Q e a' w'/\ArrivesIn (Machine.fenced P (wide r)) P (lone (b.atR a (.code c:: .inLoop c::k)) cs w) b k cs e a' w':=by
  intro j
  induction j using Nat.strongRecOn with
  | _ j ih=>
    intro a w hn hI;obtain⟨e,a₁,w₁,hq,harr⟩:=round a w hI b (.inLoop c::k) cs hro hb;cases e with
    | normal=>
      obtain⟨hI₁,hlt⟩:=hq;obtain⟨e₂,a₂,w₂,hq₂,harr₂⟩:=ih (μ a₁ w₁) (hn ▸ hlt) a₁ w₁ rfl hI₁;exact⟨e₂,a₂,w₂,hq₂,.of_steps (StepsIn.trans harr (.one (FZ rfl) stepR_inLoop)) harr₂⟩
    | exit id=>exact⟨_,a₁,w₁,hq,.pass (x:= .inLoop c) rfl (fun _ _=> .inl (by simp)) harr⟩
    | goto l=>exact⟨_,a₁,w₁,hq,.pass (x:= .inLoop c) rfl (fun _ _=> .inl (by simp)) harr⟩
    | ret=>exact⟨_,a₁,w₁,hq,.pass (x:= .inLoop c) rfl (fun _ _=> .inl (by simp)) harr⟩
    | panic ch=>exact⟨_,a₁,w₁,hq,.pass (x:= .inLoop c) rfl (fun _ _=> .inl (by simp)) harr⟩
    | outgrown=>exact⟨_,a₁,w₁,hq,.pass (x:= .inLoop c) rfl (fun _ _=> .inl (by simp)) harr⟩
 obtain⟨e,a',w',hq,harr⟩:=key _ a w rfl h₀;exact⟨e,a',w',hq,.of_steps (.one (FZ rfl) stepR_loop) harr⟩
def Xy (r:Option Nat) (P:Program) (l:Nat) (Q:Exit->Act->World->Prop) (a':Act):Ending->World->Prop
 | .returned _,w₃=> ∃jump w₄,(Instr.endLoop l).run P w₃= .ok jump w₄/\
  (match jump with
   | none=>Q .normal a' w₄
   | some c=>OJ r P c Q a' w₄)
 | .panicked chain,w₃=>Q (.panic chain) a' w₃
 | .outgrown,_=>False
def RD {g:Operand} {ps:Array Tmp} {assign body:Code}
    (h: ∀fn,ph P fn-> ∃(l:Nat) (mark:List Deferred) (w₁:World) (d:Deferred) (w₁':World) (f:FuncId) (args:Array Value) (w₂:World),
     (Instr.enterLoop fn a.tmps ps assign body r).run P w= .ok (l,mark) w₁/\
     (resolve a.eval (rangeCall g l) 0).run P w₁= .ok d w₁'/\
     (invoke d.target d.args).run P w₁'= .ok (.enter f args) w₂/\
     CallsIn (wide r) 0 P f args w₂ (Xy r P l Q {a with defers:=mark++a.defers})) :
    OJ r P (Code.rangeFunc g ps assign body) Q a w:=by
 intro b k cs hro hb;obtain⟨l,mark,w₁,d,w₁',f,args,w₂,he,hres,hinv,hF,hcall⟩:=h b.fn hb;rw[<-hro]at he;have h0:(lone (b.atR a (.code (.rangeFunc g ps assign body)::k)) cs w).fenced P (wide r):=fenced_lone (.inl trivial) (fun _ _=>trivial) Gu;have henter:=stepR_rangeFunc (P:=P) (b:=b) (a:=a) (k:=k) (cs:=cs) (w:=w) he hres hinv;obtain⟨e,w₃,fr,hR,hsteps,hfn,hleave⟩:=hcall (b.atR {a with defers:=mark++a.defers} (.inRangeFunc l::k)::cs) Gu;cases e with
 | outgrown=>exact hR.elim
 | returned v=>
   have hl:(lone fr (b.atR {a with defers:=mark++a.defers} (.inRangeFunc l::k)::cs) w₃).fenced P (wide r):=fenced_lone (.inl trivial) (fun _ _=>trivial) Gu;obtain⟨jump,w₄,hend,hj⟩:=hR
   have sback:StepsIn (Machine.fenced P (wide r)) P (lone (b.atR a (.code (.rangeFunc g ps assign body)::k)) cs w) (lone (b.atR {a with defers:=mark++a.defers} ((jump.map Item.code).toList++k)) cs w₄):=by
    refine .head h0 henter (StepsIn.trans hsteps (.head hl ?_ (.one (FZ rfl) (stepR_endRangeFunc hend))));rw[<-finish_atR_inRangeFunc l v];exact step_leave_returned hleave
   cases jump with
   | none=>exact⟨.normal,_,w₄,hj,sback⟩
   | some c=>
     obtain⟨e',a'',w₅,hq,harr⟩:=hj b k cs hro hb;exact⟨e',a'',w₅,hq,.of_steps sback harr⟩
 | panicked chain=>
   have hl:(lone fr (b.atR {a with defers:=mark++a.defers} (.inRangeFunc l::k)::cs) w₃).fenced P (wide r):=fenced_lone (.inl trivial) (fun _ _=>trivial) Gu;refine⟨.panic chain,_,w₃,hR,.inRangeFunc l::k,.head h0 henter (StepsIn.trans hsteps (.one hl ?_))⟩;rw[<-Frame.raise_atR];exact step_leave_panicked hleave
def Xv (P:Program) (l:Nat) (R:Ending->World->Prop):Exit->Act->World->Prop
 | .normal,_,w=> ∃v w',(Instr.endRound l none).run P w= .ok v w'/\R (.returned v) w'
 | .ret,_,w=> ∃v w',(Instr.endRound l (some .ret)).run P w= .ok v w'/\R (.returned v) w'
 | .exit id,_,w=> ∃v w',(Instr.endRound l (some (.exit id))).run P w= .ok v w'/\R (.returned v) w'
 | .goto _,_,_=>False
 | .panic ch,a,w=>a.defers= []/\R (.panicked ch) w
 | .outgrown,_,_=>False
def Qq {l:Nat} {f:FuncId} {tmps:Array Value} {assign body:Code} {R:Ending->World->Prop} (hF:ph P f)
    (h:OJ (some l) P assign (Exit.then (fun a₁ w₁=> ∃w₂,(Instr.beginRound l).run P w₁= .ok () w₂/\OJ (some l) P body (Xv P l R) a₁ w₂) (fun _ _ _=>False))
     {tmps:=tmps,defers:=[]} w) :
    RoundIn Fence.wide 0 P l f tmps assign body w R:=by
 refine⟨trivial,fun c cs _=>?_⟩
 let b:Frame:={(default:Frame)with fn:=f,kind:= .normal,roundOf:=some l}
 have hb0:Frame.round l f tmps assign body .normal=b.atR {tmps:=tmps,defers:=[]} [.code assign,.beginRound,.code body]:=by
  simp[Frame.round,Frame.atR,b]
 obtain⟨e,a₁,w₁,hq,harr⟩:=h b [.beginRound,.code body] (c::cs) rfl hF;rw[<-hb0]at harr;cases e with
 | normal=>
   obtain⟨w₂,hbr,hbody⟩:=hq
   have s1:StepsIn (Machine.fenced P (wide (some l))) P (lone (b.atR a₁ [.beginRound,.code body]) (c::cs) w₁) (lone (b.atR a₁ [.code body]) (c::cs) w₂):=
    .one (FZ rfl) (stepR_beginRound rfl hbr)
   obtain⟨e₂,a₂,w₃,hq₂,harr₂⟩:=hbody b [] (c::cs) rfl hF;cases e₂ with
   | normal=>
     obtain⟨v,w₄,hend,hR⟩:=hq₂;exact⟨.returned v,w₄,hR,(StepsIn.trans harr s1).trans (StepsIn.trans harr₂ (.one (FZ rfl) (stepR_round_end rfl rfl hend)))⟩
   | ret=>
     obtain⟨v,w₄,hend,hR⟩:=hq₂;obtain⟨k₁,hs⟩:=harr₂.2 rfl;exact⟨.returned v,w₄,hR,(StepsIn.trans harr s1).trans (StepsIn.trans hs (.one (FZ rfl) (stepR_round_ret rfl rfl hend)))⟩
   | exit id=>
     obtain⟨v,w₄,hend,hR⟩:=hq₂;obtain⟨k₁,hk,hs⟩:=harr₂.2 rfl rfl;exact⟨.returned v,w₄,hR,(StepsIn.trans harr s1).trans (StepsIn.trans hs (.one (FZ rfl) (stepR_round_exit rfl rfl hk hend)))⟩
   | goto t=>exact hq₂.elim
   | panic chain=>
     obtain⟨hd,hR⟩:=hq₂;obtain⟨todo,hs⟩:=harr₂;refine⟨.panicked chain,w₃,hR,(StepsIn.trans harr s1).trans (StepsIn.trans hs (.one (fenced_lone (.inl trivial) (fun _ _=>trivial) Gu) ?_))⟩;exact step_leave_panicked ⟨rfl,hd,hF⟩
   | outgrown=>exact hq₂.elim
 | exit id=>exact hq.elim
 | goto t=>exact hq.elim
 | ret=>exact hq.elim
 | panic chain=>exact hq.elim
 | outgrown=>exact hq.elim
end
def EI (D:Nat):Deferred:={target:= .collected D,args:= #[]}
def Marks (r:Option Nat) (w₀:World) (Z:AE) (w:World) (ds l:List Deferred):Prop:=
 ∃ms:List Nat,l=ms.map EI++ds/\ms.Nodup/\(∀D∈ms,w₀.heap.size<=D/\Z D=none/\w.heap[D]? =some (.deferred (some [])))/\(r≠none->ms= [])
def Marks.refl (r:Option Nat) (w₀:World) (Z:AE) (w:World) (ds:List Deferred):Marks r w₀ Z w ds ds:=⟨[],rfl,.nil,(fun _ h=>by cases h),fun _=>rfl⟩
def Dl {w:World} {n:Nat} {o:Obj} (h:w.heap[n]? =some o):n<w.heap.size:=(nq.1 h).1
def Marks.G9 {w₀:World} {Z Z':AE} {w w':World} {ds l:List Deferred} (h:Marks r w₀ Z w ds l) (hA:Bu F Z w Z' w'):Marks r w₀ Z' w' ds l:=by
 obtain⟨ms,h1,h2,h3,hr⟩:=h;refine⟨ms,h1,h2,fun D hD=>?_,hr⟩;obtain⟨h4,h5,h6⟩:=h3 D hD;exact⟨h4,hA.names D h5 (Dl h6),(hA.frame D (Dl h6) h5).trans h6⟩
def Marks.trans {w₀ w₁:World} {Z₁ Z:AE} {w:World} {ds l₁ l:List Deferred} (h:Marks r w₀ Z₁ w₁ ds l₁) (hA:Bu F Z₁ w₁ Z w) (hs:w₀.heap.size<=w₁.heap.size) (k:Marks r w₁ Z w l₁ l):Marks r w₀ Z w ds l:=by
 obtain⟨ms,rfl,h2,h3,hr1⟩:=h.G9 hA;obtain⟨ms',rfl,h5,h6,hr2⟩:=k
 have h7 : ∀D∈ms,D<w₁.heap.size:=fun D hD=>by
  obtain⟨ms2,e,_,h9,_⟩:=h
  have:ms2=ms:=by
   have:=List.append_cancel_right e
   have hinj: ∀ {l l':List Nat},l.map EI=l'.map EI->l=l':=fun {l l'} hh=>by
    induction l generalizing l' with
    | nil=>cases l' with
      | nil=>rfl
      | cons _ _=>cases hh
    | cons x l ih=>cases l' with
      | nil=>cases hh
      | cons y l'=>
        simp only[Ex,List.cons.injEq,EI]at hh;obtain⟨h1,h2⟩:=hh;have:x=y:=by injection h1 with h1 _;injection h1
        rw[this,ih h2]
   exact(hinj this).symm
  subst this;exact Dl (h9 D hD).2.2
 refine⟨ms'++ms,by simp,List.nodup_append.2 ⟨h5,h2,fun a ha b hb e=>?_⟩,fun D hD=>?_,fun h=>by rw[hr1 h,hr2 h];rfl⟩
 .subst e
  have:=(h6 a ha).1;have:=h7 a hb;omega
 .rcases E4.1 hD with hD|hD
  .exact⟨by have:=(h6 D hD).1;omega,(h6 D hD).2⟩
  .exact h3 D hD
def Co (r:Option Nat) (Z:AE) (w:World):Prop:= ∀l,r=some l->Z l=none/\ ∃lp,w.heap[l]? =some (.loop lp)
def Co.G9 {r:Option Nat} {Z Z':AE} {w w':World} (h:Co r Z w) (hA:Bu F Z w Z' w'):Co r Z' w':=fun l hl=>by
 obtain⟨h1,lp,h2⟩:=h l hl;exact⟨hA.names l h1 (Dl h2),lp,(hA.frame l (Dl h2) h1).trans h2⟩
def Co.none {Z:AE} {w:World}:Co Option.none Z w:=fun _ h=>by cases h
def GZ (r:Option Nat) (F:Nat->Prop) (Z₀:AE) (w₀:World) (N:Nat) (ds:List Deferred) (Q:Aa->Env->AE->Prop) (e:Exit) (a:Act) (w:World):Prop:=
 ∃ex env Z,Q ex env Z/\DX (Hh F Z w) ex e/\CD (Hh F Z w) env a.tmps/\Rel F Z w/\Bu F Z₀ w₀ Z w/\a.tmps.size=N/\Marks r w₀ Z w ds a.defers
def Lb.t {Z₀:AE} {w₀:World} {Q:Aa->Env->AE->Prop} {e:Exit} {a:Act} {w:World} (h:Lb F Z₀ w₀ N ds Q e a w):GZ r F Z₀ w₀ N ds Q e a w:=by
 obtain⟨ex,env,Z,h1,h2,h3,h4,h5,h6,h7⟩:=h;exact⟨ex,env,Z,h1,h2,h3,h4,h5,h6,by rw[h7];exact Marks.refl _ _ _ _ _⟩
def GZ.trans {Z₀ Z₁:AE} {w₀ w₁:World} {ds₁:List Deferred} {Q:Aa->Env->AE->Prop} {e:Exit} {a:Act} {w:World} (hA:Bu F Z₀ w₀ Z₁ w₁) (hM:Marks r w₀ Z₁ w₁ ds ds₁) (h:GZ r F Z₁ w₁ N ds₁ Q e a w):GZ r F Z₀ w₀ N ds Q e a w:=by
 obtain⟨ex,env,Z,h1,h2,h3,h4,h5,h6,h7⟩:=h;exact⟨ex,env,Z,h1,h2,h3,h4,hA.trans h5,h6,hM.trans h5 hA.size h7⟩
def GZ.mono {Z₀:AE} {w₀:World} {Q Q':Aa->Env->AE->Prop} {e:Exit} {a:Act} {w:World} (h:GZ r F Z₀ w₀ N ds Q e a w) (hq: ∀ex env Z,Q ex env Z->Q' ex env Z):GZ r F Z₀ w₀ N ds Q' e a w:=by
 obtain⟨ex,env,Z,h1,h2⟩:=h;exact⟨ex,env,Z,hq _ _ _ h1,h2⟩
def Z6 {w:World} {b o:Nat} {ob:Obj} (h:w.heap[b]? =some ob) (hc:ob.isCells=false):w.cell? ⟨b,o,none⟩=none:=by
 unfold World.cell?;rw[h];cases ob<;>first|rfl|(simp[Obj.isCells]at hc)
def T5 {Z:AE} {w:World} {L:Nat} {ob ob':Obj} (h:w.heap[L]? =some ob) (hc:ob.isCells=false):Ym (Hh F Z w) (Hh F Z (w.putObj L ob')):=by
 intro b o c hb;obtain⟨h1,h2,h3⟩:=Fu hb;rw[N0 h1 h2];by_cases he:b=L
 .subst he
  rw[Z6 h hc]at h3;cases h3
 .rw[<-h3]
  exact World.cell?_of_block (w:=w) (World.putObj_heap_other he)
def Rel.put {Z:AE} {w:World} {L:Nat} {ob ob':Obj} (hR:Rel F Z w) (hL:Z L=none) (h:w.heap[L]? =some ob) (hc:ob.isCells=false):Rel F Z (w.putObj L ob') where
 own n o ho:=by
  obtain⟨h1,o',h2,h3⟩:=hR.own n o ho;have:n≠L:=fun e=>by subst e;rw[hL]at ho;cases ho
  exact⟨h1,o',(World.putObj_heap_other this).trans h2,O8.mono (T5 h hc) h3⟩
 lock n hn:=by simpa using hR.lock n hn
def RH {g:Operand} {ps:Array Tmp} {as bd:Code} {ac:AV} (h:res P N pu fz (.rangeFunc g ps as bd)=some ac) :
    ∃g' a b,BR g=some g'/\res P N pu fz as=some a/\res P N pu fz bd=some b/\(∀p∈ps.toList,p<N)/\ac= .Dg [] g' ps.toList a b:=by
 simp only[res]at h;split at h
 .rename_i g' a b h1 h2 h3
  split at h
  .rename_i hp
   cases h;rw[E3]at hp;exact⟨g',a,b,h1,h2,h3,fun p hp'=>by have:=hp p hp';rwa [Nat.blt_eq]at this,rfl⟩
  .cases h
 .cases h
def EF : ∀ {c : Code} {ac:AV},res P N pu fz c=some (erase ac)-> ∀ {Q:Aa->Env->AE->Prop} {env:Env} {Z:AE} {a:Act} {w:World},T P ac Q env Z->
    CD (Hh F Z w) env a.tmps->Rel F Z w->a.tmps.size=N->Co r Z w->OJ r P c (GZ r F Z w N a.defers Q) a w:=by
 intro c
 induction c with
 | skip=>
   intro ac hc Q env Z a w h he hR hN hrd;cases ac<;>simp only[res,erase,Hl,reduceCtorEq]at hc
   exact Hq (n:=0) <| wpIn_skip ⟨.normal,env,Z,h,rfl,he,hR,Bu.refl _ _ _,hN,Marks.refl _ _ _ _ _⟩
 | label l=>
   intro ac hc Q env Z a w h he hR hN hrd;cases ac<;>simp only[res,erase,Hl,reduceCtorEq]at hc
   exact Hq (n:=0) <| wpIn_label ⟨.normal,env,Z,h,rfl,he,hR,Bu.refl _ _ _,hN,Marks.refl _ _ _ _ _⟩
 | ret=>
   intro ac hc Q env Z a w h he hR hN hrd;cases ac<;>simp only[res,erase,Hl,reduceCtorEq]at hc
   exact Hq (n:=0) <| wpIn_ret ⟨.ret,env,Z,h,rfl,he,hR,Bu.refl _ _ _,hN,Marks.refl _ _ _ _ _⟩
 | exit id=>
   intro ac hc Q env Z a w h he hR hN hrd;cases ac<;>simp only[res,erase,Hl,reduceCtorEq,AV.exit.injEq]at hc
   subst hc;exact Hq (n:=0) <| wpIn_exit ⟨.exit _,env,Z,h,rfl,he,hR,Bu.refl _ _ _,hN,Marks.refl _ _ _ _ _⟩
 | seq x y ihx ihy=>
   intro ac hc Q env Z a w h he hR hN hrd;simp only[res]at hc;split at hc
   .rename_i ax ay h1 h2
    cases ac<;>simp only[erase,Hl,reduceCtorEq,AV.seq.injEq]at hc
    rename_i l ax' ay';obtain⟨_,rfl,rfl⟩:=hc;simp only[T]at h;refine JT (CK (ihx h1 h he hR hN hrd) ?_);rintro e a' w' ⟨ex,env',Z',hq,hx,he',hR',hA,hN',hM'⟩;cases ex with
    | normal=>
      simp only[DX]at hx;subst hx;simp only[Aa.andThen]at hq;rcases hq with hq|⟨env2,Z2,f1,f2,hq⟩
      .exact CK (ihy h2 hq (he'.prune l) hR' hN' (hrd.G9 hA)) fun e a w hp=>hp.trans hA hM'
      .have hA2:=hA.trans (Bu.fz w' f1)
       exact CK (ihy h2 hq ((he'.prune l).fz hR' f1 f2) (hR'.fz f1) hN' (hrd.G9 hA2)) fun e a w hp=>hp.trans hA2 (hM'.G9 (Bu.fz (F:=F) w' f1))
    | exit id=>simp only[DX]at hx;subst hx;exact⟨.exit id,env',Z',hq,rfl,he',hR',hA,hN',hM'⟩
    | ret=>simp only[DX]at hx;subst hx;exact⟨.ret,env',Z',hq,rfl,he',hR',hA,hN',hM'⟩
    | Bb v=>obtain⟨c,rfl,hv⟩:=hx;exact⟨.Bb v,env',Z',hq,⟨c,rfl,hv⟩,he',hR',hA,hN',hM'⟩
   .cases hc
 | cond c x y ihx ihy=>
   intro ac hc Q env Z a w h he hR hN hrd;simp only[res]at hc;split at hc
   .rename_i c' ax ay h0 h1 h2
    cases ac<;>simp only[erase,Hl,reduceCtorEq,AV.cond.injEq]at hc
    obtain⟨rfl,rfl,rfl⟩:=hc;simp only[T]at h;split at h
    .rename_i t ht
     have hv:=An he h0 ht;simp only[Ab]at hv;exact gh hv (fun e=>ihx h1 (h.1 e) he hR hN hrd) (fun e=>ihy h2 (h.2 e) he hR hN hrd)
    .exact h.elim
   .cases hc
 | block id x ih=>
   intro ac hc Q env Z a w h he hR hN hrd;obtain⟨ax,h1,hc⟩:=Ag hc;cases ac<;>simp only[erase,reduceCtorEq,AV.block.injEq]at hc
   obtain⟨rfl,rfl⟩:=hc;simp only[T]at h;refine bG (CK (ih h1 h he hR hN hrd) ?_);rintro e a' w' ⟨ex,env',Z',hq,hx,he',hR',hA,hN',hM'⟩;cases ex with
   | normal=>simp only[DX]at hx;subst hx;exact⟨.normal,env',Z',hq,rfl,he',hR',hA,hN',hM'⟩
   | exit id'=>
     simp only[DX]at hx;subst hx;simp only[Aa.inBlock]at hq;simp only[Exit.inBlock];cases hb:Nat.beq id' id with
     | true=>
       rw[hb]at hq;simp only[cond_true]at hq;rw[if_pos (UX hb)];exact⟨.normal,env',Z',hq,rfl,he',hR',hA,hN',hM'⟩
     | false=>
       rw[hb]at hq;simp only[cond_false]at hq;rw[if_neg (Nat.ne_of_beq_eq_false hb)];exact⟨.exit id',env',Z',hq,rfl,he',hR',hA,hN',hM'⟩
   | ret=>simp only[DX]at hx;subst hx;exact⟨.ret,env',Z',hq,rfl,he',hR',hA,hN',hM'⟩
   | Bb v=>obtain⟨c,rfl,hv⟩:=hx;exact⟨.Bb v,env',Z',hq,⟨c,rfl,hv⟩,he',hR',hA,hN',hM'⟩
 | scope x ih=>
   intro ac hc Q env Z a w h he hR hN hrd;obtain⟨ax,h1,hc⟩:=Ag hc;cases ac<;>simp only[erase,reduceCtorEq,AV.scope.injEq]at hc
   subst hc;simp only[T]at h;refine bF (CK (ih h1 h he hR hN hrd) ?_);rintro e a' w' ⟨ex,env',Z',hq,hx,he',hR',hA,hN',hM'⟩;cases ex with
   | normal=>simp only[DX]at hx;subst hx;exact⟨.normal,env',Z',hq,rfl,he',hR',hA,hN',hM'⟩
   | exit id=>simp only[DX]at hx;subst hx;exact⟨.exit id,env',Z',hq,rfl,he',hR',hA,hN',hM'⟩
   | ret=>simp only[DX]at hx;subst hx;exact⟨.ret,env',Z',hq,rfl,he',hR',hA,hN',hM'⟩
   | Bb v=>obtain⟨c,rfl,hv⟩:=hx;exact⟨.Bb v,env',Z',hq,⟨c,rfl,hv⟩,he',hR',hA,hN',hM'⟩
 | loop x ih=>
   intro ac hc Q env Z a w h he hR hN hrd;obtain⟨ax,h1,hc⟩:=Ag hc;cases ac<;>simp only[erase,reduceCtorEq,AV.loop.injEq]at hc
   rename_i keep ac' _;obtain⟨_,rfl⟩:=hc;simp only[T]at h;obtain⟨I,⟨n0,h0⟩,hround⟩:=h
   let J:Nat->Act->World->Prop:=fun m a' w'=> ∃env' Z',I m env' Z'/\CD (Hh F Z' w') env' a'.tmps/\Rel F Z' w'/\Bu F Z w Z' w'/\a'.tmps.size=N/\Marks r w Z' w' a.defers a'.defers
   have hmin: ∀a' w',(∃m,J m a' w')-> ∃m,J m a' w'/\ ∀k,J k a' w'->m<=k:=fun a' w' hex=>YO hex
   classical
   refine gg (fun a' w'=> ∃m,J m a' w') (fun a' w'=>if hx: ∃m,J m a' w' then Classical.choose (hmin a' w' hx)else 0) ⟨n0,Gl.prune keep env,Z,h0,he.prune keep,hR,Bu.refl _ _ _,hN,Marks.refl _ _ _ _ _⟩ ?_;intro a' w' hex;have hspec:=(Classical.choose_spec (hmin a' w' hex)).1;obtain⟨env',Z',hI,he',hR',hA',hN',hM'⟩:=hspec;refine CK (ih h1 (hround _ env' Z' hI) he' hR' hN' (hrd.G9 hA')) ?_;rintro e a'' w'' ⟨ex,env'',Z'',hq,hx,he'',hR'',hA'',hN'',hM''⟩;have hM3:=hM'.trans hA'' hA'.size hM'';cases ex with
   | normal=>
     simp only[DX]at hx;subst hx;obtain⟨m,hm,hI'⟩:=hq;have hJ:J m a'' w'':=⟨_,Z'',hI',he''.prune keep,hR'',hA'.trans hA'',hN'',hM3⟩
     refine⟨⟨m,hJ⟩,?_⟩;rw[dif_pos hex,dif_pos ⟨m,hJ⟩];exact Nat.lt_of_le_of_lt ((Classical.choose_spec (hmin a'' w'' ⟨m,hJ⟩)).2 m hJ) hm
   | exit id=>simp only[DX]at hx;subst hx;exact⟨.exit id,env'',Z'',hq,rfl,he'',hR'',hA'.trans hA'',hN'',hM3⟩
   | ret=>simp only[DX]at hx;subst hx;exact⟨.ret,env'',Z'',hq,rfl,he'',hR'',hA'.trans hA'',hN'',hM3⟩
   | Bb v=>obtain⟨c,rfl,hv⟩:=hx;exact⟨.Bb v,env'',Z'',hq,⟨c,rfl,hv⟩,he'',hR'',hA'.trans hA'',hN'',hM3⟩
 | region id ops draw=>
   intro ac hc Q env Z a w h he hR hN hrd;simp only[res]at hc;split at hc
   .cases hc
   .rename_i as h1
    obtain⟨h2,h3⟩:=GJ h1;cases draw with
    | false=>
      simp only[cond_false,Hl]at hc;cases ac<;>simp only[erase,reduceCtorEq,AV.B5.injEq]at hc
      subst hc;simp only[T]at h;refine Hq (n:=0) <| wpIn_mono (wpIn_region (Q:=Lb F Z w N a.defers Q) ?_) fun _ _ _ h=>h.t
      rw[List.range_eq_range',show ops.size=as.length by simpa using h2];exact P9 (fun _ _ h=>h) (fun _ _ _ h=>h) as 0 (fun i o ho=>h3 i o (by simpa using ho)) (by simpa using h2) env Z a w h he hR (Bu.refl _ _ _) hN rfl
    | true=>
      simp only[cond_true]at hc;cases hm:P.follows .mixedOrders with
      | false=>rw[hm]at hc;cases hc
      | true=>
        rw[hm]at hc;simp only[cond_true]at hc;obtain⟨C,hC,hc⟩:=Ag hc;cases ac<;>simp only[erase,reduceCtorEq,AV.EG.injEq]at hc
        obtain⟨_,rfl⟩:=hc;simp only[T]at h;exact Hq (n:=0) <| wpIn_mono (YS hm h1 hC h he hR hN rfl) fun _ _ _ h=>h.t
 | rangeFunc g ps as bd ih1 ih2=>
   intro ac hc Q env Z a w h he hR hN hrd;obtain⟨g',ac1,ac2,h1,h2,h3,h4,hc⟩:=RH hc;cases ac<;>simp only[erase,reduceCtorEq,AV.Dg.injEq]at hc
   rename_i keep g1 ps1 aa ab _;obtain⟨_,rfl,rfl,rfl,rfl⟩:=hc;simp only[T]at h;split at h
   .rename_i gf cap hg
    have hgv:=An he h1 hg;obtain⟨f',c',e1,e2,e3,e4,e5⟩:=hgv;have e2':f'= #[]:=Array.size_eq_zero_iff.1 e2;subst e2';refine RD fun fn hfnP=>?_
    obtain ⟨L,mark,W1,lp,hrun,hlp,hfr,hR1,hA1,hM1,hrd1⟩: ∃(L:Nat) (mark:List Deferred) (W1:World) (lp:Loop),(Instr.enterLoop fn a.tmps ps as bd r).run P w= .ok (L,mark) W1/\
     (W1.heap[L]? =some (.loop lp)/\lp.state= .ready/\lp.pending=none/\lp.tmps=a.tmps/\lp.params=ps/\lp.assign=as/\lp.body=bd)/\Z L=none/\
     Rel F (Bd Z L (.loop .ready (Gl.prune keep env) (Bt P ps.toList aa ab))) W1/\Bu F Z w (Bd Z L (.loop .ready (Gl.prune keep env) (Bt P ps.toList aa ab))) W1/\Marks r w (Bd Z L (.loop .ready (Gl.prune keep env) (Bt P ps.toList aa ab))) W1 a.defers (mark++a.defers)/\
     Co r (Bd Z L (.loop .ready (Gl.prune keep env) (Bt P ps.toList aa ab))) W1:=by
     have hor: ∀(w':World) (lp:Loop),Rel F Z w'->Bu F Z w Z w'->lp.state= .ready->lp.pending=none->lp.tmps=a.tmps->lp.params=ps->lp.assign=as->lp.body=bd->lp.fn=fn->
      O8 (Hh F Z w') (.loop .ready (Gl.prune keep env) (Bt P ps.toList aa ab)) (.loop lp):=fun w' lp hR' hA' q1 q2 q3 q4 q5 q6 q7=>by
      refine⟨lp,rfl,⟨q1,q2⟩,fun k v hm=>?_,?_⟩
      .rw[q3]
       have hg':get k env=some v:=NO hm;obtain⟨c,hc1,hc2⟩:=he k v hg';exact⟨c,hc1,hc2.mono hA'.hle⟩
      .rw[q3,q4,q5,q6,q7]
       exact⟨hfnP,rfl,by rw[hN];exact h4,pu,fz,by rw[hN];exact h2,by rw[hN];exact h3⟩
     clear ih1 ih2 h;cases r with
     | none=>
       refine⟨w.heap.size+1,_,_,{state:= .ready,pending:=none,fn,tmps:=a.tmps,params:=ps,assign:=as,body:=bd,defers:=w.heap.size},run_enterLoop_outer fn a.tmps ps as bd,?_⟩;have hsz:(w.alloc (.deferred (some []))).heap.size=w.heap.size+1:=by simp
       have hnew:=World.alloc_heap_new (w.alloc (.deferred (some []))) (.loop {state:= .ready,pending:=none,fn,tmps:=a.tmps,params:=ps,assign:=as,body:=bd,defers:=w.heap.size});rw[hsz]at hnew;have hRa:=Ku hR (.deferred (some []));have hAa:Bu F Z w Z (w.alloc (.deferred (some []))):=II w _
       have hAb:Bu F Z (w.alloc (.deferred (some []))) (Bd Z (w.heap.size+1) (.loop .ready (Gl.prune keep env) (Bt P ps.toList aa ab))) ((w.alloc (.deferred (some []))).alloc (.loop {state:= .ready,pending:=none,fn,tmps:=a.tmps,params:=ps,assign:=as,body:=bd,defers:=w.heap.size})):=by
        rw[<-hsz];exact Dw _ _
       have hfr:Z w.heap.size=none:=by
        cases hs:Z w.heap.size with
        | none=>rfl
        | some o=>exact absurd (hR.lt hs) (Nat.lt_irrefl _)
       refine⟨⟨hnew,rfl,rfl,rfl,rfl,rfl,rfl⟩,?_,?_,hAa.trans hAb,?_,?_⟩
       .cases hs:Z (w.heap.size+1)with
        | none=>rfl
        | some o=>have:=hR.lt hs;omega
       .rw[<-hsz]
        exact HZ hRa (hor _ _ hRa hAa rfl rfl rfl rfl rfl rfl rfl)
       .refine Marks.G9 (F:=F) (Z:=Z) (w:=w.alloc (.deferred (some []))) ?_ hAb
        exact⟨[w.heap.size],rfl,by simp,fun D hD=>by
         rw[LD]at hD;subst hD
         exact⟨Io _,hfr,World.alloc_heap_new w _⟩,fun hne=>absurd rfl hne⟩
       .exact(hrd.G9 hAa).G9 hAb
     | some l0=>
       obtain⟨hl1,lp0,hl2⟩:=hrd l0 rfl;refine⟨w.heap.size,_,_,{state:= .ready,pending:=none,fn,tmps:=a.tmps,params:=ps,assign:=as,body:=bd,defers:=lp0.defers},run_enterLoop_inner hl2 fn a.tmps ps as bd,?_⟩;refine⟨⟨World.alloc_heap_new w _,rfl,rfl,rfl,rfl,rfl,rfl⟩,?_,HZ hR (hor _ _ hR (Bu.refl _ _ _) rfl rfl rfl rfl rfl rfl rfl),Dw _ _,Marks.G9 (F:=F) (Marks.refl _ _ _ _ _) (Dw _ _),hrd.G9 (F:=F) (Dw _ _)⟩;cases hs:Z w.heap.size with
       | none=>rfl
       | some o=>exact absurd (hR.lt hs) (Nat.lt_irrefl _)
    obtain⟨hok,hctr⟩:=h L hfr;refine⟨L,mark,W1,{target:= .fn (.func gf) c',args:= #[.func (.yield L) #[] #[]]},W1,gf,#[.func (.yield L) #[] #[]]++c',W1,hrun,?_,?_,?_⟩
    .simp only[resolve,e1]
     simp[go_sem]
    .simp only[invoke]
     exact IJ hok _ _
    .refine KF ?_
     have hargs:dg (Hh F (Bd Z L (.loop .ready (Gl.prune keep env) (Bt P ps.toList aa ab))) W1) (.f (.yield L) [] []::cap) (#[.func (.yield L) #[] #[]]++c'):=by
      have h0:dg (Hh F (Bd Z L (.loop .ready (Gl.prune keep env) (Bt P ps.toList aa ab))) W1) [.f (.yield L) [] []] #[.func (.yield L) #[] #[]]:=
       ⟨rfl,⟨_,rfl,#[],#[],rfl,rfl,trivial,rfl,trivial⟩,trivial⟩
      exact H7 h0 ⟨e4,BT.mono hA1.hle (fun _ _ e=>e) _ _ e5⟩
     refine Calls.mono (hctr F W1 _ hR1 hargs) ?_;rintro e W2 ⟨rr,Z2,hq,hrr,hR2,hA2⟩;cases rr with
     | Bb v=>
       obtain⟨c,rfl,hv⟩:=hrr;have hsub:=Fo Z2 L
       exact⟨.Bb v,env,del Z2 L,hq,⟨c,rfl,hv.mono (Et fun n hn=>hsub.none hn)⟩,(he.mono (hA1.trans hA2).hle).mono (Et fun n hn=>hsub.none hn),hR2.drop hsub,(hA1.trans hA2).trans (Bu.drop W2 hsub),hN,
        (hM1.G9 hA2).G9 (Bu.drop (F:=F) W2 hsub)⟩
     | ret v=>
       obtain⟨c,rfl,hv⟩:=hrr;obtain⟨st,env1,ok,hL2,hq⟩:=hq;have hsub:=Fo Z2 L;obtain⟨hnl,ob,hob,lp2,rfl,hst,_,_⟩:=hR2.own L _ hL2;have hRd:=hR2.drop hsub;have hRf:Rel F (del Z2 L) (W2.putObj L (.loop {lp2 with state:= .exhausted})):=hRd.put (DL Z2 L) hob rfl
       have hAf:Bu F Z2 W2 (del Z2 L) (W2.putObj L (.loop {lp2 with state:= .exhausted})):=by
        refine⟨fun n hn h0=>World.putObj_heap_other fun e=>?_,by simp,rfl,rfl,rfl,fun n h0 _=>hsub.none h0⟩;subst e;rw[hL2]at h0;cases h0
       have hend:=run_endLoop (P:=P) hob (by cases st<;>simp only[pW]at hst<;>rw[hst.1]<;>simp);generalize W2.putObj L (.loop {lp2 with state:= .exhausted})=W3 at hRf hAf hend;have hAA:=(hA1.trans hA2).trans hAf;have hMM:=(hM1.G9 hA2).G9 hAf;refine⟨lp2.pending,_,hend,?_⟩;cases st with
       | ready=>
         rw[hst.2];exact⟨.normal,env,del Z2 L,hq,rfl,he.mono hAA.hle,hRf,hAA,hN,hMM⟩
       | ret=>
         rw[hst.2];exact Hq (n:=0) <| wpIn_ret ⟨.ret,env,del Z2 L,hq,rfl,he.mono hAA.hle,hRf,hAA,hN,hMM⟩
       | exit id=>
         rw[hst.2];exact Hq (n:=0) <| wpIn_exit ⟨.exit id,env,del Z2 L,hq,rfl,he.mono hAA.hle,hRf,hAA,hN,hMM⟩
   .exact h.elim
 | goto l=>intro ac hc;cases hc
 | refuse s=>intro ac hc;cases hc
end Go.Gl
