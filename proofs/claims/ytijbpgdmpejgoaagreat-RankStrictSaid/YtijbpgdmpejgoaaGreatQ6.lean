import Derived.Scope
import Derived.OrdersIn
import Derived.RangeFuncWrites
import Derived.RangeFuncNested
import Derived.Test.YtijbpgdmpejgoaaGreatQ5
set_option linter.all false
set_option linter.unusedVariables false
set_option linter.unusedSimpArgs false
namespace Go.Gl
inductive AJ where
 | skip
 | A2 (ops:List AS)
 | BC (l:List Nat) (ops:List CD)
 | seq (l:List Nat) (a b:AJ)
 | cond (c:Bj) (a b:AJ)
 | block (id:Nat) (a:AJ)
 | loop (l:List Nat) (a:AJ)
 | exit (id:Nat)
 | ret
 | scope (a:AJ)
 | Cg (l:List Nat) (g:Bj) (ps:List Nat) (a b:AJ)
 deriving Inhabited
inductive Ae where
 | normal
 | exit (id:Nat)
 | ret
 | Bi (v:V)
def prune:List Nat→Env→Env
 | [],_=>[]
 | s::r,env=>match get s env with
   | some v=>(s,v)::prune r env
   | none=>prune r env
def Il (P:Program):List AS→(Env→AG→Prop)→(Env→V→AG→Prop)→Env→AG→Prop
 | [],K,_,env,σ=>K env σ
 | o::r,K,kp,env,σ=>G6 P o env σ (fun v σ'=>Il P r K kp (put o.dst v env) σ') (kp env)
def Ae.andThen (next:Env→AG→Prop) (Q:Ae→Env→AG→Prop):Ae→Env→AG→Prop
 | .normal,env,σ=>next env σ
 | .exit id,env,σ=>Q (.exit id) env σ
 | .ret,env,σ=>Q .ret env σ
 | .Bi v,env,σ=>Q (.Bi v) env σ
def Ae.inBlock (id:Nat) (Q:Ae→Env→AG→Prop):Ae→Env→AG→Prop
 | .normal,env,σ=>Q .normal env σ
 | .exit id',env,σ=>bif Nat.beq id' id then Q .normal env σ else Q (.exit id') env σ
 | .ret,env,σ=>Q .ret env σ
 | .Bi v,env,σ=>Q (.Bi v) env σ
def erase:AJ→AJ
 | .BC _ ops=> .BC [] ops
 | .seq _ a b=> .seq [] (erase a) (erase b)
 | .cond c a b=> .cond c (erase a) (erase b)
 | .block id a=> .block id (erase a)
 | .loop _ a=> .loop [] (erase a)
 | .scope a=> .scope (erase a)
 | .Cg _ g ps a b=> .Cg [] g ps (erase a) (erase b)
 | c=>c
def Lv (P:Program) (N:Nat) (ops:Array Oper) (o:Oper):Option AS:=
 match ZL P o.op,o.guard with
 | some ao,none=>if(∀d,o.dst=some d→d<N)then some ⟨o.dst,ao,none⟩else none
 | some ao,some (j,b)=>match(ops[j]?).bind (·.dst)with
   | some d=>if(∀d,o.dst=some d→d<N)then some ⟨o.dst,ao,some (d,b)⟩else none
   | none=>none
 | none,_=>none
def GA (P:Program) (N:Nat) (ops:Array Oper):List Oper→Option (List AS)
 | []=>some []
 | o::r=>match Lv P N ops o,GA P N ops r with
   | some x,some xs=>some (x::xs)
   | _,_=>none
def direct (ops:Array Oper) (i:Nat):List Nat:=match ops[i]? with|some o=>(o.after.toList.filter (Region.binds .any)).map (·.on)|none=>[]
def C4 (pu:List FuncId) (fz:List Nat) (ao:AS):AS:=match ao.op with
 | .call f as=>bif pu.contains f then {ao with op:= .Iy f as}else ao
 | .box x=>bif (match ao.dst with|some d=>fz.contains d|none=>false)then {ao with op:= .MS x}else ao
 | .mv x=>bif (match ao.dst with|some d=>fz.contains d|none=>false)then {ao with op:= .ZF x}else ao
 | .append sz b x y=>bif (match ao.dst with|some d=>fz.contains d|none=>false)then {ao with op:= .Oq sz b x y}else ao
 | _=>ao
def U9 (x y:AS):Bool:=
 (match x.dst with|some d=> !(looks y).contains d&&y.dst != some d|none=>true)&&(match y.dst with|some d=> !(looks x).contains d|none=>true)
def U3 (y x:AS):Bool:=match y.dst with|some d=> !(AL x).contains d|none=>true
def Wt:EW→Bool| .alloc _=>true|_=>false
def okB (x y:CD):Bool:=x.qx.isEmpty&&U9 x.o y.o&&((still x.o.op&&calm y.o.op)||kd x.o.op== .P||
 (still x.o.op&&y.qx.contains x.i&&(match x.o.dst with|some d=> !(looks x.o).contains d|none=>true))||(WG x.o.op&&y.qx.isEmpty&&y.o.guard.isNone&&Wt y.o.op))
def Ir (ops:Array Oper) (clo:List (List Nat)) (x y:CD):Bool:=
 !Nat.beq x.i y.i&& !(direct ops x.i).contains y.i&&(kd x.o.op != .N||U3 y.o x.o)&&((clo.getD y.i []).contains x.i||okB x y)
def pwB (ops:Array Oper) (clo:List (List Nat)):List CD→Bool
 | []=>true
 | x::r=>r.all (Ir ops clo x)&&pwB ops clo r
def dX (ops:Array Oper) (clo:List (List Nat)):Bool:=(List.range ops.size).all fun i=>(clo.getD i []).all fun x=>(direct ops i).contains x||(direct ops i).any fun j=>Nat.blt j i&&(clo.getD j []).contains x
def Xi (ops:Array Oper) (clo:List (List Nat)) (AE:List CD):Bool:=
 Nat.beq AE.length ops.size&&(List.range ops.size).all (fun j=>AE.any fun d=>Nat.beq d.i j)&&AE.all (fun d=>Nat.blt d.i ops.size&& !(direct ops d.i).contains d.i&&(direct ops d.i).all (fun e=>Nat.blt e ops.size))&&
 dX ops clo&&pwB ops clo AE
def Ew (ops:Array Oper):Nat→List (List Nat)
 | 0=>[]
 | n+1=>let r:=Ew ops n;r++[((direct ops n)++(direct ops n).flatMap fun j=>r.getD j []).eraseDups]
def UY (o:EW):Nat:=match kd o with| .P=>0| .N=>0| .A=>1| .AA=>2| .H=>3
def kW (o:EW):Nat:=match kd o with| .P=>0| .N=>0| .A=>1| .AA=>3| .H=>2
def sK (UY:EW→Nat) (ops:Array Oper) (as:List AS) (left done:List Nat):Option Nat:=
 let rs:=left.filter fun i=>(direct ops i).all done.contains
 let of:=fun r=>rs.find? fun i=>match as[i]? with|some ao=>Nat.ble (UY ao.op) r|none=>false
 match of 0 with|some i=>some i|none=>match of 1 with|some i=>some i|none=>match of 2 with|some i=>some i|none=>of 3
def NT (UY:EW→Nat) (ops:Array Oper) (as:List AS):Nat→List Nat→List Nat→List Nat
 | 0,_,done=>done.reverse
 | n+1,left,done=>match sK UY ops as left done with
   | some i=>NT UY ops as n (left.filter fun j=> !Nat.beq j i) (i::done)
   | none=>done.reverse
def kV (clo:List (List Nat)) (as:List AS) (before:List Nat) (i:Nat):List Nat:=
 match as[i]? with
 | some ao=>match kd ao.op with
   | .H=>before.filter fun j=> !(clo.getD i []).contains j&&(match as[j]? with|some x=>kd x.op== .N|none=>false)
   | _=>[]
 | none=>[]
def c9 (clo:List (List Nat)) (as:List AS):List Nat→List Nat→List CD
 | _,[]=>[]
 | before,i::r=>match as[i]? with
   | some ao=>⟨i,ao,kV clo as before i,(kV clo as before i).filterMap fun j=>as[j]?⟩::c9 clo as (i::before) r
   | none=>c9 clo as (i::before) r
def dH (ops:Array Oper) (as:List AS):Option (List CD):=
 let clo:=Ew ops ops.size
 let AE:=c9 clo as [] (NT UY ops as ops.size (List.range ops.size) [])
 bif Xi ops clo AE then some AE else
 let AE:=c9 clo as [] (NT kW ops as ops.size (List.range ops.size) [])
 bif Xi ops clo AE then some AE else none
def res (P:Program) (N:Nat) (pu:List FuncId) (fz:List Nat):Code→Option AJ
 | .skip=>some .skip
 | .label _=>some .skip
 | .ret=>some .ret
 | .exit id=>some (.exit id)
 | .seq a b=>match res P N pu fz a,res P N pu fz b with|some a,some b=>some (.seq [] a b)|_,_=>none
 | .cond c a b=>match BR c,res P N pu fz a,res P N pu fz b with|some c,some a,some b=>some (.cond c a b)|_,_,_=>none
 | .block id a=>(res P N pu fz a).map (.block id)
 | .loop a=>(res P N pu fz a).map (.loop [])
 | .scope a=>(res P N pu fz a).map .scope
 | .rangeFunc g ps a b=>match BR g,res P N pu fz a,res P N pu fz b with
   | some g,some a,some b=>if ps.toList.all (fun p=>Nat.blt p N)then some (.Cg [] g ps.toList a b)else none
   | _,_,_=>none
 | .region _ ops draw=>match GA P N ops ops.toList with
   | none=>none
   | some as=>bif draw then(bif P.follows .mixedOrders then(dH ops (as.map (C4 pu fz))).map (.BC [])else none)else some (.A2 (as.map (C4 pu fz)))
 | _=>none
def By (P:Program) (ps:List Nat) (a b:AJ):FuncId→Array Tmp→Code→Code→Nat→Prop:=fun fn ps' as bd N=>
 (∃g,P.funcs[fn]? =some g)∧ps'.toList=ps∧(∀p∈ps,p<N)∧ ∃pu fz,res P N pu fz as=some (erase a)∧res P N pu fz bd=some (erase b)
def JN (L:Nat) (Q:Ae→Env→AG→Prop) (env:Env):R→AG→Prop
 | .ret _,σ=> ∃st env1 ok,σ L=some (.loop st env1 ok)∧match st with
   | .ready=>Q .normal env (del σ L)
   | .ret=>Q .ret env (del σ L)
   | .exit id=>Q (.exit id) env (del σ L)
 | .Bi v,σ=>Q (.Bi v) env (del σ L)
def T (P:Program):AJ→(Ae→Env→AG→Prop)→Env→AG→Prop
 | .skip,Q,env,σ=>Q .normal env σ
 | .ret,Q,env,σ=>Q .ret env σ
 | .exit id,Q,env,σ=>Q (.exit id) env σ
 | .A2 ops,Q,env,σ=>Il P ops (fun env σ=>Q .normal env σ) (fun env v σ=>Q (.Bi v) env σ) env σ
 | .BC l ops,Q,env,σ=>DC P ops (fun env σ=>Q .normal (prune l env) σ) (fun v σ=> ∀σ',Sub σ σ'→Q (.Bi v) [] σ') env σ
 | .seq l a b,Q,env,σ=>T P a (Ae.andThen (fun env σ=>T P b Q (prune l env) σ) Q) env σ
 | .cond c a b,Q,env,σ=>match ev env c with
   | some (.b t)=>(t=true→T P a Q env σ)∧(t=false→T P b Q env σ)
   | _=>False
 | .block id a,Q,env,σ=>T P a (Ae.inBlock id Q) env σ
 | .scope a,Q,env,σ=>T P a Q env σ
 | .loop l a,Q,env,σ=> ∃AF:Nat→Env→AG→Prop,(∃n,AF n (prune l env) σ)∧
  ∀n env σ,AF n env σ→T P a (Ae.andThen (fun env σ=> ∃m,m<n∧AF m (prune l env) σ) Q) env σ
 | .Cg l g ps a b,Q,env,σ=>match ev env g with
   | some (.f (.func gf) [] cap)=> ∀L,σ L=none→BQ P gf (.f (.yield L) [] []::cap) (BI σ L (.loop .ready (prune l env) (By P ps a b))) (JN L Q env)
   | _=>False
theorem CQ.put {H:Nat→Nat→Option Value} {env:Env} {a:Act} (h:CQ H env a.tmps) {N:Nat} (hN:a.tmps.size=N) {d:Option Nat} (hd: ∀x,d=some x→x<N) {v:V} {c:Value} (hv:AZ H v c) :
 CQ H (Gl.put d v env) (a.put d c).tmps:=by
 cases d with
 | none=>exact h
 | some d=>
   intro j u hu;simp only[Gl.put,get]at hu;cases hb:Nat.beq d j with
   | true=>
     rw[hb]at hu;simp only[cond_true]at hu;cases hu;have:d=j:=Nat.eq_of_beq_eq_true hb;subst this;refine⟨c,?_,hv⟩;simp only[Act.put];rw[Array.getElem?_setIfInBounds_self_of_lt (by rw[hN];exact hd d rfl)]
   | false=>
     rw[hb]at hu;simp only[cond_false]at hu;have:d≠j:=Nat.ne_of_beq_eq_false hb;obtain⟨c',h1,h2⟩:=h j u hu;refine⟨c',?_,h2⟩;simp only[Act.put];rw[Array.getElem?_setIfInBounds_ne this];exact h1
theorem Lh: ∀(keep:List Nat) (env:Env) (k:Nat) (v:V),get k (prune keep env)=some v→get k env=some v
 | [],_,_,_,h=>by cases h
 | s ::r,env,k,v,h=>by
   simp only[prune]at h;split at h
   ·rename_i u hu
    simp only[get]at h;cases hb:Nat.beq s k with
    | true=>
      rw[hb]at h;simp only[cond_true]at h;cases h;have:s=k:=Nat.eq_of_beq_eq_true hb;subst this;exact hu
    | false=>
      rw[hb]at h;simp only[cond_false]at h;exact Lh r env k v h
   ·exact Lh r env k v h
theorem CQ.prune {H:Nat→Nat→Option Value} {env:Env} {tmps:Array Value} (h:CQ H env tmps) (keep:List Nat):CQ H (Gl.prune keep env) tmps:=
 fun k v hv=>h k v (Lh keep env k v hv)
theorem KJ (a:Act) (d:Option Nat) (c:Value):(a.put d c).tmps.size=a.tmps.size:=by
 cases d<;>simp[Act.put]
theorem put_defers (a:Act) (d:Option Nat) (c:Value):(a.put d c).defers=a.defers:=by
 cases d<;>rfl
theorem Lc {k:Nat} {v:V}: ∀ {keep:List Nat} {env:Env},(k,v)∈prune keep env→get k env=some v
 | [],_,h=>by cases h
 | s ::r,env,h=>by
   simp only[prune]at h;split at h
   ·rename_i u hu
    rcases G3.1 h with e|h
    ·cases e;exact hu
    ·exact Lc h
   ·exact Lc h
def De (H:Nat→Nat→Option Value):Ae→Exit→Prop
 | .normal,e=>e= .normal
 | .exit id,e=>e= .exit id
 | .ret,e=>e= .ret
 | .Bi v,e=> ∃c,e= .panic [{v:=c,recovered:=false}]∧AZ H v c
def Jv (Λ:Nat→Prop) (σ₀:AG) (w₀:World) (N:Nat) (ds:List Deferred) (Q:Ae→Env→AG→Prop) (e:Exit) (a:Act) (w:World):Prop:=
 ∃ex env σ,Q ex env σ∧De (Hh Λ σ w) ex e∧CQ (Hh Λ σ w) env a.tmps∧Rel Λ σ w∧B5 Λ σ₀ w₀ σ w∧a.tmps.size=N∧a.defers=ds
def wide (r:Option Nat):Fence:={Fence.wide with round:=r}
theorem Oy {r:Option Nat} {n:Nat} {P:Program} {l:Nat} {f:FuncId} {tmps:Array Value} {assign body:Code} {w:World} {R:Ending→World→Prop} (h:RoundIn Fence.wide 0 P l f tmps assign body w R):RoundIn (wide r) n P l f tmps assign body w R:=
 ⟨trivial,fun c cs _=>h.2 c cs (room_wide _)⟩
theorem I3 {r:Option Nat} {n:Nat} {P:Program} {f:FuncId} {args:Array Value} {w:World} {R:Ending→World→Prop} (h:Calls P f args w R):CallsIn (wide r) n P f args w R:=
 callsIn_wide (n:=n) |>.2 h
variable {P:Program} {Λ:Nat→Prop} {N n:Nat} {ds:List Deferred} {r:Option Nat} {pu:List FuncId} {fz:List Nat}
theorem Oa {σ:AG} {w:World} {k kp:V→AG→Prop} {o:Oper} {a:Act} {next:Act→World→Prop} {Q:Exit→Act→World→Prop} {res:Result Next} (h:Good P Λ σ w k kp res)
 (hn: ∀v σ' c w',k v σ'→AZ (Hh Λ σ' w') v c→Rel Λ σ' w'→B5 Λ σ w σ' w'→next (a.put o.dst c) w')
 (hp: ∀v σ' c w',kp v σ'→AZ (Hh Λ σ' w') v c→Rel Λ σ' w'→B5 Λ σ w σ' w'→Q (.panic [{v:=c,recovered:=false}]) a w') :
 o.uponIn (wide r) n P a next Q res:=by
 cases res with
 | ok x w'=>
   cases x<;>try exact h.elim
   case value c=>
    obtain⟨v,σ',h1,h2,h3,h4⟩:=h;exact hn v σ' c w' h1 h2 h3 h4
   case skip=>
    obtain⟨σ',h1,h3,h4⟩:=h;exact hn (.t []) σ' undef w' h1 ⟨#[],rfl,rfl,trivial⟩ h3 h4
   case enter f args=>
    refine⟨fun hd=>by simp[wide,Fence.wide]at hd,I3 ?_⟩;refine Calls.mono h fun e w'' hq=>?_
    obtain⟨rr,σ',h1,h2,h3,h4⟩:=hq;cases rr with
    | ret v=>obtain⟨c,rfl,hv⟩:=h2;exact hn v σ' c w'' h1 hv h3 h4
    | Bi v=>obtain⟨c,rfl,hv⟩:=h2;exact hp v σ' c w'' h1 hv h3 h4
   case round l f tmps assign body=>
    refine⟨fun hd=>by simp[wide,Fence.wide]at hd,Oy ?_⟩;refine RoundIn.mono h fun e w'' hq=>?_
    obtain⟨rr,σ',h1,h2,h3,h4⟩:=hq;cases rr with
    | ret v=>obtain⟨c,rfl,hv⟩:=h2;exact hn v σ' c w'' h1 hv h3 h4
    | Bi v=>obtain⟨c,rfl,hv⟩:=h2;exact hp v σ' c w'' h1 hv h3 h4
 | halt x w'=>
   cases x<;>try exact h.elim
   obtain⟨v,σ',h1,h2,h3,h4⟩:=h;exact hp v σ' _ w' h1 h2 h3 h4
theorem X0 {ops:Array Oper} {o:Oper} {ao:AS} (h:Lv P N ops o=some ao):ao.dst=o.dst∧(∀d,o.dst=some d→d<N)∧ZL P o.op=some ao.op∧
 ((o.guard=none∧ao.guard=none)∨ ∃j b d,o.guard=some (j,b)∧(ops[j]?).bind (·.dst)=some d∧ao.guard=some (d,b)):=by
 unfold Lv at h;split at h
 ·rename_i x h1 h2
  split at h
  ·rename_i hd
   cases h;exact⟨rfl,hd,h1,.inl ⟨h2,rfl⟩⟩
  ·cases h
 ·rename_i x j b h1 h2
  split at h
  ·rename_i d hj
   split at h
   ·rename_i hd
    cases h;exact⟨rfl,hd,h1,.inr ⟨j,b,d,h2,hj,rfl⟩⟩
   ·cases h
  ·cases h
 ·cases h
theorem X2 {o:Op} {ao:EW} (h:ZL P o=some ao): ∀c,o≠ .defer c:=by
 rintro c rfl;cases h
theorem Yw {f:FuncId} {as:List Bj} {env:Env} {σ:AG} {k kp:V→AG→Prop} (h:Ei P (.Iy f as) env σ k kp):Ei P (.call f as) env σ k kp:=by
 simp only[Ei]at *;exact Jw h fun vs ⟨v,h1,h2⟩=>Pure.use h1 h2
theorem JV (ao:AS):(C4 pu fz ao).dst=ao.dst:=by
 unfold C4;split
 ·cases pu.contains _<;>rfl
 ·cases(match ao.dst with|some d=>fz.contains d|none=>false)<;>rfl
 ·cases(match ao.dst with|some d=>fz.contains d|none=>false)<;>rfl
 ·cases(match ao.dst with|some d=>fz.contains d|none=>false)<;>rfl
 ·rfl
theorem Qs {ao:AS} {o':EW} {env:Env} {σ:AG} {k k' kp:V→AG→Prop} (hT:Ei P o' env σ k kp→Ei P ao.op env σ k' kp) (hk:k (.t []) σ→k' (.t []) σ) (h:G6 P {ao with op:=o'} env σ k kp):G6 P ao env σ k' kp:=by
 unfold G6 at *;simp only at h;split at h
 ·exact hT h
 ·split at h
  ·exact⟨fun e=>hT (h.1 e),fun e=>hk (h.2 e)⟩
  ·exact hk h
  ·exact h.elim
theorem Jf {ao:AS} {env:Env} {σ:AG} {k kp:V→AG→Prop} (h:G6 P (C4 pu fz ao) env σ k kp):G6 P ao env σ (fun v σ1=> ∃vf σ2,Sub σ2 σ1∧F6 σ1 σ2 v vf∧k vf σ2) kp:=by
 have triv: ∀ {v σ},k v σ→ ∃vf σ2,Sub σ2 σ∧F6 σ σ2 v vf∧k vf σ2:=fun {v σ} h=>⟨v,σ,fun _ _ h=>h,.refl v,h⟩
 unfold C4 at h;split at h
 ·rename_i f as he
  cases hb:pu.contains f with
  | false=>rw[hb]at h;exact B4 h (fun _ _ h=>triv h) fun _ _ h=>h
  | true=>
    rw[hb]at h;exact Qs (fun h=>by rw[he];exact Nz (Yw h) (fun _ _ h=>triv h) fun _ _ h=>h) triv h
 ·rename_i x he
  cases hb:(match ao.dst with|some d=>fz.contains d|none=>false)with
  | false=>rw[hb]at h;exact B4 h (fun _ _ h=>triv h) fun _ _ h=>h
  | true=>
    rw[hb]at h;exact Qs (fun h=>by rw[he];exact je h) triv h
 ·rename_i x he
  cases hb:(match ao.dst with|some d=>fz.contains d|none=>false)with
  | false=>rw[hb]at h;exact B4 h (fun _ _ h=>triv h) fun _ _ h=>h
  | true=>
    rw[hb]at h;exact Qs (fun h=>by rw[he];exact h) triv h
 ·rename_i sz b x y he
  cases hb:(match ao.dst with|some d=>fz.contains d|none=>false)with
  | false=>rw[hb]at h;exact B4 h (fun _ _ h=>triv h) fun _ _ h=>h
  | true=>
    rw[hb]at h;exact Qs (fun h=>by rw[he];exact Vk h) triv h
 ·exact B4 h (fun _ _ h=>triv h) fun _ _ h=>h
theorem JX {ops:Array Oper} {o:Oper} {ao:AS} (ho:Lv P N ops o=some ao) {env:Env} {σ:AG} {a:Act} {w:World} (he:CQ (Hh Λ σ w) env a.tmps) (G:Rel Λ σ w) (hN:a.tmps.size=N)
 {K:Env→AG→Prop} {kp:V→AG→Prop}
 (h:G6 P ao env σ (fun v σ'=> ∃vf σ2,Sub σ2 σ'∧F6 σ' σ2 v vf∧K (put ao.dst vf env) σ2) kp)
 {next:Act→World→Prop} {Q:Exit→Act→World→Prop}
 (hn: ∀env' σ' c w',K env' σ'→CQ (Hh Λ σ' w') env' (a.put o.dst c).tmps→Rel Λ σ' w'→B5 Λ σ w σ' w'→next (a.put o.dst c) w')
 (hp: ∀v σ' c w',kp v σ'→AZ (Hh Λ σ' w') v c→Rel Λ σ' w'→B5 Λ σ w σ' w'→Q (.panic [{v:=c,recovered:=false}]) a w') :
 if Region.wanted o (yielded ops a.tmps)then o.wpIn (wide r) n P a w next Q else(∀f,o.about P w a.eval=some f→(wide r).fn f)∧next (a.put o.dst undef) w:=by
 obtain⟨h1,h2,h3,h4⟩:=X0 ho;unfold G6 at h
 have hrun:Ei P ao.op env σ (fun v σ'=> ∃vf σ2,Sub σ2 σ'∧F6 σ' σ2 v vf∧K (put ao.dst vf env) σ2) kp→o.wpIn (wide r) n P a w next Q:=fun ht=>by
  refine⟨fun _ _=>trivial,?_⟩;rw[Oper.semAt_eq _ _ _ (X2 h3)];refine Oa (VQ h3 ht he G) (fun v σ' c w' hk hv hr ha=>?_) hp;obtain⟨vf,σ2,hs,hf,hk⟩:=hk;exact hn _ σ2 c w' hk (by rw[h1];exact((he.mono ha.hle).mono (El fun n hn=>hs.none hn)).put hN h2 (hf.rel hr hs hv)) (hr.drop hs) (ha.trans (B5.drop w' hs))
 rcases h4 with⟨h5,h6⟩|⟨j,b,d,h5,h6,h7⟩
 ·rw[h6]at h
  have:Region.wanted o (yielded ops a.tmps)=true:=by simp[Region.wanted,h5]
  rw[if_pos this];exact hrun h
 ·rw [h7]at h
  simp only at h;split at h
  ·rename_i t hg
   obtain⟨c,hc,hv⟩:=he d _ hg;simp only[AZ]at hv;subst hv
   have hy:yielded ops a.tmps j=some t:=by
    unfold yielded;rw[h6];simp[hc]
   by_cases htb:t=b
   ·have:Region.wanted o (yielded ops a.tmps)=true:=by simp[Region.wanted,h5,hy,htb]
    rw[if_pos this];exact hrun (h.1 htb)
   ·have: ¬Region.wanted o (yielded ops a.tmps)=true:=by simp[Region.wanted,h5,hy,htb]
    rw[if_neg this];have htn:t= !b:=by cases t<;>cases b<;>simp_all
    obtain⟨vf,σ2,hs,hf,hk⟩:=h.2 htn;refine⟨fun _ _=>trivial,hn _ σ2 undef w hk ?_ (G.drop hs) (B5.drop w hs)⟩;rw[h1];exact(he.mono (El fun n hn=>hs.none hn)).put hN h2 (hf.rel G hs ⟨#[],rfl,rfl,trivial⟩)
  ·rename_i hg
   obtain⟨c,hc,hv⟩:=he d _ hg;simp only[AZ]at hv;obtain⟨c',rfl,hc',_⟩:=hv
   have hy:yielded ops a.tmps j=none:=by
    unfold yielded;rw[h6];simp[hc]
   have: ¬Region.wanted o (yielded ops a.tmps)=true:=by simp[Region.wanted,h5,hy]
   rw[if_neg this];obtain⟨vf,σ2,hs,hf,hk⟩:=h;refine⟨fun _ _=>trivial,hn _ σ2 undef w hk ?_ (G.drop hs) (B5.drop w hs)⟩;rw[h1];exact(he.mono (El fun n hn=>hs.none hn)).put hN h2 (hf.rel G hs ⟨#[],rfl,rfl,trivial⟩)
  ·exact h.elim
theorem Fg {ops:Array Oper}: ∀ {l:List Oper} {as:List AS},GA P N ops l=some as→l.length=as.length∧ ∀(i:Nat) (o:Oper),l[i]? =some o→ ∃ao,as[i]? =some ao∧Lv P N ops o=some ao
 | [],as,h=>by cases h;simp
 | o ::l,as,h=>by
   simp only[GA]at h;split at h
   ·rename_i x xs h1 h2
    cases h;obtain⟨h3,h4⟩:=Fg h2;refine⟨by simp[h3],fun i q hq=>?_⟩;cases i with
    | zero=>simp at hq;subst hq;exact⟨x,rfl,h1⟩
    | succ i=>exact h4 i q (by simpa using hq)
   ·cases h
theorem N3 {ops:Array Oper} {K:Env→AG→Prop} {kp:Env→V→AG→Prop} {Q:Ae→Env→AG→Prop} {σ₀:AG} {w₀:World}
 (U: ∀env σ,K env σ→Q .normal env σ) (hkp: ∀env v σ,kp env v σ→Q (.Bi v) env σ): ∀(as:List AS) (j:Nat),(∀(i:Nat) (o:Oper),ops[j+i]? =some o→ ∃ao,as[i]? =some ao∧Lv P N ops o=some ao)→ops.size=j+as.length→
 ∀(env:Env) (σ:AG) (a:Act) (w:World),Il P (as.map (C4 pu fz)) K kp env σ→CQ (Hh Λ σ w) env a.tmps→Rel Λ σ w→B5 Λ σ₀ w₀ σ w→a.tmps.size=N→a.defers=ds→
 wpOpsIn (wide r) n P ops (Jv Λ σ₀ w₀ N ds Q) (List.range' j as.length) a w
 | [],j,_,_,env,σ,a,w,h,he,G,Y,hN,hd=>by
   simp only[List.length_nil,List.range'_zero,wpOpsIn];exact⟨.normal,env,σ,U _ _ h,rfl,he,G,Y,hN,hd⟩
 | ao::as,j,hget,hsz,env,σ,a,w,h,he,G,Y,hN,hd=>by
   simp only[Mu,List.range'_succ,wpOpsIn];have hlt:j<ops.size:=by simp at hsz;omega
   have hj:ops[j]? =some ops[j]:=Array.getElem?_eq_getElem hlt;obtain⟨ao',h1,h2⟩:=hget 0 ops[j] (by simp[hj]);simp at h1;subst h1;simp only[hj]
   refine JX (K:=Il P (as.map (C4 pu fz)) K kp) (kp:=kp env) h2 he G hN (by
    simp only[List.map_cons,Il]at h;have:=Jf h
    rwa [JV]at this) (fun env' σ' c w' hk he' hR' hA'=>?_) (fun v σ' c w' hk hv hR' hA'=>?_)
   ·exact N3 U hkp as (j+1) (fun i o ho=>by
     obtain⟨x,hx,hy⟩:=hget (i+1) o (by rw[←ho];congr 1;omega)
     exact⟨x,by simpa using hx,hy⟩) (by simp at hsz;omega) env' σ' _ w' hk he' hR' (Y.trans hA') (by rw[KJ];exact hN) (by rw[put_defers];exact hd)
   ·exact⟨.Bi v,env,σ',hkp _ _ _ hk,⟨c,rfl,hv⟩,he.mono hA'.hle,hR',Y.trans hA',hN,hd⟩
theorem Jv.trans {σ₀ σ₁:AG} {w₀ w₁:World} {Q:Ae→Env→AG→Prop} {e:Exit} {a:Act} {w:World} (Y:B5 Λ σ₀ w₀ σ₁ w₁) (h:Jv Λ σ₁ w₁ N ds Q e a w):Jv Λ σ₀ w₀ N ds Q e a w:=by
 obtain⟨ex,env,σ,h1,h2,h3,h4,h5,h6⟩:=h;exact⟨ex,env,σ,h1,h2,h3,h4,Y.trans h5,h6⟩
theorem Vn {p:Nat→Prop} (h: ∃m,p m): ∃m,p m∧ ∀k,p k→m≤k:=by
 obtain⟨n,hn⟩:=h
 induction n using Nat.strongRecOn with
 | _ n ih=>
   by_cases hex: ∃k,k<n∧p k
   ·obtain⟨k,h1,h2⟩:=hex
    exact ih k h1 h2
   ·exact⟨n,hn,fun k hk=>Nat.le_of_not_lt fun hlt=>hex ⟨k,hlt,hk⟩⟩
theorem mem_ready {ops:Array Oper} {listed:Array Bool} (hs:listed.size=ops.size) {i:Nat} :
 i∈Region.ready .any ops listed↔i<ops.size∧listed[i]? =some false∧ ∀e∈direct ops i,listed[e]? =some true:=by
 unfold Region.ready;rw[Mt,List.mem_range];constructor
 ·rintro⟨h1,h2⟩
  simp only[BO,Bool.not_eq_true']at h2;obtain⟨h2,h3⟩:=h2;have hl:i<listed.size:=by omega
  refine⟨h1,?_,fun e he=>?_⟩
  ·rw[Array.getElem?_eq_getElem hl]
   rw[Array.getD_eq_getD_getElem?,Array.getElem?_eq_getElem hl]at h2;simpa using h2
  ·unfold direct at he
   rw[Array.getElem?_eq_getElem h1]at he h3;simp only[ZB,Option.getD_some]at h3;simp only[Oe,Mt]at he;obtain⟨g,⟨hg1,hg2⟩,rfl⟩:=he;rw[Array.all_eq_true_iff_forall_mem]at h3;have:=h3 g (by simpa using hg1);rw[hg2]at this;simp only[Bool.not_true,Bool.false_or]at this;rw[Array.getD_eq_getD_getElem?]at this;cases hx:listed[g.on]? with
   | none=>rw[hx]at this;cases this
   | some b=>rw[hx]at this;simp only[Option.getD_some]at this;rw[this]
 ·rintro⟨h1,h2,h3⟩
  refine⟨h1,?_⟩;rw[Array.getD_eq_getD_getElem?,h2,Array.getElem?_eq_getElem h1];simp only[Option.getD_some,Bool.not_false,Bool.true_and,ZB];rw[Array.all_eq_true_iff_forall_mem];intro g hg;cases hb:Region.binds .any g with
  | false=>rfl
  | true=>
    simp only[Bool.not_true,Bool.false_or]
    rw[Array.getD_eq_getD_getElem?,h3 g.on (by
     unfold direct;rw[Array.getElem?_eq_getElem h1];simp only[Oe,Mt]
     exact⟨g,⟨by simpa using hg,hb⟩,rfl⟩)]
    rfl
theorem UA {x y:AS} (h:U9 x y=true):qq x y:=by
 unfold U9 at h;simp only[BO]at h;refine⟨fun d hd=>?_,fun d hd=>?_⟩
 ·have h1:=h.1
  rw[hd]at h1;simp only[BO,Bool.not_eq_true',bne_iff_ne,ne_eq]at h1;exact⟨fun hm=>by have:=h1.1;rw[List.contains_eq_mem]at this;simp[hm]at this,h1.2⟩
 ·have h2:=h.2
  rw[hd]at h2;simp only[Bool.not_eq_true']at h2;exact fun hm=>by rw[List.contains_eq_mem]at h2;simp[hm]at h2
theorem T5 {x y:AS} (h:U3 y x=true):fresh y x:=by
 intro d hd;unfold U3 at h;rw[hd]at h;simp only[Bool.not_eq_true']at h;exact fun hm=>by rw[List.contains_eq_mem]at h;simp[hm]at h
theorem Sy {ops:Array Oper} {clo:List (List Nat)}: ∀ {AE:List CD},pwB ops clo AE=true→AE.Pairwise fun x y=>Ir ops clo x y=true
 | [],_=> .nil
 | x::r,h=>by
   simp only[pwB,BO,GL]at h;exact .cons h.1 (Sy h.2)
theorem Q7 {clo:List (List Nat)} {as:List AS}: ∀ {l before:List Nat} {d:CD},d∈c9 clo as before l→as[d.i]? =some d.o∧d.re=d.qx.filterMap fun j=>as[j]?
 | [],_,_,h=>by cases h
 | i ::r,before,d,h=>by
   simp only[c9]at h;split at h
   ·rename_i ao hao
    rcases G3.1 h with rfl|h
    ·exact⟨hao,rfl⟩
    ·exact Q7 h
   ·exact Q7 h
theorem ba {as:List AS} {x y:CD} (hx:as[x.i]? =some x.o) (hxr:x.re=x.qx.filterMap fun j=>as[j]?) (hyr:y.re=y.qx.filterMap fun j=>as[j]?) (h:okB x y=true):okD x y:=by
 unfold okB at h;simp only[BO,Bool.or_eq_true,Dp]at h;obtain⟨⟨h1,h2⟩,h3⟩:=h;refine⟨by rw[hxr,List.isEmpty_iff.1 h1];rfl,UA h2,?_⟩;rcases h3 with((h3|h3)|h3)|h3
 ·exact .inl h3
 ·exact .inr (.inl h3)
 ·refine .inr (.inr (.inl ⟨h3.1.1,?_,fun d hd=>?_⟩))
  ·rw[hyr,List.mem_filterMap]
   exact⟨x.i,by have:=h3.1.2;rw[List.contains_eq_mem]at this;simpa using this,hx⟩
  ·have:=h3.2
   rw[hd]at this;simp only[Bool.not_eq_true']at this;exact fun hm=>by rw[List.contains_eq_mem]at this;simp[hm]at this
 ·refine .inr (.inr (.inr ⟨h3.1.1.1,by rw[hyr,List.isEmpty_iff.1 h3.1.1.2];rfl,by simpa using h3.1.2,?_⟩))
  have:=h3.2;unfold Wt at this;split at this
  ·rename_i z hz;exact⟨z,hz⟩
  ·cases this
theorem Vx {ops:Array Oper} {clo:List (List Nat)} (hclo:dX ops clo=true) {listed:Array Bool}
 (hdc: ∀j,j<ops.size→listed[j]? =some true→ ∀e∈direct ops j,listed[e]? =some true) :
 ∀(i:Nat),i<ops.size→(∀e∈direct ops i,listed[e]? =some true)→ ∀x∈clo.getD i [],listed[x]? =some true:=by
 intro i
 induction i using Nat.strongRecOn with
 | _ i ih=>
   intro hi hd x hx;unfold dX at hclo;rw[GL]at hclo;have h1:=hclo i (List.mem_range.2 hi);rw[GL]at h1;have h2:=h1 x hx;simp only[Bool.or_eq_true,List.any_eq_true,BO]at h2;rcases h2 with h2|⟨j,hj,hlt,hm⟩
   ·exact hd x (by rw[List.contains_eq_mem]at h2;simpa using h2)
   ·have hji:j<i:=by rw[Nat.blt_eq]at hlt;exact hlt
    have hl:=hd j hj;exact ih j hji (by omega) (hdc j (by omega) hl) x (by rw[List.contains_eq_mem]at hm;simpa using hm)
theorem P7 {ops : Array Oper} {as:List AS} {clo:List (List Nat)} {AE:List CD} (hclo:dX ops clo=true) (hpw:AE.Pairwise fun x y=>Ir ops clo x y=true)
 (hC: ∀d∈AE,d.i<ops.size∧d.i∉direct ops d.i∧(∀e∈direct ops d.i,e<ops.size)∧(as.map (C4 pu fz))[d.i]? =some d.o∧d.re=d.qx.filterMap fun j=>(as.map (C4 pu fz))[j]?)
 (has: ∀(i:Nat) (o:Oper),ops[i]? =some o→ ∃ao,as[i]? =some ao∧Lv P N ops o=some ao)
 {K:Env→AG→Prop} {kp:V→AG→Prop} {Q:Ae→Env→AG→Prop} {σ₀:AG} {w₀:World} (hgeq: ∀env env' σ,c8 env env'→K env σ→K env' σ)
 (U: ∀env σ,K env σ→ ∃l,Q .normal (prune l env) σ) (hkp: ∀v σ,kp v σ→Q (.Bi v) [] σ) (hU: ∀v σ m z,σ m=none→kp v σ→kp v (BI σ m z)): ∀(fuel:Nat) (l:List CD) (listed:Array Bool) (env:Env) (σ:AG) (a:Act) (w:World),
 l.length=fuel→l.Sublist AE→listed.size=ops.size→(∀j,j<ops.size→(listed[j]? =some false↔ ∃d∈l,d.i=j))→
 (∀j,j<ops.size→listed[j]? =some true→ ∀e∈direct ops j,listed[e]? =some true)→
 DC P l K kp env σ→CQ (Hh Λ σ w) env a.tmps→Rel Λ σ w→B5 Λ σ₀ w₀ σ w→a.tmps.size=N→a.defers=ds→wpAnyIn (wide r) n P .any ops (Jv Λ σ₀ w₀ N ds Q) fuel listed a w
 | 0,l,listed,env,σ,a,w,hl,hsub,hsz,hun,hdc,h,he,G,Y,hN,hd=>by
   have:l= []:=List.length_eq_zero_iff.1 hl;subst this;simp only[wpAnyIn];obtain⟨l,hq⟩:=U _ _ h;refine⟨?_,.normal,_,σ,hq,rfl,he.prune l,G,Y,hN,hd⟩;refine List.eq_nil_iff_forall_not_mem.2 fun i hi=>?_
   obtain⟨h1,h2,_⟩:=(mem_ready hsz).1 hi;obtain⟨d,hd,_⟩:=(hun i h1).1 h2;cases hd
 | fuel + 1, l,listed,env,σ,a,w,hl,hsub,hsz,hun,hdc,h,he,G,Y,hN,hd=>by
   have hval: ∀j,j<ops.size→listed[j]? =some true∨listed[j]? =some false:=fun j hj=>by
    rw[Array.getElem?_eq_getElem (by omega)];cases listed[j]'(by omega)<;>simp
   have hpl:=hpw.sublist hsub;simp only[wpAnyIn];refine⟨fun hr=>?_,fun i hi=>?_⟩
   ·exfalso
    cases l with
    | nil=>cases hl
    | cons hd' t=>
      have hCh:=hC hd' (hsub.subset (.head _))
      have:hd'.i∈Region.ready .any ops listed:=by
       refine(mem_ready hsz).2 ⟨hCh.1,(hun _ hCh.1).2 ⟨hd',.head _,rfl⟩,fun e he'=>?_⟩;have hes:=hCh.2.2.1 e he';rcases hval e hes with h1|h1
       ·exact h1
       ·obtain⟨d,hd1,rfl⟩:=(hun e hes).1 h1
        rcases G3.1 hd1 with rfl|hd1
        ·exact absurd he' hCh.2.1
        ·have hp:=(List.pairwise_cons.1 hpl).1 d hd1
         unfold Ir at hp;simp only[BO]at hp;have:=hp.1.1.2;rw[List.contains_eq_mem]at this;simp[he']at this
      rw[hr]at this;cases this
   ·obtain ⟨hi1,hi2,hi3⟩:=(mem_ready hsz).1 hi
    obtain⟨d,hdl,rfl⟩:=(hun i hi1).1 hi2;obtain⟨xs,ys,rfl⟩:=List.append_of_mem hdl;have hCd:=hC d (hsub.subset hdl);have hpx:=List.pairwise_append.1 hpl;have hxd: ∀x∈xs,Ir ops clo x d=true:=fun x hx=>hpx.2.2 x hx d (.head _)
    have hdy: ∀y∈ys,Ir ops clo d y=true:=fun y hy=>(List.pairwise_cons.1 hpx.2.1).1 y hy
    have hok: ∀x∈xs,okD x d:=fun x hx=>by
     have hCx:=hC x (hsub.subset (Ru _ hx));have hp:=hxd x hx;unfold Ir at hp;simp only[BO,Bool.or_eq_true]at hp;rcases hp.2 with h1|h1
     ·exfalso
      have h2:=Vx hclo hdc d.i hi1 hi3 x.i (by rw[List.contains_eq_mem]at h1;simpa using h1);have h3:=(hun x.i hCx.1).2 ⟨x,Ru _ hx,rfl⟩;rw[h2]at h3;cases h3
     ·exact ba hCx.2.2.2.1 hCx.2.2.2.2 hCd.2.2.2.2 h1
    have hfr:xs.Pairwise fun x y=>kd x.o.op= .N→fresh y.o x.o:=hpx.1.imp fun {x y} hp hN=>by
     unfold Ir at hp;simp only[BO,Bool.or_eq_true]at hp;rcases hp.1.2 with h1|h1
     ·rw[hN]at h1;simp at h1
     ·exact T5 h1
    have hb:=ae hU hgeq hok hfr h;have hops:ops[d.i]? =some ops[d.i]:=Array.getElem?_eq_getElem hi1;obtain⟨ao,hao,hro⟩:=has d.i _ hops
    have hdo:d.o=C4 pu fz ao:=by
     have:=hCd.2.2.2.1;rw[Rv,hao]at this;simpa using this.symm
    unfold wpOpIn;simp only[hops];rw[hdo]at hb;refine JX (K:=DC P (xs++ys) K kp) (kp:=kp) hro he G hN ?_ (fun env' σ' c w' hk he' hR' hA'=>?_) (fun v σ' c w' hk hv hR' hA'=>?_)
    ·refine B4 (Jf hb) (fun v σ' ⟨vf,σ2,h1,h2,hh⟩=>⟨vf,σ2,h1,h2,?_⟩) fun _ _ h=>h
     have:=hh.2
     rwa [JV]at this
    ·refine P7 hclo hpw hC has hgeq U hkp hU fuel (xs++ys) _ env' σ' _ w' ?_ ?_ ?_ ?_ ?_ hk he' hR' (Y.trans hA') (by rw[KJ];exact hN) (by rw[put_defers];exact hd)
     ·simp only[UE,Mu]at hl ⊢
      omega
     ·exact((List.Sublist.refl xs).append (List.sublist_cons_self d ys)).trans hsub
     ·simpa using hsz
     ·intro j hj
      by_cases hjd:d.i=j
      ·subst hjd
       rw[Array.getElem?_setIfInBounds_self_of_lt (by omega)];constructor
       ·intro h;cases h
       ·rintro⟨x,hx,hxi⟩
        exfalso;rcases FQ.1 hx with hx|hx
        ·have:=hxd x hx
         unfold Ir at this;simp only[BO]at this;have:=this.1.1.1;rw[hxi]at this;simp at this
        ·have:=hdy x hx
         unfold Ir at this;simp only[BO]at this;have:=this.1.1.1;rw[hxi]at this;simp at this
      ·rw [Array.getElem?_setIfInBounds_ne hjd,hun j hj]
       constructor
       ·rintro⟨x,hx,rfl⟩
        rcases FQ.1 hx with hx|hx
        ·exact⟨x,Ru _ hx,rfl⟩
        ·rcases G3.1 hx with rfl|hx
         ·exact absurd rfl hjd
         ·exact⟨x,US _ hx,rfl⟩
       ·rintro⟨x,hx,rfl⟩
        rcases FQ.1 hx with hx|hx
        ·exact⟨x,Ru _ hx,rfl⟩
        ·exact⟨x,US _ (.tail _ hx),rfl⟩
     ·intro j hj hlj e hej
      have hle:listed[e]? =some true:=by
       by_cases hjd:d.i=j
       ·subst hjd;exact hi3 e hej
       ·rw[Array.getElem?_setIfInBounds_ne hjd]at hlj
        exact hdc j hj hlj e hej
      by_cases hed:d.i=e
      ·subst hed
       rw[Array.getElem?_setIfInBounds_self_of_lt (by omega)]
      ·rw[Array.getElem?_setIfInBounds_ne hed]
       exact hle
    ·exact⟨.Bi v,[],σ',hkp _ _ hk,⟨c,rfl,hv⟩,fun _ _ hg=>(by cases hg),hR',Y.trans hA',hN,hd⟩
theorem PZ {env env':Env} (h:c8 env env'): ∀l:List Nat,prune l env=prune l env'
 | []=>rfl
 | s::r=>by simp only[prune,h s,PZ h r]
theorem Xy {ops:Array Oper} {as:List AS} {AE:List CD} (h:dH ops as=some AE): ∃order,c9 (Ew ops ops.size) as [] order=AE∧Xi ops (Ew ops ops.size) AE=true:=by
 simp only[dH]at h;cases h1:Xi ops (Ew ops ops.size) (c9 (Ew ops ops.size) as [] (NT UY ops as ops.size (List.range ops.size) []))with
 | true=>
   rw[h1]at h;cases h;exact⟨_,rfl,h1⟩
 | false=>
   rw[h1]at h;simp only[cond_false]at h;cases h2:Xi ops (Ew ops ops.size) (c9 (Ew ops ops.size) as [] (NT kW ops as ops.size (List.range ops.size) []))with
   | true=>
     rw[h2]at h;cases h;exact⟨_,rfl,h2⟩
   | false=>rw[h2]at h;cases h
theorem Vr {ops:Array Oper} {as:List AS} {AE:List CD} {id:Nat} (hm:P.follows .mixedOrders=true) (h1:GA P N ops ops.toList=some as) (h2:dH ops (as.map (C4 pu fz))=some AE) {l:List Nat}
 {Q:Ae→Env→AG→Prop} {env:Env} {σ:AG} {a:Act} {w:World} (h:DC P AE (fun env σ=>Q .normal (prune l env) σ) (fun v σ=> ∀σ',Sub σ σ'→Q (.Bi v) [] σ') env σ)
 (he:CQ (Hh Λ σ w) env a.tmps) (G:Rel Λ σ w) (hN:a.tmps.size=N) (hd:a.defers=ds):(Code.region id ops true).wpIn (wide r) n P (Jv Λ σ w N ds Q) a w:=by
 obtain⟨h3,h4⟩:=Fg h1;obtain⟨order,hC,hb⟩:=Xy h2
 ·unfold Xi at hb
  simp only[BO]at hb;obtain⟨⟨⟨⟨b1,b2⟩,b3⟩,b4⟩,b5⟩:=hb;have b1:AE.length=ops.size:=Nat.eq_of_beq_eq_true b1;rw[GL]at b2 b3;refine wpIn_region_any hm ?_
  refine P7 (pu:=pu) (fz:=fz) (as:=as) (σ₀:=σ) (w₀:=w) b4 (Sy b5) (fun d hd'=>?_) (fun i o ho=>h4 i o (by simpa using ho)) (K:=fun env σ=>Q .normal (prune l env) σ) (kp:=fun v σ=> ∀σ',Sub σ σ'→Q (.Bi v) [] σ')
   (fun env env' σ hg hq=>by rw[←PZ hg];exact hq) (fun env σ hq=>⟨l,hq⟩) (fun _ σ h=>h σ fun _ _ h=>h) (fun _ _ _ _ hm h σ' hs=>h σ' fun _ _ hh=>hs _ _ (Fy hm _ _ hh)) ops.size AE _ env σ a _ b1 (.refl _) (by simp) (fun j hj=>?_) (fun j hj hlj=>?_) h he ⟨G.own,G.lock⟩ ⟨fun _ _ _=>rfl,Nat.le_refl _,rfl,rfl,rfl,fun _ h _=>h⟩ hN hd
  ·have:=b3 d hd'
   simp only[BO,GL]at this;obtain⟨⟨c1,c2⟩,c3⟩:=this;obtain⟨m1,m2⟩:=Q7 (hC ▸ hd');refine⟨by rw[Nat.blt_eq]at c1;exact c1,fun hm=>?_,fun e he=>by have:=c3 e he;rw[Nat.blt_eq]at this;exact this,m1,m2⟩;rw[List.contains_eq_mem]at c2;simp[hm]at c2
  ·constructor
   ·intro _
    have:=b2 j (List.mem_range.2 hj);rw[List.any_eq_true]at this;obtain⟨d,hd',hdj⟩:=this;exact⟨d,hd',Nat.eq_of_beq_eq_true hdj⟩
   ·intro _
    simp[hj]
  ·simp[hj]at hlj
def rK (P:Program) (f:FuncId):Prop:= ∃g,P.funcs[f]? =some g
def MK (r:Option Nat) (P:Program) (c:Code) (Q:Exit→Act→World→Prop) (a:Act) (w:World):Prop:=
 ∀ (b:Frame) (k:List Item) (cs:List Frame),b.roundOf=r→rK P b.fn→
   ∃e a' w',Q e a' w'∧ArrivesIn (Machine.fenced P (wide r)) P (lone (b.atR a (.code c::k)) cs w) b k cs e a' w'
section
variable {Q Q':Exit→Act→World→Prop} {a:Act} {w:World}
theorem F9 {r:Option Nat} {m:Nat}:(wide r).room m:=fun _ h=>by simp[wide,Fence.wide]at h
theorem G9 {c:Code} (h:c.wpIn (wide r) n P Q a w):MK r P c Q a w:=fun b k cs hro _=>h b k cs hro trivial F9
theorem Cl {c:Code} (h:MK r P c Q a w) (hq: ∀e a w,Q e a w→Q' e a w):MK r P c Q' a w:=
 fun b k cs hro hb=>let⟨e,a',w',q,x⟩:=h b k cs hro hb;⟨e,a',w',hq _ _ _ q,x⟩
theorem FG {b:Frame} {cs:List Frame} {w:World} (h:b.about P w=none):(lone b cs w).fenced P (wide r):=fenced_calm (n:=0) trivial F9 h
theorem Jx {x y:Code} (h:MK r P x (Exit.then (MK r P y Q) Q) a w):MK r P (Code.seq x y) Q a w:=by
 intro b k cs hro hb;have h0:(lone (b.atR a (.code (.seq x y)::k)) cs w).fenced P (wide r):=FG rfl;obtain⟨e,a₁,w₁,hq,harr⟩:=h b (.code y::k) cs hro hb;cases e with
 | normal=>
   obtain⟨e₂,a₂,w₂,hq₂,harr₂⟩:=hq b k cs hro hb;exact⟨e₂,a₂,w₂,hq₂,.of_steps (.head h0 stepR_seq harr) harr₂⟩
 | exit id=>exact⟨_,a₁,w₁,hq,.of_steps (.one h0 stepR_seq) (.pass (x:= .code y) rfl (fun _ _=> .inl (by simp)) harr)⟩
 | goto l=>exact⟨_,a₁,w₁,hq,.of_steps (.one h0 stepR_seq) (.pass (x:= .code y) rfl (fun _ _=> .inl (by simp)) harr)⟩
 | ret=>exact⟨_,a₁,w₁,hq,.of_steps (.one h0 stepR_seq) (.pass (x:= .code y) rfl (fun _ _=> .inl (by simp)) harr)⟩
 | panic ch=>exact⟨_,a₁,w₁,hq,.of_steps (.one h0 stepR_seq) (.pass (x:= .code y) rfl (fun _ _=> .inl (by simp)) harr)⟩
 | outgrown=>exact⟨_,a₁,w₁,hq,.of_steps (.one h0 stepR_seq) (.pass (x:= .code y) rfl (fun _ _=> .inl (by simp)) harr)⟩
theorem bF {c:Operand} {x y:Code} {t:Bool} (hc:a.eval c= .bool t) (ht:t=true→MK r P x Q a w) (hf:t=false→MK r P y Q a w):MK r P (Code.cond c x y) Q a w:=by
 have h:MK r P (if t then x else y) Q a w:=by cases t;exact hf rfl;exact ht rfl
 exact fun b k cs hro hb=>let⟨e,a',w',q,z⟩:=h b k cs hro hb;⟨e,a',w',q,.of_steps (.one (FG rfl) (stepR_cond hc)) z⟩
theorem Xl {id:Nat} {c:Code} (h:MK r P c (Exit.inBlock id Q) a w):MK r P (Code.block id c) Q a w:=by
 intro b k cs hro hb;have h0:(lone (b.atR a (.code (.block id c)::k)) cs w).fenced P (wide r):=FG rfl;obtain⟨e,a₁,w₁,hq,harr⟩:=h b (.inBlock id::k) cs hro hb;cases e with
 | normal=>exact⟨.normal,a₁,w₁,hq,.head h0 stepR_block (StepsIn.trans harr (.one (FG rfl) stepR_inBlock))⟩
 | exit id'=>
   by_cases hid:id'=id
   ·simp only[Exit.inBlock,hid,if_true]at hq
    exact⟨.normal,a₁,w₁,hq,.head h0 stepR_block (harr.1 k (by simp[exitTo,hid]))⟩
   ·simp only[Exit.inBlock,hid,if_false]at hq
    have this:(id==id')=false:=by simp;exact fun h=>hid h.symm
    have hx:exitTo id' (.inBlock id::k)=exitTo id' k:=by simp[exitTo,this]
    exact⟨.exit id',a₁,w₁,hq,fun k' hk=> .head h0 stepR_block (harr.1 k' (by rw[hx];exact hk)),
     fun hr' hk=>let⟨k₁,h1,h2⟩:=harr.2 hr' (by rw[hx];exact hk);⟨k₁,h1,.head h0 stepR_block h2⟩⟩
 | goto l=>
   have hx:gotoIn l (.inBlock id::k)=gotoIn l k:=by simp[gotoIn]
   exact⟨_,a₁,w₁,hq,fun k' hk=> .head h0 stepR_block (harr.1 k' (by rw[hx];exact hk)),
    fun hr' hk=>let⟨k₁,h1,h2⟩:=harr.2 hr' (by rw[hx];exact hk);⟨k₁,h1,.head h0 stepR_block h2⟩⟩
 | ret=>exact⟨_,a₁,w₁,hq,.of_steps (.one h0 stepR_block) harr⟩
 | panic ch=>exact⟨_,a₁,w₁,hq,.of_steps (.one h0 stepR_block) harr⟩
 | outgrown=>exact⟨_,a₁,w₁,hq,.of_steps (.one h0 stepR_block) harr⟩
theorem Xk {c:Code} (h:MK r P c (Exit.noGoto Q) a w):MK r P (Code.scope c) Q a w:=by
 intro b k cs hro hb;have s1:step P (lone (b.atR a (.code (.scope c)::k)) cs w)= .next (lone (b.atR a (.code c:: .inScope c::k)) cs w):=step_lone_go (by simp[stepG,stepG.exec,Frame.atR])
 have s2: ∀a w,step P (lone (b.atR a (.inScope c::k)) cs w)= .next (lone (b.atR a k) cs w):=fun a w=>step_lone_go (by simp[stepG,stepG.exec,Frame.atR])
 have h0:(lone (b.atR a (.code (.scope c)::k)) cs w).fenced P (wide r):=FG rfl;obtain⟨e,a₁,w₁,hq,harr⟩:=h b (.inScope c::k) cs hro hb;cases e with
 | normal=>exact⟨.normal,a₁,w₁,hq,.head h0 s1 (StepsIn.trans harr (.one (FG rfl) (s2 _ _)))⟩
 | exit id=>
   have hx:exitTo id (.inScope c::k)=exitTo id k:=by simp[exitTo]
   exact⟨_,a₁,w₁,hq,fun k' hk=> .head h0 s1 (harr.1 k' (by rw[hx];exact hk)),fun hr' hk=>let⟨k₁,h1,h2⟩:=harr.2 hr' (by rw[hx];exact hk);⟨k₁,h1,.head h0 s1 h2⟩⟩
 | goto l=>exact hq.elim
 | ret=>exact⟨_,a₁,w₁,hq,.of_steps (.one h0 s1) harr⟩
 | panic ch=>exact⟨_,a₁,w₁,hq,.of_steps (.one h0 s1) harr⟩
 | outgrown=>exact⟨_,a₁,w₁,hq,.of_steps (.one h0 s1) harr⟩
theorem bE {c:Code} (AF:Act→World→Prop) (μ:Act→World→Nat) (h₀:AF a w)
 (round: ∀a w,AF a w→MK r P c (Exit.then (fun a' w'=>AF a' w'∧μ a' w'<μ a w) Q) a w):MK r P (Code.loop c) Q a w:=by
 intro b k cs hro hb
 have key: ∀j a w,μ a w=j→AF a w→
  ∃e a' w',Q e a' w'∧ArrivesIn (Machine.fenced P (wide r)) P (lone (b.atR a (.code c:: .inLoop c::k)) cs w) b k cs e a' w':=by
  intro j
  induction j using Nat.strongRecOn with
  | _ j ih=>
    intro a w hn hI;obtain⟨e,a₁,w₁,hq,harr⟩:=round a w hI b (.inLoop c::k) cs hro hb;cases e with
    | normal=>
      obtain⟨hI₁,hlt⟩:=hq;obtain⟨e₂,a₂,w₂,hq₂,harr₂⟩:=ih (μ a₁ w₁) (hn ▸ hlt) a₁ w₁ rfl hI₁;exact⟨e₂,a₂,w₂,hq₂,.of_steps (StepsIn.trans harr (.one (FG rfl) stepR_inLoop)) harr₂⟩
    | exit id=>exact⟨_,a₁,w₁,hq,.pass (x:= .inLoop c) rfl (fun _ _=> .inl (by simp)) harr⟩
    | goto l=>exact⟨_,a₁,w₁,hq,.pass (x:= .inLoop c) rfl (fun _ _=> .inl (by simp)) harr⟩
    | ret=>exact⟨_,a₁,w₁,hq,.pass (x:= .inLoop c) rfl (fun _ _=> .inl (by simp)) harr⟩
    | panic ch=>exact⟨_,a₁,w₁,hq,.pass (x:= .inLoop c) rfl (fun _ _=> .inl (by simp)) harr⟩
    | outgrown=>exact⟨_,a₁,w₁,hq,.pass (x:= .inLoop c) rfl (fun _ _=> .inl (by simp)) harr⟩
 obtain⟨e,a',w',hq,harr⟩:=key _ a w rfl h₀;exact⟨e,a',w',hq,.of_steps (.one (FG rfl) stepR_loop) harr⟩
def VP (r:Option Nat) (P:Program) (l:Nat) (Q:Exit→Act→World→Prop) (a':Act):Ending→World→Prop
 | .returned _,w₃=> ∃jump w₄,(Instr.endLoop l).run P w₃= .ok jump w₄∧
  (match jump with
   | none=>Q .normal a' w₄
   | some c=>MK r P c Q a' w₄)
 | .panicked chain,w₃=>Q (.panic chain) a' w₃
 | .outgrown,_=>False
theorem Ow {g:Operand} {ps:Array Tmp} {assign body:Code}
 (h: ∀fn,rK P fn→ ∃(l:Nat) (mark:List Deferred) (w₁:World) (d:Deferred) (w₁':World) (f:FuncId) (args:Array Value) (w₂:World),
  (Instr.enterLoop fn a.tmps ps assign body r).run P w= .ok (l,mark) w₁∧
  (resolve a.eval (rangeCall g l) 0).run P w₁= .ok d w₁'∧
  (invoke d.target d.args).run P w₁'= .ok (.enter f args) w₂∧
  CallsIn (wide r) 0 P f args w₂ (VP r P l Q {a with defers:=mark++a.defers})) :
 MK r P (Code.rangeFunc g ps assign body) Q a w:=by
 intro b k cs hro hb;obtain⟨l,mark,w₁,d,w₁',f,args,w₂,he,hres,hinv,hF,hcall⟩:=h b.fn hb;rw[←hro]at he;have h0:(lone (b.atR a (.code (.rangeFunc g ps assign body)::k)) cs w).fenced P (wide r):=fenced_lone (.inl trivial) (fun _ _=>trivial) F9;have henter:=stepR_rangeFunc (P:=P) (b:=b) (a:=a) (k:=k) (cs:=cs) (w:=w) he hres hinv;obtain⟨e,w₃,fr,G,hsteps,hfn,hleave⟩:=hcall (b.atR {a with defers:=mark++a.defers} (.inRangeFunc l::k)::cs) F9;cases e with
 | outgrown=>exact G.elim
 | returned v=>
   have hl:(lone fr (b.atR {a with defers:=mark++a.defers} (.inRangeFunc l::k)::cs) w₃).fenced P (wide r):=fenced_lone (.inl trivial) (fun _ _=>trivial) F9;obtain⟨jump,w₄,hend,hj⟩:=G
   have sback:StepsIn (Machine.fenced P (wide r)) P (lone (b.atR a (.code (.rangeFunc g ps assign body)::k)) cs w) (lone (b.atR {a with defers:=mark++a.defers} ((jump.map Item.code).toList++k)) cs w₄):=by
    refine .head h0 henter (StepsIn.trans hsteps (.head hl ?_ (.one (FG rfl) (stepR_endRangeFunc hend))));rw[←finish_atR_inRangeFunc l v];exact step_leave_returned hleave
   cases jump with
   | none=>exact⟨.normal,_,w₄,hj,sback⟩
   | some c=>
     obtain⟨e',a'',w₅,hq,harr⟩:=hj b k cs hro hb;exact⟨e',a'',w₅,hq,.of_steps sback harr⟩
 | panicked chain=>
   have hl:(lone fr (b.atR {a with defers:=mark++a.defers} (.inRangeFunc l::k)::cs) w₃).fenced P (wide r):=fenced_lone (.inl trivial) (fun _ _=>trivial) F9;refine⟨.panic chain,_,w₃,G,.inRangeFunc l::k,.head h0 henter (StepsIn.trans hsteps (.one hl ?_))⟩;rw[←Frame.raise_atR];exact step_leave_panicked hleave
def VL (P:Program) (l:Nat) (R:Ending→World→Prop):Exit→Act→World→Prop
 | .normal,_,w=> ∃v w',(Instr.endRound l none).run P w= .ok v w'∧R (.returned v) w'
 | .ret,_,w=> ∃v w',(Instr.endRound l (some .ret)).run P w= .ok v w'∧R (.returned v) w'
 | .exit id,_,w=> ∃v w',(Instr.endRound l (some (.exit id))).run P w= .ok v w'∧R (.returned v) w'
 | .goto _,_,_=>False
 | .panic ch,a,w=>a.defers= []∧R (.panicked ch) w
 | .outgrown,_,_=>False
theorem Ob {l:Nat} {f:FuncId} {tmps:Array Value} {assign body:Code} {R:Ending→World→Prop} (hF:rK P f)
 (h:MK (some l) P assign (Exit.then (fun a₁ w₁=> ∃w₂,(Instr.beginRound l).run P w₁= .ok () w₂∧MK (some l) P body (VL P l R) a₁ w₂) (fun _ _ _=>False))
  {tmps:=tmps,defers:=[]} w) :
 RoundIn Fence.wide 0 P l f tmps assign body w R:=by
 refine⟨trivial,fun c cs _=>?_⟩
 let b:Frame:={(default:Frame)with fn:=f,kind:= .normal,roundOf:=some l}
 have hb0:Frame.round l f tmps assign body .normal=b.atR {tmps:=tmps,defers:=[]} [.code assign,.beginRound,.code body]:=by
  simp[Frame.round,Frame.atR,b]
 obtain⟨e,a₁,w₁,hq,harr⟩:=h b [.beginRound,.code body] (c::cs) rfl hF;rw[←hb0]at harr;cases e with
 | normal=>
   obtain⟨w₂,hbr,hbody⟩:=hq
   have s1:StepsIn (Machine.fenced P (wide (some l))) P (lone (b.atR a₁ [.beginRound,.code body]) (c::cs) w₁) (lone (b.atR a₁ [.code body]) (c::cs) w₂):=
    .one (FG rfl) (stepR_beginRound rfl hbr)
   obtain⟨e₂,a₂,w₃,hq₂,harr₂⟩:=hbody b [] (c::cs) rfl hF;cases e₂ with
   | normal=>
     obtain⟨v,w₄,hend,G⟩:=hq₂;exact⟨.returned v,w₄,G,(StepsIn.trans harr s1).trans (StepsIn.trans harr₂ (.one (FG rfl) (stepR_round_end rfl rfl hend)))⟩
   | ret=>
     obtain⟨v,w₄,hend,G⟩:=hq₂;obtain⟨k₁,hs⟩:=harr₂.2 rfl;exact⟨.returned v,w₄,G,(StepsIn.trans harr s1).trans (StepsIn.trans hs (.one (FG rfl) (stepR_round_ret rfl rfl hend)))⟩
   | exit id=>
     obtain⟨v,w₄,hend,G⟩:=hq₂;obtain⟨k₁,hk,hs⟩:=harr₂.2 rfl rfl;exact⟨.returned v,w₄,G,(StepsIn.trans harr s1).trans (StepsIn.trans hs (.one (FG rfl) (stepR_round_exit rfl rfl hk hend)))⟩
   | goto t=>exact hq₂.elim
   | panic chain=>
     obtain⟨hd,G⟩:=hq₂;obtain⟨todo,hs⟩:=harr₂;refine⟨.panicked chain,w₃,G,(StepsIn.trans harr s1).trans (StepsIn.trans hs (.one (fenced_lone (.inl trivial) (fun _ _=>trivial) F9) ?_))⟩;exact step_leave_panicked ⟨rfl,hd,hF⟩
   | outgrown=>exact hq₂.elim
 | exit id=>exact hq.elim
 | goto t=>exact hq.elim
 | ret=>exact hq.elim
 | panic chain=>exact hq.elim
 | outgrown=>exact hq.elim
end
def Du (D:Nat):Deferred:={target:= .collected D,args:= #[]}
def Marks (r:Option Nat) (w₀:World) (σ:AG) (w:World) (ds l:List Deferred):Prop:=
 ∃ms:List Nat,l=ms.map Du++ds∧ms.Nodup∧(∀D∈ms,w₀.heap.size≤D∧σ D=none∧w.heap[D]? =some (.deferred (some [])))∧(r≠none→ms= [])
theorem Marks.refl (r:Option Nat) (w₀:World) (σ:AG) (w:World) (ds:List Deferred):Marks r w₀ σ w ds ds:=⟨[],rfl,.nil,(fun _ h=>by cases h),fun _=>rfl⟩
theorem Db {w:World} {n:Nat} {o:Obj} (h:w.heap[n]? =some o):n<w.heap.size:=(qt.1 h).1
theorem Marks.Hb {w₀:World} {σ σ':AG} {w w':World} {ds l:List Deferred} (h:Marks r w₀ σ w ds l) (Y:B5 Λ σ w σ' w'):Marks r w₀ σ' w' ds l:=by
 obtain⟨ms,h1,h2,h3,hr⟩:=h;refine⟨ms,h1,h2,fun D hD=>?_,hr⟩;obtain⟨h4,h5,h6⟩:=h3 D hD;exact⟨h4,Y.names D h5 (Db h6),(Y.frame D (Db h6) h5).trans h6⟩
theorem Marks.trans {w₀ w₁:World} {σ₁ σ:AG} {w:World} {ds l₁ l:List Deferred} (h:Marks r w₀ σ₁ w₁ ds l₁) (Y:B5 Λ σ₁ w₁ σ w) (hs:w₀.heap.size≤w₁.heap.size) (k:Marks r w₁ σ w l₁ l):Marks r w₀ σ w ds l:=by
 obtain⟨ms,rfl,h2,h3,hr1⟩:=h.Hb Y;obtain⟨ms',rfl,h5,h6,hr2⟩:=k
 have h7 : ∀D∈ms,D<w₁.heap.size:=fun D hD=>by
  obtain⟨ms2,e,_,h9,_⟩:=h
  have:ms2=ms:=by
   have:=List.append_cancel_right e
   have hinj: ∀ {l l':List Nat},l.map Du=l'.map Du→l=l':=fun {l l'} hh=>by
    induction l generalizing l' with
    | nil=>cases l' with
      | nil=>rfl
      | cons _ _=>cases hh
    | cons x l ih=>cases l' with
      | nil=>cases hh
      | cons y l'=>
        simp only[List.map_cons,List.cons.injEq,Du]at hh;obtain⟨h1,h2⟩:=hh;have:x=y:=by injection h1 with h1 _;injection h1
        rw[this,ih h2]
   exact(hinj this).symm
  subst this;exact Db (h9 D hD).2.2
 refine⟨ms'++ms,by simp,List.nodup_append.2 ⟨h5,h2,fun a ha b hb e=>?_⟩,fun D hD=>?_,fun h=>by rw[hr1 h,hr2 h];rfl⟩
 ·subst e
  have:=(h6 a ha).1;have:=h7 a hb;omega
 ·rcases FQ.1 hD with hD|hD
  ·exact⟨by have:=(h6 D hD).1;omega,(h6 D hD).2⟩
  ·exact h3 D hD
def C5 (r:Option Nat) (σ:AG) (w:World):Prop:= ∀l,r=some l→σ l=none∧ ∃lp,w.heap[l]? =some (.loop lp)
theorem C5.Hb {r:Option Nat} {σ σ':AG} {w w':World} (h:C5 r σ w) (Y:B5 Λ σ w σ' w'):C5 r σ' w':=fun l hl=>by
 obtain⟨h1,lp,h2⟩:=h l hl;exact⟨Y.names l h1 (Db h2),lp,(Y.frame l (Db h2) h1).trans h2⟩
theorem C5.none {σ:AG} {w:World}:C5 Option.none σ w:=fun _ h=>by cases h
def Gc (r:Option Nat) (Λ:Nat→Prop) (σ₀:AG) (w₀:World) (N:Nat) (ds:List Deferred) (Q:Ae→Env→AG→Prop) (e:Exit) (a:Act) (w:World):Prop:=
 ∃ex env σ,Q ex env σ∧De (Hh Λ σ w) ex e∧CQ (Hh Λ σ w) env a.tmps∧Rel Λ σ w∧B5 Λ σ₀ w₀ σ w∧a.tmps.size=N∧Marks r w₀ σ w ds a.defers
theorem Jv.t {σ₀:AG} {w₀:World} {Q:Ae→Env→AG→Prop} {e:Exit} {a:Act} {w:World} (h:Jv Λ σ₀ w₀ N ds Q e a w):Gc r Λ σ₀ w₀ N ds Q e a w:=by
 obtain⟨ex,env,σ,h1,h2,h3,h4,h5,h6,h7⟩:=h;exact⟨ex,env,σ,h1,h2,h3,h4,h5,h6,by rw[h7];exact Marks.refl _ _ _ _ _⟩
theorem Gc.trans {σ₀ σ₁:AG} {w₀ w₁:World} {ds₁:List Deferred} {Q:Ae→Env→AG→Prop} {e:Exit} {a:Act} {w:World} (Y:B5 Λ σ₀ w₀ σ₁ w₁) (hM:Marks r w₀ σ₁ w₁ ds ds₁) (h:Gc r Λ σ₁ w₁ N ds₁ Q e a w):Gc r Λ σ₀ w₀ N ds Q e a w:=by
 obtain⟨ex,env,σ,h1,h2,h3,h4,h5,h6,h7⟩:=h;exact⟨ex,env,σ,h1,h2,h3,h4,Y.trans h5,h6,hM.trans h5 Y.size h7⟩
theorem Gc.mono {σ₀:AG} {w₀:World} {Q Q':Ae→Env→AG→Prop} {e:Exit} {a:Act} {w:World} (h:Gc r Λ σ₀ w₀ N ds Q e a w) (hq: ∀ex env σ,Q ex env σ→Q' ex env σ):Gc r Λ σ₀ w₀ N ds Q' e a w:=by
 obtain⟨ex,env,σ,h1,h2⟩:=h;exact⟨ex,env,σ,hq _ _ _ h1,h2⟩
theorem XG {w:World} {b o:Nat} {ob:Obj} (h:w.heap[b]? =some ob) (hc:ob.isCells=false):w.cell? ⟨b,o,none⟩=none:=by
 unfold World.cell?;rw[h];cases ob<;>first|rfl|(simp[Obj.isCells]at hc)
theorem RG {σ:AG} {w:World} {L:Nat} {ob ob':Obj} (h:w.heap[L]? =some ob) (hc:ob.isCells=false):V7 (Hh Λ σ w) (Hh Λ σ (w.putObj L ob')):=by
 intro b o c hb;obtain⟨h1,h2,h3⟩:=FM hb;rw[L2 h1 h2];by_cases he:b=L
 ·subst he
  rw[XG h hc]at h3;cases h3
 ·rw[←h3]
  exact World.cell?_of_block (w:=w) (World.putObj_heap_other he)
theorem Rel.put {σ:AG} {w:World} {L:Nat} {ob ob':Obj} (G:Rel Λ σ w) (hL:σ L=none) (h:w.heap[L]? =some ob) (hc:ob.isCells=false):Rel Λ σ (w.putObj L ob') where
 own n o ho:=by
  obtain⟨h1,o',h2,h3⟩:=G.own n o ho;have:n≠L:=fun e=>by subst e;rw[hL]at ho;cases ho
  exact⟨h1,o',(World.putObj_heap_other this).trans h2,Ou.mono (RG h hc) h3⟩
 lock n hn:=by simpa using G.lock n hn
theorem Oz {g:Operand} {ps:Array Tmp} {as bd:Code} {ac:AJ} (h:res P N pu fz (.rangeFunc g ps as bd)=some ac) :
 ∃g' a b,BR g=some g'∧res P N pu fz as=some a∧res P N pu fz bd=some b∧(∀p∈ps.toList,p<N)∧ac= .Cg [] g' ps.toList a b:=by
 simp only[res]at h;split at h
 ·rename_i g' a b h1 h2 h3
  split at h
  ·rename_i hp
   cases h;rw[GL]at hp;exact⟨g',a,b,h1,h2,h3,fun p hp'=>by have:=hp p hp';rwa [Nat.blt_eq]at this,rfl⟩
  ·cases h
 ·cases h
theorem FL: ∀ {c:Code} {ac:AJ},res P N pu fz c=some (erase ac)→ ∀ {Q:Ae→Env→AG→Prop} {env:Env} {σ:AG} {a:Act} {w:World},T P ac Q env σ→
 CQ (Hh Λ σ w) env a.tmps→Rel Λ σ w→a.tmps.size=N→C5 r σ w→MK r P c (Gc r Λ σ w N a.defers Q) a w:=by
 intro c
 induction c with
 | skip=>
   intro ac hc Q env σ a w h he G hN hrd;cases ac<;>simp only[res,erase,Ha,reduceCtorEq]at hc
   exact G9 (n:=0) <| wpIn_skip ⟨.normal,env,σ,h,rfl,he,G,B5.refl _ _ _,hN,Marks.refl _ _ _ _ _⟩
 | label l=>
   intro ac hc Q env σ a w h he G hN hrd;cases ac<;>simp only[res,erase,Ha,reduceCtorEq]at hc
   exact G9 (n:=0) <| wpIn_label ⟨.normal,env,σ,h,rfl,he,G,B5.refl _ _ _,hN,Marks.refl _ _ _ _ _⟩
 | ret=>
   intro ac hc Q env σ a w h he G hN hrd;cases ac<;>simp only[res,erase,Ha,reduceCtorEq]at hc
   exact G9 (n:=0) <| wpIn_ret ⟨.ret,env,σ,h,rfl,he,G,B5.refl _ _ _,hN,Marks.refl _ _ _ _ _⟩
 | exit id=>
   intro ac hc Q env σ a w h he G hN hrd;cases ac<;>simp only[res,erase,Ha,reduceCtorEq,AJ.exit.injEq]at hc
   subst hc;exact G9 (n:=0) <| wpIn_exit ⟨.exit _,env,σ,h,rfl,he,G,B5.refl _ _ _,hN,Marks.refl _ _ _ _ _⟩
 | seq x y ihx ihy=>
   intro ac hc Q env σ a w h he G hN hrd;simp only[res]at hc;split at hc
   ·rename_i ax ay h1 h2
    cases ac<;>simp only[erase,Ha,reduceCtorEq,AJ.seq.injEq]at hc
    rename_i l ax' ay';obtain⟨_,rfl,rfl⟩:=hc;simp only[T]at h;refine Jx (Cl (ihx h1 h he G hN hrd) ?_);rintro e a' w' ⟨ex,env',σ',hq,hx,he',hR',Y,hN',hM'⟩;cases ex with
    | normal=>
      simp only[De]at hx;subst hx;exact Cl (ihy h2 hq (he'.prune l) hR' hN' (hrd.Hb Y)) fun e a w hp=>hp.trans Y hM'
    | exit id=>simp only[De]at hx;subst hx;exact⟨.exit id,env',σ',hq,rfl,he',hR',Y,hN',hM'⟩
    | ret=>simp only[De]at hx;subst hx;exact⟨.ret,env',σ',hq,rfl,he',hR',Y,hN',hM'⟩
    | Bi v=>obtain⟨c,rfl,hv⟩:=hx;exact⟨.Bi v,env',σ',hq,⟨c,rfl,hv⟩,he',hR',Y,hN',hM'⟩
   ·cases hc
 | cond c x y ihx ihy=>
   intro ac hc Q env σ a w h he G hN hrd;simp only[res]at hc;split at hc
   ·rename_i c' ax ay h0 h1 h2
    cases ac<;>simp only[erase,Ha,reduceCtorEq,AJ.cond.injEq]at hc
    obtain⟨rfl,rfl,rfl⟩:=hc;simp only[T]at h;split at h
    ·rename_i t ht
     have hv:=Al he h0 ht;simp only[AZ]at hv;exact bF hv (fun e=>ihx h1 (h.1 e) he G hN hrd) (fun e=>ihy h2 (h.2 e) he G hN hrd)
    ·exact h.elim
   ·cases hc
 | block id x ih=>
   intro ac hc Q env σ a w h he G hN hrd;obtain⟨ax,h1,hc⟩:=Ag hc;cases ac<;>simp only[erase,reduceCtorEq,AJ.block.injEq]at hc
   obtain⟨rfl,rfl⟩:=hc;simp only[T]at h;refine Xl (Cl (ih h1 h he G hN hrd) ?_);rintro e a' w' ⟨ex,env',σ',hq,hx,he',hR',Y,hN',hM'⟩;cases ex with
   | normal=>simp only[De]at hx;subst hx;exact⟨.normal,env',σ',hq,rfl,he',hR',Y,hN',hM'⟩
   | exit id'=>
     simp only[De]at hx;subst hx;simp only[Ae.inBlock]at hq;simp only[Exit.inBlock];cases hb:Nat.beq id' id with
     | true=>
       rw[hb]at hq;simp only[cond_true]at hq;rw[if_pos (Nat.eq_of_beq_eq_true hb)];exact⟨.normal,env',σ',hq,rfl,he',hR',Y,hN',hM'⟩
     | false=>
       rw[hb]at hq;simp only[cond_false]at hq;rw[if_neg (Nat.ne_of_beq_eq_false hb)];exact⟨.exit id',env',σ',hq,rfl,he',hR',Y,hN',hM'⟩
   | ret=>simp only[De]at hx;subst hx;exact⟨.ret,env',σ',hq,rfl,he',hR',Y,hN',hM'⟩
   | Bi v=>obtain⟨c,rfl,hv⟩:=hx;exact⟨.Bi v,env',σ',hq,⟨c,rfl,hv⟩,he',hR',Y,hN',hM'⟩
 | scope x ih=>
   intro ac hc Q env σ a w h he G hN hrd;obtain⟨ax,h1,hc⟩:=Ag hc;cases ac<;>simp only[erase,reduceCtorEq,AJ.scope.injEq]at hc
   subst hc;simp only[T]at h;refine Xk (Cl (ih h1 h he G hN hrd) ?_);rintro e a' w' ⟨ex,env',σ',hq,hx,he',hR',Y,hN',hM'⟩;cases ex with
   | normal=>simp only[De]at hx;subst hx;exact⟨.normal,env',σ',hq,rfl,he',hR',Y,hN',hM'⟩
   | exit id=>simp only[De]at hx;subst hx;exact⟨.exit id,env',σ',hq,rfl,he',hR',Y,hN',hM'⟩
   | ret=>simp only[De]at hx;subst hx;exact⟨.ret,env',σ',hq,rfl,he',hR',Y,hN',hM'⟩
   | Bi v=>obtain⟨c,rfl,hv⟩:=hx;exact⟨.Bi v,env',σ',hq,⟨c,rfl,hv⟩,he',hR',Y,hN',hM'⟩
 | loop x ih=>
   intro ac hc Q env σ a w h he G hN hrd;obtain⟨ax,h1,hc⟩:=Ag hc;cases ac<;>simp only[erase,reduceCtorEq,AJ.loop.injEq]at hc
   rename_i keep ac' _;obtain⟨_,rfl⟩:=hc;simp only[T]at h;obtain⟨AF,⟨n0,h0⟩,hround⟩:=h
   let J:Nat→Act→World→Prop:=fun m a' w'=> ∃env' σ',AF m env' σ'∧CQ (Hh Λ σ' w') env' a'.tmps∧Rel Λ σ' w'∧B5 Λ σ w σ' w'∧a'.tmps.size=N∧Marks r w σ' w' a.defers a'.defers
   have hmin: ∀a' w',(∃m,J m a' w')→ ∃m,J m a' w'∧ ∀k,J k a' w'→m≤k:=fun a' w' hex=>Vn hex
   classical
   refine bE (fun a' w'=> ∃m,J m a' w') (fun a' w'=>if hx: ∃m,J m a' w' then Classical.choose (hmin a' w' hx)else 0) ⟨n0,Gl.prune keep env,σ,h0,he.prune keep,G,B5.refl _ _ _,hN,Marks.refl _ _ _ _ _⟩ ?_;intro a' w' hex;have hspec:=(Classical.choose_spec (hmin a' w' hex)).1;obtain⟨env',σ',hI,he',hR',hA',hN',hM'⟩:=hspec;refine Cl (ih h1 (hround _ env' σ' hI) he' hR' hN' (hrd.Hb hA')) ?_;rintro e a'' w'' ⟨ex,env'',σ'',hq,hx,he'',hR'',hA'',hN'',hM''⟩;have hM3:=hM'.trans hA'' hA'.size hM'';cases ex with
   | normal=>
     simp only[De]at hx;subst hx;obtain⟨m,hm,hI'⟩:=hq;have hJ:J m a'' w'':=⟨_,σ'',hI',he''.prune keep,hR'',hA'.trans hA'',hN'',hM3⟩
     refine⟨⟨m,hJ⟩,?_⟩;rw[dif_pos hex,dif_pos ⟨m,hJ⟩];exact Nat.lt_of_le_of_lt ((Classical.choose_spec (hmin a'' w'' ⟨m,hJ⟩)).2 m hJ) hm
   | exit id=>simp only[De]at hx;subst hx;exact⟨.exit id,env'',σ'',hq,rfl,he'',hR'',hA'.trans hA'',hN'',hM3⟩
   | ret=>simp only[De]at hx;subst hx;exact⟨.ret,env'',σ'',hq,rfl,he'',hR'',hA'.trans hA'',hN'',hM3⟩
   | Bi v=>obtain⟨c,rfl,hv⟩:=hx;exact⟨.Bi v,env'',σ'',hq,⟨c,rfl,hv⟩,he'',hR'',hA'.trans hA'',hN'',hM3⟩
 | region id ops draw=>
   intro ac hc Q env σ a w h he G hN hrd;simp only[res]at hc;split at hc
   ·cases hc
   ·rename_i as h1
    obtain⟨h2,h3⟩:=Fg h1;cases draw with
    | false=>
      simp only[cond_false,Ha]at hc;cases ac<;>simp only[erase,reduceCtorEq,AJ.A2.injEq]at hc
      subst hc;simp only[T]at h;refine G9 (n:=0) <| wpIn_mono (wpIn_region (Q:=Jv Λ σ w N a.defers Q) ?_) fun _ _ _ h=>h.t
      rw[List.range_eq_range',show ops.size=as.length by simpa using h2];exact N3 (fun _ _ h=>h) (fun _ _ _ h=>h) as 0 (fun i o ho=>h3 i o (by simpa using ho)) (by simpa using h2) env σ a w h he G (B5.refl _ _ _) hN rfl
    | true=>
      simp only[cond_true]at hc;cases hm:P.follows .mixedOrders with
      | false=>rw[hm]at hc;cases hc
      | true=>
        rw[hm]at hc;simp only[cond_true]at hc;obtain⟨AE,hC,hc⟩:=Ag hc;cases ac<;>simp only[erase,reduceCtorEq,AJ.BC.injEq]at hc
        obtain⟨_,rfl⟩:=hc;simp only[T]at h;exact G9 (n:=0) <| wpIn_mono (Vr hm h1 hC h he G hN rfl) fun _ _ _ h=>h.t
 | rangeFunc g ps as bd ih1 ih2=>
   intro ac hc Q env σ a w h he G hN hrd;obtain⟨g',ac1,ac2,h1,h2,h3,h4,hc⟩:=Oz hc;cases ac<;>simp only[erase,reduceCtorEq,AJ.Cg.injEq]at hc
   rename_i keep g1 ps1 aa ab _;obtain⟨_,rfl,rfl,rfl,rfl⟩:=hc;simp only[T]at h;split at h
   ·rename_i gf cap hg
    have hgv:=Al he h1 hg;obtain⟨f',c',e1,e2,e3,e4,e5⟩:=hgv;have e2':f'= #[]:=Array.size_eq_zero_iff.1 e2;subst e2';refine Ow fun fn hfnP=>?_
    obtain ⟨L,mark,W1,lp,hrun,hlp,hfr,hR1,hA1,hM1,hrd1⟩: ∃(L:Nat) (mark:List Deferred) (W1:World) (lp:Loop),(Instr.enterLoop fn a.tmps ps as bd r).run P w= .ok (L,mark) W1∧
     (W1.heap[L]? =some (.loop lp)∧lp.state= .ready∧lp.pending=none∧lp.tmps=a.tmps∧lp.params=ps∧lp.assign=as∧lp.body=bd)∧σ L=none∧
     Rel Λ (BI σ L (.loop .ready (Gl.prune keep env) (By P ps.toList aa ab))) W1∧B5 Λ σ w (BI σ L (.loop .ready (Gl.prune keep env) (By P ps.toList aa ab))) W1∧Marks r w (BI σ L (.loop .ready (Gl.prune keep env) (By P ps.toList aa ab))) W1 a.defers (mark++a.defers)∧
     C5 r (BI σ L (.loop .ready (Gl.prune keep env) (By P ps.toList aa ab))) W1:=by
     have hor: ∀(w':World) (lp:Loop),Rel Λ σ w'→B5 Λ σ w σ w'→lp.state= .ready→lp.pending=none→lp.tmps=a.tmps→lp.params=ps→lp.assign=as→lp.body=bd→lp.fn=fn→
      Ou (Hh Λ σ w') (.loop .ready (Gl.prune keep env) (By P ps.toList aa ab)) (.loop lp):=fun w' lp hR' hA' q1 q2 q3 q4 q5 q6 q7=>by
      refine⟨lp,rfl,⟨q1,q2⟩,fun k v hm=>?_,?_⟩
      ·rw[q3]
       have hg':get k env=some v:=Lc hm;obtain⟨c,hc1,hc2⟩:=he k v hg';exact⟨c,hc1,hc2.mono hA'.hle⟩
      ·rw[q3,q4,q5,q6,q7]
       exact⟨hfnP,rfl,by rw[hN];exact h4,pu,fz,by rw[hN];exact h2,by rw[hN];exact h3⟩
     clear ih1 ih2 h;cases r with
     | none=>
       refine⟨w.heap.size+1,_,_,{state:= .ready,pending:=none,fn,tmps:=a.tmps,params:=ps,assign:=as,body:=bd,defers:=w.heap.size},run_enterLoop_outer fn a.tmps ps as bd,?_⟩;have hsz:(w.alloc (.deferred (some []))).heap.size=w.heap.size+1:=by simp
       have hnew:=World.alloc_heap_new (w.alloc (.deferred (some []))) (.loop {state:= .ready,pending:=none,fn,tmps:=a.tmps,params:=ps,assign:=as,body:=bd,defers:=w.heap.size});rw[hsz]at hnew;have hRa:=JT G (.deferred (some []));have hAa:B5 Λ σ w σ (w.alloc (.deferred (some []))):=HP w _
       have hAb:B5 Λ σ (w.alloc (.deferred (some []))) (BI σ (w.heap.size+1) (.loop .ready (Gl.prune keep env) (By P ps.toList aa ab))) ((w.alloc (.deferred (some []))).alloc (.loop {state:= .ready,pending:=none,fn,tmps:=a.tmps,params:=ps,assign:=as,body:=bd,defers:=w.heap.size})):=by
        rw[←hsz];exact Di _ _
       have hfr:σ w.heap.size=none:=by
        cases hs:σ w.heap.size with
        | none=>rfl
        | some o=>exact absurd (G.lt hs) (Nat.lt_irrefl _)
       refine⟨⟨hnew,rfl,rfl,rfl,rfl,rfl,rfl⟩,?_,?_,hAa.trans hAb,?_,?_⟩
       ·cases hs:σ (w.heap.size+1)with
        | none=>rfl
        | some o=>have:=G.lt hs;omega
       ·rw[←hsz]
        exact Gu hRa (hor _ _ hRa hAa rfl rfl rfl rfl rfl rfl rfl)
       ·refine Marks.Hb (Λ:=Λ) (σ:=σ) (w:=w.alloc (.deferred (some []))) ?_ hAb
        exact⟨[w.heap.size],rfl,by simp,fun D hD=>by
         rw[List.mem_singleton]at hD;subst hD
         exact⟨Nat.le_refl _,hfr,World.alloc_heap_new w _⟩,fun hne=>absurd rfl hne⟩
       ·exact(hrd.Hb hAa).Hb hAb
     | some l0=>
       obtain⟨hl1,lp0,hl2⟩:=hrd l0 rfl;refine⟨w.heap.size,_,_,{state:= .ready,pending:=none,fn,tmps:=a.tmps,params:=ps,assign:=as,body:=bd,defers:=lp0.defers},run_enterLoop_inner hl2 fn a.tmps ps as bd,?_⟩;refine⟨⟨World.alloc_heap_new w _,rfl,rfl,rfl,rfl,rfl,rfl⟩,?_,Gu G (hor _ _ G (B5.refl _ _ _) rfl rfl rfl rfl rfl rfl rfl),Di _ _,Marks.Hb (Λ:=Λ) (Marks.refl _ _ _ _ _) (Di _ _),hrd.Hb (Λ:=Λ) (Di _ _)⟩;cases hs:σ w.heap.size with
       | none=>rfl
       | some o=>exact absurd (G.lt hs) (Nat.lt_irrefl _)
    obtain⟨hok,hctr⟩:=h L hfr;refine⟨L,mark,W1,{target:= .fn (.func gf) c',args:= #[.func (.yield L) #[] #[]]},W1,gf,#[.func (.yield L) #[] #[]]++c',W1,hrun,?_,?_,?_⟩
    ·simp only[resolve,e1]
     simp[go_sem]
    ·simp only[invoke]
     exact HQ hok _ _
    ·refine I3 ?_
     have hargs:ZH (Hh Λ (BI σ L (.loop .ready (Gl.prune keep env) (By P ps.toList aa ab))) W1) (.f (.yield L) [] []::cap) (#[.func (.yield L) #[] #[]]++c'):=by
      have h0:ZH (Hh Λ (BI σ L (.loop .ready (Gl.prune keep env) (By P ps.toList aa ab))) W1) [.f (.yield L) [] []] #[.func (.yield L) #[] #[]]:=
       ⟨rfl,⟨_,rfl,#[],#[],rfl,rfl,trivial,rfl,trivial⟩,trivial⟩
      exact HJ h0 ⟨e4,BV.mono hA1.hle (fun _ _ e=>e) _ _ e5⟩
     refine Calls.mono (hctr Λ W1 _ hR1 hargs) ?_;rintro e W2 ⟨rr,σ2,hq,hrr,hR2,hA2⟩;cases rr with
     | Bi v=>
       obtain⟨c,rfl,hv⟩:=hrr;have hsub:=FI σ2 L
       exact⟨.Bi v,env,del σ2 L,hq,⟨c,rfl,hv.mono (El fun n hn=>hsub.none hn)⟩,(he.mono (hA1.trans hA2).hle).mono (El fun n hn=>hsub.none hn),hR2.drop hsub,(hA1.trans hA2).trans (B5.drop W2 hsub),hN,
        (hM1.Hb hA2).Hb (B5.drop (Λ:=Λ) W2 hsub)⟩
     | ret v=>
       obtain⟨c,rfl,hv⟩:=hrr;obtain⟨st,env1,ok,hL2,hq⟩:=hq;have hsub:=FI σ2 L;obtain⟨hnl,ob,hob,lp2,rfl,hst,_,_⟩:=hR2.own L _ hL2;have hRd:=hR2.drop hsub;have hRf:Rel Λ (del σ2 L) (W2.putObj L (.loop {lp2 with state:= .exhausted})):=hRd.put (DI σ2 L) hob rfl
       have hAf:B5 Λ σ2 W2 (del σ2 L) (W2.putObj L (.loop {lp2 with state:= .exhausted})):=by
        refine⟨fun n hn h0=>World.putObj_heap_other fun e=>?_,by simp,rfl,rfl,rfl,fun n h0 _=>hsub.none h0⟩;subst e;rw[hL2]at h0;cases h0
       have hend:=run_endLoop (P:=P) hob (by cases st<;>simp only[rB]at hst<;>rw[hst.1]<;>simp);generalize W2.putObj L (.loop {lp2 with state:= .exhausted})=W3 at hRf hAf hend;have hAA:=(hA1.trans hA2).trans hAf;have hMM:=(hM1.Hb hA2).Hb hAf;refine⟨lp2.pending,_,hend,?_⟩;cases st with
       | ready=>
         rw[hst.2];exact⟨.normal,env,del σ2 L,hq,rfl,he.mono hAA.hle,hRf,hAA,hN,hMM⟩
       | ret=>
         rw[hst.2];exact G9 (n:=0) <| wpIn_ret ⟨.ret,env,del σ2 L,hq,rfl,he.mono hAA.hle,hRf,hAA,hN,hMM⟩
       | exit id=>
         rw[hst.2];exact G9 (n:=0) <| wpIn_exit ⟨.exit id,env,del σ2 L,hq,rfl,he.mono hAA.hle,hRf,hAA,hN,hMM⟩
   ·exact h.elim
 | goto l=>intro ac hc;cases hc
 | refuse s=>intro ac hc;cases hc
end Go.Gl
