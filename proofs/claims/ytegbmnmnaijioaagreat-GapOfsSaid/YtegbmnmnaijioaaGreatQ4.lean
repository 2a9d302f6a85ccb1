import Derived.Scope
import Derived.OrdersIn
import Derived.RangeFuncWrites
import Derived.RangeFuncNested
import Derived.RangeFuncLeaves
import Derived.Test.YtegbmnmnaijioaaGreatQ3
set_option linter.all false
set_option linter.defProp false
set_option maxHeartbeats 8000000
noncomputable section
namespace Go.Gl
def DV.refl (Z Z':AE): ∀vs,DV Z Z' vs vs
 | []=> .nil
 | _::vs=> .cons (.refl _) (DV.refl Z Z' vs)
def FR.refl (Z Z':AE): ∀vs,FR Z Z' vs vs
 | []=> .nil
 | _::vs=> .cons (DV.refl Z Z' _) (FR.refl Z Z' vs)
def DV.length {Z Z':AE}: ∀ {vs vs':List V},DV Z Z' vs vs'->vs'.length=vs.length
 | _,_,.nil=>rfl
 | _,_,.cons _ h=>by simp[h.length]
def FR.length {Z Z':AE}: ∀ {vs vs':List (List V)},FR Z Z' vs vs'->vs'.length=vs.length
 | _,_,.nil=>rfl
 | _,_,.cons _ h=>by simp[h.length]
variable {P:Program} {F:Nat->Prop}
def NG {Z Z':AE} {w:World} (hR:Rel F Z w) (n:Nat) {o:O} (hn:Z n=some o) (hn':Z' n=none) {c:Array Value} {e:TypeId} {fr:Nat×Nat} (hb:w.heap[n]? =some (.cells c e fr)) (i:Nat) (v:Value) (hv:c[i]? =some v):Hh F Z' w n i=some v:=by
 rw[Ot (hR.own n _ hn).1 hn',Dd hb];exact hv
mutual
def Fw.Hq {Z Z':AE} {w:World} (hR:Rel F Z w) (hs: ∀n,Z n=none->Z' n=none): ∀ {v v':V} {c:Value},Fw Z Z' v v'->Ag (Hh F Z w) v c->Ag (Hh F Z' w) v' c
 | _,_,_,.refl v,h=>h.mono (FJ hs)
 | _,_,_,.arr (n:=n) (sz:=sz) hn hn' hl hr,h=>by
   obtain⟨rfl,h2⟩:=h;subst hl;obtain⟨c,e,h3,h4,h5,h6,h7⟩:=FF hR hn;have hlen:=hr.length;refine⟨some ⟨n,0,none⟩,_,by rw[hlen],by rw[hlen];exact h2,by simp,by rw[hlen];exact h6,by simp,fun _=>⟨n,0,sz,rfl,?_⟩⟩;exact FR.Hq hR hs (fun i v hv=>NG hR n hn hn' h3 i v hv) hr h7
 | _,_,_,.cs (n:=n) hn hn' hr,h=>by
   simp only[Ag]at h;subst h;obtain⟨c,e,h3,h4,h5⟩:=Kq hR hn;exact⟨n,0,rfl,DV.Hq hR hs (fun i v hv=>NG hR n hn hn' h3 i v hv) hr h5⟩
 | _,_,_,.a hr,h=>by
   obtain⟨c',rfl,h2,h3⟩:=h;exact⟨c',rfl,by rw[hr.length];exact h2,DV.Hq hR hs (fun _ _ e=>e) hr h3⟩
 | _,_,_,.t hr,h=>by
   obtain⟨c',rfl,h2,h3⟩:=h;exact⟨c',rfl,by rw[hr.length];exact h2,DV.Hq hR hs (fun _ _ e=>e) hr h3⟩
 | _,_,_,.FO hr,h=>by
   obtain⟨c',rfl,h2⟩:=h;exact⟨c',rfl,Fw.Hq hR hs hr h2⟩
 | _,_,_,.l hf hr,h=>by
   obtain⟨a,cap,rfl,h2,h3,h4,h5,h6⟩:=h;have hl:=hr.length;refine⟨a,cap,by rw[hl],by rw[hl];exact h2,fun e=>by rw[hl];exact h3 (hf e),by rw[hl];exact h4,h5,fun hne=>?_⟩;obtain⟨b,o,sz,h7,h8⟩:=h6 (by intro e;subst e;cases hr;exact hne rfl);exact⟨b,o,sz,h7,FR.Hq hR hs (fun i v hv=>FJ hs b i v hv) hr h8⟩
 | _,_,_,.rp hr,h=>by
   obtain⟨b,o,rfl,h2⟩:=h;exact⟨b,o,rfl,DV.Hq hR hs (fun i v hv=>FJ hs b i v hv) hr h2⟩
 | _,_,_,.f h1 h2,h=>by
   obtain⟨f',c',rfl,h3,h4,h5,h6⟩:=h;exact⟨f',c',rfl,by rw[h1.length];exact h3,DV.Hq hR hs (fun _ _ e=>e) h1 h4,by rw[h2.length];exact h5,DV.Hq hR hs (fun _ _ e=>e) h2 h6⟩
 | _,_,_,.any,_=>trivial
def DV.Hq {Z Z':AE} {w:World} (hR:Rel F Z w) (hs: ∀n,Z n=none->Z' n=none) {g g':Nat->Option Value} (hg: ∀i c,g i=some c->g' i=some c): ∀ {vs vs':List V} {o:Nat},DV Z Z' vs vs'->Ba (Hh F Z w) g o vs->Ba (Hh F Z' w) g' o vs'
 | _,_,_,.nil,_=>trivial
 | _,_,_,.cons h1 h2,⟨⟨c,hc,hv⟩,h3⟩=>⟨⟨c,hg _ _ hc,Fw.Hq hR hs h1 hv⟩,DV.Hq hR hs hg h2 h3⟩
def FR.Hq {Z Z':AE} {w:World} (hR:Rel F Z w) (hs: ∀n,Z n=none->Z' n=none) {g g':Nat->Option Value} (hg: ∀i c,g i=some c->g' i=some c) {sz:Nat}: ∀ {vs vs':List (List V)} {o:Nat},FR Z Z' vs vs'->BJ (Hh F Z w) g sz o vs->BJ (Hh F Z' w) g' sz o vs'
 | _,_,_,.nil,_=>trivial
 | _,_,_,.cons h1 h2,⟨hl,hv,h3⟩=>⟨by rw[h1.length];exact hl,DV.Hq hR hs hg h1 hv,FR.Hq hR hs hg h2 h3⟩
end
def Fw.rel {Z Z':AE} {w:World} (hR:Rel F Z w) (hs:Sub Z' Z) {v v':V} {c:Value} (h:Fw Z Z' v v') (hv:Ag (Hh F Z w) v c):Ag (Hh F Z' w) v' c:=Fw.Hq hR (fun _ hn=>hs.none hn) h hv
def DV.rel {Z Z':AE} {w:World} (hR:Rel F Z w) (hs:Sub Z' Z) {g g':Nat->Option Value} (hg: ∀i c,g i=some c->g' i=some c) {vs vs':List V} {o:Nat} (h:DV Z Z' vs vs') (hv:Ba (Hh F Z w) g o vs):Ba (Hh F Z' w) g' o vs':=DV.Hq hR (fun _ hn=>hs.none hn) hg h hv
def FR.rel {Z Z':AE} {w:World} (hR:Rel F Z w) (hs:Sub Z' Z) {g g':Nat->Option Value} (hg: ∀i c,g i=some c->g' i=some c) {sz:Nat} {vs vs':List (List V)} {o:Nat} (h:FR Z Z' vs vs') (hv:BJ (Hh F Z w) g sz o vs):BJ (Hh F Z' w) g' sz o vs':=FR.Hq hR (fun _ hn=>hs.none hn) hg h hv
structure zN (Z Z2:AE):Prop where
 h: ∀n o2,Z2 n=some o2->Z n=some o2\/ ∃vs vs2,Z n=some (.cs vs)/\o2= .cs vs2/\DV Z Z2 vs vs2
def zN.none {Z Z2:AE} (h:zN Z Z2) {n:Nat} (hn:Z n=none):Z2 n=none:=by
 cases h':Z2 n with
 | none=>rfl
 | some o2=>
   rcases h.h n o2 h' with h1|⟨vs,vs2,h1,-⟩
   .rw[hn]at h1;cases h1
   .rw[hn]at h1;cases h1
def Rel.fz {Z Z2:AE} {w:World} (hR:Rel F Z w) (h:zN Z Z2):Rel F Z2 w where
 own n o2 ho:=by
  rcases h.h n o2 ho with h1|⟨vs,vs2,h1,rfl,hf⟩
  .obtain⟨q1,ob,q2,q3⟩:=hR.own n o2 h1
   exact⟨q1,ob,q2,QF.mono (FJ fun n hn=>h.none hn) q3⟩
  .obtain⟨q1,ob,q2,c,e,q3,q4,q5⟩:=hR.own n _ h1
   exact⟨q1,ob,q2,c,e,q3,by rw[hf.length];exact q4,hf.Hq hR (fun _ hn=>h.none hn) (fun _ _ e=>e) q5⟩
 lock:=hR.lock
def B8.fz {Z Z2:AE} (w:World) (h:zN Z Z2):B8 F Z w Z2 w:=
 ⟨fun _ _ _=>rfl,IW _,rfl,rfl,rfl,fun _ hn _=>h.none hn⟩
def ZW {Z:AE} {sz b:Nat} {x y:Bn} {env:Env} {k kp:V->AE->Prop} (h:Fp P (.Sh sz b x y) env Z k kp) :
    Fp P (.append sz b x y) env Z (fun v Z1=> ∃vf Z2,Sub Z2 Z1/\Fw Z1 Z2 v vf/\k vf Z2) kp:=by
 simp only[Fp]at *;refine Bs h fun vx h=>Bs h fun vy h=>?_
 unfold AY at h;unfold AK;refine E0 h fun ys ⟨h1,h2⟩=>⟨h1,?_⟩
 cases vx<;>first|exact h2.elim|skip
 rename_i es full;simp only at *;obtain⟨h3,h4,h5,h6⟩:=h2;refine⟨h3,h4,fun e=>?_,fun e=>⟨h5 e,fun n cap hn hc=>?_⟩⟩
 .subst e
  rw[GA]at h6;exact⟨_,Z,fun _ _ h=>h,.l (fun h=>(by cases h)) (.refl _ _ _),h6⟩
 .exact⟨_,Z,HG hn,.arr (Nk) hn (by simp) (.refl _ _ _),h6⟩
def qA {Z:AE} {x:Bn} {env:Env} {k kp:V->AE->Prop} (h:Fp P (.PM x) env Z k kp) :
    Fp P (.box x) env Z (fun v Z1=> ∃vf Z2,Sub Z2 Z1/\Fw Z1 Z2 v vf/\k vf Z2) kp:=by
 simp only[Fp]at *;refine Bs h fun vx h=>?_
 split at h
 .exact fun n hn=>⟨_,Z,HG hn,.cs Nk hn (.refl _ _ _),h⟩
 .exact h.elim
end Go.Gl
namespace Go.Gl
inductive AV where
 | skip
 | C9 (ops:List Ar)
 | HU (l:List Nat) (ops:List Cq)
 | seq (l:List Nat) (a b:AV)
 | cond (c:Bn) (a b:AV)
 | block (id:Nat) (a:AV)
 | loop (l:List Nat) (a:AV)
 | exit (id:Nat)
 | ret
 | scope (a:AV)
 | D2 (l:List Nat) (g:Bn) (ps:List Nat) (a b:AV)
 deriving Inhabited
inductive Ac where
 | normal
 | exit (id:Nat)
 | ret
 | Bj (v:V)
def prune:List Nat->Env->Env
 | [],_=>[]
 | s::r,env=>match get s env with
   | some v=>(s,v)::prune r env
   | none=>prune r env
def EFz (Z Z2:AE) (env env2:Env):Prop:= ∀j v2,get j env2=some v2-> ∃v,get j env=some v/\Fw Z Z2 v v2
def Fz (env:Env) (Z:AE) (K:Env->AE->Prop):Prop:=K env Z\/ ∃env2 Z2,zN Z Z2/\EFz Z Z2 env env2/\K env2 Z2
def Fz.mono {env:Env} {Z:AE} {K K':Env->AE->Prop} (h:Fz env Z K) (hk: ∀env Z,K env Z->K' env Z):Fz env Z K':=by
 rcases h with h|⟨e2,s2,h1,h2,h3⟩
 .exact .inl (hk _ _ h)
 .exact .inr ⟨e2,s2,h1,h2,hk _ _ h3⟩
def Jo (P:Program):List Ar->(Env->AE->Prop)->(Env->V->AE->Prop)->Env->AE->Prop
 | [],K,_,env,Z=>K env Z
 | o::r,K,kp,env,Z=>Ia P o env Z (fun v Z'=>Jo P r K kp (put o.dst v env) Z') (kp env)
def Ac.andThen (next:Env->AE->Prop) (Q:Ac->Env->AE->Prop):Ac->Env->AE->Prop
 | .normal,env,Z=>next env Z
 | .exit id,env,Z=>Q (.exit id) env Z
 | .ret,env,Z=>Q .ret env Z
 | .Bj v,env,Z=>Q (.Bj v) env Z
def Ac.inBlock (id:Nat) (Q:Ac->Env->AE->Prop):Ac->Env->AE->Prop
 | .normal,env,Z=>Q .normal env Z
 | .exit id',env,Z=>bif Nat.beq id' id then Q .normal env Z else Q (.exit id') env Z
 | .ret,env,Z=>Q .ret env Z
 | .Bj v,env,Z=>Q (.Bj v) env Z
def erase:AV->AV
 | .HU _ ops=> .HU [] ops
 | .seq _ a b=> .seq [] (erase a) (erase b)
 | .cond c a b=> .cond c (erase a) (erase b)
 | .block id a=> .block id (erase a)
 | .loop _ a=> .loop [] (erase a)
 | .scope a=> .scope (erase a)
 | .D2 _ g ps a b=> .D2 [] g ps (erase a) (erase b)
 | c=>c
def Og (P:Program) (N:Nat) (ops:Array Oper) (o:Oper):Option Ar:=
 match gI P o.op,o.guard with
 | some ao,none=>if(∀d,o.dst=some d->d<N)then some ⟨o.dst,ao,none⟩else none
 | some ao,some (j,b)=>match(ops[j]?).bind (·.dst)with
   | some d=>if(∀d,o.dst=some d->d<N)then some ⟨o.dst,ao,some (d,b)⟩else none
   | none=>none
 | none,_=>none
def HX (P:Program) (N:Nat) (ops:Array Oper):List Oper->Option (List Ar)
 | []=>some []
 | o::r=>match Og P N ops o,HX P N ops r with
   | some x,some xs=>some (x::xs)
   | _,_=>none
def direct (ops:Array Oper) (i:Nat):List Nat:=match ops[i]? with|some o=>(o.after.toList.filter (Region.binds .any)).map (·.on)|none=>[]
def DH (pu:List FuncId) (fz:List Nat) (ao:Ar):Ar:=match ao.op with
 | .call f as=>bif pu.contains f then {ao with op:= .MK f as}else ao
 | .box x=>bif (match ao.dst with|some d=>fz.contains d|none=>false)then {ao with op:= .PM x}else ao
 | .mv x=>bif (match ao.dst with|some d=>fz.contains d|none=>false)then {ao with op:= .m8 x}else ao
 | .append sz b x y=>bif (match ao.dst with|some d=>fz.contains d|none=>false)then {ao with op:= .Sh sz b x y}else ao
 | _=>ao
def Yy (x y:Ar):Bool:=
 (match x.dst with|some d=> !(looks y).contains d&&y.dst != some d|none=>true)&&(match y.dst with|some d=> !(looks x).contains d|none=>true)
def Yl (y x:Ar):Bool:=match y.dst with|some d=> !(AG x).contains d|none=>true
def bI:GJ->Bool| .alloc _=>true|_=>false
def okB (x y:Cq):Bool:=x.sR.isEmpty&&Yy x.o y.o&&((still x.o.op&&calm y.o.op)||kd x.o.op== .P||
 (still x.o.op&&y.sR.contains x.i&&(match x.o.dst with|some d=> !(looks x.o).contains d|none=>true))||(Z4 x.o.op&&y.sR.isEmpty&&y.o.guard.isNone&&bI y.o.op))
def K2 (ops:Array Oper) (clo:List (List Nat)) (x y:Cq):Bool:=
 !Nat.beq x.i y.i&& !(direct ops x.i).contains y.i&&(kd x.o.op != .N||Yl y.o x.o)&&((clo.getD y.i []).contains x.i||okB x y)
def pwB (ops:Array Oper) (clo:List (List Nat)):List Cq->Bool
 | []=>true
 | x::r=>r.all (K2 ops clo x)&&pwB ops clo r
def nf (ops:Array Oper) (clo:List (List Nat)):Bool:=(List.range ops.size).all fun i=>(clo.getD i []).all fun x=>(direct ops i).contains x||(direct ops i).any fun j=>Nat.blt j i&&(clo.getD j []).contains x
def c9 (ops:Array Oper) (clo:List (List Nat)) (C:List Cq):Bool:=
 Nat.beq C.length ops.size&&(List.range ops.size).all (fun j=>C.any fun d=>Nat.beq d.i j)&&C.all (fun d=>Nat.blt d.i ops.size&& !(direct ops d.i).contains d.i&&(direct ops d.i).all (fun e=>Nat.blt e ops.size))&&
 nf ops clo&&pwB ops clo C
def F6 (ops:Array Oper):Nat->List (List Nat)
 | 0=>[]
 | n+1=>let r:=F6 ops n;r++[((direct ops n)++(direct ops n).flatMap fun j=>r.getD j []).eraseDups]
def YP (o:GJ):Nat:=match kd o with| .P=>0| .N=>0| .A=>1| .AA=>2| .H=>3
def rQ (o:GJ):Nat:=match kd o with| .P=>0| .N=>0| .A=>1| .AA=>3| .H=>2
def tz (YP:GJ->Nat) (ops:Array Oper) (as:List Ar) (left done:List Nat):Option Nat:=
 let rs:=left.filter fun i=>(direct ops i).all done.contains
 let of:=fun r=>rs.find? fun i=>match as[i]? with|some ao=>Nat.ble (YP ao.op) r|none=>false
 match of 0 with|some i=>some i|none=>match of 1 with|some i=>some i|none=>match of 2 with|some i=>some i|none=>of 3
def Qc (YP:GJ->Nat) (ops:Array Oper) (as:List Ar):Nat->List Nat->List Nat->List Nat
 | 0,_,done=>done.reverse
 | n+1,left,done=>match tz YP ops as left done with
   | some i=>Qc YP ops as n (left.filter fun j=> !Nat.beq j i) (i::done)
   | none=>done.reverse
def rP (clo:List (List Nat)) (as:List Ar) (before:List Nat) (i:Nat):List Nat:=
 match as[i]? with
 | some ao=>match kd ao.op with
   | .H=>before.filter fun j=> !(clo.getD i []).contains j&&(match as[j]? with|some x=>kd x.op== .N|none=>false)
   | _=>[]
 | none=>[]
def m9 (clo:List (List Nat)) (as:List Ar):List Nat->List Nat->List Cq
 | _,[]=>[]
 | before,i::r=>match as[i]? with
   | some ao=>⟨i,ao,rP clo as before i,(rP clo as before i).filterMap fun j=>as[j]?⟩::m9 clo as (i::before) r
   | none=>m9 clo as (i::before) r
def nQ (ops:Array Oper) (as:List Ar):Option (List Cq):=
 let clo:=F6 ops ops.size
 let C:=m9 clo as [] (Qc YP ops as ops.size (List.range ops.size) [])
 bif c9 ops clo C then some C else
 let C:=m9 clo as [] (Qc rQ ops as ops.size (List.range ops.size) [])
 bif c9 ops clo C then some C else none
def res (P:Program) (N:Nat) (pu:List FuncId) (fz:List Nat):Code->Option AV
 | .skip=>some .skip
 | .label _=>some .skip
 | .ret=>some .ret
 | .exit id=>some (.exit id)
 | .seq a b=>match res P N pu fz a,res P N pu fz b with|some a,some b=>some (.seq [] a b)|_,_=>none
 | .cond c a b=>match BX c,res P N pu fz a,res P N pu fz b with|some c,some a,some b=>some (.cond c a b)|_,_,_=>none
 | .block id a=>(res P N pu fz a).map (.block id)
 | .loop a=>(res P N pu fz a).map (.loop [])
 | .scope a=>(res P N pu fz a).map .scope
 | .rangeFunc g ps a b=>match BX g,res P N pu fz a,res P N pu fz b with
   | some g,some a,some b=>if ps.toList.all (fun p=>Nat.blt p N)then some (.D2 [] g ps.toList a b)else none
   | _,_,_=>none
 | .region _ ops draw=>match HX P N ops ops.toList with
   | none=>none
   | some as=>bif draw then(bif P.follows .mixedOrders then(nQ ops (as.map (DH pu fz))).map (.HU [])else none)else some (.C9 (as.map (DH pu fz)))
 | _=>none
def Bk (P:Program) (ps:List Nat) (a b:AV):FuncId->Array Tmp->Code->Code->Nat->Prop:=fun fn ps' as bd N=>
 (∃g,P.funcs[fn]? =some g)/\ps'.toList=ps/\(∀p∈ps,p<N)/\ ∃pu fz,res P N pu fz as=some (erase a)/\res P N pu fz bd=some (erase b)
def Le (L:Nat) (Q:Ac->Env->AE->Prop) (env:Env):R->AE->Prop
 | .ret _,Z=> ∃st env1 ok,Z L=some (.loop st env1 ok)/\match st with
   | .ready=>Q .normal env (del Z L)
   | .ret=>Q .ret env (del Z L)
   | .exit id=>Q (.exit id) env (del Z L)
 | .Bj v,Z=>Q (.Bj v) env (del Z L)
def T (P:Program):AV->(Ac->Env->AE->Prop)->Env->AE->Prop
 | .skip,Q,env,Z=>Q .normal env Z
 | .ret,Q,env,Z=>Q .ret env Z
 | .exit id,Q,env,Z=>Q (.exit id) env Z
 | .C9 ops,Q,env,Z=>Jo P ops (fun env Z=>Q .normal env Z) (fun env v Z=>Q (.Bj v) env Z) env Z
 | .HU l ops,Q,env,Z=>Da P ops (fun env Z=>Q .normal (prune l env) Z) (fun v Z=> ∀Z',Sub Z Z'->Q (.Bj v) [] Z') env Z
 | .seq l a b,Q,env,Z=>T P a (Ac.andThen (fun env Z=>Fz (prune l env) Z (T P b Q)) Q) env Z
 | .cond c a b,Q,env,Z=>match ev env c with
   | some (.b t)=>(t=true->T P a Q env Z)/\(t=false->T P b Q env Z)
   | _=>False
 | .block id a,Q,env,Z=>T P a (Ac.inBlock id Q) env Z
 | .scope a,Q,env,Z=>T P a Q env Z
 | .loop l a,Q,env,Z=> ∃I:Nat->Env->AE->Prop,(∃n,I n (prune l env) Z)/\
  ∀n env Z,I n env Z->T P a (Ac.andThen (fun env Z=> ∃m,m<n/\I m (prune l env) Z) Q) env Z
 | .D2 l g ps a b,Q,env,Z=>match ev env g with
   | some (.f (.func gf) [] cap)=> ∀L,Z L=none->Au P gf (.f (.yield L) [] []::cap) (B3 Z L (.loop .ready (prune l env) (Bk P ps a b))) (Le L Q env)
   | _=>False
def CW.put {H:Nat->Nat->Option Value} {env:Env} {a:Act} (h:CW H env a.tmps) {N:Nat} (hN:a.tmps.size=N) {d:Option Nat} (hd: ∀x,d=some x->x<N) {v:V} {c:Value} (hv:Ag H v c) :
    CW H (Gl.put d v env) (a.put d c).tmps:=by
 cases d with
 | none=>exact h
 | some d=>
   intro j u hu;simp only[Gl.put,get]at hu;cases hb:Nat.beq d j with
   | true=>
     rw[hb]at hu;simp only[cond_true]at hu;cases hu;have:d=j:=Vj hb;subst this;refine⟨c,?_,hv⟩;simp only[Act.put];rw[Array.getElem?_setIfInBounds_self_of_lt (by rw[hN];exact hd d rfl)]
   | false=>
     rw[hb]at hu;simp only[cond_false]at hu;have:d≠j:=Nat.ne_of_beq_eq_false hb;obtain⟨c',h1,h2⟩:=h j u hu;refine⟨c',?_,h2⟩;simp only[Act.put];rw[Array.getElem?_setIfInBounds_ne this];exact h1
def ON: ∀(keep:List Nat) (env:Env) (k:Nat) (v:V),get k (prune keep env)=some v->get k env=some v
 | [],_,_,_,h=>by cases h
 | s ::r,env,k,v,h=>by
   simp only[prune]at h;split at h
   .rename_i u hu
    simp only[get]at h;cases hb:Nat.beq s k with
    | true=>
      rw[hb]at h;simp only[cond_true]at h;cases h;have:s=k:=Vj hb;subst this;exact hu
    | false=>
      rw[hb]at h;simp only[cond_false]at h;exact ON r env k v h
   .exact ON r env k v h
def CW.prune {H:Nat->Nat->Option Value} {env:Env} {tmps:Array Value} (h:CW H env tmps) (keep:List Nat):CW H (Gl.prune keep env) tmps:=
 fun k v hv=>h k v (ON keep env k v hv)
def CW.fz {F:Nat->Prop} {Z Z2:AE} {w:World} {env env2:Env} {tmps:Array Value} (h:CW (Hh F Z w) env tmps) (hR:Rel F Z w) (h1:zN Z Z2) (h2:EFz Z Z2 env env2):CW (Hh F Z2 w) env2 tmps:=fun k v2 hv=>by
 obtain⟨v,q1,q2⟩:=h2 k v2 hv;obtain⟨c,q3,q4⟩:=h k v q1;exact⟨c,q3,q2.Hq hR (fun _ hn=>h1.none hn) q4⟩
def Mp (a:Act) (d:Option Nat) (c:Value):(a.put d c).tmps.size=a.tmps.size:=by
 cases d<;>simp[Act.put]
def put_defers (a:Act) (d:Option Nat) (c:Value):(a.put d c).defers=a.defers:=by
 cases d<;>rfl
def OG {k:Nat} {v:V}: ∀ {keep:List Nat} {env:Env},(k,v)∈prune keep env->get k env=some v
 | [],_,h=>by cases h
 | s ::r,env,h=>by
   simp only[prune]at h;split at h
   .rename_i u hu
    rcases GR.1 h with e|h
    .cases e;exact hu
    .exact OG h
   .exact OG h
def ED (H:Nat->Nat->Option Value):Ac->Exit->Prop
 | .normal,e=>e= .normal
 | .exit id,e=>e= .exit id
 | .ret,e=>e= .ret
 | .Bj v,e=> ∃c,e= .panic [{v:=c,recovered:=false}]/\Ag H v c
def MO (F:Nat->Prop) (Z₀:AE) (w₀:World) (N:Nat) (ds:List Deferred) (Q:Ac->Env->AE->Prop) (e:Exit) (a:Act) (w:World):Prop:=
 ∃ex env Z,Q ex env Z/\ED (Hh F Z w) ex e/\CW (Hh F Z w) env a.tmps/\Rel F Z w/\B8 F Z₀ w₀ Z w/\a.tmps.size=N/\a.defers=ds
def wide (r:Option Nat):Fence:={Fence.wide with round:=r}
def Sl {r:Option Nat} {n:Nat} {P:Program} {l:Nat} {f:FuncId} {tmps:Array Value} {assign body:Code} {w:World} {R:Ending->World->Prop} (h:RoundIn Fence.wide 0 P l f tmps assign body w R):RoundIn (wide r) n P l f tmps assign body w R:=
 ⟨trivial,fun c cs _=>h.2 c cs (room_wide _)⟩
def LJ {r:Option Nat} {n:Nat} {P:Program} {f:FuncId} {args:Array Value} {w:World} {R:Ending->World->Prop} (h:Calls P f args w R):CallsIn (wide r) n P f args w R:=
 callsIn_wide (n:=n) |>.2 h
variable {P:Program} {F:Nat->Prop} {N n:Nat} {ds:List Deferred} {r:Option Nat} {pu:List FuncId} {fz:List Nat}
def SJ {Z:AE} {w:World} {k kp:V->AE->Prop} {o:Oper} {a:Act} {next:Act->World->Prop} {Q:Exit->Act->World->Prop} {res:Result Next} (h:Good P F Z w k kp res)
    (hn: ∀v Z' c w',k v Z'->Ag (Hh F Z' w') v c->Rel F Z' w'->B8 F Z w Z' w'->next (a.put o.dst c) w')
    (hp: ∀v Z' c w',kp v Z'->Ag (Hh F Z' w') v c->Rel F Z' w'->B8 F Z w Z' w'->Q (.panic [{v:=c,recovered:=false}]) a w') :
    o.uponIn (wide r) n P a next Q res:=by
 cases res with
 | ok x w'=>
   cases x<;>try exact h.elim
   case value c=>
    obtain⟨v,Z',h1,h2,h3,h4⟩:=h;exact hn v Z' c w' h1 h2 h3 h4
   case skip=>
    obtain⟨Z',h1,h3,h4⟩:=h;exact hn (.t []) Z' undef w' h1 ⟨#[],rfl,rfl,trivial⟩ h3 h4
   case enter f args=>
    refine⟨fun hd=>by simp[wide,Fence.wide]at hd,LJ ?_⟩;refine Calls.mono h fun e w'' hq=>?_
    obtain⟨rr,Z',h1,h2,h3,h4⟩:=hq;cases rr with
    | ret v=>obtain⟨c,rfl,hv⟩:=h2;exact hn v Z' c w'' h1 hv h3 h4
    | Bj v=>obtain⟨c,rfl,hv⟩:=h2;exact hp v Z' c w'' h1 hv h3 h4
   case round l f tmps assign body=>
    refine⟨fun hd=>by simp[wide,Fence.wide]at hd,Sl ?_⟩;refine RoundIn.mono h fun e w'' hq=>?_
    obtain⟨rr,Z',h1,h2,h3,h4⟩:=hq;cases rr with
    | ret v=>obtain⟨c,rfl,hv⟩:=h2;exact hn v Z' c w'' h1 hv h3 h4
    | Bj v=>obtain⟨c,rfl,hv⟩:=h2;exact hp v Z' c w'' h1 hv h3 h4
 | halt x w'=>
   cases x<;>try exact h.elim
   obtain⟨v,Z',h1,h2,h3,h4⟩:=h;exact hp v Z' _ w' h1 h2 h3 h4
def dY {ops:Array Oper} {o:Oper} {ao:Ar} (h:Og P N ops o=some ao):ao.dst=o.dst/\(∀d,o.dst=some d->d<N)/\gI P o.op=some ao.op/\
    ((o.guard=none/\ao.guard=none)\/ ∃j b d,o.guard=some (j,b)/\(ops[j]?).bind (·.dst)=some d/\ao.guard=some (d,b)):=by
 unfold Og at h;split at h
 .rename_i x h1 h2
  split at h
  .rename_i hd
   cases h;exact⟨rfl,hd,h1,.inl ⟨h2,rfl⟩⟩
  .cases h
 .rename_i x j b h1 h2
  split at h
  .rename_i d hj
   split at h
   .rename_i hd
    cases h;exact⟨rfl,hd,h1,.inr ⟨j,b,d,h2,hj,rfl⟩⟩
   .cases h
  .cases h
 .cases h
def da {o:Op} {ao:GJ} (h:gI P o=some ao): ∀c,o≠ .defer c:=by
 rintro c rfl;cases h
def fW {f:FuncId} {as:List Bn} {env:Env} {Z:AE} {k kp:V->AE->Prop} (h:Fp P (.MK f as) env Z k kp):Fp P (.call f as) env Z k kp:=by
 simp only[Fp]at *;exact MP h fun vs ⟨v,h1,h2⟩=>Pure.use h1 h2
def Ll (ao:Ar):(DH pu fz ao).dst=ao.dst:=by
 unfold DH;split
 .cases pu.contains _<;>rfl
 .cases(match ao.dst with|some d=>fz.contains d|none=>false)<;>rfl
 .cases(match ao.dst with|some d=>fz.contains d|none=>false)<;>rfl
 .cases(match ao.dst with|some d=>fz.contains d|none=>false)<;>rfl
 .rfl
def Uv {ao:Ar} {o':GJ} {env:Env} {Z:AE} {k k' kp:V->AE->Prop} (hT:Fp P o' env Z k kp->Fp P ao.op env Z k' kp) (hk:k (.t []) Z->k' (.t []) Z) (h:Ia P {ao with op:=o'} env Z k kp):Ia P ao env Z k' kp:=by
 unfold Ia at *;simp only at h;split at h
 .exact hT h
 .split at h
  .exact⟨fun e=>hT (h.1 e),fun e=>hk (h.2 e)⟩
  .exact hk h
  .exact h.elim
def Lz {ao:Ar} {env:Env} {Z:AE} {k kp:V->AE->Prop} (h:Ia P (DH pu fz ao) env Z k kp):Ia P ao env Z (fun v Z1=> ∃vf Z2,Sub Z2 Z1/\Fw Z1 Z2 v vf/\k vf Z2) kp:=by
 have triv: ∀ {v Z},k v Z-> ∃vf Z2,Sub Z2 Z/\Fw Z Z2 v vf/\k vf Z2:=fun {v Z} h=>⟨v,Z,fun _ _ h=>h,.refl v,h⟩
 unfold DH at h;split at h
 .rename_i f as he
  cases hb:pu.contains f with
  | false=>rw[hb]at h;exact CN h (fun _ _ h=>triv h) fun _ _ h=>h
  | true=>
    rw[hb]at h;exact Uv (fun h=>by rw[he];exact RM (fW h) (fun _ _ h=>triv h) fun _ _ h=>h) triv h
 .rename_i x he
  cases hb:(match ao.dst with|some d=>fz.contains d|none=>false)with
  | false=>rw[hb]at h;exact CN h (fun _ _ h=>triv h) fun _ _ h=>h
  | true=>
    rw[hb]at h;exact Uv (fun h=>by rw[he];exact qA h) triv h
 .rename_i x he
  cases hb:(match ao.dst with|some d=>fz.contains d|none=>false)with
  | false=>rw[hb]at h;exact CN h (fun _ _ h=>triv h) fun _ _ h=>h
  | true=>
    rw[hb]at h;exact Uv (fun h=>by rw[he];exact h) triv h
 .rename_i sz b x y he
  cases hb:(match ao.dst with|some d=>fz.contains d|none=>false)with
  | false=>rw[hb]at h;exact CN h (fun _ _ h=>triv h) fun _ _ h=>h
  | true=>
    rw[hb]at h;exact Uv (fun h=>by rw[he];exact ZW h) triv h
 .exact CN h (fun _ _ h=>triv h) fun _ _ h=>h
def Lm {ops:Array Oper} {o:Oper} {ao:Ar} (ho:Og P N ops o=some ao) {env:Env} {Z:AE} {a:Act} {w:World} (he:CW (Hh F Z w) env a.tmps) (hR:Rel F Z w) (hN:a.tmps.size=N)
    {K:Env->AE->Prop} {kp:V->AE->Prop}
    (h:Ia P ao env Z (fun v Z'=> ∃vf Z2,Sub Z2 Z'/\Fw Z' Z2 v vf/\K (put ao.dst vf env) Z2) kp)
    {next:Act->World->Prop} {Q:Exit->Act->World->Prop}
    (hn: ∀env' Z' c w',K env' Z'->CW (Hh F Z' w') env' (a.put o.dst c).tmps->Rel F Z' w'->B8 F Z w Z' w'->next (a.put o.dst c) w')
    (hp: ∀v Z' c w',kp v Z'->Ag (Hh F Z' w') v c->Rel F Z' w'->B8 F Z w Z' w'->Q (.panic [{v:=c,recovered:=false}]) a w') :
    if Region.wanted o (yielded ops a.tmps)then o.wpIn (wide r) n P a w next Q else(∀f,o.about P w a.eval=some f->(wide r).fn f)/\next (a.put o.dst undef) w:=by
 obtain⟨h1,h2,h3,h4⟩:=dY ho;unfold Ia at h
 have hrun:Fp P ao.op env Z (fun v Z'=> ∃vf Z2,Sub Z2 Z'/\Fw Z' Z2 v vf/\K (put ao.dst vf env) Z2) kp->o.wpIn (wide r) n P a w next Q:=fun ht=>by
  refine⟨fun _ _=>trivial,?_⟩;rw[Oper.semAt_eq _ _ _ (da h3)];refine SJ (ZD h3 ht he hR) (fun v Z' c w' hk hv hr ha=>?_) hp;obtain⟨vf,Z2,hs,hf,hk⟩:=hk;exact hn _ Z2 c w' hk (by rw[h1];exact((he.mono ha.hle).mono (FJ fun n hn=>hs.none hn)).put hN h2 (hf.rel hr hs hv)) (hr.drop hs) (ha.trans (B8.drop w' hs))
 rcases h4 with⟨h5,h6⟩|⟨j,b,d,h5,h6,h7⟩
 .rw[h6]at h
  have:Region.wanted o (yielded ops a.tmps)=true:=by simp[Region.wanted,h5]
  rw[if_pos this];exact hrun h
 .rw [h7]at h
  simp only at h;split at h
  .rename_i t hg
   obtain⟨c,hc,hv⟩:=he d _ hg;simp only[Ag]at hv;subst hv
   have hy:yielded ops a.tmps j=some t:=by
    unfold yielded;rw[h6];simp[hc]
   by_cases htb:t=b
   .have:Region.wanted o (yielded ops a.tmps)=true:=by simp[Region.wanted,h5,hy,htb]
    rw[if_pos this];exact hrun (h.1 htb)
   .have: ¬Region.wanted o (yielded ops a.tmps)=true:=by simp[Region.wanted,h5,hy,htb]
    rw[if_neg this];have htn:t= !b:=by cases t<;>cases b<;>simp_all
    obtain⟨vf,Z2,hs,hf,hk⟩:=h.2 htn;refine⟨fun _ _=>trivial,hn _ Z2 undef w hk ?_ (hR.drop hs) (B8.drop w hs)⟩;rw[h1];exact(he.mono (FJ fun n hn=>hs.none hn)).put hN h2 (hf.rel hR hs ⟨#[],rfl,rfl,trivial⟩)
  .rename_i hg
   obtain⟨c,hc,hv⟩:=he d _ hg;simp only[Ag]at hv;obtain⟨c',rfl,hc',_⟩:=hv
   have hy:yielded ops a.tmps j=none:=by
    unfold yielded;rw[h6];simp[hc]
   have: ¬Region.wanted o (yielded ops a.tmps)=true:=by simp[Region.wanted,h5,hy]
   rw[if_neg this];obtain⟨vf,Z2,hs,hf,hk⟩:=h;refine⟨fun _ _=>trivial,hn _ Z2 undef w hk ?_ (hR.drop hs) (B8.drop w hs)⟩;rw[h1];exact(he.mono (FJ fun n hn=>hs.none hn)).put hN h2 (hf.rel hR hs ⟨#[],rfl,rfl,trivial⟩)
  .exact h.elim
def Gt {ops:Array Oper}: ∀ {l:List Oper} {as:List Ar},HX P N ops l=some as->l.length=as.length/\ ∀(i:Nat) (o:Oper),l[i]? =some o-> ∃ao,as[i]? =some ao/\Og P N ops o=some ao
 | [],as,h=>by cases h;simp
 | o ::l,as,h=>by
   simp only[HX]at h;split at h
   .rename_i x xs h1 h2
    cases h;obtain⟨h3,h4⟩:=Gt h2;refine⟨by simp[h3],fun i q hq=>?_⟩;cases i with
    | zero=>simp at hq;subst hq;exact⟨x,rfl,h1⟩
    | succ i=>exact h4 i q (by simpa using hq)
   .cases h
def RX {ops:Array Oper} {K:Env->AE->Prop} {kp:Env->V->AE->Prop} {Q:Ac->Env->AE->Prop} {Z₀:AE} {w₀:World}
    (U: ∀env Z,K env Z->Q .normal env Z) (hkp: ∀env v Z,kp env v Z->Q (.Bj v) env Z): ∀(as:List Ar) (j:Nat),(∀(i:Nat) (o:Oper),ops[j+i]? =some o-> ∃ao,as[i]? =some ao/\Og P N ops o=some ao)->ops.size=j+as.length->
    ∀(env:Env) (Z:AE) (a:Act) (w:World),Jo P (as.map (DH pu fz)) K kp env Z->CW (Hh F Z w) env a.tmps->Rel F Z w->B8 F Z₀ w₀ Z w->a.tmps.size=N->a.defers=ds->
    wpOpsIn (wide r) n P ops (MO F Z₀ w₀ N ds Q) (List.range' j as.length) a w
 | [],j,_,_,env,Z,a,w,h,he,hR,hA,hN,hd=>by
   simp only[List.length_nil,List.range'_zero,wpOpsIn];exact⟨.normal,env,Z,U _ _ h,rfl,he,hR,hA,hN,hd⟩
 | ao::as,j,hget,hsz,env,Z,a,w,h,he,hR,hA,hN,hd=>by
   simp only[Ky,List.range'_succ,wpOpsIn];have hlt:j<ops.size:=by simp at hsz;omega
   have hj:ops[j]? =some ops[j]:=Array.getElem?_eq_getElem hlt;obtain⟨ao',h1,h2⟩:=hget 0 ops[j] (by simp[hj]);simp at h1;subst h1;simp only[hj]
   refine Lm (K:=Jo P (as.map (DH pu fz)) K kp) (kp:=kp env) h2 he hR hN (by
    simp only[E3,Jo]at h;have:=Lz h
    rwa [Ll]at this) (fun env' Z' c w' hk he' hR' hA'=>?_) (fun v Z' c w' hk hv hR' hA'=>?_)
   .exact RX U hkp as (j+1) (fun i o ho=>by
     obtain⟨x,hx,hy⟩:=hget (i+1) o (by rw[<-ho];congr 1;omega)
     exact⟨x,by simpa using hx,hy⟩) (by simp at hsz;omega) env' Z' _ w' hk he' hR' (hA.trans hA') (by rw[Mp];exact hN) (by rw[put_defers];exact hd)
   .exact⟨.Bj v,env,Z',hkp _ _ _ hk,⟨c,rfl,hv⟩,he.mono hA'.hle,hR',hA.trans hA',hN,hd⟩
def MO.trans {Z₀ Z₁:AE} {w₀ w₁:World} {Q:Ac->Env->AE->Prop} {e:Exit} {a:Act} {w:World} (hA:B8 F Z₀ w₀ Z₁ w₁) (h:MO F Z₁ w₁ N ds Q e a w):MO F Z₀ w₀ N ds Q e a w:=by
 obtain⟨ex,env,Z,h1,h2,h3,h4,h5,h6⟩:=h;exact⟨ex,env,Z,h1,h2,h3,h4,hA.trans h5,h6⟩
def Zd {p:Nat->Prop} (h: ∃m,p m): ∃m,p m/\ ∀k,p k->m<=k:=by
 obtain⟨n,hn⟩:=h
 induction n using Nat.strongRecOn with
 | _ n ih=>
   by_cases hex: ∃k,k<n/\p k
   .obtain⟨k,h1,h2⟩:=hex
    exact ih k h1 h2
   .exact⟨n,hn,fun k hk=>Nat.le_of_not_lt fun hlt=>hex ⟨k,hlt,hk⟩⟩
def mem_ready {ops:Array Oper} {listed:Array Bool} (hs:listed.size=ops.size) {i:Nat} :
    i∈Region.ready .any ops listed↔i<ops.size/\listed[i]? =some false/\ ∀e∈direct ops i,listed[e]? =some true:=by
 unfold Region.ready;rw[JX,List.mem_range];constructor
 .rintro⟨h1,h2⟩
  simp only[A9,Bool.not_eq_true']at h2;obtain⟨h2,h3⟩:=h2;have hl:i<listed.size:=by omega
  refine⟨h1,?_,fun e he=>?_⟩
  .rw[Array.getElem?_eq_getElem hl]
   rw[Array.getD_eq_getD_getElem?,Array.getElem?_eq_getElem hl]at h2;simpa using h2
  .unfold direct at he
   rw[Array.getElem?_eq_getElem h1]at he h3;simp only[YH,Option.getD_some]at h3;simp only[IX,JX]at he;obtain⟨g,⟨hg1,hg2⟩,rfl⟩:=he;rw[Array.all_eq_true_iff_forall_mem]at h3;have:=h3 g (by simpa using hg1);rw[hg2]at this;simp only[Bool.not_true,Bool.false_or]at this;rw[Array.getD_eq_getD_getElem?]at this;cases hx:listed[g.on]? with
   | none=>rw[hx]at this;cases this
   | some b=>rw[hx]at this;simp only[Option.getD_some]at this;rw[this]
 .rintro⟨h1,h2,h3⟩
  refine⟨h1,?_⟩;rw[Array.getD_eq_getD_getElem?,h2,Array.getElem?_eq_getElem h1];simp only[Option.getD_some,Bool.not_false,EA,YH];rw[Array.all_eq_true_iff_forall_mem];intro g hg;cases hb:Region.binds .any g with
  | false=>rfl
  | true=>
    simp only[Bool.not_true,Bool.false_or]
    rw[Array.getD_eq_getD_getElem?,h3 g.on (by
     unfold direct;rw[Array.getElem?_eq_getElem h1];simp only[IX,JX]
     exact⟨g,⟨by simpa using hg,hb⟩,rfl⟩)]
    rfl
def YC {x y:Ar} (h:Yy x y=true):sL x y:=by
 unfold Yy at h;simp only[A9]at h;refine⟨fun d hd=>?_,fun d hd=>?_⟩
 .have h1:=h.1
  rw[hd]at h1;simp only[A9,Bool.not_eq_true',zrJ,ne_eq]at h1;exact⟨fun hm=>by have:=h1.1;rw[List.contains_eq_mem]at this;simp[hm]at this,h1.2⟩
 .have h2:=h.2
  rw[hd]at h2;simp only[Bool.not_eq_true']at h2;exact fun hm=>by rw[List.contains_eq_mem]at h2;simp[hm]at h2
def X7 {x y:Ar} (h:Yl y x=true):fresh y x:=by
 intro d hd;unfold Yl at h;rw[hd]at h;simp only[Bool.not_eq_true']at h;exact fun hm=>by rw[List.contains_eq_mem]at h;simp[hm]at h
def Ww {ops:Array Oper} {clo:List (List Nat)}: ∀ {C:List Cq},pwB ops clo C=true->C.Pairwise fun x y=>K2 ops clo x y=true
 | [],_=> .nil
 | x::r,h=>by
   simp only[pwB,A9,EB]at h;exact .cons h.1 (Ww h.2)
def U8 {clo:List (List Nat)} {as:List Ar}: ∀ {l before:List Nat} {d:Cq},d∈m9 clo as before l->as[d.i]? =some d.o/\d.re=d.sR.filterMap fun j=>as[j]?
 | [],_,_,h=>by cases h
 | i ::r,before,d,h=>by
   simp only[m9]at h;split at h
   .rename_i ao hao
    rcases GR.1 h with rfl|h
    .exact⟨hao,rfl⟩
    .exact U8 h
   .exact U8 h
def lC {as:List Ar} {x y:Cq} (hx:as[x.i]? =some x.o) (hxr:x.re=x.sR.filterMap fun j=>as[j]?) (hyr:y.re=y.sR.filterMap fun j=>as[j]?) (h:okB x y=true):okD x y:=by
 unfold okB at h;simp only[A9,Fm,DD]at h;obtain⟨⟨h1,h2⟩,h3⟩:=h;refine⟨by rw[hxr,List.isEmpty_iff.1 h1];rfl,YC h2,?_⟩;rcases h3 with((h3|h3)|h3)|h3
 .exact .inl h3
 .exact .inr (.inl h3)
 .refine .inr (.inr (.inl ⟨h3.1.1,?_,fun d hd=>?_⟩))
  .rw[hyr,List.mem_filterMap]
   exact⟨x.i,by have:=h3.1.2;rw[List.contains_eq_mem]at this;simpa using this,hx⟩
  .have:=h3.2
   rw[hd]at this;simp only[Bool.not_eq_true']at this;exact fun hm=>by rw[List.contains_eq_mem]at this;simp[hm]at this
 .refine .inr (.inr (.inr ⟨h3.1.1.1,by rw[hyr,List.isEmpty_iff.1 h3.1.1.2];rfl,by simpa using h3.1.2,?_⟩))
  have:=h3.2;unfold bI at this;split at this
  .rename_i z hz;exact⟨z,hz⟩
  .cases this
def Zo {ops:Array Oper} {clo:List (List Nat)} (hclo:nf ops clo=true) {listed:Array Bool}
    (hdc: ∀j,j<ops.size->listed[j]? =some true-> ∀e∈direct ops j,listed[e]? =some true) :
    ∀(i:Nat),i<ops.size->(∀e∈direct ops i,listed[e]? =some true)-> ∀x∈clo.getD i [],listed[x]? =some true:=by
 intro i
 induction i using Nat.strongRecOn with
 | _ i ih=>
   intro hi hd x hx;unfold nf at hclo;rw[EB]at hclo;have h1:=hclo i (List.mem_range.2 hi);rw[EB]at h1;have h2:=h1 x hx;simp only[Fm,IY,A9]at h2;rcases h2 with h2|⟨j,hj,hlt,hm⟩
   .exact hd x (by rw[List.contains_eq_mem]at h2;simpa using h2)
   .have hji:j<i:=by rw[Nat.blt_eq]at hlt;exact hlt
    have hl:=hd j hj;exact ih j hji (by omega) (hdc j (by omega) hl) x (by rw[List.contains_eq_mem]at hm;simpa using hm)
def T4 {ops : Array Oper} {as:List Ar} {clo:List (List Nat)} {C:List Cq} (hclo:nf ops clo=true) (hpw:C.Pairwise fun x y=>K2 ops clo x y=true)
    (hC: ∀d∈C,d.i<ops.size/\d.i∉direct ops d.i/\(∀e∈direct ops d.i,e<ops.size)/\(as.map (DH pu fz))[d.i]? =some d.o/\d.re=d.sR.filterMap fun j=>(as.map (DH pu fz))[j]?)
    (has: ∀(i:Nat) (o:Oper),ops[i]? =some o-> ∃ao,as[i]? =some ao/\Og P N ops o=some ao)
    {K:Env->AE->Prop} {kp:V->AE->Prop} {Q:Ac->Env->AE->Prop} {Z₀:AE} {w₀:World} (hgeq: ∀env env' Z,m5 env env'->K env Z->K env' Z)
    (U: ∀env Z,K env Z-> ∃l,Q .normal (prune l env) Z) (hkp: ∀v Z,kp v Z->Q (.Bj v) [] Z) (hU: ∀v Z m z,Z m=none->kp v Z->kp v (B3 Z m z)): ∀(fuel:Nat) (l:List Cq) (listed:Array Bool) (env:Env) (Z:AE) (a:Act) (w:World),
    l.length=fuel->l.Sublist C->listed.size=ops.size->(∀j,j<ops.size->(listed[j]? =some false↔ ∃d∈l,d.i=j))->
    (∀j,j<ops.size->listed[j]? =some true-> ∀e∈direct ops j,listed[e]? =some true)->
    Da P l K kp env Z->CW (Hh F Z w) env a.tmps->Rel F Z w->B8 F Z₀ w₀ Z w->a.tmps.size=N->a.defers=ds->wpAnyIn (wide r) n P .any ops (MO F Z₀ w₀ N ds Q) fuel listed a w
 | 0,l,listed,env,Z,a,w,hl,hsub,hsz,hun,hdc,h,he,hR,hA,hN,hd=>by
   have:l= []:=YE.1 hl;subst this;simp only[wpAnyIn];obtain⟨l,hq⟩:=U _ _ h;refine⟨?_,.normal,_,Z,hq,rfl,he.prune l,hR,hA,hN,hd⟩;refine List.eq_nil_iff_forall_not_mem.2 fun i hi=>?_
   obtain⟨h1,h2,_⟩:=(mem_ready hsz).1 hi;obtain⟨d,hd,_⟩:=(hun i h1).1 h2;cases hd
 | fuel + 1, l,listed,env,Z,a,w,hl,hsub,hsz,hun,hdc,h,he,hR,hA,hN,hd=>by
   have hval: ∀j,j<ops.size->listed[j]? =some true\/listed[j]? =some false:=fun j hj=>by
    rw[Array.getElem?_eq_getElem (by omega)];cases listed[j]'(by omega)<;>simp
   have hpl:=hpw.sublist hsub;simp only[wpAnyIn];refine⟨fun hr=>?_,fun i hi=>?_⟩
   .exfalso
    cases l with
    | nil=>cases hl
    | cons hd' t=>
      have hCh:=hC hd' (hsub.subset (.head _))
      have:hd'.i∈Region.ready .any ops listed:=by
       refine(mem_ready hsz).2 ⟨hCh.1,(hun _ hCh.1).2 ⟨hd',.head _,rfl⟩,fun e he'=>?_⟩;have hes:=hCh.2.2.1 e he';rcases hval e hes with h1|h1
       .exact h1
       .obtain⟨d,hd1,rfl⟩:=(hun e hes).1 h1
        rcases GR.1 hd1 with rfl|hd1
        .exact absurd he' hCh.2.1
        .have hp:=(List.pairwise_cons.1 hpl).1 d hd1
         unfold K2 at hp;simp only[A9]at hp;have:=hp.1.1.2;rw[List.contains_eq_mem]at this;simp[he']at this
      rw[hr]at this;cases this
   .obtain ⟨hi1,hi2,hi3⟩:=(mem_ready hsz).1 hi
    obtain⟨d,hdl,rfl⟩:=(hun i hi1).1 hi2;obtain⟨xs,ys,rfl⟩:=List.append_of_mem hdl;have hCd:=hC d (hsub.subset hdl);have hpx:=List.pairwise_append.1 hpl;have hxd: ∀x∈xs,K2 ops clo x d=true:=fun x hx=>hpx.2.2 x hx d (.head _)
    have hdy: ∀y∈ys,K2 ops clo d y=true:=fun y hy=>(List.pairwise_cons.1 hpx.2.1).1 y hy
    have hok: ∀x∈xs,okD x d:=fun x hx=>by
     have hCx:=hC x (hsub.subset (PW _ hx));have hp:=hxd x hx;unfold K2 at hp;simp only[A9,Fm]at hp;rcases hp.2 with h1|h1
     .exfalso
      have h2:=Zo hclo hdc d.i hi1 hi3 x.i (by rw[List.contains_eq_mem]at h1;simpa using h1);have h3:=(hun x.i hCx.1).2 ⟨x,PW _ hx,rfl⟩;rw[h2]at h3;cases h3
     .exact lC hCx.2.2.2.1 hCx.2.2.2.2 hCd.2.2.2.2 h1
    have hfr:xs.Pairwise fun x y=>kd x.o.op= .N->fresh y.o x.o:=hpx.1.imp fun {x y} hp hN=>by
     unfold K2 at hp;simp only[A9,Fm]at hp;rcases hp.1.2 with h1|h1
     .rw[hN]at h1;simp at h1
     .exact X7 h1
    have hb:=jc hU hgeq hok hfr h;have hops:ops[d.i]? =some ops[d.i]:=Array.getElem?_eq_getElem hi1;obtain⟨ao,hao,hro⟩:=has d.i _ hops
    have hdo:d.o=DH pu fz ao:=by
     have:=hCd.2.2.2.1;rw[Je,hao]at this;simpa using this.symm
    unfold wpOpIn;simp only[hops];rw[hdo]at hb;refine Lm (K:=Da P (xs++ys) K kp) (kp:=kp) hro he hR hN ?_ (fun env' Z' c w' hk he' hR' hA'=>?_) (fun v Z' c w' hk hv hR' hA'=>?_)
    .refine CN (Lz hb) (fun v Z' ⟨vf,Z2,h1,h2,hh⟩=>⟨vf,Z2,h1,h2,?_⟩) fun _ _ h=>h
     have:=hh.2
     rwa [Ll]at this
    .refine T4 hclo hpw hC has hgeq U hkp hU fuel (xs++ys) _ env' Z' _ w' ?_ ?_ ?_ ?_ ?_ hk he' hR' (hA.trans hA') (by rw[Mp];exact hN) (by rw[put_defers];exact hd)
     .simp only[NW,Ky]at hl ⊢
      omega
     .exact((List.Sublist.refl xs).append (Ku d ys)).trans hsub
     .simpa using hsz
     .intro j hj
      by_cases hjd:d.i=j
      .subst hjd
       rw[Array.getElem?_setIfInBounds_self_of_lt (by omega)];constructor
       .intro h;cases h
       .rintro⟨x,hx,hxi⟩
        exfalso;rcases Du.1 hx with hx|hx
        .have:=hxd x hx
         unfold K2 at this;simp only[A9]at this;have:=this.1.1.1;rw[hxi]at this;simp at this
        .have:=hdy x hx
         unfold K2 at this;simp only[A9]at this;have:=this.1.1.1;rw[hxi]at this;simp at this
      .rw [Array.getElem?_setIfInBounds_ne hjd,hun j hj]
       constructor
       .rintro⟨x,hx,rfl⟩
        rcases Du.1 hx with hx|hx
        .exact⟨x,PW _ hx,rfl⟩
        .rcases GR.1 hx with rfl|hx
         .exact absurd rfl hjd
         .exact⟨x,Od _ hx,rfl⟩
       .rintro⟨x,hx,rfl⟩
        rcases Du.1 hx with hx|hx
        .exact⟨x,PW _ hx,rfl⟩
        .exact⟨x,Od _ (.tail _ hx),rfl⟩
     .intro j hj hlj e hej
      have hle:listed[e]? =some true:=by
       by_cases hjd:d.i=j
       .subst hjd;exact hi3 e hej
       .rw[Array.getElem?_setIfInBounds_ne hjd]at hlj
        exact hdc j hj hlj e hej
      by_cases hed:d.i=e
      .subst hed
       rw[Array.getElem?_setIfInBounds_self_of_lt (by omega)]
      .rw[Array.getElem?_setIfInBounds_ne hed]
       exact hle
    .exact⟨.Bj v,[],Z',hkp _ _ hk,⟨c,rfl,hv⟩,fun _ _ hg=>(by cases hg),hR',hA.trans hA',hN,hd⟩
def TO {env env':Env} (h:m5 env env'): ∀l:List Nat,prune l env=prune l env'
 | []=>rfl
 | s::r=>by simp only[prune,h s,TO h r]
def dV {ops:Array Oper} {as:List Ar} {C:List Cq} (h:nQ ops as=some C): ∃order,m9 (F6 ops ops.size) as [] order=C/\c9 ops (F6 ops ops.size) C=true:=by
 simp only[nQ]at h;cases h1:c9 ops (F6 ops ops.size) (m9 (F6 ops ops.size) as [] (Qc YP ops as ops.size (List.range ops.size) []))with
 | true=>
   rw[h1]at h;cases h;exact⟨_,rfl,h1⟩
 | false=>
   rw[h1]at h;simp only[cond_false]at h;cases h2:c9 ops (F6 ops ops.size) (m9 (F6 ops ops.size) as [] (Qc rQ ops as ops.size (List.range ops.size) []))with
   | true=>
     rw[h2]at h;cases h;exact⟨_,rfl,h2⟩
   | false=>rw[h2]at h;cases h
def Zh {ops:Array Oper} {as:List Ar} {C:List Cq} {id:Nat} (hm:P.follows .mixedOrders=true) (h1:HX P N ops ops.toList=some as) (h2:nQ ops (as.map (DH pu fz))=some C) {l:List Nat}
    {Q:Ac->Env->AE->Prop} {env:Env} {Z:AE} {a:Act} {w:World} (h:Da P C (fun env Z=>Q .normal (prune l env) Z) (fun v Z=> ∀Z',Sub Z Z'->Q (.Bj v) [] Z') env Z)
    (he:CW (Hh F Z w) env a.tmps) (hR:Rel F Z w) (hN:a.tmps.size=N) (hd:a.defers=ds):(Code.region id ops true).wpIn (wide r) n P (MO F Z w N ds Q) a w:=by
 obtain⟨h3,h4⟩:=Gt h1;obtain⟨order,hC,hb⟩:=dV h2
 .unfold c9 at hb
  simp only[A9]at hb;obtain⟨⟨⟨⟨b1,b2⟩,b3⟩,b4⟩,b5⟩:=hb;have b1:C.length=ops.size:=Vj b1;rw[EB]at b2 b3;refine wpIn_region_any hm ?_
  refine T4 (pu:=pu) (fz:=fz) (as:=as) (Z₀:=Z) (w₀:=w) b4 (Ww b5) (fun d hd'=>?_) (fun i o ho=>h4 i o (by simpa using ho)) (K:=fun env Z=>Q .normal (prune l env) Z) (kp:=fun v Z=> ∀Z',Sub Z Z'->Q (.Bj v) [] Z')
   (fun env env' Z hg hq=>by rw[<-TO hg];exact hq) (fun env Z hq=>⟨l,hq⟩) (fun _ Z h=>h Z fun _ _ h=>h) (fun _ _ _ _ hm h Z' hs=>h Z' fun _ _ hh=>hs _ _ (HG hm _ _ hh)) ops.size C _ env Z a _ b1 (.refl _) (by simp) (fun j hj=>?_) (fun j hj hlj=>?_) h he ⟨hR.own,hR.lock⟩ ⟨fun _ _ _=>rfl,IW _,rfl,rfl,rfl,fun _ h _=>h⟩ hN hd
  .have:=b3 d hd'
   simp only[A9,EB]at this;obtain⟨⟨c1,c2⟩,c3⟩:=this;obtain⟨m1,m2⟩:=U8 (hC ▸ hd');refine⟨by rw[Nat.blt_eq]at c1;exact c1,fun hm=>?_,fun e he=>by have:=c3 e he;rw[Nat.blt_eq]at this;exact this,m1,m2⟩;rw[List.contains_eq_mem]at c2;simp[hm]at c2
  .constructor
   .intro _
    have:=b2 j (List.mem_range.2 hj);rw[IY]at this;obtain⟨d,hd',hdj⟩:=this;exact⟨d,hd',Vj hdj⟩
   .intro _
    simp[hj]
  .simp[hj]at hlj
def sw (P:Program) (f:FuncId):Prop:= ∃g,P.funcs[f]? =some g
def PE (r:Option Nat) (P:Program) (c:Code) (Q:Exit->Act->World->Prop) (a:Act) (w:World):Prop:=
 ∀ (b:Frame) (k:List Item) (cs:List Frame),b.roundOf=r->sw P b.fn->
   ∃e a' w',Q e a' w'/\ArrivesIn (Machine.fenced P (wide r)) P (lone (b.atR a (.code c::k)) cs w) b k cs e a' w'
section
variable {Q Q':Exit->Act->World->Prop} {a:Act} {w:World}
def HW {r:Option Nat} {m:Nat}:(wide r).room m:=fun _ h=>by simp[wide,Fence.wide]at h
def Ic {c:Code} (h:c.wpIn (wide r) n P Q a w):PE r P c Q a w:=fun b k cs hro _=>h b k cs hro trivial HW
def Ca {c:Code} (h:PE r P c Q a w) (hq: ∀e a w,Q e a w->Q' e a w):PE r P c Q' a w:=
 fun b k cs hro hb=>let⟨e,a',w',q,x⟩:=h b k cs hro hb;⟨e,a',w',hq _ _ _ q,x⟩
def GQ {b:Frame} {cs:List Frame} {w:World} (h:b.about P w=none):(lone b cs w).fenced P (wide r):=fenced_calm (n:=0) trivial HW h
def KK {x y:Code} (h:PE r P x (Exit.then (PE r P y Q) Q) a w):PE r P (Code.seq x y) Q a w:=by
 intro b k cs hro hb;have h0:(lone (b.atR a (.code (.seq x y)::k)) cs w).fenced P (wide r):=GQ rfl;obtain⟨e,a₁,w₁,hq,harr⟩:=h b (.code y::k) cs hro hb;cases e with
 | normal=>
   obtain⟨e₂,a₂,w₂,hq₂,harr₂⟩:=hq b k cs hro hb;exact⟨e₂,a₂,w₂,hq₂,.of_steps (.head h0 stepR_seq harr) harr₂⟩
 | exit id=>exact⟨_,a₁,w₁,hq,.of_steps (.one h0 stepR_seq) (.pass (x:= .code y) rfl (fun _ _=> .inl (by simp)) harr)⟩
 | goto l=>exact⟨_,a₁,w₁,hq,.of_steps (.one h0 stepR_seq) (.pass (x:= .code y) rfl (fun _ _=> .inl (by simp)) harr)⟩
 | ret=>exact⟨_,a₁,w₁,hq,.of_steps (.one h0 stepR_seq) (.pass (x:= .code y) rfl (fun _ _=> .inl (by simp)) harr)⟩
 | panic ch=>exact⟨_,a₁,w₁,hq,.of_steps (.one h0 stepR_seq) (.pass (x:= .code y) rfl (fun _ _=> .inl (by simp)) harr)⟩
 | outgrown=>exact⟨_,a₁,w₁,hq,.of_steps (.one h0 stepR_seq) (.pass (x:= .code y) rfl (fun _ _=> .inl (by simp)) harr)⟩
def kE {c:Operand} {x y:Code} {t:Bool} (hc:a.eval c= .bool t) (ht:t=true->PE r P x Q a w) (hf:t=false->PE r P y Q a w):PE r P (Code.cond c x y) Q a w:=by
 have h:PE r P (if t then x else y) Q a w:=by cases t;exact hf rfl;exact ht rfl
 exact fun b k cs hro hb=>let⟨e,a',w',q,z⟩:=h b k cs hro hb;⟨e,a',w',q,.of_steps (.one (GQ rfl) (stepR_cond hc)) z⟩
def dF {id:Nat} {c:Code} (h:PE r P c (Exit.inBlock id Q) a w):PE r P (Code.block id c) Q a w:=by
 intro b k cs hro hb;have h0:(lone (b.atR a (.code (.block id c)::k)) cs w).fenced P (wide r):=GQ rfl;obtain⟨e,a₁,w₁,hq,harr⟩:=h b (.inBlock id::k) cs hro hb;cases e with
 | normal=>exact⟨.normal,a₁,w₁,hq,.head h0 stepR_block (StepsIn.trans harr (.one (GQ rfl) stepR_inBlock))⟩
 | exit id'=>
   by_cases hid:id'=id
   .simp only[Exit.inBlock,hid,if_true]at hq
    exact⟨.normal,a₁,w₁,hq,.head h0 stepR_block (harr.1 k (by simp[exitTo,hid]))⟩
   .simp only[Exit.inBlock,hid,if_false]at hq
    have this:(id==id')=false:=by simp;exact fun h=>hid h.symm
    have hx:exitTo id' (.inBlock id::k)=exitTo id' k:=by simp[exitTo,this]
    exact⟨.exit id',a₁,w₁,hq,fun k' hk=> .head h0 stepR_block (harr.1 k' (by rw[hx];exact hk)),
     fun hr' hk=>let⟨k₁,h1,h2⟩:=harr.2 hr' (by rw[hx];exact hk);⟨k₁,h1,.head h0 stepR_block h2⟩⟩
 | goto l=>
   have hx:gotoIn l (.inBlock id::k)=gotoIn l k:=by simp[gotoIn]
   exact⟨_,a₁,w₁,hq,fun k' hk=> .head h0 stepR_block (harr.1 k' (by rw[hx];exact hk)),
    fun hr' hk=>let⟨k₁,h1,h2⟩:=harr.2 hr' (by rw[hx];exact hk);⟨k₁,h1,.head h0 stepR_block h2⟩⟩
 | ret=>exact⟨_,a₁,w₁,hq,.of_steps (.one h0 stepR_block) harr⟩
 | panic ch=>exact⟨_,a₁,w₁,hq,.of_steps (.one h0 stepR_block) harr⟩
 | outgrown=>exact⟨_,a₁,w₁,hq,.of_steps (.one h0 stepR_block) harr⟩
def dE {c:Code} (h:PE r P c (Exit.noGoto Q) a w):PE r P (Code.scope c) Q a w:=by
 intro b k cs hro hb;have s1:step P (lone (b.atR a (.code (.scope c)::k)) cs w)= .next (lone (b.atR a (.code c:: .inScope c::k)) cs w):=step_lone_go (by simp[stepG,stepG.exec,Frame.atR])
 have s2: ∀a w,step P (lone (b.atR a (.inScope c::k)) cs w)= .next (lone (b.atR a k) cs w):=fun a w=>step_lone_go (by simp[stepG,stepG.exec,Frame.atR])
 have h0:(lone (b.atR a (.code (.scope c)::k)) cs w).fenced P (wide r):=GQ rfl;obtain⟨e,a₁,w₁,hq,harr⟩:=h b (.inScope c::k) cs hro hb;cases e with
 | normal=>exact⟨.normal,a₁,w₁,hq,.head h0 s1 (StepsIn.trans harr (.one (GQ rfl) (s2 _ _)))⟩
 | exit id=>
   have hx:exitTo id (.inScope c::k)=exitTo id k:=by simp[exitTo]
   exact⟨_,a₁,w₁,hq,fun k' hk=> .head h0 s1 (harr.1 k' (by rw[hx];exact hk)),fun hr' hk=>let⟨k₁,h1,h2⟩:=harr.2 hr' (by rw[hx];exact hk);⟨k₁,h1,.head h0 s1 h2⟩⟩
 | goto l=>exact hq.elim
 | ret=>exact⟨_,a₁,w₁,hq,.of_steps (.one h0 s1) harr⟩
 | panic ch=>exact⟨_,a₁,w₁,hq,.of_steps (.one h0 s1) harr⟩
 | outgrown=>exact⟨_,a₁,w₁,hq,.of_steps (.one h0 s1) harr⟩
def kD {c:Code} (I:Act->World->Prop) (μ:Act->World->Nat) (h₀:I a w)
    (round: ∀a w,I a w->PE r P c (Exit.then (fun a' w'=>I a' w'/\μ a' w'<μ a w) Q) a w):PE r P (Code.loop c) Q a w:=by
 intro b k cs hro hb
 have key: ∀j a w,μ a w=j->I a w->
  ∃e a' w',Q e a' w'/\ArrivesIn (Machine.fenced P (wide r)) P (lone (b.atR a (.code c:: .inLoop c::k)) cs w) b k cs e a' w':=by
  intro j
  induction j using Nat.strongRecOn with
  | _ j ih=>
    intro a w hn hI;obtain⟨e,a₁,w₁,hq,harr⟩:=round a w hI b (.inLoop c::k) cs hro hb;cases e with
    | normal=>
      obtain⟨hI₁,hlt⟩:=hq;obtain⟨e₂,a₂,w₂,hq₂,harr₂⟩:=ih (μ a₁ w₁) (hn ▸ hlt) a₁ w₁ rfl hI₁;exact⟨e₂,a₂,w₂,hq₂,.of_steps (StepsIn.trans harr (.one (GQ rfl) stepR_inLoop)) harr₂⟩
    | exit id=>exact⟨_,a₁,w₁,hq,.pass (x:= .inLoop c) rfl (fun _ _=> .inl (by simp)) harr⟩
    | goto l=>exact⟨_,a₁,w₁,hq,.pass (x:= .inLoop c) rfl (fun _ _=> .inl (by simp)) harr⟩
    | ret=>exact⟨_,a₁,w₁,hq,.pass (x:= .inLoop c) rfl (fun _ _=> .inl (by simp)) harr⟩
    | panic ch=>exact⟨_,a₁,w₁,hq,.pass (x:= .inLoop c) rfl (fun _ _=> .inl (by simp)) harr⟩
    | outgrown=>exact⟨_,a₁,w₁,hq,.pass (x:= .inLoop c) rfl (fun _ _=> .inl (by simp)) harr⟩
 obtain⟨e,a',w',hq,harr⟩:=key _ a w rfl h₀;exact⟨e,a',w',hq,.of_steps (.one (GQ rfl) stepR_loop) harr⟩
def ZC (r:Option Nat) (P:Program) (l:Nat) (Q:Exit->Act->World->Prop) (a':Act):Ending->World->Prop
 | .returned _,w₃=> ∃jump w₄,(Instr.endLoop l).run P w₃= .ok jump w₄/\
  (match jump with
   | none=>Q .normal a' w₄
   | some c=>PE r P c Q a' w₄)
 | .panicked chain,w₃=>Q (.panic chain) a' w₃
 | .outgrown,_=>False
def Sj {g:Operand} {ps:Array Tmp} {assign body:Code}
    (h: ∀fn,sw P fn-> ∃(l:Nat) (mark:List Deferred) (w₁:World) (d:Deferred) (w₁':World) (f:FuncId) (args:Array Value) (w₂:World),
     (Instr.enterLoop fn a.tmps ps assign body r).run P w= .ok (l,mark) w₁/\
     (resolve a.eval (rangeCall g l) 0).run P w₁= .ok d w₁'/\
     (invoke d.target d.args).run P w₁'= .ok (.enter f args) w₂/\
     CallsIn (wide r) 0 P f args w₂ (ZC r P l Q {a with defers:=mark++a.defers})) :
    PE r P (Code.rangeFunc g ps assign body) Q a w:=by
 intro b k cs hro hb;obtain⟨l,mark,w₁,d,w₁',f,args,w₂,he,hres,hinv,hF,hcall⟩:=h b.fn hb;rw[<-hro]at he;have h0:(lone (b.atR a (.code (.rangeFunc g ps assign body)::k)) cs w).fenced P (wide r):=fenced_lone (.inl trivial) (fun _ _=>trivial) HW;have henter:=stepR_rangeFunc (P:=P) (b:=b) (a:=a) (k:=k) (cs:=cs) (w:=w) he hres hinv;obtain⟨e,w₃,fr,hR,hsteps,hfn,hleave⟩:=hcall (b.atR {a with defers:=mark++a.defers} (.inRangeFunc l::k)::cs) HW;cases e with
 | outgrown=>exact hR.elim
 | returned v=>
   have hl:(lone fr (b.atR {a with defers:=mark++a.defers} (.inRangeFunc l::k)::cs) w₃).fenced P (wide r):=fenced_lone (.inl trivial) (fun _ _=>trivial) HW;obtain⟨jump,w₄,hend,hj⟩:=hR
   have sback:StepsIn (Machine.fenced P (wide r)) P (lone (b.atR a (.code (.rangeFunc g ps assign body)::k)) cs w) (lone (b.atR {a with defers:=mark++a.defers} ((jump.map Item.code).toList++k)) cs w₄):=by
    refine .head h0 henter (StepsIn.trans hsteps (.head hl ?_ (.one (GQ rfl) (stepR_endRangeFunc hend))));rw[<-finish_atR_inRangeFunc l v];exact step_leave_returned hleave
   cases jump with
   | none=>exact⟨.normal,_,w₄,hj,sback⟩
   | some c=>
     obtain⟨e',a'',w₅,hq,harr⟩:=hj b k cs hro hb;exact⟨e',a'',w₅,hq,.of_steps sback harr⟩
 | panicked chain=>
   have hl:(lone fr (b.atR {a with defers:=mark++a.defers} (.inRangeFunc l::k)::cs) w₃).fenced P (wide r):=fenced_lone (.inl trivial) (fun _ _=>trivial) HW;refine⟨.panic chain,_,w₃,hR,.inRangeFunc l::k,.head h0 henter (StepsIn.trans hsteps (.one hl ?_))⟩;rw[<-Frame.raise_atR];exact step_leave_panicked hleave
def Y9 (P:Program) (l:Nat) (R:Ending->World->Prop):Exit->Act->World->Prop
 | .normal,_,w=> ∃v w',(Instr.endRound l none).run P w= .ok v w'/\R (.returned v) w'
 | .ret,_,w=> ∃v w',(Instr.endRound l (some .ret)).run P w= .ok v w'/\R (.returned v) w'
 | .exit id,_,w=> ∃v w',(Instr.endRound l (some (.exit id))).run P w= .ok v w'/\R (.returned v) w'
 | .goto _,_,_=>False
 | .panic ch,a,w=>a.defers= []/\R (.panicked ch) w
 | .outgrown,_,_=>False
def SL {l:Nat} {f:FuncId} {tmps:Array Value} {assign body:Code} {R:Ending->World->Prop} (hF:sw P f)
    (h:PE (some l) P assign (Exit.then (fun a₁ w₁=> ∃w₂,(Instr.beginRound l).run P w₁= .ok () w₂/\PE (some l) P body (Y9 P l R) a₁ w₂) (fun _ _ _=>False))
     {tmps:=tmps,defers:=[]} w) :
    RoundIn Fence.wide 0 P l f tmps assign body w R:=by
 refine⟨trivial,fun c cs _=>?_⟩
 let b:Frame:={(default:Frame)with fn:=f,kind:= .normal,roundOf:=some l}
 have hb0:Frame.round l f tmps assign body .normal=b.atR {tmps:=tmps,defers:=[]} [.code assign,.beginRound,.code body]:=by
  simp[Frame.round,Frame.atR,b]
 obtain⟨e,a₁,w₁,hq,harr⟩:=h b [.beginRound,.code body] (c::cs) rfl hF;rw[<-hb0]at harr;cases e with
 | normal=>
   obtain⟨w₂,hbr,hbody⟩:=hq
   have s1:StepsIn (Machine.fenced P (wide (some l))) P (lone (b.atR a₁ [.beginRound,.code body]) (c::cs) w₁) (lone (b.atR a₁ [.code body]) (c::cs) w₂):=
    .one (GQ rfl) (stepR_beginRound rfl hbr)
   obtain⟨e₂,a₂,w₃,hq₂,harr₂⟩:=hbody b [] (c::cs) rfl hF;cases e₂ with
   | normal=>
     obtain⟨v,w₄,hend,hR⟩:=hq₂;exact⟨.returned v,w₄,hR,(StepsIn.trans harr s1).trans (StepsIn.trans harr₂ (.one (GQ rfl) (stepR_round_end rfl rfl hend)))⟩
   | ret=>
     obtain⟨v,w₄,hend,hR⟩:=hq₂;obtain⟨k₁,hs⟩:=harr₂.2 rfl;exact⟨.returned v,w₄,hR,(StepsIn.trans harr s1).trans (StepsIn.trans hs (.one (GQ rfl) (stepR_round_ret rfl rfl hend)))⟩
   | exit id=>
     obtain⟨v,w₄,hend,hR⟩:=hq₂;obtain⟨k₁,hk,hs⟩:=harr₂.2 rfl rfl;exact⟨.returned v,w₄,hR,(StepsIn.trans harr s1).trans (StepsIn.trans hs (.one (GQ rfl) (stepR_round_exit rfl rfl hk hend)))⟩
   | goto t=>exact hq₂.elim
   | panic chain=>
     obtain⟨hd,hR⟩:=hq₂;obtain⟨todo,hs⟩:=harr₂;refine⟨.panicked chain,w₃,hR,(StepsIn.trans harr s1).trans (StepsIn.trans hs (.one (fenced_lone (.inl trivial) (fun _ _=>trivial) HW) ?_))⟩;exact step_leave_panicked ⟨rfl,hd,hF⟩
   | outgrown=>exact hq₂.elim
 | exit id=>exact hq.elim
 | goto t=>exact hq.elim
 | ret=>exact hq.elim
 | panic chain=>exact hq.elim
 | outgrown=>exact hq.elim
end
def Ee (D:Nat):Deferred:={target:= .collected D,args:= #[]}
def Marks (r:Option Nat) (w₀:World) (Z:AE) (w:World) (ds l:List Deferred):Prop:=
 ∃ms:List Nat,l=ms.map Ee++ds/\ms.Nodup/\(∀D∈ms,w₀.heap.size<=D/\Z D=none/\w.heap[D]? =some (.deferred (some [])))/\(r≠none->ms= [])
def Marks.refl (r:Option Nat) (w₀:World) (Z:AE) (w:World) (ds:List Deferred):Marks r w₀ Z w ds ds:=⟨[],rfl,.nil,(fun _ h=>by cases h),fun _=>rfl⟩
def D6 {w:World} {n:Nat} {o:Obj} (h:w.heap[n]? =some o):n<w.heap.size:=(sO.1 h).1
def Marks.G4 {w₀:World} {Z Z':AE} {w w':World} {ds l:List Deferred} (h:Marks r w₀ Z w ds l) (hA:B8 F Z w Z' w'):Marks r w₀ Z' w' ds l:=by
 obtain⟨ms,h1,h2,h3,hr⟩:=h;refine⟨ms,h1,h2,fun D hD=>?_,hr⟩;obtain⟨h4,h5,h6⟩:=h3 D hD;exact⟨h4,hA.names D h5 (D6 h6),(hA.frame D (D6 h6) h5).trans h6⟩
def Marks.trans {w₀ w₁:World} {Z₁ Z:AE} {w:World} {ds l₁ l:List Deferred} (h:Marks r w₀ Z₁ w₁ ds l₁) (hA:B8 F Z₁ w₁ Z w) (hs:w₀.heap.size<=w₁.heap.size) (k:Marks r w₁ Z w l₁ l):Marks r w₀ Z w ds l:=by
 obtain⟨ms,rfl,h2,h3,hr1⟩:=h.G4 hA;obtain⟨ms',rfl,h5,h6,hr2⟩:=k
 have h7 : ∀D∈ms,D<w₁.heap.size:=fun D hD=>by
  obtain⟨ms2,e,_,h9,_⟩:=h
  have:ms2=ms:=by
   have:=List.append_cancel_right e
   have hinj: ∀ {l l':List Nat},l.map Ee=l'.map Ee->l=l':=fun {l l'} hh=>by
    induction l generalizing l' with
    | nil=>cases l' with
      | nil=>rfl
      | cons _ _=>cases hh
    | cons x l ih=>cases l' with
      | nil=>cases hh
      | cons y l'=>
        simp only[E3,List.cons.injEq,Ee]at hh;obtain⟨h1,h2⟩:=hh;have:x=y:=by injection h1 with h1 _;injection h1
        rw[this,ih h2]
   exact(hinj this).symm
  subst this;exact D6 (h9 D hD).2.2
 refine⟨ms'++ms,by simp,List.nodup_append.2 ⟨h5,h2,fun a ha b hb e=>?_⟩,fun D hD=>?_,fun h=>by rw[hr1 h,hr2 h];rfl⟩
 .subst e
  have:=(h6 a ha).1;have:=h7 a hb;omega
 .rcases Du.1 hD with hD|hD
  .exact⟨by have:=(h6 D hD).1;omega,(h6 D hD).2⟩
  .exact h3 D hD
def DC (r:Option Nat) (Z:AE) (w:World):Prop:= ∀l,r=some l->Z l=none/\ ∃lp,w.heap[l]? =some (.loop lp)
def DC.G4 {r:Option Nat} {Z Z':AE} {w w':World} (h:DC r Z w) (hA:B8 F Z w Z' w'):DC r Z' w':=fun l hl=>by
 obtain⟨h1,lp,h2⟩:=h l hl;exact⟨hA.names l h1 (D6 h2),lp,(hA.frame l (D6 h2) h1).trans h2⟩
def DC.none {Z:AE} {w:World}:DC Option.none Z w:=fun _ h=>by cases h
def HD (r:Option Nat) (F:Nat->Prop) (Z₀:AE) (w₀:World) (N:Nat) (ds:List Deferred) (Q:Ac->Env->AE->Prop) (e:Exit) (a:Act) (w:World):Prop:=
 ∃ex env Z,Q ex env Z/\ED (Hh F Z w) ex e/\CW (Hh F Z w) env a.tmps/\Rel F Z w/\B8 F Z₀ w₀ Z w/\a.tmps.size=N/\Marks r w₀ Z w ds a.defers
def MO.t {Z₀:AE} {w₀:World} {Q:Ac->Env->AE->Prop} {e:Exit} {a:Act} {w:World} (h:MO F Z₀ w₀ N ds Q e a w):HD r F Z₀ w₀ N ds Q e a w:=by
 obtain⟨ex,env,Z,h1,h2,h3,h4,h5,h6,h7⟩:=h;exact⟨ex,env,Z,h1,h2,h3,h4,h5,h6,by rw[h7];exact Marks.refl _ _ _ _ _⟩
def HD.trans {Z₀ Z₁:AE} {w₀ w₁:World} {ds₁:List Deferred} {Q:Ac->Env->AE->Prop} {e:Exit} {a:Act} {w:World} (hA:B8 F Z₀ w₀ Z₁ w₁) (hM:Marks r w₀ Z₁ w₁ ds ds₁) (h:HD r F Z₁ w₁ N ds₁ Q e a w):HD r F Z₀ w₀ N ds Q e a w:=by
 obtain⟨ex,env,Z,h1,h2,h3,h4,h5,h6,h7⟩:=h;exact⟨ex,env,Z,h1,h2,h3,h4,hA.trans h5,h6,hM.trans h5 hA.size h7⟩
def HD.mono {Z₀:AE} {w₀:World} {Q Q':Ac->Env->AE->Prop} {e:Exit} {a:Act} {w:World} (h:HD r F Z₀ w₀ N ds Q e a w) (hq: ∀ex env Z,Q ex env Z->Q' ex env Z):HD r F Z₀ w₀ N ds Q' e a w:=by
 obtain⟨ex,env,Z,h1,h2⟩:=h;exact⟨ex,env,Z,hq _ _ _ h1,h2⟩
def bw {w:World} {b o:Nat} {ob:Obj} (h:w.heap[b]? =some ob) (hc:ob.isCells=false):w.cell? ⟨b,o,none⟩=none:=by
 unfold World.cell?;rw[h];cases ob<;>first|rfl|(simp[Obj.isCells]at hc)
def VG {Z:AE} {w:World} {L:Nat} {ob ob':Obj} (h:w.heap[L]? =some ob) (hc:ob.isCells=false):Zy (Hh F Z w) (Hh F Z (w.putObj L ob')):=by
 intro b o c hb;obtain⟨h1,h2,h3⟩:=GX hb;rw[Ot h1 h2];by_cases he:b=L
 .subst he
  rw[bw h hc]at h3;cases h3
 .rw[<-h3]
  exact World.cell?_of_block (w:=w) (World.putObj_heap_other he)
def Rel.put {Z:AE} {w:World} {L:Nat} {ob ob':Obj} (hR:Rel F Z w) (hL:Z L=none) (h:w.heap[L]? =some ob) (hc:ob.isCells=false):Rel F Z (w.putObj L ob') where
 own n o ho:=by
  obtain⟨h1,o',h2,h3⟩:=hR.own n o ho;have:n≠L:=fun e=>by subst e;rw[hL]at ho;cases ho
  exact⟨h1,o',(World.putObj_heap_other this).trans h2,QF.mono (VG h hc) h3⟩
 lock n hn:=by simpa using hR.lock n hn
def Sm {g:Operand} {ps:Array Tmp} {as bd:Code} {ac:AV} (h:res P N pu fz (.rangeFunc g ps as bd)=some ac) :
    ∃g' a b,BX g=some g'/\res P N pu fz as=some a/\res P N pu fz bd=some b/\(∀p∈ps.toList,p<N)/\ac= .D2 [] g' ps.toList a b:=by
 simp only[res]at h;split at h
 .rename_i g' a b h1 h2 h3
  split at h
  .rename_i hp
   cases h;rw[EB]at hp;exact⟨g',a,b,h1,h2,h3,fun p hp'=>by have:=hp p hp';rwa [Nat.blt_eq]at this,rfl⟩
  .cases h
 .cases h
def FI : ∀ {c : Code} {ac:AV},res P N pu fz c=some (erase ac)-> ∀ {Q:Ac->Env->AE->Prop} {env:Env} {Z:AE} {a:Act} {w:World},T P ac Q env Z->
    CW (Hh F Z w) env a.tmps->Rel F Z w->a.tmps.size=N->DC r Z w->PE r P c (HD r F Z w N a.defers Q) a w:=by
 intro c
 induction c with
 | skip=>
   intro ac hc Q env Z a w h he hR hN hrd;cases ac<;>simp only[res,erase,JD,reduceCtorEq]at hc
   exact Ic (n:=0) <| wpIn_skip ⟨.normal,env,Z,h,rfl,he,hR,B8.refl _ _ _,hN,Marks.refl _ _ _ _ _⟩
 | label l=>
   intro ac hc Q env Z a w h he hR hN hrd;cases ac<;>simp only[res,erase,JD,reduceCtorEq]at hc
   exact Ic (n:=0) <| wpIn_label ⟨.normal,env,Z,h,rfl,he,hR,B8.refl _ _ _,hN,Marks.refl _ _ _ _ _⟩
 | ret=>
   intro ac hc Q env Z a w h he hR hN hrd;cases ac<;>simp only[res,erase,JD,reduceCtorEq]at hc
   exact Ic (n:=0) <| wpIn_ret ⟨.ret,env,Z,h,rfl,he,hR,B8.refl _ _ _,hN,Marks.refl _ _ _ _ _⟩
 | exit id=>
   intro ac hc Q env Z a w h he hR hN hrd;cases ac<;>simp only[res,erase,JD,reduceCtorEq,AV.exit.injEq]at hc
   subst hc;exact Ic (n:=0) <| wpIn_exit ⟨.exit _,env,Z,h,rfl,he,hR,B8.refl _ _ _,hN,Marks.refl _ _ _ _ _⟩
 | seq x y ihx ihy=>
   intro ac hc Q env Z a w h he hR hN hrd;simp only[res]at hc;split at hc
   .rename_i ax ay h1 h2
    cases ac<;>simp only[erase,JD,reduceCtorEq,AV.seq.injEq]at hc
    rename_i l ax' ay';obtain⟨_,rfl,rfl⟩:=hc;simp only[T]at h;refine KK (Ca (ihx h1 h he hR hN hrd) ?_);rintro e a' w' ⟨ex,env',Z',hq,hx,he',hR',hA,hN',hM'⟩;cases ex with
    | normal=>
      simp only[ED]at hx;subst hx;simp only[Ac.andThen]at hq;rcases hq with hq|⟨env2,Z2,f1,f2,hq⟩
      .exact Ca (ihy h2 hq (he'.prune l) hR' hN' (hrd.G4 hA)) fun e a w hp=>hp.trans hA hM'
      .have hA2:=hA.trans (B8.fz w' f1)
       exact Ca (ihy h2 hq ((he'.prune l).fz hR' f1 f2) (hR'.fz f1) hN' (hrd.G4 hA2)) fun e a w hp=>hp.trans hA2 (hM'.G4 (B8.fz (F:=F) w' f1))
    | exit id=>simp only[ED]at hx;subst hx;exact⟨.exit id,env',Z',hq,rfl,he',hR',hA,hN',hM'⟩
    | ret=>simp only[ED]at hx;subst hx;exact⟨.ret,env',Z',hq,rfl,he',hR',hA,hN',hM'⟩
    | Bj v=>obtain⟨c,rfl,hv⟩:=hx;exact⟨.Bj v,env',Z',hq,⟨c,rfl,hv⟩,he',hR',hA,hN',hM'⟩
   .cases hc
 | cond c x y ihx ihy=>
   intro ac hc Q env Z a w h he hR hN hrd;simp only[res]at hc;split at hc
   .rename_i c' ax ay h0 h1 h2
    cases ac<;>simp only[erase,JD,reduceCtorEq,AV.cond.injEq]at hc
    obtain⟨rfl,rfl,rfl⟩:=hc;simp only[T]at h;split at h
    .rename_i t ht
     have hv:=Ap he h0 ht;simp only[Ag]at hv;exact kE hv (fun e=>ihx h1 (h.1 e) he hR hN hrd) (fun e=>ihy h2 (h.2 e) he hR hN hrd)
    .exact h.elim
   .cases hc
 | block id x ih=>
   intro ac hc Q env Z a w h he hR hN hrd;obtain⟨ax,h1,hc⟩:=Aj hc;cases ac<;>simp only[erase,reduceCtorEq,AV.block.injEq]at hc
   obtain⟨rfl,rfl⟩:=hc;simp only[T]at h;refine dF (Ca (ih h1 h he hR hN hrd) ?_);rintro e a' w' ⟨ex,env',Z',hq,hx,he',hR',hA,hN',hM'⟩;cases ex with
   | normal=>simp only[ED]at hx;subst hx;exact⟨.normal,env',Z',hq,rfl,he',hR',hA,hN',hM'⟩
   | exit id'=>
     simp only[ED]at hx;subst hx;simp only[Ac.inBlock]at hq;simp only[Exit.inBlock];cases hb:Nat.beq id' id with
     | true=>
       rw[hb]at hq;simp only[cond_true]at hq;rw[if_pos (Vj hb)];exact⟨.normal,env',Z',hq,rfl,he',hR',hA,hN',hM'⟩
     | false=>
       rw[hb]at hq;simp only[cond_false]at hq;rw[if_neg (Nat.ne_of_beq_eq_false hb)];exact⟨.exit id',env',Z',hq,rfl,he',hR',hA,hN',hM'⟩
   | ret=>simp only[ED]at hx;subst hx;exact⟨.ret,env',Z',hq,rfl,he',hR',hA,hN',hM'⟩
   | Bj v=>obtain⟨c,rfl,hv⟩:=hx;exact⟨.Bj v,env',Z',hq,⟨c,rfl,hv⟩,he',hR',hA,hN',hM'⟩
 | scope x ih=>
   intro ac hc Q env Z a w h he hR hN hrd;obtain⟨ax,h1,hc⟩:=Aj hc;cases ac<;>simp only[erase,reduceCtorEq,AV.scope.injEq]at hc
   subst hc;simp only[T]at h;refine dE (Ca (ih h1 h he hR hN hrd) ?_);rintro e a' w' ⟨ex,env',Z',hq,hx,he',hR',hA,hN',hM'⟩;cases ex with
   | normal=>simp only[ED]at hx;subst hx;exact⟨.normal,env',Z',hq,rfl,he',hR',hA,hN',hM'⟩
   | exit id=>simp only[ED]at hx;subst hx;exact⟨.exit id,env',Z',hq,rfl,he',hR',hA,hN',hM'⟩
   | ret=>simp only[ED]at hx;subst hx;exact⟨.ret,env',Z',hq,rfl,he',hR',hA,hN',hM'⟩
   | Bj v=>obtain⟨c,rfl,hv⟩:=hx;exact⟨.Bj v,env',Z',hq,⟨c,rfl,hv⟩,he',hR',hA,hN',hM'⟩
 | loop x ih=>
   intro ac hc Q env Z a w h he hR hN hrd;obtain⟨ax,h1,hc⟩:=Aj hc;cases ac<;>simp only[erase,reduceCtorEq,AV.loop.injEq]at hc
   rename_i keep ac' _;obtain⟨_,rfl⟩:=hc;simp only[T]at h;obtain⟨I,⟨n0,h0⟩,hround⟩:=h
   let J:Nat->Act->World->Prop:=fun m a' w'=> ∃env' Z',I m env' Z'/\CW (Hh F Z' w') env' a'.tmps/\Rel F Z' w'/\B8 F Z w Z' w'/\a'.tmps.size=N/\Marks r w Z' w' a.defers a'.defers
   have hmin: ∀a' w',(∃m,J m a' w')-> ∃m,J m a' w'/\ ∀k,J k a' w'->m<=k:=fun a' w' hex=>Zd hex
   classical
   refine kD (fun a' w'=> ∃m,J m a' w') (fun a' w'=>if hx: ∃m,J m a' w' then Classical.choose (hmin a' w' hx)else 0) ⟨n0,Gl.prune keep env,Z,h0,he.prune keep,hR,B8.refl _ _ _,hN,Marks.refl _ _ _ _ _⟩ ?_;intro a' w' hex;have hspec:=(Classical.choose_spec (hmin a' w' hex)).1;obtain⟨env',Z',hI,he',hR',hA',hN',hM'⟩:=hspec;refine Ca (ih h1 (hround _ env' Z' hI) he' hR' hN' (hrd.G4 hA')) ?_;rintro e a'' w'' ⟨ex,env'',Z'',hq,hx,he'',hR'',hA'',hN'',hM''⟩;have hM3:=hM'.trans hA'' hA'.size hM'';cases ex with
   | normal=>
     simp only[ED]at hx;subst hx;obtain⟨m,hm,hI'⟩:=hq;have hJ:J m a'' w'':=⟨_,Z'',hI',he''.prune keep,hR'',hA'.trans hA'',hN'',hM3⟩
     refine⟨⟨m,hJ⟩,?_⟩;rw[dif_pos hex,dif_pos ⟨m,hJ⟩];exact Nat.lt_of_le_of_lt ((Classical.choose_spec (hmin a'' w'' ⟨m,hJ⟩)).2 m hJ) hm
   | exit id=>simp only[ED]at hx;subst hx;exact⟨.exit id,env'',Z'',hq,rfl,he'',hR'',hA'.trans hA'',hN'',hM3⟩
   | ret=>simp only[ED]at hx;subst hx;exact⟨.ret,env'',Z'',hq,rfl,he'',hR'',hA'.trans hA'',hN'',hM3⟩
   | Bj v=>obtain⟨c,rfl,hv⟩:=hx;exact⟨.Bj v,env'',Z'',hq,⟨c,rfl,hv⟩,he'',hR'',hA'.trans hA'',hN'',hM3⟩
 | region id ops draw=>
   intro ac hc Q env Z a w h he hR hN hrd;simp only[res]at hc;split at hc
   .cases hc
   .rename_i as h1
    obtain⟨h2,h3⟩:=Gt h1;cases draw with
    | false=>
      simp only[cond_false,JD]at hc;cases ac<;>simp only[erase,reduceCtorEq,AV.C9.injEq]at hc
      subst hc;simp only[T]at h;refine Ic (n:=0) <| wpIn_mono (wpIn_region (Q:=MO F Z w N a.defers Q) ?_) fun _ _ _ h=>h.t
      rw[List.range_eq_range',show ops.size=as.length by simpa using h2];exact RX (fun _ _ h=>h) (fun _ _ _ h=>h) as 0 (fun i o ho=>h3 i o (by simpa using ho)) (by simpa using h2) env Z a w h he hR (B8.refl _ _ _) hN rfl
    | true=>
      simp only[cond_true]at hc;cases hm:P.follows .mixedOrders with
      | false=>rw[hm]at hc;cases hc
      | true=>
        rw[hm]at hc;simp only[cond_true]at hc;obtain⟨C,hC,hc⟩:=Aj hc;cases ac<;>simp only[erase,reduceCtorEq,AV.HU.injEq]at hc
        obtain⟨_,rfl⟩:=hc;simp only[T]at h;exact Ic (n:=0) <| wpIn_mono (Zh hm h1 hC h he hR hN rfl) fun _ _ _ h=>h.t
 | rangeFunc g ps as bd ih1 ih2=>
   intro ac hc Q env Z a w h he hR hN hrd;obtain⟨g',ac1,ac2,h1,h2,h3,h4,hc⟩:=Sm hc;cases ac<;>simp only[erase,reduceCtorEq,AV.D2.injEq]at hc
   rename_i keep g1 ps1 aa ab _;obtain⟨_,rfl,rfl,rfl,rfl⟩:=hc;simp only[T]at h;split at h
   .rename_i gf cap hg
    have hgv:=Ap he h1 hg;obtain⟨f',c',e1,e2,e3,e4,e5⟩:=hgv;have e2':f'= #[]:=Array.size_eq_zero_iff.1 e2;subst e2';refine Sj fun fn hfnP=>?_
    obtain ⟨L,mark,W1,lp,hrun,hlp,hfr,hR1,hA1,hM1,hrd1⟩: ∃(L:Nat) (mark:List Deferred) (W1:World) (lp:Loop),(Instr.enterLoop fn a.tmps ps as bd r).run P w= .ok (L,mark) W1/\
     (W1.heap[L]? =some (.loop lp)/\lp.state= .ready/\lp.pending=none/\lp.tmps=a.tmps/\lp.params=ps/\lp.assign=as/\lp.body=bd)/\Z L=none/\
     Rel F (B3 Z L (.loop .ready (Gl.prune keep env) (Bk P ps.toList aa ab))) W1/\B8 F Z w (B3 Z L (.loop .ready (Gl.prune keep env) (Bk P ps.toList aa ab))) W1/\Marks r w (B3 Z L (.loop .ready (Gl.prune keep env) (Bk P ps.toList aa ab))) W1 a.defers (mark++a.defers)/\
     DC r (B3 Z L (.loop .ready (Gl.prune keep env) (Bk P ps.toList aa ab))) W1:=by
     have hor: ∀(w':World) (lp:Loop),Rel F Z w'->B8 F Z w Z w'->lp.state= .ready->lp.pending=none->lp.tmps=a.tmps->lp.params=ps->lp.assign=as->lp.body=bd->lp.fn=fn->
      QF (Hh F Z w') (.loop .ready (Gl.prune keep env) (Bk P ps.toList aa ab)) (.loop lp):=fun w' lp hR' hA' q1 q2 q3 q4 q5 q6 q7=>by
      refine⟨lp,rfl,⟨q1,q2⟩,fun k v hm=>?_,?_⟩
      .rw[q3]
       have hg':get k env=some v:=OG hm;obtain⟨c,hc1,hc2⟩:=he k v hg';exact⟨c,hc1,hc2.mono hA'.hle⟩
      .rw[q3,q4,q5,q6,q7]
       exact⟨hfnP,rfl,by rw[hN];exact h4,pu,fz,by rw[hN];exact h2,by rw[hN];exact h3⟩
     clear ih1 ih2 h;cases r with
     | none=>
       refine⟨w.heap.size+1,_,_,{state:= .ready,pending:=none,fn,tmps:=a.tmps,params:=ps,assign:=as,body:=bd,defers:=w.heap.size},run_enterLoop_outer fn a.tmps ps as bd,?_⟩;have hsz:(w.alloc (.deferred (some []))).heap.size=w.heap.size+1:=by simp
       have hnew:=World.alloc_heap_new (w.alloc (.deferred (some []))) (.loop {state:= .ready,pending:=none,fn,tmps:=a.tmps,params:=ps,assign:=as,body:=bd,defers:=w.heap.size});rw[hsz]at hnew;have hRa:=Lk hR (.deferred (some []));have hAa:B8 F Z w Z (w.alloc (.deferred (some []))):=I7 w _
       have hAb:B8 F Z (w.alloc (.deferred (some []))) (B3 Z (w.heap.size+1) (.loop .ready (Gl.prune keep env) (Bk P ps.toList aa ab))) ((w.alloc (.deferred (some []))).alloc (.loop {state:= .ready,pending:=none,fn,tmps:=a.tmps,params:=ps,assign:=as,body:=bd,defers:=w.heap.size})):=by
        rw[<-hsz];exact EI _ _
       have hfr:Z w.heap.size=none:=by
        cases hs:Z w.heap.size with
        | none=>rfl
        | some o=>exact absurd (hR.lt hs) (Nat.lt_irrefl _)
       refine⟨⟨hnew,rfl,rfl,rfl,rfl,rfl,rfl⟩,?_,?_,hAa.trans hAb,?_,?_⟩
       .cases hs:Z (w.heap.size+1)with
        | none=>rfl
        | some o=>have:=hR.lt hs;omega
       .rw[<-hsz]
        exact IK hRa (hor _ _ hRa hAa rfl rfl rfl rfl rfl rfl rfl)
       .refine Marks.G4 (F:=F) (Z:=Z) (w:=w.alloc (.deferred (some []))) ?_ hAb
        exact⟨[w.heap.size],rfl,by simp,fun D hD=>by
         rw[KF]at hD;subst hD
         exact⟨IW _,hfr,World.alloc_heap_new w _⟩,fun hne=>absurd rfl hne⟩
       .exact(hrd.G4 hAa).G4 hAb
     | some l0=>
       obtain⟨hl1,lp0,hl2⟩:=hrd l0 rfl;refine⟨w.heap.size,_,_,{state:= .ready,pending:=none,fn,tmps:=a.tmps,params:=ps,assign:=as,body:=bd,defers:=lp0.defers},run_enterLoop_inner hl2 fn a.tmps ps as bd,?_⟩;refine⟨⟨World.alloc_heap_new w _,rfl,rfl,rfl,rfl,rfl,rfl⟩,?_,IK hR (hor _ _ hR (B8.refl _ _ _) rfl rfl rfl rfl rfl rfl rfl),EI _ _,Marks.G4 (F:=F) (Marks.refl _ _ _ _ _) (EI _ _),hrd.G4 (F:=F) (EI _ _)⟩;cases hs:Z w.heap.size with
       | none=>rfl
       | some o=>exact absurd (hR.lt hs) (Nat.lt_irrefl _)
    obtain⟨hok,hctr⟩:=h L hfr;refine⟨L,mark,W1,{target:= .fn (.func gf) c',args:= #[.func (.yield L) #[] #[]]},W1,gf,#[.func (.yield L) #[] #[]]++c',W1,hrun,?_,?_,?_⟩
    .simp only[resolve,e1]
     simp[go_sem]
    .simp only[invoke]
     exact I8 hok _ _
    .refine LJ ?_
     have hargs:fy (Hh F (B3 Z L (.loop .ready (Gl.prune keep env) (Bk P ps.toList aa ab))) W1) (.f (.yield L) [] []::cap) (#[.func (.yield L) #[] #[]]++c'):=by
      have h0:fy (Hh F (B3 Z L (.loop .ready (Gl.prune keep env) (Bk P ps.toList aa ab))) W1) [.f (.yield L) [] []] #[.func (.yield L) #[] #[]]:=
       ⟨rfl,⟨_,rfl,#[],#[],rfl,rfl,trivial,rfl,trivial⟩,trivial⟩
      exact Iv h0 ⟨e4,Ba.mono hA1.hle (fun _ _ e=>e) _ _ e5⟩
     refine Calls.mono (hctr F W1 _ hR1 hargs) ?_;rintro e W2 ⟨rr,Z2,hq,hrr,hR2,hA2⟩;cases rr with
     | Bj v=>
       obtain⟨c,rfl,hv⟩:=hrr;have hsub:=GV Z2 L
       exact⟨.Bj v,env,del Z2 L,hq,⟨c,rfl,hv.mono (FJ fun n hn=>hsub.none hn)⟩,(he.mono (hA1.trans hA2).hle).mono (FJ fun n hn=>hsub.none hn),hR2.drop hsub,(hA1.trans hA2).trans (B8.drop W2 hsub),hN,
        (hM1.G4 hA2).G4 (B8.drop (F:=F) W2 hsub)⟩
     | ret v=>
       obtain⟨c,rfl,hv⟩:=hrr;obtain⟨st,env1,ok,hL2,hq⟩:=hq;have hsub:=GV Z2 L;obtain⟨hnl,ob,hob,lp2,rfl,hst,_,_⟩:=hR2.own L _ hL2;have hRd:=hR2.drop hsub;have hRf:Rel F (del Z2 L) (W2.putObj L (.loop {lp2 with state:= .exhausted})):=hRd.put (Dc Z2 L) hob rfl
       have hAf:B8 F Z2 W2 (del Z2 L) (W2.putObj L (.loop {lp2 with state:= .exhausted})):=by
        refine⟨fun n hn h0=>World.putObj_heap_other fun e=>?_,by simp,rfl,rfl,rfl,fun n h0 _=>hsub.none h0⟩;subst e;rw[hL2]at h0;cases h0
       have hend:=run_endLoop (P:=P) hob (by cases st<;>simp only[se]at hst<;>rw[hst.1]<;>simp);generalize W2.putObj L (.loop {lp2 with state:= .exhausted})=W3 at hRf hAf hend;have hAA:=(hA1.trans hA2).trans hAf;have hMM:=(hM1.G4 hA2).G4 hAf;refine⟨lp2.pending,_,hend,?_⟩;cases st with
       | ready=>
         rw[hst.2];exact⟨.normal,env,del Z2 L,hq,rfl,he.mono hAA.hle,hRf,hAA,hN,hMM⟩
       | ret=>
         rw[hst.2];exact Ic (n:=0) <| wpIn_ret ⟨.ret,env,del Z2 L,hq,rfl,he.mono hAA.hle,hRf,hAA,hN,hMM⟩
       | exit id=>
         rw[hst.2];exact Ic (n:=0) <| wpIn_exit ⟨.exit id,env,del Z2 L,hq,rfl,he.mono hAA.hle,hRf,hAA,hN,hMM⟩
   .exact h.elim
 | goto l=>intro ac hc;cases hc
 | refuse s=>intro ac hc;cases hc
end Go.Gl
namespace Go.Gl
variable {P:Program} {F:Nat->Prop} {pu:List FuncId} {fz:List Nat} {ds:List Deferred}
def Gr:List ResultVar->Option (List Nat)
 | []=>some []
 | .tmp t::r=>(Gr r).map (t:: ·)
 | .cell _ _::_=>none
def gR (env:Env):List Nat->Option (List V)
 | []=>some []
 | s::r=>match get s env,gR env r with
   | some v,some vs=>some (v::vs)
   | _,_=>none
def nP (AG:List Nat) (env:Env):Option V:=
 match gR env AG with
 | some [v]=>some v
 | some vs=>some (.t vs)
 | none=>none
def Am (Z:AE) (v:V) (Q:R->AE->Prop):Prop:= ∃vf Z',Sub Z' Z/\Fw Z Z' v vf/\Q (.ret vf) Z'
def Ab (Z:AE) (v:V) (Q:R->AE->Prop):Prop:= ∃vf Z',Sub Z' Z/\Fw Z Z' v vf/\Q (.Bj vf) Z'
def gZ (AG:List Nat) (Q:R->AE->Prop):Ac->Env->AE->Prop
 | .normal,env,Z| .ret,env,Z=>wv (nP AG env) fun v=>Am Z v Q
 | .Bj v,_,Z=>Ab Z v Q
 | .exit _,_,_=>False
def BA:Nat->List V->Env
 | _,[]=>[]
 | i,v::vs=>(i,v)::BA (i+1) vs
def WA {o:Option V} {k:V->Prop} (h:wv o k): ∃v,o=some v/\k v:=by
 cases o with
 | none=>exact h.elim
 | some v=>exact⟨v,rfl,h⟩
def Gv: ∀(vs:List V) (i k:Nat) (v:V),get k (BA i vs)=some v->i<=k/\vs[k - i]? =some v
 | [],_,_,_,h=>by cases h
 | u ::vs,i,k,v,h=>by
   simp only[BA,get]at h;cases hb:Nat.beq i k with
   | true=>
     rw[hb]at h;simp only[cond_true]at h;cases h;have:i=k:=Vj hb;subst this;exact⟨IW _,by simp⟩
   | false=>
     rw[hb]at h;simp only[cond_false]at h;have hne:i≠k:=Nat.ne_of_beq_eq_false hb;obtain⟨h1,h2⟩:=Gv vs (i+1) k v h;refine⟨by omega,?_⟩;rw[show k - i=k - (i+1)+1 by omega];simpa using h2
def rC (tmps:Array Value):ResultVar->Sem Value
 | .tmp t=>pure (tmps.getD t undef)
 | .cell a t=>do loadVar t (<-asAddr (tmps.getD a undef))
def Lj (fn:Func) (tmps:Array Value):results fn tmps=(do
    let vs<-fn.results.mapM (rC tmps)
    pure (if h:vs.size=1 then vs[0]else .tuple vs)):=by
 unfold results;congr 1
def Xj {fn:Func} {AG:List Nat} (hr:Gr fn.results.toList=some AG) {H:Nat->Nat->Option Value} {env:Env} {tmps:Array Value} (he:CW H env tmps) {v:V} (hv:nP AG env=some v) (w:World) :
    ∃c,(results fn tmps).run P w= .ok c w/\Ag H v c:=by
 have key: ∀(l:List ResultVar) (AG:List Nat),Gr l=some AG-> ∀vs,gR env AG=some vs->
  ∃cs:List Value,(l.mapM (rC tmps)).run P w= .ok cs w/\cs.length=vs.length/\Ba H (fun i=>cs[i]?) 0 vs:=by
  intro l
  induction l with
  | nil=>
    intro AG hs vs hv;cases hs;cases hv;exact⟨[],by simp,rfl,trivial⟩
  | cons x l ih=>
    intro AG hs vs hv;cases x with
    | cell a t=>cases hs
    | tmp t=>
      simp only[Gr]at hs;obtain⟨s',h1,rfl⟩:=Aj hs;simp only[gR]at hv;split at hv
      .rename_i u us h2 h3
       cases hv;obtain⟨cs,h4,h5,h6⟩:=ih s' h1 us h3;obtain⟨c,h7,h8⟩:=he t u h2;refine⟨c::cs,?_,by simp[h5],⟨c,rfl,h8⟩,BF h6 (fun i _=>by rw[show 0+1+i=i+1 by omega];simp)⟩;rw[List.mapM_cons];simp only[rC,DU,E8,G3,h4,Array.getD_eq_getD_getElem?,h7,Option.getD_some]
      .cases hv
 unfold nP at hv;cases hg:gR env AG with
 | none=>rw[hg]at hv;cases hv
 | some vs =>
   obtain⟨cs,h1,h2,h3⟩:=key _ _ hr vs hg
   have hrun:(fn.results.mapM (rC tmps)).run P w= .ok cs.toArray w:=by
    rw[Array.mapM_eq_mapM_toList];simp[h1]
   rw[Lj];simp only[DU];refine⟨if h:cs.toArray.size=1 then cs.toArray[0]else .tuple cs.toArray,?_,?_⟩
   .rw[hrun]
    rfl
   .rw [hg]at hv
    by_cases h1':cs.length=1
    .rw [dif_pos (by simpa using h1')]
     match cs,h1',h2,h3 with
     | [c],_,h2,h3=>
       match vs,h2,h3,hv with
       | [u],_,h3,hv=>
         cases hv;obtain⟨⟨d,hd,hr⟩,_⟩:=h3;simp at hd;subst hd;exact hr
    .rw[dif_neg (by simpa using h1')]
     have hv':v= .t vs:=by
      match vs,hv with
      | [],hv=>cases hv;rfl
      | [u],hv=>simp at h2;exact absurd h2 h1'
      | u::u'::r,hv=>cases hv;rfl
     subst hv';exact⟨_,rfl,by simpa using h2,BF h3 (fun i _=>by simp)⟩
def B8.aZ {Z₀ Z:AE} {w₀ w:World} {D:Nat} {ob:Obj} (h:B8 F Z₀ w₀ Z w) (hD:w₀.heap.size<=D):B8 F Z₀ w₀ Z (w.putObj D ob) where
 frame n hn h0:=(World.putObj_heap_other (by omega)).trans (h.frame n hn h0)
 size:=by simpa using h.size
 os:=h.os
 tape:=h.tape
 output:=h.output
 names:=h.names
def DT {AD:Fence} {n:Nat} {fn:Func} {tmps:Array Value} {R:Ending->World->Prop} {u:FrameMode} (hu:u≠ .run) {Z₀ Z:AE} {w₀:World}: ∀(ms:List Nat) (w:World),ms.Nodup->
    (∀D∈ms,w₀.heap.size<=D/\Z D=none/\w.heap[D]? =some (.deferred (some [])))->Rel F Z w->B8 F Z₀ w₀ Z w->(∀w',Rel F Z w'->B8 F Z₀ w₀ Z w'->Zy (Hh F Z w) (Hh F Z w')->LeavesInM AD n P fn tmps R ds u w')->
    LeavesInM AD n P fn tmps R (ms.map Ee++ds) u w
 | [],w,_,_,hR,hA,h=>h w hR hA fun _ _ _ h=>h
 | D::ms,w,hnd,hms,hR,hA,h=>by
   obtain⟨h1,h2,h3⟩:=hms D (.head _);have hnd':=List.nodup_cons.1 hnd;refine⟨hu,.inl ⟨D,_,rfl,run_takeDeferred h3,?_⟩⟩;have hle:=VG (F:=F) (Z:=Z) (ob':= .deferred none) h3 rfl;refine DT hu ms _ hnd'.2 (fun E hE=>?_) (hR.put h2 h3 rfl) (hA.aZ h1) fun w' q1 q2 q3=>h w' q1 q2 fun b o c hc=>q3 b o c (hle b o c hc)
   obtain⟨h4,h5,h6⟩:=hms E (.tail _ hE);exact⟨h4,h5,(World.putObj_heap_other (fun e=>hnd'.1 (by rw[<-e];exact hE))).trans h6⟩
def G2 {n:Nat} {f:FuncId} {fn:Func} {c:Code} {args:Array Value} {w:World} {R:Ending->World->Prop}
    (hf:P.funcs[f]? =some fn) (hb:fn.body=some c)
    (h:PE none P c (bodyPostM (wide none) n P fn R) {tmps:=args++Array.replicate (fn.ntmps - args.size) undef,defers:=[]} w):CallsIn (wide none) n P f args w R:=by
 refine⟨trivial,fun cs hr=>?_⟩
 let b:Frame:={(default:Frame)with fn:=f,kind:= .normal,roundOf:=none}
 have henter:Frame.enter P f args .normal =
  b.atR {tmps:=args++Array.replicate (fn.ntmps - args.size) undef,defers:=[]} [.code c]:=by
  simp[Frame.enter,Frame.atR,hf,hb,b]
 obtain⟨e,a',w',hq,harr⟩:=h b [] cs rfl ⟨fn,hf⟩;rw[<-henter]at harr;cases e with
 | normal=>
   obtain⟨e',w'',fr',hR,hs,hfn,hl⟩:=leaves_stepsInM a'.defers .returning w' {b.atR a' []with mode:= .returning} cs rfl rfl rfl hf rfl trivial hr hq;exact⟨e',w'',fr',hR,ComesIn.of_steps (StepsIn.trans harr (.one (fenced_calm (fr:=b.atR a' []) trivial hr rfl) (stepR_end rfl))) hs,hfn,hl⟩
 | ret=>
   obtain⟨todo,hs₀⟩:=harr.1 rfl;obtain⟨e',w'',fr',hR,hs,hfn,hl⟩:=leaves_stepsInM a'.defers .returning w' {b.atR a' todo with mode:= .returning} cs rfl rfl rfl hf rfl trivial hr hq;exact⟨e',w'',fr',hR,ComesIn.of_steps hs₀ hs,hfn,hl⟩
 | panic chain=>
   obtain⟨todo,hs₀⟩:=harr;obtain⟨e',w'',fr',hR,hs,hfn,hl⟩:=leaves_stepsInM a'.defers (.panicking chain) w' {b.atR a' todo with mode:= .panicking chain} cs rfl rfl rfl hf rfl trivial hr hq;exact⟨e',w'',fr',hR,ComesIn.of_steps hs₀ hs,hfn,hl⟩
 | exit id=>exact hq.elim
 | goto l=>exact hq.elim
 | outgrown=>exact⟨.outgrown,w',b,hq,harr.resolve_left (by simp[b]),rfl,trivial⟩
def mH {f:FuncId} {fn:Func} {c:Code} {ac:AV} {AG:List Nat} (hf:P.funcs[f]? =some fn) (hok:okF P f=true) (hb:fn.body=some c) (hr:Gr fn.results.toList=some AG)
    {args:List V} (hn:args.length<=fn.ntmps) (hc:res P fn.ntmps pu fz c=some (erase ac)) {Z:AE} {Q:R->AE->Prop} (h:T P ac (gZ AG Q) (BA 0 args) Z):Au P f args Z Q:=by
 refine⟨hok,fun F w cs hR hv=>?_⟩;refine callsIn_wide (n:=0) |>.1 (G2 hf hb ?_)
 have he:CW (Hh F Z w) (BA 0 args) (cs++Array.replicate (fn.ntmps - cs.size) undef):=by
  intro k v hg;obtain⟨_,h2⟩:=Gv args 0 k v hg;simp only[Nat.sub_zero]at h2;obtain⟨d,h3,h4⟩:=Bi.1 hv.2 k v h2;simp only[G8]at h3;refine⟨d,?_,h4⟩;rw[Array.getElem?_append_left (by have:=(sO.1 h3).1;exact this)];exact h3
 have hsz:(cs++Array.replicate (fn.ntmps - cs.size) undef).size=fn.ntmps:=by
  simp only[Array.size_append,Array.size_replicate];have:=hv.1;omega
 refine Ca (FI (r:=none) (a:={tmps:=cs++Array.replicate (fn.ntmps - cs.size) undef,defers:=[]}) hc h he hR hsz DC.none) ?_;rintro e a' w' ⟨ex,env,Z',hq,hx,he',hR',hA,hN,ms,hms,hnd,hD,_⟩;simp only[GA]at hms
 have fin: ∀v vf Z'',nP AG env=some v->Sub Z'' Z'->Fw Z' Z'' v vf->Q (.ret vf) Z''->LeavesInM (wide none) 0 P fn a'.tmps (fun e w'=> ∃r Z',Q r Z'/\V9 (Hh F Z' w') r e/\Rel F Z' w'/\B8 F Z w Z' w') a'.defers .returning w':=fun v vf Z'' h1 h2 h3 h4=>by
  rw[hms,<-GA (ms.map Ee)];refine DT (by simp) ms w' hnd hD hR' hA fun w2 q1 q2 q3=>?_
  obtain⟨c,h5,h6⟩:=Xj (P:=P) hr (he'.mono q3) h1 w2;exact⟨c,h5,.ret vf,Z'',h4,⟨c,rfl,h3.rel q1 h2 h6⟩,q1.drop h2,q2.trans (B8.drop w2 h2)⟩
 cases ex with
 | normal=>
   simp only[ED]at hx;subst hx;obtain⟨v,h1,vf,Z'',h2,h3,h4⟩:=WA hq;exact fin v vf Z'' h1 h2 h3 h4
 | ret=>
   simp only[ED]at hx;subst hx;obtain⟨v,h1,vf,Z'',h2,h3,h4⟩:=WA hq;exact fin v vf Z'' h1 h2 h3 h4
 | exit id=>exact hq.elim
 | Bj v=>
   obtain⟨c,rfl,hv'⟩:=hx;obtain⟨vf,Z'',h2,h3,h4⟩:=hq;show LeavesInM _ _ _ _ _ _ a'.defers (.panicking _) w';rw[hms,<-GA (ms.map Ee)];refine DT (by simp) ms w' hnd hD hR' hA fun w2 q1 q2 q3=>?_
   exact⟨.Bj vf,Z'',h4,⟨c,rfl,h3.rel q1 h2 (hv'.mono q3)⟩,q1.drop h2,q2.trans (B8.drop w2 h2)⟩
def Lt {f:FuncId} {fn:Func} {ac:AV} {AG:List Nat} (hf:P.funcs[f]? =some fn) (hok:okF P f=true) (hb:fn.body.bind (res P fn.ntmps pu fz)=some (erase ac)) (hr:Gr fn.results.toList=some AG)
    {args:List V} (hn:args.length<=fn.ntmps) {Z:AE} {Q:R->AE->Prop} (h:T P ac (gZ AG Q) (BA 0 args) Z):Au P f args Z Q:=by
 cases hc:fn.body with
 | none=>rw[hc]at hb;cases hb
 | some c=>rw[hc]at hb;exact mH hf hok hc hr hn hb h
def scalar:V->Bool
 | .b _=>true
 | .i _ _=>true
 | .t vs=>vs.all fun| .b _=>true| .i _ _=>true|_=>false
 | _=>false
def Y5 {H H':Nat->Nat->Option Value} {v:V} {c:Value} (hs:scalar v=true) (h:Ag H v c):Ag H' v c:=by
 cases v<;>try(simp[scalar]at hs;done)
 .exact h
 .exact h
 .rename_i vs
  obtain⟨c',rfl,h1,h2⟩:=h;refine⟨c',rfl,h1,?_⟩;rw[Bi]at *;intro i v hv;obtain⟨d,hd,hr⟩:=h2 i v hv;refine⟨d,hd,?_⟩;simp only[scalar,EB]at hs;have:=hs v (Bo hv);cases v<;>first|(simp at this;done)|exact hr
def Pure.L7 {f:FuncId} {args args':List V} {v:V} (h:Pure P f args' v) {Z:AE} (hf:DV Z emp args args') (hs:scalar v=true) {k kp:V->AE->Prop} (hk:k v Z):Au P f args Z (qk k kp):=by
 refine⟨h.1,fun F w cs hR hv=>?_⟩;have hsub:Sub emp Z:=fun n o ho=>by cases ho
 refine Calls.mono (h.2 F w cs (hR.drop hsub) ⟨by rw[hf.length];exact hv.1,hf.rel hR hsub (fun _ _ e=>e) hv.2⟩) fun e w' ⟨r,Z',⟨hr,hs'⟩,h1,h2,h3⟩=>?_
 subst hr;subst hs';obtain⟨c,rfl,hv'⟩:=h1;exact⟨.ret v,Z,hk,⟨c,rfl,Y5 hs hv'⟩,TL hR h3,VS h3⟩
end Go.Gl
namespace Go.Gl
variable {P:Program} {Z:AE} {env env':Env}
def A8 {v vf:V} (h:Fw Z emp v vf):Am Z v (fun r Z'=>r= .ret vf/\Z'=emp):=⟨vf,emp,fun n o ho=>(by cases ho),h,rfl,rfl⟩
def AF {v vf:V} (h:v=vf):Am Z v (fun r Z'=>r= .ret vf/\Z'=emp):=A8 (h ▸ .refl v)
def OY {K K':Env->AE->Prop} {kp kp':Env->V->AE->Prop} (hm: ∀env Z,K env Z->K' env Z) (hp: ∀env v Z,kp env v Z->kp' env v Z): ∀ {os:List Ar} {env:Env} {Z:AE},Jo P os K kp env Z->Jo P os K' kp' env Z
 | [],_,_,h=>hm _ _ h
 | _::_,_,_,h=>CN h (fun _ _ h=>OY hm hp h) (hp _)
def Ly {K K':Env->AE->Prop} {kp kp':V->AE->Prop} (hm: ∀env Z,K env Z->K' env Z) (hp: ∀v Z,kp v Z->kp' v Z): ∀ {os:List Cq} {env:Env} {Z:AE},Da P os K kp env Z->Da P os K' kp' env Z
 | [],_,_,h=>hm _ _ h
 | _::_,_,_,h=>CN h (fun _ _ h=>⟨h.1,Ly hm hp h.2⟩) hp
end Go.Gl
