import Derived.Scope
import Derived.OrdersIn
import Derived.RangeFuncWrites
import Derived.RangeFuncNested
import Derived.RangeFuncLeaves
import Derived.Test.YtegbmnmnaijioaaGreatL3
set_option linter.all false
set_option linter.defProp false
noncomputable section
namespace Go.Gl
def C7.refl (σ σ':AH): ∀vs,C7 σ σ' vs vs
 | []=> .nil
 | _::vs=> .cons (.refl _) (C7.refl σ σ' vs)
def FF.refl (σ σ':AH): ∀vs,FF σ σ' vs vs
 | []=> .nil
 | _::vs=> .cons (C7.refl σ σ' _) (FF.refl σ σ' vs)
def C7.length {σ σ':AH}: ∀ {vs vs':List V},C7 σ σ' vs vs'->vs'.length=vs.length
 | _,_,.nil=>rfl
 | _,_,.cons _ h=>by simp[h.length]
def FF.length {σ σ':AH}: ∀ {vs vs':List (List V)},FF σ σ' vs vs'->vs'.length=vs.length
 | _,_,.nil=>rfl
 | _,_,.cons _ h=>by simp[h.length]
variable {P:Program} {Λ:Nat->Prop}
def Lm {σ σ':AH} {w:World} (G:Rel Λ σ w) (n:Nat) {o:O} (hn:σ n=some o) (hn':σ' n=none) {c:Array Value} {e:TypeId} {fr:Nat×Nat} (hb:w.heap[n]? =some (.cells c e fr)) (i:Nat) (v:Value) (hv:c[i]? =some v):Hh Λ σ' w n i=some v:=by
 rw[NB (G.own n _ hn).1 hn',DG hb];exact hv
mutual
def Ff.G0 {σ σ':AH} {w:World} (G:Rel Λ σ w) (hs: ∀n,σ n=none->σ' n=none): ∀ {v v':V} {c:Value},Ff σ σ' v v'->Ag (Hh Λ σ w) v c->Ag (Hh Λ σ' w) v' c
 | _,_,_,.refl v,h=>h.mono (Ej hs)
 | _,_,_,.arr (n:=n) (sz:=sz) hn hn' hl hr,h=>by
   obtain⟨rfl,h2⟩:=h;subst hl;obtain⟨c,e,h3,h4,h5,h6,h7⟩:=Eh G hn;have hlen:=hr.length;refine⟨some ⟨n,0,none⟩,_,by rw[hlen],by rw[hlen];exact h2,by simp,by rw[hlen];exact h6,by simp,fun _=>⟨n,0,sz,rfl,?_⟩⟩;exact FF.G0 G hs (fun i v hv=>Lm G n hn hn' h3 i v hv) hr h7
 | _,_,_,.cs (n:=n) hn hn' hr,h=>by
   simp only[Ag]at h;subst h;obtain⟨c,e,h3,h4,h5⟩:=JS G hn;exact⟨n,0,rfl,C7.G0 G hs (fun i v hv=>Lm G n hn hn' h3 i v hv) hr h5⟩
 | _,_,_,.a hr,h=>by
   obtain⟨c',rfl,h2,h3⟩:=h;exact⟨c',rfl,by rw[hr.length];exact h2,C7.G0 G hs (fun _ _ e=>e) hr h3⟩
 | _,_,_,.t hr,h=>by
   obtain⟨c',rfl,h2,h3⟩:=h;exact⟨c',rfl,by rw[hr.length];exact h2,C7.G0 G hs (fun _ _ e=>e) hr h3⟩
 | _,_,_,.Eo hr,h=>by
   obtain⟨c',rfl,h2⟩:=h;exact⟨c',rfl,Ff.G0 G hs hr h2⟩
 | _,_,_,.l hf hr,h=>by
   obtain⟨a,cap,rfl,h2,h3,h4,h5,h6⟩:=h;have hl:=hr.length;refine⟨a,cap,by rw[hl],by rw[hl];exact h2,fun e=>by rw[hl];exact h3 (hf e),by rw[hl];exact h4,h5,fun hne=>?_⟩;obtain⟨b,o,sz,h7,h8⟩:=h6 (by intro e;subst e;cases hr;exact hne rfl);exact⟨b,o,sz,h7,FF.G0 G hs (fun i v hv=>Ej hs b i v hv) hr h8⟩
 | _,_,_,.rp hr,h=>by
   obtain⟨b,o,rfl,h2⟩:=h;exact⟨b,o,rfl,C7.G0 G hs (fun i v hv=>Ej hs b i v hv) hr h2⟩
 | _,_,_,.f h1 h2,h=>by
   obtain⟨f',c',rfl,h3,h4,h5,h6⟩:=h;exact⟨f',c',rfl,by rw[h1.length];exact h3,C7.G0 G hs (fun _ _ e=>e) h1 h4,by rw[h2.length];exact h5,C7.G0 G hs (fun _ _ e=>e) h2 h6⟩
 | _,_,_,.any,_=>trivial
def C7.G0 {σ σ':AH} {w:World} (G:Rel Λ σ w) (hs: ∀n,σ n=none->σ' n=none) {g g':Nat->Option Value} (hg: ∀i c,g i=some c->g' i=some c): ∀ {vs vs':List V} {o:Nat},C7 σ σ' vs vs'->BO (Hh Λ σ w) g o vs->BO (Hh Λ σ' w) g' o vs'
 | _,_,_,.nil,_=>trivial
 | _,_,_,.cons h1 h2,⟨⟨c,hc,hv⟩,h3⟩=>⟨⟨c,hg _ _ hc,Ff.G0 G hs h1 hv⟩,C7.G0 G hs hg h2 h3⟩
def FF.G0 {σ σ':AH} {w:World} (G:Rel Λ σ w) (hs: ∀n,σ n=none->σ' n=none) {g g':Nat->Option Value} (hg: ∀i c,g i=some c->g' i=some c) {sz:Nat}: ∀ {vs vs':List (List V)} {o:Nat},FF σ σ' vs vs'->BC (Hh Λ σ w) g sz o vs->BC (Hh Λ σ' w) g' sz o vs'
 | _,_,_,.nil,_=>trivial
 | _,_,_,.cons h1 h2,⟨hl,hv,h3⟩=>⟨by rw[h1.length];exact hl,C7.G0 G hs hg h1 hv,FF.G0 G hs hg h2 h3⟩
end
def Ff.rel {σ σ':AH} {w:World} (G:Rel Λ σ w) (hs:Sub σ' σ) {v v':V} {c:Value} (h:Ff σ σ' v v') (hv:Ag (Hh Λ σ w) v c):Ag (Hh Λ σ' w) v' c:=Ff.G0 G (fun _ hn=>hs.none hn) h hv
def C7.rel {σ σ':AH} {w:World} (G:Rel Λ σ w) (hs:Sub σ' σ) {g g':Nat->Option Value} (hg: ∀i c,g i=some c->g' i=some c) {vs vs':List V} {o:Nat} (h:C7 σ σ' vs vs') (hv:BO (Hh Λ σ w) g o vs):BO (Hh Λ σ' w) g' o vs':=C7.G0 G (fun _ hn=>hs.none hn) hg h hv
def FF.rel {σ σ':AH} {w:World} (G:Rel Λ σ w) (hs:Sub σ' σ) {g g':Nat->Option Value} (hg: ∀i c,g i=some c->g' i=some c) {sz:Nat} {vs vs':List (List V)} {o:Nat} (h:FF σ σ' vs vs') (hv:BC (Hh Λ σ w) g sz o vs):BC (Hh Λ σ' w) g' sz o vs':=FF.G0 G (fun _ hn=>hs.none hn) hg h hv
structure ub (σ σ2:AH):Prop where
 h: ∀n o2,σ2 n=some o2->σ n=some o2\/ ∃vs vs2,σ n=some (.cs vs)/\o2= .cs vs2/\C7 σ σ2 vs vs2
def ub.none {σ σ2:AH} (h:ub σ σ2) {n:Nat} (hn:σ n=none):σ2 n=none:=by
 cases h':σ2 n with
 | none=>rfl
 | some o2=>
   rcases h.h n o2 h' with h1|⟨vs,vs2,h1,-⟩
   .rw[hn]at h1;cases h1
   .rw[hn]at h1;cases h1
def Rel.fz {σ σ2:AH} {w:World} (G:Rel Λ σ w) (h:ub σ σ2):Rel Λ σ2 w where
 own n o2 ho:=by
  rcases h.h n o2 ho with h1|⟨vs,vs2,h1,rfl,hf⟩
  .obtain⟨q1,ob,q2,q3⟩:=G.own n o2 h1
   exact⟨q1,ob,q2,OJ.mono (Ej fun n hn=>h.none hn) q3⟩
  .obtain⟨q1,ob,q2,c,e,q3,q4,q5⟩:=G.own n _ h1
   exact⟨q1,ob,q2,c,e,q3,by rw[hf.length];exact q4,hf.G0 G (fun _ hn=>h.none hn) (fun _ _ e=>e) q5⟩
 lock:=G.lock
def B2.fz {σ σ2:AH} (w:World) (h:ub σ σ2):B2 Λ σ w σ2 w:=
 ⟨fun _ _ _=>rfl,IN _,rfl,rfl,rfl,fun _ hn _=>h.none hn⟩
def Xy {σ:AH} {sz b:Nat} {x y:Bg} {env:Env} {k kp:V->AH->Prop} (h:E5 P (.QJ sz b x y) env σ k kp) :
    E5 P (.append sz b x y) env σ (fun v σ1=> ∃vf σ2,Sub σ2 σ1/\Ff σ1 σ2 v vf/\k vf σ2) kp:=by
 simp only[E5]at *;refine Bm h fun vx h=>Bm h fun vy h=>?_
 unfold Ab at h;unfold AM;refine FP h fun ys ⟨h1,h2⟩=>⟨h1,?_⟩
 cases vx<;>first|exact h2.elim|skip
 rename_i es full;simp only at *;obtain⟨h3,h4,h5,h6⟩:=h2;refine⟨h3,h4,fun e=>?_,fun e=>⟨h5 e,fun n cap hn hc=>?_⟩⟩
 .subst e
  rw[Ep]at h6;exact⟨_,σ,fun _ _ h=>h,.l (fun h=>(by cases h)) (.refl _ _ _),h6⟩
 .exact⟨_,σ,GU hn,.arr (MB) hn (by simp) (.refl _ _ _),h6⟩
def mD {σ:AH} {x:Bg} {env:Env} {k kp:V->AH->Prop} (h:E5 P (.Nd x) env σ k kp) :
    E5 P (.box x) env σ (fun v σ1=> ∃vf σ2,Sub σ2 σ1/\Ff σ1 σ2 v vf/\k vf σ2) kp:=by
 simp only[E5]at *;refine Bm h fun vx h=>?_
 split at h
 .exact fun n hn=>⟨_,σ,GU hn,.cs MB hn (.refl _ _ _),h⟩
 .exact h.elim
end Go.Gl
namespace Go.Gl
inductive AX where
 | skip
 | Cs (ops:List Aq)
 | G2 (l:List Nat) (ops:List CZ)
 | seq (l:List Nat) (a b:AX)
 | cond (c:Bg) (a b:AX)
 | block (id:Nat) (a:AX)
 | loop (l:List Nat) (a:AX)
 | exit (id:Nat)
 | ret
 | scope (a:AX)
 | Da (l:List Nat) (g:Bg) (ps:List Nat) (a b:AX)
 deriving Inhabited
inductive Ah where
 | normal
 | exit (id:Nat)
 | ret
 | BZ (v:V)
def prune:List Nat->Env->Env
 | [],_=>[]
 | s::r,env=>match get s env with
   | some v=>(s,v)::prune r env
   | none=>prune r env
def EFz (σ σ2:AH) (env env2:Env):Prop:= ∀j v2,get j env2=some v2-> ∃v,get j env=some v/\Ff σ σ2 v v2
def Fz (env:Env) (σ:AH) (K:Env->AH->Prop):Prop:=K env σ\/ ∃env2 σ2,ub σ σ2/\EFz σ σ2 env env2/\K env2 σ2
def Fz.mono {env:Env} {σ:AH} {K K':Env->AH->Prop} (h:Fz env σ K) (hk: ∀env σ,K env σ->K' env σ):Fz env σ K':=by
 rcases h with h|⟨e2,s2,h1,h2,h3⟩
 .exact .inl (hk _ _ h)
 .exact .inr ⟨e2,s2,h1,h2,hk _ _ h3⟩
def IW (P:Program):List Aq->(Env->AH->Prop)->(Env->V->AH->Prop)->Env->AH->Prop
 | [],K,_,env,σ=>K env σ
 | o::r,K,kp,env,σ=>Hg P o env σ (fun v σ'=>IW P r K kp (put o.dst v env) σ') (kp env)
def Ah.andThen (next:Env->AH->Prop) (Q:Ah->Env->AH->Prop):Ah->Env->AH->Prop
 | .normal,env,σ=>next env σ
 | .exit id,env,σ=>Q (.exit id) env σ
 | .ret,env,σ=>Q .ret env σ
 | .BZ v,env,σ=>Q (.BZ v) env σ
def Ah.inBlock (id:Nat) (Q:Ah->Env->AH->Prop):Ah->Env->AH->Prop
 | .normal,env,σ=>Q .normal env σ
 | .exit id',env,σ=>bif Nat.beq id' id then Q .normal env σ else Q (.exit id') env σ
 | .ret,env,σ=>Q .ret env σ
 | .BZ v,env,σ=>Q (.BZ v) env σ
def erase:AX->AX
 | .G2 _ ops=> .G2 [] ops
 | .seq _ a b=> .seq [] (erase a) (erase b)
 | .cond c a b=> .cond c (erase a) (erase b)
 | .block id a=> .block id (erase a)
 | .loop _ a=> .loop [] (erase a)
 | .scope a=> .scope (erase a)
 | .Da _ g ps a b=> .Da [] g ps (erase a) (erase b)
 | c=>c
def M3 (P:Program) (N:Nat) (ops:Array Oper) (o:Oper):Option Aq:=
 match dB P o.op,o.guard with
 | some ao,none=>if(∀d,o.dst=some d->d<N)then some ⟨o.dst,ao,none⟩else none
 | some ao,some (j,b)=>match(ops[j]?).bind (·.dst)with
   | some d=>if(∀d,o.dst=some d->d<N)then some ⟨o.dst,ao,some (d,b)⟩else none
   | none=>none
 | none,_=>none
def Gh (P:Program) (N:Nat) (ops:Array Oper):List Oper->Option (List Aq)
 | []=>some []
 | o::r=>match M3 P N ops o,Gh P N ops r with
   | some x,some xs=>some (x::xs)
   | _,_=>none
def direct (ops:Array Oper) (i:Nat):List Nat:=match ops[i]? with|some o=>(o.after.toList.filter (Region.binds .any)).map (·.on)|none=>[]
def Cv (pu:List FuncId) (fz:List Nat) (ao:Aq):Aq:=match ao.op with
 | .call f as=>bif pu.contains f then {ao with op:= .Kt f as}else ao
 | .box x=>bif (match ao.dst with|some d=>fz.contains d|none=>false)then {ao with op:= .Nd x}else ao
 | .mv x=>bif (match ao.dst with|some d=>fz.contains d|none=>false)then {ao with op:= .jW x}else ao
 | .append sz b x y=>bif (match ao.dst with|some d=>fz.contains d|none=>false)then {ao with op:= .QJ sz b x y}else ao
 | _=>ao
def XP (x y:Aq):Bool:=
 (match x.dst with|some d=> !(looks y).contains d&&y.dst != some d|none=>true)&&(match y.dst with|some d=> !(looks x).contains d|none=>true)
def XD (y x:Aq):Bool:=match y.dst with|some d=> !(AI x).contains d|none=>true
def Y7:FY->Bool| .alloc _=>true|_=>false
def okB (x y:CZ):Bool:=x.oX.isEmpty&&XP x.o y.o&&((still x.o.op&&calm y.o.op)||kd x.o.op== .P||
 (still x.o.op&&y.oX.contains x.i&&(match x.o.dst with|some d=> !(looks x.o).contains d|none=>true))||(YP x.o.op&&y.oX.isEmpty&&y.o.guard.isNone&&Y7 y.o.op))
def Jg (ops:Array Oper) (clo:List (List Nat)) (x y:CZ):Bool:=
 !Nat.beq x.i y.i&& !(direct ops x.i).contains y.i&&(kd x.o.op != .N||XD y.o x.o)&&((clo.getD y.i []).contains x.i||okB x y)
def wY (ops:Array Oper) (clo:List (List Nat)):List CZ->Bool
 | []=>true
 | x::r=>r.all (Jg ops clo x)&&wY ops clo r
def jt (ops:Array Oper) (clo:List (List Nat)):Bool:=(List.range ops.size).all fun i=>(clo.getD i []).all fun x=>(direct ops i).contains x||(direct ops i).any fun j=>Nat.blt j i&&(clo.getD j []).contains x
def Z9 (ops:Array Oper) (clo:List (List Nat)) (AF:List CZ):Bool:=
 Nat.beq AF.length ops.size&&(List.range ops.size).all (fun j=>AF.any fun d=>Nat.beq d.i j)&&AF.all (fun d=>Nat.blt d.i ops.size&& !(direct ops d.i).contains d.i&&(direct ops d.i).all (fun e=>Nat.blt e ops.size))&&
 jt ops clo&&wY ops clo AF
def FM (ops:Array Oper):Nat->List (List Nat)
 | 0=>[]
 | n+1=>let r:=FM ops n;r++[((direct ops n)++(direct ops n).flatMap fun j=>r.getD j []).eraseDups]
def Wh (o:FY):Nat:=match kd o with| .P=>0| .N=>0| .A=>1| .AB=>2| .H=>3
def nZ (o:FY):Nat:=match kd o with| .P=>0| .N=>0| .A=>1| .AB=>3| .H=>2
def qR (Wh:FY->Nat) (ops:Array Oper) (as:List Aq) (left done:List Nat):Option Nat:=
 let rs:=left.filter fun i=>(direct ops i).all done.contains
 let of:=fun r=>rs.find? fun i=>match as[i]? with|some ao=>Nat.ble (Wh ao.op) r|none=>false
 match of 0 with|some i=>some i|none=>match of 1 with|some i=>some i|none=>match of 2 with|some i=>some i|none=>of 3
def Oe (Wh:FY->Nat) (ops:Array Oper) (as:List Aq):Nat->List Nat->List Nat->List Nat
 | 0,_,done=>done.reverse
 | n+1,left,done=>match qR Wh ops as left done with
   | some i=>Oe Wh ops as n (left.filter fun j=> !Nat.beq j i) (i::done)
   | none=>done.reverse
def nY (clo:List (List Nat)) (as:List Aq) (before:List Nat) (i:Nat):List Nat:=
 match as[i]? with
 | some ao=>match kd ao.op with
   | .H=>before.filter fun j=> !(clo.getD i []).contains j&&(match as[j]? with|some x=>kd x.op== .N|none=>false)
   | _=>[]
 | none=>[]
def jX (clo:List (List Nat)) (as:List Aq):List Nat->List Nat->List CZ
 | _,[]=>[]
 | before,i::r=>match as[i]? with
   | some ao=>⟨i,ao,nY clo as before i,(nY clo as before i).filterMap fun j=>as[j]?⟩::jX clo as (i::before) r
   | none=>jX clo as (i::before) r
def jj (ops:Array Oper) (as:List Aq):Option (List CZ):=
 let clo:=FM ops ops.size
 let AF:=jX clo as [] (Oe Wh ops as ops.size (List.range ops.size) [])
 bif Z9 ops clo AF then some AF else
 let AF:=jX clo as [] (Oe nZ ops as ops.size (List.range ops.size) [])
 bif Z9 ops clo AF then some AF else none
def res (P:Program) (N:Nat) (pu:List FuncId) (fz:List Nat):Code->Option AX
 | .skip=>some .skip
 | .label _=>some .skip
 | .ret=>some .ret
 | .exit id=>some (.exit id)
 | .seq a b=>match res P N pu fz a,res P N pu fz b with|some a,some b=>some (.seq [] a b)|_,_=>none
 | .cond c a b=>match BL c,res P N pu fz a,res P N pu fz b with|some c,some a,some b=>some (.cond c a b)|_,_,_=>none
 | .block id a=>(res P N pu fz a).map (.block id)
 | .loop a=>(res P N pu fz a).map (.loop [])
 | .scope a=>(res P N pu fz a).map .scope
 | .rangeFunc g ps a b=>match BL g,res P N pu fz a,res P N pu fz b with
   | some g,some a,some b=>if ps.toList.all (fun p=>Nat.blt p N)then some (.Da [] g ps.toList a b)else none
   | _,_,_=>none
 | .region _ ops draw=>match Gh P N ops ops.toList with
   | none=>none
   | some as=>bif draw then(bif P.follows .mixedOrders then(jj ops (as.map (Cv pu fz))).map (.G2 [])else none)else some (.Cs (as.map (Cv pu fz)))
 | _=>none
def Bb (P:Program) (ps:List Nat) (a b:AX):FuncId->Array Tmp->Code->Code->Nat->Prop:=fun fn ps' as bd N=>
 (∃g,P.funcs[fn]? =some g)/\ps'.toList=ps/\(∀p∈ps,p<N)/\ ∃pu fz,res P N pu fz as=some (erase a)/\res P N pu fz bd=some (erase b)
def Ij (L:Nat) (Q:Ah->Env->AH->Prop) (env:Env):R->AH->Prop
 | .ret _,σ=> ∃st env1 ok,σ L=some (.loop st env1 ok)/\match st with
   | .ready=>Q .normal env (del σ L)
   | .ret=>Q .ret env (del σ L)
   | .exit id=>Q (.exit id) env (del σ L)
 | .BZ v,σ=>Q (.BZ v) env (del σ L)
def T (P:Program):AX->(Ah->Env->AH->Prop)->Env->AH->Prop
 | .skip,Q,env,σ=>Q .normal env σ
 | .ret,Q,env,σ=>Q .ret env σ
 | .exit id,Q,env,σ=>Q (.exit id) env σ
 | .Cs ops,Q,env,σ=>IW P ops (fun env σ=>Q .normal env σ) (fun env v σ=>Q (.BZ v) env σ) env σ
 | .G2 l ops,Q,env,σ=>DC P ops (fun env σ=>Q .normal (prune l env) σ) (fun v σ=> ∀σ',Sub σ σ'->Q (.BZ v) [] σ') env σ
 | .seq l a b,Q,env,σ=>T P a (Ah.andThen (fun env σ=>Fz (prune l env) σ (T P b Q)) Q) env σ
 | .cond c a b,Q,env,σ=>match ev env c with
   | some (.b t)=>(t=true->T P a Q env σ)/\(t=false->T P b Q env σ)
   | _=>False
 | .block id a,Q,env,σ=>T P a (Ah.inBlock id Q) env σ
 | .scope a,Q,env,σ=>T P a Q env σ
 | .loop l a,Q,env,σ=> ∃AG:Nat->Env->AH->Prop,(∃n,AG n (prune l env) σ)/\
  ∀n env σ,AG n env σ->T P a (Ah.andThen (fun env σ=> ∃m,m<n/\AG m (prune l env) σ) Q) env σ
 | .Da l g ps a b,Q,env,σ=>match ev env g with
   | some (.f (.func gf) [] cap)=> ∀L,σ L=none->As P gf (.f (.yield L) [] []::cap) (A6 σ L (.loop .ready (prune l env) (Bb P ps a b))) (Ij L Q env)
   | _=>False
def CE.put {H:Nat->Nat->Option Value} {env:Env} {a:Act} (h:CE H env a.tmps) {N:Nat} (hN:a.tmps.size=N) {d:Option Nat} (hd: ∀x,d=some x->x<N) {v:V} {c:Value} (hv:Ag H v c) :
    CE H (Gl.put d v env) (a.put d c).tmps:=by
 cases d with
 | none=>exact h
 | some d=>
   intro j u hu;simp only[Gl.put,get]at hu;cases hb:Nat.beq d j with
   | true=>
     rw[hb]at hu;simp only[cond_true]at hu;cases hu;have:d=j:=Ti hb;subst this;refine⟨c,?_,hv⟩;simp only[Act.put];rw[Array.getElem?_setIfInBounds_self_of_lt (by rw[hN];exact hd d rfl)]
   | false=>
     rw[hb]at hu;simp only[cond_false]at hu;have:d≠j:=Nat.ne_of_beq_eq_false hb;obtain⟨c',h1,h2⟩:=h j u hu;refine⟨c',?_,h2⟩;simp only[Act.put];rw[Array.getElem?_setIfInBounds_ne this];exact h1
def Ml: ∀(keep:List Nat) (env:Env) (k:Nat) (v:V),get k (prune keep env)=some v->get k env=some v
 | [],_,_,_,h=>by cases h
 | s ::r,env,k,v,h=>by
   simp only[prune]at h;split at h
   .rename_i u hu
    simp only[get]at h;cases hb:Nat.beq s k with
    | true=>
      rw[hb]at h;simp only[cond_true]at h;cases h;have:s=k:=Ti hb;subst this;exact hu
    | false=>
      rw[hb]at h;simp only[cond_false]at h;exact Ml r env k v h
   .exact Ml r env k v h
def CE.prune {H:Nat->Nat->Option Value} {env:Env} {tmps:Array Value} (h:CE H env tmps) (keep:List Nat):CE H (Gl.prune keep env) tmps:=
 fun k v hv=>h k v (Ml keep env k v hv)
def CE.fz {Λ:Nat->Prop} {σ σ2:AH} {w:World} {env env2:Env} {tmps:Array Value} (h:CE (Hh Λ σ w) env tmps) (G:Rel Λ σ w) (h1:ub σ σ2) (h2:EFz σ σ2 env env2):CE (Hh Λ σ2 w) env2 tmps:=fun k v2 hv=>by
 obtain⟨v,q1,q2⟩:=h2 k v2 hv;obtain⟨c,q3,q4⟩:=h k v q1;exact⟨c,q3,q2.G0 G (fun _ hn=>h1.none hn) q4⟩
def LM (a:Act) (d:Option Nat) (c:Value):(a.put d c).tmps.size=a.tmps.size:=by
 cases d<;>simp[Act.put]
def put_defers (a:Act) (d:Option Nat) (c:Value):(a.put d c).defers=a.defers:=by
 cases d<;>rfl
def Mh {k:Nat} {v:V}: ∀ {keep:List Nat} {env:Env},(k,v)∈prune keep env->get k env=some v
 | [],_,h=>by cases h
 | s ::r,env,h=>by
   simp only[prune]at h;split at h
   .rename_i u hu
    rcases Fq.1 h with e|h
    .cases e;exact hu
    .exact Mh h
   .exact Mh h
def Dj (H:Nat->Nat->Option Value):Ah->Exit->Prop
 | .normal,e=>e= .normal
 | .exit id,e=>e= .exit id
 | .ret,e=>e= .ret
 | .BZ v,e=> ∃c,e= .panic [{v:=c,recovered:=false}]/\Ag H v c
def Kw (Λ:Nat->Prop) (σ₀:AH) (w₀:World) (N:Nat) (ds:List Deferred) (Q:Ah->Env->AH->Prop) (e:Exit) (a:Act) (w:World):Prop:=
 ∃ex env σ,Q ex env σ/\Dj (Hh Λ σ w) ex e/\CE (Hh Λ σ w) env a.tmps/\Rel Λ σ w/\B2 Λ σ₀ w₀ σ w/\a.tmps.size=N/\a.defers=ds
def wide (r:Option Nat):Fence:={Fence.wide with round:=r}
def QO {r:Option Nat} {n:Nat} {P:Program} {l:Nat} {f:FuncId} {tmps:Array Value} {assign body:Code} {w:World} {R:Ending->World->Prop} (h:RoundIn Fence.wide 0 P l f tmps assign body w R):RoundIn (wide r) n P l f tmps assign body w R:=
 ⟨trivial,fun c cs _=>h.2 c cs (room_wide _)⟩
def Jt {r:Option Nat} {n:Nat} {P:Program} {f:FuncId} {args:Array Value} {w:World} {R:Ending->World->Prop} (h:Calls P f args w R):CallsIn (wide r) n P f args w R:=
 callsIn_wide (n:=n) |>.2 h
variable {P:Program} {Λ:Nat->Prop} {N n:Nat} {ds:List Deferred} {r:Option Nat} {pu:List FuncId} {fz:List Nat}
def P4 {σ:AH} {w:World} {k kp:V->AH->Prop} {o:Oper} {a:Act} {next:Act->World->Prop} {Q:Exit->Act->World->Prop} {res:Result Next} (h:Good P Λ σ w k kp res)
    (hn: ∀v σ' c w',k v σ'->Ag (Hh Λ σ' w') v c->Rel Λ σ' w'->B2 Λ σ w σ' w'->next (a.put o.dst c) w')
    (hp: ∀v σ' c w',kp v σ'->Ag (Hh Λ σ' w') v c->Rel Λ σ' w'->B2 Λ σ w σ' w'->Q (.panic [{v:=c,recovered:=false}]) a w') :
    o.uponIn (wide r) n P a next Q res:=by
 cases res with
 | ok x w'=>
   cases x<;>try exact h.elim
   case value c=>
    obtain⟨v,σ',h1,h2,h3,h4⟩:=h;exact hn v σ' c w' h1 h2 h3 h4
   case skip=>
    obtain⟨σ',h1,h3,h4⟩:=h;exact hn (.t []) σ' undef w' h1 ⟨#[],rfl,rfl,trivial⟩ h3 h4
   case enter f args=>
    refine⟨fun hd=>by simp[wide,Fence.wide]at hd,Jt ?_⟩;refine Calls.mono h fun e w'' hq=>?_
    obtain⟨rr,σ',h1,h2,h3,h4⟩:=hq;cases rr with
    | ret v=>obtain⟨c,rfl,hv⟩:=h2;exact hn v σ' c w'' h1 hv h3 h4
    | BZ v=>obtain⟨c,rfl,hv⟩:=h2;exact hp v σ' c w'' h1 hv h3 h4
   case round l f tmps assign body=>
    refine⟨fun hd=>by simp[wide,Fence.wide]at hd,QO ?_⟩;refine RoundIn.mono h fun e w'' hq=>?_
    obtain⟨rr,σ',h1,h2,h3,h4⟩:=hq;cases rr with
    | ret v=>obtain⟨c,rfl,hv⟩:=h2;exact hn v σ' c w'' h1 hv h3 h4
    | BZ v=>obtain⟨c,rfl,hv⟩:=h2;exact hp v σ' c w'' h1 hv h3 h4
 | halt x w'=>
   cases x<;>try exact h.elim
   obtain⟨v,σ',h1,h2,h3,h4⟩:=h;exact hp v σ' _ w' h1 h2 h3 h4
def aj {ops:Array Oper} {o:Oper} {ao:Aq} (h:M3 P N ops o=some ao):ao.dst=o.dst/\(∀d,o.dst=some d->d<N)/\dB P o.op=some ao.op/\
    ((o.guard=none/\ao.guard=none)\/ ∃j b d,o.guard=some (j,b)/\(ops[j]?).bind (·.dst)=some d/\ao.guard=some (d,b)):=by
 unfold M3 at h;split at h
 .rename_i x h1 h2
  split at h
  .rename_i hd
   cases h;exact⟨rfl,hd,h1,.inl ⟨h2,rfl⟩⟩
  .cases h
 .rename_i x j b h1 h2
  split at h
  .rename_i d hj
   split at h
   .rename_i hd
    cases h;exact⟨rfl,hd,h1,.inr ⟨j,b,d,h2,hj,rfl⟩⟩
   .cases h
  .cases h
 .cases h
def an {o:Op} {ao:FY} (h:dB P o=some ao): ∀c,o≠ .defer c:=by
 rintro c rfl;cases h
def cL {f:FuncId} {as:List Bg} {env:Env} {σ:AH} {k kp:V->AH->Prop} (h:E5 P (.Kt f as) env σ k kp):E5 P (.call f as) env σ k kp:=by
 simp only[E5]at *;exact Kx h fun vs ⟨v,h1,h2⟩=>Pure.use h1 h2
def KI (ao:Aq):(Cv pu fz ao).dst=ao.dst:=by
 unfold Cv;split
 .cases pu.contains _<;>rfl
 .cases(match ao.dst with|some d=>fz.contains d|none=>false)<;>rfl
 .cases(match ao.dst with|some d=>fz.contains d|none=>false)<;>rfl
 .cases(match ao.dst with|some d=>fz.contains d|none=>false)<;>rfl
 .rfl
def Sq {ao:Aq} {o':FY} {env:Env} {σ:AH} {k k' kp:V->AH->Prop} (hT:E5 P o' env σ k kp->E5 P ao.op env σ k' kp) (hk:k (.t []) σ->k' (.t []) σ) (h:Hg P {ao with op:=o'} env σ k kp):Hg P ao env σ k' kp:=by
 unfold Hg at *;simp only at h;split at h
 .exact hT h
 .split at h
  .exact⟨fun e=>hT (h.1 e),fun e=>hk (h.2 e)⟩
  .exact hk h
  .exact h.elim
def Ka {ao:Aq} {env:Env} {σ:AH} {k kp:V->AH->Prop} (h:Hg P (Cv pu fz ao) env σ k kp):Hg P ao env σ (fun v σ1=> ∃vf σ2,Sub σ2 σ1/\Ff σ1 σ2 v vf/\k vf σ2) kp:=by
 have triv: ∀ {v σ},k v σ-> ∃vf σ2,Sub σ2 σ/\Ff σ σ2 v vf/\k vf σ2:=fun {v σ} h=>⟨v,σ,fun _ _ h=>h,.refl v,h⟩
 unfold Cv at h;split at h
 .rename_i f as he
  cases hb:pu.contains f with
  | false=>rw[hb]at h;exact B9 h (fun _ _ h=>triv h) fun _ _ h=>h
  | true=>
    rw[hb]at h;exact Sq (fun h=>by rw[he];exact PK (cL h) (fun _ _ h=>triv h) fun _ _ h=>h) triv h
 .rename_i x he
  cases hb:(match ao.dst with|some d=>fz.contains d|none=>false)with
  | false=>rw[hb]at h;exact B9 h (fun _ _ h=>triv h) fun _ _ h=>h
  | true=>
    rw[hb]at h;exact Sq (fun h=>by rw[he];exact mD h) triv h
 .rename_i x he
  cases hb:(match ao.dst with|some d=>fz.contains d|none=>false)with
  | false=>rw[hb]at h;exact B9 h (fun _ _ h=>triv h) fun _ _ h=>h
  | true=>
    rw[hb]at h;exact Sq (fun h=>by rw[he];exact h) triv h
 .rename_i sz b x y he
  cases hb:(match ao.dst with|some d=>fz.contains d|none=>false)with
  | false=>rw[hb]at h;exact B9 h (fun _ _ h=>triv h) fun _ _ h=>h
  | true=>
    rw[hb]at h;exact Sq (fun h=>by rw[he];exact Xy h) triv h
 .exact B9 h (fun _ _ h=>triv h) fun _ _ h=>h
def KK {ops:Array Oper} {o:Oper} {ao:Aq} (ho:M3 P N ops o=some ao) {env:Env} {σ:AH} {a:Act} {w:World} (he:CE (Hh Λ σ w) env a.tmps) (G:Rel Λ σ w) (hN:a.tmps.size=N)
    {K:Env->AH->Prop} {kp:V->AH->Prop}
    (h:Hg P ao env σ (fun v σ'=> ∃vf σ2,Sub σ2 σ'/\Ff σ' σ2 v vf/\K (put ao.dst vf env) σ2) kp)
    {next:Act->World->Prop} {Q:Exit->Act->World->Prop}
    (hn: ∀env' σ' c w',K env' σ'->CE (Hh Λ σ' w') env' (a.put o.dst c).tmps->Rel Λ σ' w'->B2 Λ σ w σ' w'->next (a.put o.dst c) w')
    (hp: ∀v σ' c w',kp v σ'->Ag (Hh Λ σ' w') v c->Rel Λ σ' w'->B2 Λ σ w σ' w'->Q (.panic [{v:=c,recovered:=false}]) a w') :
    if Region.wanted o (yielded ops a.tmps)then o.wpIn (wide r) n P a w next Q else(∀f,o.about P w a.eval=some f->(wide r).fn f)/\next (a.put o.dst undef) w:=by
 obtain⟨h1,h2,h3,h4⟩:=aj ho;unfold Hg at h
 have hrun:E5 P ao.op env σ (fun v σ'=> ∃vf σ2,Sub σ2 σ'/\Ff σ' σ2 v vf/\K (put ao.dst vf env) σ2) kp->o.wpIn (wide r) n P a w next Q:=fun ht=>by
  refine⟨fun _ _=>trivial,?_⟩;rw[Oper.semAt_eq _ _ _ (an h3)];refine P4 (Xe h3 ht he G) (fun v σ' c w' hk hv hr ha=>?_) hp;obtain⟨vf,σ2,hs,hf,hk⟩:=hk;exact hn _ σ2 c w' hk (by rw[h1];exact((he.mono ha.hle).mono (Ej fun n hn=>hs.none hn)).put hN h2 (hf.rel hr hs hv)) (hr.drop hs) (ha.trans (B2.drop w' hs))
 rcases h4 with⟨h5,h6⟩|⟨j,b,d,h5,h6,h7⟩
 .rw[h6]at h
  have:Region.wanted o (yielded ops a.tmps)=true:=by simp[Region.wanted,h5]
  rw[if_pos this];exact hrun h
 .rw [h7]at h
  simp only at h;split at h
  .rename_i t hg
   obtain⟨c,hc,hv⟩:=he d _ hg;simp only[Ag]at hv;subst hv
   have hy:yielded ops a.tmps j=some t:=by
    unfold yielded;rw[h6];simp[hc]
   by_cases htb:t=b
   .have:Region.wanted o (yielded ops a.tmps)=true:=by simp[Region.wanted,h5,hy,htb]
    rw[if_pos this];exact hrun (h.1 htb)
   .have: ¬Region.wanted o (yielded ops a.tmps)=true:=by simp[Region.wanted,h5,hy,htb]
    rw[if_neg this];have htn:t= !b:=by cases t<;>cases b<;>simp_all
    obtain⟨vf,σ2,hs,hf,hk⟩:=h.2 htn;refine⟨fun _ _=>trivial,hn _ σ2 undef w hk ?_ (G.drop hs) (B2.drop w hs)⟩;rw[h1];exact(he.mono (Ej fun n hn=>hs.none hn)).put hN h2 (hf.rel G hs ⟨#[],rfl,rfl,trivial⟩)
  .rename_i hg
   obtain⟨c,hc,hv⟩:=he d _ hg;simp only[Ag]at hv;obtain⟨c',rfl,hc',_⟩:=hv
   have hy:yielded ops a.tmps j=none:=by
    unfold yielded;rw[h6];simp[hc]
   have: ¬Region.wanted o (yielded ops a.tmps)=true:=by simp[Region.wanted,h5,hy]
   rw[if_neg this];obtain⟨vf,σ2,hs,hf,hk⟩:=h;refine⟨fun _ _=>trivial,hn _ σ2 undef w hk ?_ (G.drop hs) (B2.drop w hs)⟩;rw[h1];exact(he.mono (Ej fun n hn=>hs.none hn)).put hN h2 (hf.rel G hs ⟨#[],rfl,rfl,trivial⟩)
  .exact h.elim
def F8 {ops:Array Oper}: ∀ {l:List Oper} {as:List Aq},Gh P N ops l=some as->l.length=as.length/\ ∀(i:Nat) (o:Oper),l[i]? =some o-> ∃ao,as[i]? =some ao/\M3 P N ops o=some ao
 | [],as,h=>by cases h;simp
 | o ::l,as,h=>by
   simp only[Gh]at h;split at h
   .rename_i x xs h1 h2
    cases h;obtain⟨h3,h4⟩:=F8 h2;refine⟨by simp[h3],fun i q hq=>?_⟩;cases i with
    | zero=>simp at hq;subst hq;exact⟨x,rfl,h1⟩
    | succ i=>exact h4 i q (by simpa using hq)
   .cases h
def PO {ops:Array Oper} {K:Env->AH->Prop} {kp:Env->V->AH->Prop} {Q:Ah->Env->AH->Prop} {σ₀:AH} {w₀:World}
    (U: ∀env σ,K env σ->Q .normal env σ) (hkp: ∀env v σ,kp env v σ->Q (.BZ v) env σ): ∀(as:List Aq) (j:Nat),(∀(i:Nat) (o:Oper),ops[j+i]? =some o-> ∃ao,as[i]? =some ao/\M3 P N ops o=some ao)->ops.size=j+as.length->
    ∀(env:Env) (σ:AH) (a:Act) (w:World),IW P (as.map (Cv pu fz)) K kp env σ->CE (Hh Λ σ w) env a.tmps->Rel Λ σ w->B2 Λ σ₀ w₀ σ w->a.tmps.size=N->a.defers=ds->
    wpOpsIn (wide r) n P ops (Kw Λ σ₀ w₀ N ds Q) (List.range' j as.length) a w
 | [],j,_,_,env,σ,a,w,h,he,G,Y,hN,hd=>by
   simp only[List.length_nil,List.range'_zero,wpOpsIn];exact⟨.normal,env,σ,U _ _ h,rfl,he,G,Y,hN,hd⟩
 | ao::as,j,hget,hsz,env,σ,a,w,h,he,G,Y,hN,hd=>by
   simp only[Lz,List.range'_succ,wpOpsIn];have hlt:j<ops.size:=by simp at hsz;omega
   have hj:ops[j]? =some ops[j]:=Array.getElem?_eq_getElem hlt;obtain⟨ao',h1,h2⟩:=hget 0 ops[j] (by simp[hj]);simp at h1;subst h1;simp only[hj]
   refine KK (K:=IW P (as.map (Cv pu fz)) K kp) (kp:=kp env) h2 he G hN (by
    simp only[E4,IW]at h;have:=Ka h
    rwa [KI]at this) (fun env' σ' c w' hk he' hR' hA'=>?_) (fun v σ' c w' hk hv hR' hA'=>?_)
   .exact PO U hkp as (j+1) (fun i o ho=>by
     obtain⟨x,hx,hy⟩:=hget (i+1) o (by rw[<-ho];congr 1;omega)
     exact⟨x,by simpa using hx,hy⟩) (by simp at hsz;omega) env' σ' _ w' hk he' hR' (Y.trans hA') (by rw[LM];exact hN) (by rw[put_defers];exact hd)
   .exact⟨.BZ v,env,σ',hkp _ _ _ hk,⟨c,rfl,hv⟩,he.mono hA'.hle,hR',Y.trans hA',hN,hd⟩
def Kw.trans {σ₀ σ₁:AH} {w₀ w₁:World} {Q:Ah->Env->AH->Prop} {e:Exit} {a:Act} {w:World} (Y:B2 Λ σ₀ w₀ σ₁ w₁) (h:Kw Λ σ₁ w₁ N ds Q e a w):Kw Λ σ₀ w₀ N ds Q e a w:=by
 obtain⟨ex,env,σ,h1,h2,h3,h4,h5,h6⟩:=h;exact⟨ex,env,σ,h1,h2,h3,h4,Y.trans h5,h6⟩
def X1 {p:Nat->Prop} (h: ∃m,p m): ∃m,p m/\ ∀k,p k->m<=k:=by
 obtain⟨n,hn⟩:=h
 induction n using Nat.strongRecOn with
 | _ n ih=>
   by_cases hex: ∃k,k<n/\p k
   .obtain⟨k,h1,h2⟩:=hex
    exact ih k h1 h2
   .exact⟨n,hn,fun k hk=>Nat.le_of_not_lt fun hlt=>hex ⟨k,hlt,hk⟩⟩
def mem_ready {ops:Array Oper} {listed:Array Bool} (hs:listed.size=ops.size) {i:Nat} :
    i∈Region.ready .any ops listed↔i<ops.size/\listed[i]? =some false/\ ∀e∈direct ops i,listed[e]? =some true:=by
 unfold Region.ready;rw[Jc,List.mem_range];constructor
 .rintro⟨h1,h2⟩
  simp only[A8,Bool.not_eq_true']at h2;obtain⟨h2,h3⟩:=h2;have hl:i<listed.size:=by omega
  refine⟨h1,?_,fun e he=>?_⟩
  .rw[Array.getElem?_eq_getElem hl]
   rw[Array.getD_eq_getD_getElem?,Array.getElem?_eq_getElem hl]at h2;simpa using h2
  .unfold direct at he
   rw[Array.getElem?_eq_getElem h1]at he h3;simp only[cS,Option.getD_some]at h3;simp only[Iz,Jc]at he;obtain⟨g,⟨hg1,hg2⟩,rfl⟩:=he;rw[Array.all_eq_true_iff_forall_mem]at h3;have:=h3 g (by simpa using hg1);rw[hg2]at this;simp only[Bool.not_true,Bool.false_or]at this;rw[Array.getD_eq_getD_getElem?]at this;cases hx:listed[g.on]? with
   | none=>rw[hx]at this;cases this
   | some b=>rw[hx]at this;simp only[Option.getD_some]at this;rw[this]
 .rintro⟨h1,h2,h3⟩
  refine⟨h1,?_⟩;rw[Array.getD_eq_getD_getElem?,h2,Array.getElem?_eq_getElem h1];simp only[Option.getD_some,Bool.not_false,D2,cS];rw[Array.all_eq_true_iff_forall_mem];intro g hg;cases hb:Region.binds .any g with
  | false=>rfl
  | true=>
    simp only[Bool.not_true,Bool.false_or]
    rw[Array.getD_eq_getD_getElem?,h3 g.on (by
     unfold direct;rw[Array.getElem?_eq_getElem h1];simp only[Iz,Jc]
     exact⟨g,⟨by simpa using hg,hb⟩,rfl⟩)]
    rfl
def WV {x y:Aq} (h:XP x y=true):oR x y:=by
 unfold XP at h;simp only[A8]at h;refine⟨fun d hd=>?_,fun d hd=>?_⟩
 .have h1:=h.1
  rw[hd]at h1;simp only[A8,Bool.not_eq_true',wU,ne_eq]at h1;exact⟨fun hm=>by have:=h1.1;rw[List.contains_eq_mem]at this;simp[hm]at this,h1.2⟩
 .have h2:=h.2
  rw[hd]at h2;simp only[Bool.not_eq_true']at h2;exact fun hm=>by rw[List.contains_eq_mem]at h2;simp[hm]at h2
def WO {x y:Aq} (h:XD y x=true):fresh y x:=by
 intro d hd;unfold XD at h;rw[hd]at h;simp only[Bool.not_eq_true']at h;exact fun hm=>by rw[List.contains_eq_mem]at h;simp[hm]at h
def U6 {ops:Array Oper} {clo:List (List Nat)}: ∀ {AF:List CZ},wY ops clo AF=true->AF.Pairwise fun x y=>Jg ops clo x y=true
 | [],_=> .nil
 | x::r,h=>by
   simp only[wY,A8,Dh]at h;exact .cons h.1 (U6 h.2)
def S6 {clo:List (List Nat)} {as:List Aq}: ∀ {l before:List Nat} {d:CZ},d∈jX clo as before l->as[d.i]? =some d.o/\d.re=d.oX.filterMap fun j=>as[j]?
 | [],_,_,h=>by cases h
 | i ::r,before,d,h=>by
   simp only[jX]at h;split at h
   .rename_i ao hao
    rcases Fq.1 h with rfl|h
    .exact⟨hao,rfl⟩
    .exact S6 h
   .exact S6 h
def gq {as:List Aq} {x y:CZ} (hx:as[x.i]? =some x.o) (hxr:x.re=x.oX.filterMap fun j=>as[j]?) (hyr:y.re=y.oX.filterMap fun j=>as[j]?) (h:okB x y=true):w7 x y:=by
 unfold okB at h;simp only[A8,EJ,Cr]at h;obtain⟨⟨h1,h2⟩,h3⟩:=h;refine⟨by rw[hxr,List.isEmpty_iff.1 h1];rfl,WV h2,?_⟩;rcases h3 with((h3|h3)|h3)|h3
 .exact .inl h3
 .exact .inr (.inl h3)
 .refine .inr (.inr (.inl ⟨h3.1.1,?_,fun d hd=>?_⟩))
  .rw[hyr,List.mem_filterMap]
   exact⟨x.i,by have:=h3.1.2;rw[List.contains_eq_mem]at this;simpa using this,hx⟩
  .have:=h3.2
   rw[hd]at this;simp only[Bool.not_eq_true']at this;exact fun hm=>by rw[List.contains_eq_mem]at this;simp[hm]at this
 .refine .inr (.inr (.inr ⟨h3.1.1.1,by rw[hyr,List.isEmpty_iff.1 h3.1.1.2];rfl,by simpa using h3.1.2,?_⟩))
  have:=h3.2;unfold Y7 at this;split at this
  .rename_i z hz;exact⟨z,hz⟩
  .cases this
def YB {ops:Array Oper} {clo:List (List Nat)} (hclo:jt ops clo=true) {listed:Array Bool}
    (hdc: ∀j,j<ops.size->listed[j]? =some true-> ∀e∈direct ops j,listed[e]? =some true) :
    ∀(i:Nat),i<ops.size->(∀e∈direct ops i,listed[e]? =some true)-> ∀x∈clo.getD i [],listed[x]? =some true:=by
 intro i
 induction i using Nat.strongRecOn with
 | _ i ih=>
   intro hi hd x hx;unfold jt at hclo;rw[Dh]at hclo;have h1:=hclo i (List.mem_range.2 hi);rw[Dh]at h1;have h2:=h1 x hx;simp only[EJ,He,A8]at h2;rcases h2 with h2|⟨j,hj,hlt,hm⟩
   .exact hd x (by rw[List.contains_eq_mem]at h2;simpa using h2)
   .have hji:j<i:=by rw[Nat.blt_eq]at hlt;exact hlt
    have hl:=hd j hj;exact ih j hji (by omega) (hdc j (by omega) hl) x (by rw[List.contains_eq_mem]at hm;simpa using hm)
def Rr {ops : Array Oper} {as:List Aq} {clo:List (List Nat)} {AF:List CZ} (hclo:jt ops clo=true) (hpw:AF.Pairwise fun x y=>Jg ops clo x y=true)
    (hC: ∀d∈AF,d.i<ops.size/\d.i∉direct ops d.i/\(∀e∈direct ops d.i,e<ops.size)/\(as.map (Cv pu fz))[d.i]? =some d.o/\d.re=d.oX.filterMap fun j=>(as.map (Cv pu fz))[j]?)
    (has: ∀(i:Nat) (o:Oper),ops[i]? =some o-> ∃ao,as[i]? =some ao/\M3 P N ops o=some ao)
    {K:Env->AH->Prop} {kp:V->AH->Prop} {Q:Ah->Env->AH->Prop} {σ₀:AH} {w₀:World} (hgeq: ∀env env' σ,jT env env'->K env σ->K env' σ)
    (U: ∀env σ,K env σ-> ∃l,Q .normal (prune l env) σ) (hkp: ∀v σ,kp v σ->Q (.BZ v) [] σ) (hU: ∀v σ m z,σ m=none->kp v σ->kp v (A6 σ m z)): ∀(fuel:Nat) (l:List CZ) (listed:Array Bool) (env:Env) (σ:AH) (a:Act) (w:World),
    l.length=fuel->l.Sublist AF->listed.size=ops.size->(∀j,j<ops.size->(listed[j]? =some false↔ ∃d∈l,d.i=j))->
    (∀j,j<ops.size->listed[j]? =some true-> ∀e∈direct ops j,listed[e]? =some true)->
    DC P l K kp env σ->CE (Hh Λ σ w) env a.tmps->Rel Λ σ w->B2 Λ σ₀ w₀ σ w->a.tmps.size=N->a.defers=ds->wpAnyIn (wide r) n P .any ops (Kw Λ σ₀ w₀ N ds Q) fuel listed a w
 | 0,l,listed,env,σ,a,w,hl,hsub,hsz,hun,hdc,h,he,G,Y,hN,hd=>by
   have:l= []:=Zm.1 hl;subst this;simp only[wpAnyIn];obtain⟨l,hq⟩:=U _ _ h;refine⟨?_,.normal,_,σ,hq,rfl,he.prune l,G,Y,hN,hd⟩;refine List.eq_nil_iff_forall_not_mem.2 fun i hi=>?_
   obtain⟨h1,h2,_⟩:=(mem_ready hsz).1 hi;obtain⟨d,hd,_⟩:=(hun i h1).1 h2;cases hd
 | fuel + 1, l,listed,env,σ,a,w,hl,hsub,hsz,hun,hdc,h,he,G,Y,hN,hd=>by
   have hval: ∀j,j<ops.size->listed[j]? =some true\/listed[j]? =some false:=fun j hj=>by
    rw[Array.getElem?_eq_getElem (by omega)];cases listed[j]'(by omega)<;>simp
   have hpl:=hpw.sublist hsub;simp only[wpAnyIn];refine⟨fun hr=>?_,fun i hi=>?_⟩
   .exfalso
    cases l with
    | nil=>cases hl
    | cons hd' t=>
      have hCh:=hC hd' (hsub.subset (.head _))
      have:hd'.i∈Region.ready .any ops listed:=by
       refine(mem_ready hsz).2 ⟨hCh.1,(hun _ hCh.1).2 ⟨hd',.head _,rfl⟩,fun e he'=>?_⟩;have hes:=hCh.2.2.1 e he';rcases hval e hes with h1|h1
       .exact h1
       .obtain⟨d,hd1,rfl⟩:=(hun e hes).1 h1
        rcases Fq.1 hd1 with rfl|hd1
        .exact absurd he' hCh.2.1
        .have hp:=(List.pairwise_cons.1 hpl).1 d hd1
         unfold Jg at hp;simp only[A8]at hp;have:=hp.1.1.2;rw[List.contains_eq_mem]at this;simp[he']at this
      rw[hr]at this;cases this
   .obtain ⟨hi1,hi2,hi3⟩:=(mem_ready hsz).1 hi
    obtain⟨d,hdl,rfl⟩:=(hun i hi1).1 hi2;obtain⟨xs,ys,rfl⟩:=List.append_of_mem hdl;have hCd:=hC d (hsub.subset hdl);have hpx:=List.pairwise_append.1 hpl;have hxd: ∀x∈xs,Jg ops clo x d=true:=fun x hx=>hpx.2.2 x hx d (.head _)
    have hdy: ∀y∈ys,Jg ops clo d y=true:=fun y hy=>(List.pairwise_cons.1 hpx.2.1).1 y hy
    have hok: ∀x∈xs,w7 x d:=fun x hx=>by
     have hCx:=hC x (hsub.subset (NU _ hx));have hp:=hxd x hx;unfold Jg at hp;simp only[A8,EJ]at hp;rcases hp.2 with h1|h1
     .exfalso
      have h2:=YB hclo hdc d.i hi1 hi3 x.i (by rw[List.contains_eq_mem]at h1;simpa using h1);have h3:=(hun x.i hCx.1).2 ⟨x,NU _ hx,rfl⟩;rw[h2]at h3;cases h3
     .exact gq hCx.2.2.2.1 hCx.2.2.2.2 hCd.2.2.2.2 h1
    have hfr:xs.Pairwise fun x y=>kd x.o.op= .N->fresh y.o x.o:=hpx.1.imp fun {x y} hp hN=>by
     unfold Jg at hp;simp only[A8,EJ]at hp;rcases hp.1.2 with h1|h1
     .rw[hN]at h1;simp at h1
     .exact WO h1
    have hb:=fZ hU hgeq hok hfr h;have hops:ops[d.i]? =some ops[d.i]:=Array.getElem?_eq_getElem hi1;obtain⟨ao,hao,hro⟩:=has d.i _ hops
    have hdo:d.o=Cv pu fz ao:=by
     have:=hCd.2.2.2.1;rw[P8,hao]at this;simpa using this.symm
    unfold wpOpIn;simp only[hops];rw[hdo]at hb;refine KK (K:=DC P (xs++ys) K kp) (kp:=kp) hro he G hN ?_ (fun env' σ' c w' hk he' hR' hA'=>?_) (fun v σ' c w' hk hv hR' hA'=>?_)
    .refine B9 (Ka hb) (fun v σ' ⟨vf,σ2,h1,h2,hh⟩=>⟨vf,σ2,h1,h2,?_⟩) fun _ _ h=>h
     have:=hh.2
     rwa [KI]at this
    .refine Rr hclo hpw hC has hgeq U hkp hU fuel (xs++ys) _ env' σ' _ w' ?_ ?_ ?_ ?_ ?_ hk he' hR' (Y.trans hA') (by rw[LM];exact hN) (by rw[put_defers];exact hd)
     .simp only[R0,Lz]at hl ⊢
      omega
     .exact((List.Sublist.refl xs).append (Mz d ys)).trans hsub
     .simpa using hsz
     .intro j hj
      by_cases hjd:d.i=j
      .subst hjd
       rw[Array.getElem?_setIfInBounds_self_of_lt (by omega)];constructor
       .intro h;cases h
       .rintro⟨x,hx,hxi⟩
        exfalso;rcases Dr.1 hx with hx|hx
        .have:=hxd x hx
         unfold Jg at this;simp only[A8]at this;have:=this.1.1.1;rw[hxi]at this;simp at this
        .have:=hdy x hx
         unfold Jg at this;simp only[A8]at this;have:=this.1.1.1;rw[hxi]at this;simp at this
      .rw [Array.getElem?_setIfInBounds_ne hjd,hun j hj]
       constructor
       .rintro⟨x,hx,rfl⟩
        rcases Dr.1 hx with hx|hx
        .exact⟨x,NU _ hx,rfl⟩
        .rcases Fq.1 hx with rfl|hx
         .exact absurd rfl hjd
         .exact⟨x,M0 _ hx,rfl⟩
       .rintro⟨x,hx,rfl⟩
        rcases Dr.1 hx with hx|hx
        .exact⟨x,NU _ hx,rfl⟩
        .exact⟨x,M0 _ (.tail _ hx),rfl⟩
     .intro j hj hlj e hej
      have hle:listed[e]? =some true:=by
       by_cases hjd:d.i=j
       .subst hjd;exact hi3 e hej
       .rw[Array.getElem?_setIfInBounds_ne hjd]at hlj
        exact hdc j hj hlj e hej
      by_cases hed:d.i=e
      .subst hed
       rw[Array.getElem?_setIfInBounds_self_of_lt (by omega)]
      .rw[Array.getElem?_setIfInBounds_ne hed]
       exact hle
    .exact⟨.BZ v,[],σ',hkp _ _ hk,⟨c,rfl,hv⟩,fun _ _ hg=>(by cases hg),hR',Y.trans hA',hN,hd⟩
def Q2 {env env':Env} (h:jT env env'): ∀l:List Nat,prune l env=prune l env'
 | []=>rfl
 | s::r=>by simp only[prune,h s,Q2 h r]
def aZ {ops:Array Oper} {as:List Aq} {AF:List CZ} (h:jj ops as=some AF): ∃order,jX (FM ops ops.size) as [] order=AF/\Z9 ops (FM ops ops.size) AF=true:=by
 simp only[jj]at h;cases h1:Z9 ops (FM ops ops.size) (jX (FM ops ops.size) as [] (Oe Wh ops as ops.size (List.range ops.size) []))with
 | true=>
   rw[h1]at h;cases h;exact⟨_,rfl,h1⟩
 | false=>
   rw[h1]at h;simp only[cond_false]at h;cases h2:Z9 ops (FM ops ops.size) (jX (FM ops ops.size) as [] (Oe nZ ops as ops.size (List.range ops.size) []))with
   | true=>
     rw[h2]at h;cases h;exact⟨_,rfl,h2⟩
   | false=>rw[h2]at h;cases h
def X5 {ops:Array Oper} {as:List Aq} {AF:List CZ} {id:Nat} (hm:P.follows .mixedOrders=true) (h1:Gh P N ops ops.toList=some as) (h2:jj ops (as.map (Cv pu fz))=some AF) {l:List Nat}
    {Q:Ah->Env->AH->Prop} {env:Env} {σ:AH} {a:Act} {w:World} (h:DC P AF (fun env σ=>Q .normal (prune l env) σ) (fun v σ=> ∀σ',Sub σ σ'->Q (.BZ v) [] σ') env σ)
    (he:CE (Hh Λ σ w) env a.tmps) (G:Rel Λ σ w) (hN:a.tmps.size=N) (hd:a.defers=ds):(Code.region id ops true).wpIn (wide r) n P (Kw Λ σ w N ds Q) a w:=by
 obtain⟨h3,h4⟩:=F8 h1;obtain⟨order,hC,hb⟩:=aZ h2
 .unfold Z9 at hb
  simp only[A8]at hb;obtain⟨⟨⟨⟨b1,b2⟩,b3⟩,b4⟩,b5⟩:=hb;have b1:AF.length=ops.size:=Ti b1;rw[Dh]at b2 b3;refine wpIn_region_any hm ?_
  refine Rr (pu:=pu) (fz:=fz) (as:=as) (σ₀:=σ) (w₀:=w) b4 (U6 b5) (fun d hd'=>?_) (fun i o ho=>h4 i o (by simpa using ho)) (K:=fun env σ=>Q .normal (prune l env) σ) (kp:=fun v σ=> ∀σ',Sub σ σ'->Q (.BZ v) [] σ')
   (fun env env' σ hg hq=>by rw[<-Q2 hg];exact hq) (fun env σ hq=>⟨l,hq⟩) (fun _ σ h=>h σ fun _ _ h=>h) (fun _ _ _ _ hm h σ' hs=>h σ' fun _ _ hh=>hs _ _ (GU hm _ _ hh)) ops.size AF _ env σ a _ b1 (.refl _) (by simp) (fun j hj=>?_) (fun j hj hlj=>?_) h he ⟨G.own,G.lock⟩ ⟨fun _ _ _=>rfl,IN _,rfl,rfl,rfl,fun _ h _=>h⟩ hN hd
  .have:=b3 d hd'
   simp only[A8,Dh]at this;obtain⟨⟨c1,c2⟩,c3⟩:=this;obtain⟨m1,m2⟩:=S6 (hC ▸ hd');refine⟨by rw[Nat.blt_eq]at c1;exact c1,fun hm=>?_,fun e he=>by have:=c3 e he;rw[Nat.blt_eq]at this;exact this,m1,m2⟩;rw[List.contains_eq_mem]at c2;simp[hm]at c2
  .constructor
   .intro _
    have:=b2 j (List.mem_range.2 hj);rw[He]at this;obtain⟨d,hd',hdj⟩:=this;exact⟨d,hd',Ti hdj⟩
   .intro _
    simp[hj]
  .simp[hj]at hlj
def pB (P:Program) (f:FuncId):Prop:= ∃g,P.funcs[f]? =some g
def NV (r:Option Nat) (P:Program) (c:Code) (Q:Exit->Act->World->Prop) (a:Act) (w:World):Prop:=
 ∀ (b:Frame) (k:List Item) (cs:List Frame),b.roundOf=r->pB P b.fn->
   ∃e a' w',Q e a' w'/\ArrivesIn (Machine.fenced P (wide r)) P (lone (b.atR a (.code c::k)) cs w) b k cs e a' w'
section
variable {Q Q':Exit->Act->World->Prop} {a:Act} {w:World}
def Gg {r:Option Nat} {m:Nat}:(wide r).room m:=fun _ h=>by simp[wide,Fence.wide]at h
def Hj {c:Code} (h:c.wpIn (wide r) n P Q a w):NV r P c Q a w:=fun b k cs hro _=>h b k cs hro trivial Gg
def CI {c:Code} (h:NV r P c Q a w) (hq: ∀e a w,Q e a w->Q' e a w):NV r P c Q' a w:=
 fun b k cs hro hb=>let⟨e,a',w',q,x⟩:=h b k cs hro hb;⟨e,a',w',hq _ _ _ q,x⟩
def Fe {b:Frame} {cs:List Frame} {w:World} (h:b.about P w=none):(lone b cs w).fenced P (wide r):=fenced_calm (n:=0) trivial Gg h
def I2 {x y:Code} (h:NV r P x (Exit.then (NV r P y Q) Q) a w):NV r P (Code.seq x y) Q a w:=by
 intro b k cs hro hb;have h0:(lone (b.atR a (.code (.seq x y)::k)) cs w).fenced P (wide r):=Fe rfl;obtain⟨e,a₁,w₁,hq,harr⟩:=h b (.code y::k) cs hro hb;cases e with
 | normal=>
   obtain⟨e₂,a₂,w₂,hq₂,harr₂⟩:=hq b k cs hro hb;exact⟨e₂,a₂,w₂,hq₂,.of_steps (.head h0 stepR_seq harr) harr₂⟩
 | exit id=>exact⟨_,a₁,w₁,hq,.of_steps (.one h0 stepR_seq) (.pass (x:= .code y) rfl (fun _ _=> .inl (by simp)) harr)⟩
 | goto l=>exact⟨_,a₁,w₁,hq,.of_steps (.one h0 stepR_seq) (.pass (x:= .code y) rfl (fun _ _=> .inl (by simp)) harr)⟩
 | ret=>exact⟨_,a₁,w₁,hq,.of_steps (.one h0 stepR_seq) (.pass (x:= .code y) rfl (fun _ _=> .inl (by simp)) harr)⟩
 | panic ch=>exact⟨_,a₁,w₁,hq,.of_steps (.one h0 stepR_seq) (.pass (x:= .code y) rfl (fun _ _=> .inl (by simp)) harr)⟩
 | outgrown=>exact⟨_,a₁,w₁,hq,.of_steps (.one h0 stepR_seq) (.pass (x:= .code y) rfl (fun _ _=> .inl (by simp)) harr)⟩
def gI {c:Operand} {x y:Code} {t:Bool} (hc:a.eval c= .bool t) (ht:t=true->NV r P x Q a w) (hf:t=false->NV r P y Q a w):NV r P (Code.cond c x y) Q a w:=by
 have h:NV r P (if t then x else y) Q a w:=by cases t;exact hf rfl;exact ht rfl
 exact fun b k cs hro hb=>let⟨e,a',w',q,z⟩:=h b k cs hro hb;⟨e,a',w',q,.of_steps (.one (Fe rfl) (stepR_cond hc)) z⟩
def aJ {id:Nat} {c:Code} (h:NV r P c (Exit.inBlock id Q) a w):NV r P (Code.block id c) Q a w:=by
 intro b k cs hro hb;have h0:(lone (b.atR a (.code (.block id c)::k)) cs w).fenced P (wide r):=Fe rfl;obtain⟨e,a₁,w₁,hq,harr⟩:=h b (.inBlock id::k) cs hro hb;cases e with
 | normal=>exact⟨.normal,a₁,w₁,hq,.head h0 stepR_block (StepsIn.trans harr (.one (Fe rfl) stepR_inBlock))⟩
 | exit id'=>
   by_cases hid:id'=id
   .simp only[Exit.inBlock,hid,if_true]at hq
    exact⟨.normal,a₁,w₁,hq,.head h0 stepR_block (harr.1 k (by simp[exitTo,hid]))⟩
   .simp only[Exit.inBlock,hid,if_false]at hq
    have this:(id==id')=false:=by simp;exact fun h=>hid h.symm
    have hx:exitTo id' (.inBlock id::k)=exitTo id' k:=by simp[exitTo,this]
    exact⟨.exit id',a₁,w₁,hq,fun k' hk=> .head h0 stepR_block (harr.1 k' (by rw[hx];exact hk)),
     fun hr' hk=>let⟨k₁,h1,h2⟩:=harr.2 hr' (by rw[hx];exact hk);⟨k₁,h1,.head h0 stepR_block h2⟩⟩
 | goto l=>
   have hx:gotoIn l (.inBlock id::k)=gotoIn l k:=by simp[gotoIn]
   exact⟨_,a₁,w₁,hq,fun k' hk=> .head h0 stepR_block (harr.1 k' (by rw[hx];exact hk)),
    fun hr' hk=>let⟨k₁,h1,h2⟩:=harr.2 hr' (by rw[hx];exact hk);⟨k₁,h1,.head h0 stepR_block h2⟩⟩
 | ret=>exact⟨_,a₁,w₁,hq,.of_steps (.one h0 stepR_block) harr⟩
 | panic ch=>exact⟨_,a₁,w₁,hq,.of_steps (.one h0 stepR_block) harr⟩
 | outgrown=>exact⟨_,a₁,w₁,hq,.of_steps (.one h0 stepR_block) harr⟩
def aI {c:Code} (h:NV r P c (Exit.noGoto Q) a w):NV r P (Code.scope c) Q a w:=by
 intro b k cs hro hb;have s1:step P (lone (b.atR a (.code (.scope c)::k)) cs w)= .next (lone (b.atR a (.code c:: .inScope c::k)) cs w):=step_lone_go (by simp[stepG,stepG.exec,Frame.atR])
 have s2: ∀a w,step P (lone (b.atR a (.inScope c::k)) cs w)= .next (lone (b.atR a k) cs w):=fun a w=>step_lone_go (by simp[stepG,stepG.exec,Frame.atR])
 have h0:(lone (b.atR a (.code (.scope c)::k)) cs w).fenced P (wide r):=Fe rfl;obtain⟨e,a₁,w₁,hq,harr⟩:=h b (.inScope c::k) cs hro hb;cases e with
 | normal=>exact⟨.normal,a₁,w₁,hq,.head h0 s1 (StepsIn.trans harr (.one (Fe rfl) (s2 _ _)))⟩
 | exit id=>
   have hx:exitTo id (.inScope c::k)=exitTo id k:=by simp[exitTo]
   exact⟨_,a₁,w₁,hq,fun k' hk=> .head h0 s1 (harr.1 k' (by rw[hx];exact hk)),fun hr' hk=>let⟨k₁,h1,h2⟩:=harr.2 hr' (by rw[hx];exact hk);⟨k₁,h1,.head h0 s1 h2⟩⟩
 | goto l=>exact hq.elim
 | ret=>exact⟨_,a₁,w₁,hq,.of_steps (.one h0 s1) harr⟩
 | panic ch=>exact⟨_,a₁,w₁,hq,.of_steps (.one h0 s1) harr⟩
 | outgrown=>exact⟨_,a₁,w₁,hq,.of_steps (.one h0 s1) harr⟩
def gG {c:Code} (AG:Act->World->Prop) (μ:Act->World->Nat) (h₀:AG a w)
    (round: ∀a w,AG a w->NV r P c (Exit.then (fun a' w'=>AG a' w'/\μ a' w'<μ a w) Q) a w):NV r P (Code.loop c) Q a w:=by
 intro b k cs hro hb
 have key: ∀j a w,μ a w=j->AG a w->
  ∃e a' w',Q e a' w'/\ArrivesIn (Machine.fenced P (wide r)) P (lone (b.atR a (.code c:: .inLoop c::k)) cs w) b k cs e a' w':=by
  intro j
  induction j using Nat.strongRecOn with
  | _ j ih=>
    intro a w hn hI;obtain⟨e,a₁,w₁,hq,harr⟩:=round a w hI b (.inLoop c::k) cs hro hb;cases e with
    | normal=>
      obtain⟨hI₁,hlt⟩:=hq;obtain⟨e₂,a₂,w₂,hq₂,harr₂⟩:=ih (μ a₁ w₁) (hn ▸ hlt) a₁ w₁ rfl hI₁;exact⟨e₂,a₂,w₂,hq₂,.of_steps (StepsIn.trans harr (.one (Fe rfl) stepR_inLoop)) harr₂⟩
    | exit id=>exact⟨_,a₁,w₁,hq,.pass (x:= .inLoop c) rfl (fun _ _=> .inl (by simp)) harr⟩
    | goto l=>exact⟨_,a₁,w₁,hq,.pass (x:= .inLoop c) rfl (fun _ _=> .inl (by simp)) harr⟩
    | ret=>exact⟨_,a₁,w₁,hq,.pass (x:= .inLoop c) rfl (fun _ _=> .inl (by simp)) harr⟩
    | panic ch=>exact⟨_,a₁,w₁,hq,.pass (x:= .inLoop c) rfl (fun _ _=> .inl (by simp)) harr⟩
    | outgrown=>exact⟨_,a₁,w₁,hq,.pass (x:= .inLoop c) rfl (fun _ _=> .inl (by simp)) harr⟩
 obtain⟨e,a',w',hq,harr⟩:=key _ a w rfl h₀;exact⟨e,a',w',hq,.of_steps (.one (Fe rfl) stepR_loop) harr⟩
def Xd (r:Option Nat) (P:Program) (l:Nat) (Q:Exit->Act->World->Prop) (a':Act):Ending->World->Prop
 | .returned _,w₃=> ∃jump w₄,(Instr.endLoop l).run P w₃= .ok jump w₄/\
  (match jump with
   | none=>Q .normal a' w₄
   | some c=>NV r P c Q a' w₄)
 | .panicked chain,w₃=>Q (.panic chain) a' w₃
 | .outgrown,_=>False
def QM {g:Operand} {ps:Array Tmp} {assign body:Code}
    (h: ∀fn,pB P fn-> ∃(l:Nat) (mark:List Deferred) (w₁:World) (d:Deferred) (w₁':World) (f:FuncId) (args:Array Value) (w₂:World),
     (Instr.enterLoop fn a.tmps ps assign body r).run P w= .ok (l,mark) w₁/\
     (resolve a.eval (rangeCall g l) 0).run P w₁= .ok d w₁'/\
     (invoke d.target d.args).run P w₁'= .ok (.enter f args) w₂/\
     CallsIn (wide r) 0 P f args w₂ (Xd r P l Q {a with defers:=mark++a.defers})) :
    NV r P (Code.rangeFunc g ps assign body) Q a w:=by
 intro b k cs hro hb;obtain⟨l,mark,w₁,d,w₁',f,args,w₂,he,hres,hinv,hF,hcall⟩:=h b.fn hb;rw[<-hro]at he;have h0:(lone (b.atR a (.code (.rangeFunc g ps assign body)::k)) cs w).fenced P (wide r):=fenced_lone (.inl trivial) (fun _ _=>trivial) Gg;have henter:=stepR_rangeFunc (P:=P) (b:=b) (a:=a) (k:=k) (cs:=cs) (w:=w) he hres hinv;obtain⟨e,w₃,fr,G,hsteps,hfn,hleave⟩:=hcall (b.atR {a with defers:=mark++a.defers} (.inRangeFunc l::k)::cs) Gg;cases e with
 | outgrown=>exact G.elim
 | returned v=>
   have hl:(lone fr (b.atR {a with defers:=mark++a.defers} (.inRangeFunc l::k)::cs) w₃).fenced P (wide r):=fenced_lone (.inl trivial) (fun _ _=>trivial) Gg;obtain⟨jump,w₄,hend,hj⟩:=G
   have sback:StepsIn (Machine.fenced P (wide r)) P (lone (b.atR a (.code (.rangeFunc g ps assign body)::k)) cs w) (lone (b.atR {a with defers:=mark++a.defers} ((jump.map Item.code).toList++k)) cs w₄):=by
    refine .head h0 henter (StepsIn.trans hsteps (.head hl ?_ (.one (Fe rfl) (stepR_endRangeFunc hend))));rw[<-finish_atR_inRangeFunc l v];exact step_leave_returned hleave
   cases jump with
   | none=>exact⟨.normal,_,w₄,hj,sback⟩
   | some c=>
     obtain⟨e',a'',w₅,hq,harr⟩:=hj b k cs hro hb;exact⟨e',a'',w₅,hq,.of_steps sback harr⟩
 | panicked chain=>
   have hl:(lone fr (b.atR {a with defers:=mark++a.defers} (.inRangeFunc l::k)::cs) w₃).fenced P (wide r):=fenced_lone (.inl trivial) (fun _ _=>trivial) Gg;refine⟨.panic chain,_,w₃,G,.inRangeFunc l::k,.head h0 henter (StepsIn.trans hsteps (.one hl ?_))⟩;rw[<-Frame.raise_atR];exact step_leave_panicked hleave
def Xa (P:Program) (l:Nat) (R:Ending->World->Prop):Exit->Act->World->Prop
 | .normal,_,w=> ∃v w',(Instr.endRound l none).run P w= .ok v w'/\R (.returned v) w'
 | .ret,_,w=> ∃v w',(Instr.endRound l (some .ret)).run P w= .ok v w'/\R (.returned v) w'
 | .exit id,_,w=> ∃v w',(Instr.endRound l (some (.exit id))).run P w= .ok v w'/\R (.returned v) w'
 | .goto _,_,_=>False
 | .panic ch,a,w=>a.defers= []/\R (.panicked ch) w
 | .outgrown,_,_=>False
def P5 {l:Nat} {f:FuncId} {tmps:Array Value} {assign body:Code} {R:Ending->World->Prop} (hF:pB P f)
    (h:NV (some l) P assign (Exit.then (fun a₁ w₁=> ∃w₂,(Instr.beginRound l).run P w₁= .ok () w₂/\NV (some l) P body (Xa P l R) a₁ w₂) (fun _ _ _=>False))
     {tmps:=tmps,defers:=[]} w) :
    RoundIn Fence.wide 0 P l f tmps assign body w R:=by
 refine⟨trivial,fun c cs _=>?_⟩
 let b:Frame:={(default:Frame)with fn:=f,kind:= .normal,roundOf:=some l}
 have hb0:Frame.round l f tmps assign body .normal=b.atR {tmps:=tmps,defers:=[]} [.code assign,.beginRound,.code body]:=by
  simp[Frame.round,Frame.atR,b]
 obtain⟨e,a₁,w₁,hq,harr⟩:=h b [.beginRound,.code body] (c::cs) rfl hF;rw[<-hb0]at harr;cases e with
 | normal=>
   obtain⟨w₂,hbr,hbody⟩:=hq
   have s1:StepsIn (Machine.fenced P (wide (some l))) P (lone (b.atR a₁ [.beginRound,.code body]) (c::cs) w₁) (lone (b.atR a₁ [.code body]) (c::cs) w₂):=
    .one (Fe rfl) (stepR_beginRound rfl hbr)
   obtain⟨e₂,a₂,w₃,hq₂,harr₂⟩:=hbody b [] (c::cs) rfl hF;cases e₂ with
   | normal=>
     obtain⟨v,w₄,hend,G⟩:=hq₂;exact⟨.returned v,w₄,G,(StepsIn.trans harr s1).trans (StepsIn.trans harr₂ (.one (Fe rfl) (stepR_round_end rfl rfl hend)))⟩
   | ret=>
     obtain⟨v,w₄,hend,G⟩:=hq₂;obtain⟨k₁,hs⟩:=harr₂.2 rfl;exact⟨.returned v,w₄,G,(StepsIn.trans harr s1).trans (StepsIn.trans hs (.one (Fe rfl) (stepR_round_ret rfl rfl hend)))⟩
   | exit id=>
     obtain⟨v,w₄,hend,G⟩:=hq₂;obtain⟨k₁,hk,hs⟩:=harr₂.2 rfl rfl;exact⟨.returned v,w₄,G,(StepsIn.trans harr s1).trans (StepsIn.trans hs (.one (Fe rfl) (stepR_round_exit rfl rfl hk hend)))⟩
   | goto t=>exact hq₂.elim
   | panic chain=>
     obtain⟨hd,G⟩:=hq₂;obtain⟨todo,hs⟩:=harr₂;refine⟨.panicked chain,w₃,G,(StepsIn.trans harr s1).trans (StepsIn.trans hs (.one (fenced_lone (.inl trivial) (fun _ _=>trivial) Gg) ?_))⟩;exact step_leave_panicked ⟨rfl,hd,hF⟩
   | outgrown=>exact hq₂.elim
 | exit id=>exact hq.elim
 | goto t=>exact hq.elim
 | ret=>exact hq.elim
 | panic chain=>exact hq.elim
 | outgrown=>exact hq.elim
end
def D7 (D:Nat):Deferred:={target:= .collected D,args:= #[]}
def Marks (r:Option Nat) (w₀:World) (σ:AH) (w:World) (ds l:List Deferred):Prop:=
 ∃ms:List Nat,l=ms.map D7++ds/\ms.Nodup/\(∀D∈ms,w₀.heap.size<=D/\σ D=none/\w.heap[D]? =some (.deferred (some [])))/\(r≠none->ms= [])
def Marks.refl (r:Option Nat) (w₀:World) (σ:AH) (w:World) (ds:List Deferred):Marks r w₀ σ w ds ds:=⟨[],rfl,.nil,(fun _ h=>by cases h),fun _=>rfl⟩
def Dd {w:World} {n:Nat} {o:Obj} (h:w.heap[n]? =some o):n<w.heap.size:=(oT.1 h).1
def Marks.GJ {w₀:World} {σ σ':AH} {w w':World} {ds l:List Deferred} (h:Marks r w₀ σ w ds l) (Y:B2 Λ σ w σ' w'):Marks r w₀ σ' w' ds l:=by
 obtain⟨ms,h1,h2,h3,hr⟩:=h;refine⟨ms,h1,h2,fun D hD=>?_,hr⟩;obtain⟨h4,h5,h6⟩:=h3 D hD;exact⟨h4,Y.names D h5 (Dd h6),(Y.frame D (Dd h6) h5).trans h6⟩
def Marks.trans {w₀ w₁:World} {σ₁ σ:AH} {w:World} {ds l₁ l:List Deferred} (h:Marks r w₀ σ₁ w₁ ds l₁) (Y:B2 Λ σ₁ w₁ σ w) (hs:w₀.heap.size<=w₁.heap.size) (k:Marks r w₁ σ w l₁ l):Marks r w₀ σ w ds l:=by
 obtain⟨ms,rfl,h2,h3,hr1⟩:=h.GJ Y;obtain⟨ms',rfl,h5,h6,hr2⟩:=k
 have h7 : ∀D∈ms,D<w₁.heap.size:=fun D hD=>by
  obtain⟨ms2,e,_,h9,_⟩:=h
  have:ms2=ms:=by
   have:=List.append_cancel_right e
   have hinj: ∀ {l l':List Nat},l.map D7=l'.map D7->l=l':=fun {l l'} hh=>by
    induction l generalizing l' with
    | nil=>cases l' with
      | nil=>rfl
      | cons _ _=>cases hh
    | cons x l ih=>cases l' with
      | nil=>cases hh
      | cons y l'=>
        simp only[E4,List.cons.injEq,D7]at hh;obtain⟨h1,h2⟩:=hh;have:x=y:=by injection h1 with h1 _;injection h1
        rw[this,ih h2]
   exact(hinj this).symm
  subst this;exact Dd (h9 D hD).2.2
 refine⟨ms'++ms,by simp,List.nodup_append.2 ⟨h5,h2,fun a ha b hb e=>?_⟩,fun D hD=>?_,fun h=>by rw[hr1 h,hr2 h];rfl⟩
 .subst e
  have:=(h6 a ha).1;have:=h7 a hb;omega
 .rcases Dr.1 hD with hD|hD
  .exact⟨by have:=(h6 D hD).1;omega,(h6 D hD).2⟩
  .exact h3 D hD
def Ct (r:Option Nat) (σ:AH) (w:World):Prop:= ∀l,r=some l->σ l=none/\ ∃lp,w.heap[l]? =some (.loop lp)
def Ct.GJ {r:Option Nat} {σ σ':AH} {w w':World} (h:Ct r σ w) (Y:B2 Λ σ w σ' w'):Ct r σ' w':=fun l hl=>by
 obtain⟨h1,lp,h2⟩:=h l hl;exact⟨Y.names l h1 (Dd h2),lp,(Y.frame l (Dd h2) h1).trans h2⟩
def Ct.none {σ:AH} {w:World}:Ct Option.none σ w:=fun _ h=>by cases h
def GR (r:Option Nat) (Λ:Nat->Prop) (σ₀:AH) (w₀:World) (N:Nat) (ds:List Deferred) (Q:Ah->Env->AH->Prop) (e:Exit) (a:Act) (w:World):Prop:=
 ∃ex env σ,Q ex env σ/\Dj (Hh Λ σ w) ex e/\CE (Hh Λ σ w) env a.tmps/\Rel Λ σ w/\B2 Λ σ₀ w₀ σ w/\a.tmps.size=N/\Marks r w₀ σ w ds a.defers
def Kw.t {σ₀:AH} {w₀:World} {Q:Ah->Env->AH->Prop} {e:Exit} {a:Act} {w:World} (h:Kw Λ σ₀ w₀ N ds Q e a w):GR r Λ σ₀ w₀ N ds Q e a w:=by
 obtain⟨ex,env,σ,h1,h2,h3,h4,h5,h6,h7⟩:=h;exact⟨ex,env,σ,h1,h2,h3,h4,h5,h6,by rw[h7];exact Marks.refl _ _ _ _ _⟩
def GR.trans {σ₀ σ₁:AH} {w₀ w₁:World} {ds₁:List Deferred} {Q:Ah->Env->AH->Prop} {e:Exit} {a:Act} {w:World} (Y:B2 Λ σ₀ w₀ σ₁ w₁) (hM:Marks r w₀ σ₁ w₁ ds ds₁) (h:GR r Λ σ₁ w₁ N ds₁ Q e a w):GR r Λ σ₀ w₀ N ds Q e a w:=by
 obtain⟨ex,env,σ,h1,h2,h3,h4,h5,h6,h7⟩:=h;exact⟨ex,env,σ,h1,h2,h3,h4,Y.trans h5,h6,hM.trans h5 Y.size h7⟩
def GR.mono {σ₀:AH} {w₀:World} {Q Q':Ah->Env->AH->Prop} {e:Exit} {a:Act} {w:World} (h:GR r Λ σ₀ w₀ N ds Q e a w) (hq: ∀ex env σ,Q ex env σ->Q' ex env σ):GR r Λ σ₀ w₀ N ds Q' e a w:=by
 obtain⟨ex,env,σ,h1,h2⟩:=h;exact⟨ex,env,σ,hq _ _ _ h1,h2⟩
def ZV {w:World} {b o:Nat} {ob:Obj} (h:w.heap[b]? =some ob) (hc:ob.isCells=false):w.cell? ⟨b,o,none⟩=none:=by
 unfold World.cell?;rw[h];cases ob<;>first|rfl|(simp[Obj.isCells]at hc)
def TE {σ:AH} {w:World} {L:Nat} {ob ob':Obj} (h:w.heap[L]? =some ob) (hc:ob.isCells=false):YJ (Hh Λ σ w) (Hh Λ σ (w.putObj L ob')):=by
 intro b o c hb;obtain⟨h1,h2,h3⟩:=Fk hb;rw[NB h1 h2];by_cases he:b=L
 .subst he
  rw[ZV h hc]at h3;cases h3
 .rw[<-h3]
  exact World.cell?_of_block (w:=w) (World.putObj_heap_other he)
def Rel.put {σ:AH} {w:World} {L:Nat} {ob ob':Obj} (G:Rel Λ σ w) (hL:σ L=none) (h:w.heap[L]? =some ob) (hc:ob.isCells=false):Rel Λ σ (w.putObj L ob') where
 own n o ho:=by
  obtain⟨h1,o',h2,h3⟩:=G.own n o ho;have:n≠L:=fun e=>by subst e;rw[hL]at ho;cases ho
  exact⟨h1,o',(World.putObj_heap_other this).trans h2,OJ.mono (TE h hc) h3⟩
 lock n hn:=by simpa using G.lock n hn
def QP {g:Operand} {ps:Array Tmp} {as bd:Code} {ac:AX} (h:res P N pu fz (.rangeFunc g ps as bd)=some ac) :
    ∃g' a b,BL g=some g'/\res P N pu fz as=some a/\res P N pu fz bd=some b/\(∀p∈ps.toList,p<N)/\ac= .Da [] g' ps.toList a b:=by
 simp only[res]at h;split at h
 .rename_i g' a b h1 h2 h3
  split at h
  .rename_i hp
   cases h;rw[Dh]at hp;exact⟨g',a,b,h1,h2,h3,fun p hp'=>by have:=hp p hp';rwa [Nat.blt_eq]at this,rfl⟩
  .cases h
 .cases h
def Ei : ∀ {c : Code} {ac:AX},res P N pu fz c=some (erase ac)-> ∀ {Q:Ah->Env->AH->Prop} {env:Env} {σ:AH} {a:Act} {w:World},T P ac Q env σ->
    CE (Hh Λ σ w) env a.tmps->Rel Λ σ w->a.tmps.size=N->Ct r σ w->NV r P c (GR r Λ σ w N a.defers Q) a w:=by
 intro c
 induction c with
 | skip=>
   intro ac hc Q env σ a w h he G hN hrd;cases ac<;>simp only[res,erase,II,reduceCtorEq]at hc
   exact Hj (n:=0) <| wpIn_skip ⟨.normal,env,σ,h,rfl,he,G,B2.refl _ _ _,hN,Marks.refl _ _ _ _ _⟩
 | label l=>
   intro ac hc Q env σ a w h he G hN hrd;cases ac<;>simp only[res,erase,II,reduceCtorEq]at hc
   exact Hj (n:=0) <| wpIn_label ⟨.normal,env,σ,h,rfl,he,G,B2.refl _ _ _,hN,Marks.refl _ _ _ _ _⟩
 | ret=>
   intro ac hc Q env σ a w h he G hN hrd;cases ac<;>simp only[res,erase,II,reduceCtorEq]at hc
   exact Hj (n:=0) <| wpIn_ret ⟨.ret,env,σ,h,rfl,he,G,B2.refl _ _ _,hN,Marks.refl _ _ _ _ _⟩
 | exit id=>
   intro ac hc Q env σ a w h he G hN hrd;cases ac<;>simp only[res,erase,II,reduceCtorEq,AX.exit.injEq]at hc
   subst hc;exact Hj (n:=0) <| wpIn_exit ⟨.exit _,env,σ,h,rfl,he,G,B2.refl _ _ _,hN,Marks.refl _ _ _ _ _⟩
 | seq x y ihx ihy=>
   intro ac hc Q env σ a w h he G hN hrd;simp only[res]at hc;split at hc
   .rename_i ax ay h1 h2
    cases ac<;>simp only[erase,II,reduceCtorEq,AX.seq.injEq]at hc
    rename_i l ax' ay';obtain⟨_,rfl,rfl⟩:=hc;simp only[T]at h;refine I2 (CI (ihx h1 h he G hN hrd) ?_);rintro e a' w' ⟨ex,env',σ',hq,hx,he',hR',Y,hN',hM'⟩;cases ex with
    | normal=>
      simp only[Dj]at hx;subst hx;simp only[Ah.andThen]at hq;rcases hq with hq|⟨env2,σ2,f1,f2,hq⟩
      .exact CI (ihy h2 hq (he'.prune l) hR' hN' (hrd.GJ Y)) fun e a w hp=>hp.trans Y hM'
      .have hA2:=Y.trans (B2.fz w' f1)
       exact CI (ihy h2 hq ((he'.prune l).fz hR' f1 f2) (hR'.fz f1) hN' (hrd.GJ hA2)) fun e a w hp=>hp.trans hA2 (hM'.GJ (B2.fz (Λ:=Λ) w' f1))
    | exit id=>simp only[Dj]at hx;subst hx;exact⟨.exit id,env',σ',hq,rfl,he',hR',Y,hN',hM'⟩
    | ret=>simp only[Dj]at hx;subst hx;exact⟨.ret,env',σ',hq,rfl,he',hR',Y,hN',hM'⟩
    | BZ v=>obtain⟨c,rfl,hv⟩:=hx;exact⟨.BZ v,env',σ',hq,⟨c,rfl,hv⟩,he',hR',Y,hN',hM'⟩
   .cases hc
 | cond c x y ihx ihy=>
   intro ac hc Q env σ a w h he G hN hrd;simp only[res]at hc;split at hc
   .rename_i c' ax ay h0 h1 h2
    cases ac<;>simp only[erase,II,reduceCtorEq,AX.cond.injEq]at hc
    obtain⟨rfl,rfl,rfl⟩:=hc;simp only[T]at h;split at h
    .rename_i t ht
     have hv:=Ap he h0 ht;simp only[Ag]at hv;exact gI hv (fun e=>ihx h1 (h.1 e) he G hN hrd) (fun e=>ihy h2 (h.2 e) he G hN hrd)
    .exact h.elim
   .cases hc
 | block id x ih=>
   intro ac hc Q env σ a w h he G hN hrd;obtain⟨ax,h1,hc⟩:=Aj hc;cases ac<;>simp only[erase,reduceCtorEq,AX.block.injEq]at hc
   obtain⟨rfl,rfl⟩:=hc;simp only[T]at h;refine aJ (CI (ih h1 h he G hN hrd) ?_);rintro e a' w' ⟨ex,env',σ',hq,hx,he',hR',Y,hN',hM'⟩;cases ex with
   | normal=>simp only[Dj]at hx;subst hx;exact⟨.normal,env',σ',hq,rfl,he',hR',Y,hN',hM'⟩
   | exit id'=>
     simp only[Dj]at hx;subst hx;simp only[Ah.inBlock]at hq;simp only[Exit.inBlock];cases hb:Nat.beq id' id with
     | true=>
       rw[hb]at hq;simp only[cond_true]at hq;rw[if_pos (Ti hb)];exact⟨.normal,env',σ',hq,rfl,he',hR',Y,hN',hM'⟩
     | false=>
       rw[hb]at hq;simp only[cond_false]at hq;rw[if_neg (Nat.ne_of_beq_eq_false hb)];exact⟨.exit id',env',σ',hq,rfl,he',hR',Y,hN',hM'⟩
   | ret=>simp only[Dj]at hx;subst hx;exact⟨.ret,env',σ',hq,rfl,he',hR',Y,hN',hM'⟩
   | BZ v=>obtain⟨c,rfl,hv⟩:=hx;exact⟨.BZ v,env',σ',hq,⟨c,rfl,hv⟩,he',hR',Y,hN',hM'⟩
 | scope x ih=>
   intro ac hc Q env σ a w h he G hN hrd;obtain⟨ax,h1,hc⟩:=Aj hc;cases ac<;>simp only[erase,reduceCtorEq,AX.scope.injEq]at hc
   subst hc;simp only[T]at h;refine aI (CI (ih h1 h he G hN hrd) ?_);rintro e a' w' ⟨ex,env',σ',hq,hx,he',hR',Y,hN',hM'⟩;cases ex with
   | normal=>simp only[Dj]at hx;subst hx;exact⟨.normal,env',σ',hq,rfl,he',hR',Y,hN',hM'⟩
   | exit id=>simp only[Dj]at hx;subst hx;exact⟨.exit id,env',σ',hq,rfl,he',hR',Y,hN',hM'⟩
   | ret=>simp only[Dj]at hx;subst hx;exact⟨.ret,env',σ',hq,rfl,he',hR',Y,hN',hM'⟩
   | BZ v=>obtain⟨c,rfl,hv⟩:=hx;exact⟨.BZ v,env',σ',hq,⟨c,rfl,hv⟩,he',hR',Y,hN',hM'⟩
 | loop x ih=>
   intro ac hc Q env σ a w h he G hN hrd;obtain⟨ax,h1,hc⟩:=Aj hc;cases ac<;>simp only[erase,reduceCtorEq,AX.loop.injEq]at hc
   rename_i keep ac' _;obtain⟨_,rfl⟩:=hc;simp only[T]at h;obtain⟨AG,⟨n0,h0⟩,hround⟩:=h
   let J:Nat->Act->World->Prop:=fun m a' w'=> ∃env' σ',AG m env' σ'/\CE (Hh Λ σ' w') env' a'.tmps/\Rel Λ σ' w'/\B2 Λ σ w σ' w'/\a'.tmps.size=N/\Marks r w σ' w' a.defers a'.defers
   have hmin: ∀a' w',(∃m,J m a' w')-> ∃m,J m a' w'/\ ∀k,J k a' w'->m<=k:=fun a' w' hex=>X1 hex
   classical
   refine gG (fun a' w'=> ∃m,J m a' w') (fun a' w'=>if hx: ∃m,J m a' w' then Classical.choose (hmin a' w' hx)else 0) ⟨n0,Gl.prune keep env,σ,h0,he.prune keep,G,B2.refl _ _ _,hN,Marks.refl _ _ _ _ _⟩ ?_;intro a' w' hex;have hspec:=(Classical.choose_spec (hmin a' w' hex)).1;obtain⟨env',σ',hI,he',hR',hA',hN',hM'⟩:=hspec;refine CI (ih h1 (hround _ env' σ' hI) he' hR' hN' (hrd.GJ hA')) ?_;rintro e a'' w'' ⟨ex,env'',σ'',hq,hx,he'',hR'',hA'',hN'',hM''⟩;have hM3:=hM'.trans hA'' hA'.size hM'';cases ex with
   | normal=>
     simp only[Dj]at hx;subst hx;obtain⟨m,hm,hI'⟩:=hq;have hJ:J m a'' w'':=⟨_,σ'',hI',he''.prune keep,hR'',hA'.trans hA'',hN'',hM3⟩
     refine⟨⟨m,hJ⟩,?_⟩;rw[dif_pos hex,dif_pos ⟨m,hJ⟩];exact Nat.lt_of_le_of_lt ((Classical.choose_spec (hmin a'' w'' ⟨m,hJ⟩)).2 m hJ) hm
   | exit id=>simp only[Dj]at hx;subst hx;exact⟨.exit id,env'',σ'',hq,rfl,he'',hR'',hA'.trans hA'',hN'',hM3⟩
   | ret=>simp only[Dj]at hx;subst hx;exact⟨.ret,env'',σ'',hq,rfl,he'',hR'',hA'.trans hA'',hN'',hM3⟩
   | BZ v=>obtain⟨c,rfl,hv⟩:=hx;exact⟨.BZ v,env'',σ'',hq,⟨c,rfl,hv⟩,he'',hR'',hA'.trans hA'',hN'',hM3⟩
 | region id ops draw=>
   intro ac hc Q env σ a w h he G hN hrd;simp only[res]at hc;split at hc
   .cases hc
   .rename_i as h1
    obtain⟨h2,h3⟩:=F8 h1;cases draw with
    | false=>
      simp only[cond_false,II]at hc;cases ac<;>simp only[erase,reduceCtorEq,AX.Cs.injEq]at hc
      subst hc;simp only[T]at h;refine Hj (n:=0) <| wpIn_mono (wpIn_region (Q:=Kw Λ σ w N a.defers Q) ?_) fun _ _ _ h=>h.t
      rw[List.range_eq_range',show ops.size=as.length by simpa using h2];exact PO (fun _ _ h=>h) (fun _ _ _ h=>h) as 0 (fun i o ho=>h3 i o (by simpa using ho)) (by simpa using h2) env σ a w h he G (B2.refl _ _ _) hN rfl
    | true=>
      simp only[cond_true]at hc;cases hm:P.follows .mixedOrders with
      | false=>rw[hm]at hc;cases hc
      | true=>
        rw[hm]at hc;simp only[cond_true]at hc;obtain⟨AF,hC,hc⟩:=Aj hc;cases ac<;>simp only[erase,reduceCtorEq,AX.G2.injEq]at hc
        obtain⟨_,rfl⟩:=hc;simp only[T]at h;exact Hj (n:=0) <| wpIn_mono (X5 hm h1 hC h he G hN rfl) fun _ _ _ h=>h.t
 | rangeFunc g ps as bd ih1 ih2=>
   intro ac hc Q env σ a w h he G hN hrd;obtain⟨g',ac1,ac2,h1,h2,h3,h4,hc⟩:=QP hc;cases ac<;>simp only[erase,reduceCtorEq,AX.Da.injEq]at hc
   rename_i keep g1 ps1 aa ab _;obtain⟨_,rfl,rfl,rfl,rfl⟩:=hc;simp only[T]at h;split at h
   .rename_i gf cap hg
    have hgv:=Ap he h1 hg;obtain⟨f',c',e1,e2,e3,e4,e5⟩:=hgv;have e2':f'= #[]:=Array.size_eq_zero_iff.1 e2;subst e2';refine QM fun fn hfnP=>?_
    obtain ⟨L,mark,W1,lp,hrun,hlp,hfr,hR1,hA1,hM1,hrd1⟩: ∃(L:Nat) (mark:List Deferred) (W1:World) (lp:Loop),(Instr.enterLoop fn a.tmps ps as bd r).run P w= .ok (L,mark) W1/\
     (W1.heap[L]? =some (.loop lp)/\lp.state= .ready/\lp.pending=none/\lp.tmps=a.tmps/\lp.params=ps/\lp.assign=as/\lp.body=bd)/\σ L=none/\
     Rel Λ (A6 σ L (.loop .ready (Gl.prune keep env) (Bb P ps.toList aa ab))) W1/\B2 Λ σ w (A6 σ L (.loop .ready (Gl.prune keep env) (Bb P ps.toList aa ab))) W1/\Marks r w (A6 σ L (.loop .ready (Gl.prune keep env) (Bb P ps.toList aa ab))) W1 a.defers (mark++a.defers)/\
     Ct r (A6 σ L (.loop .ready (Gl.prune keep env) (Bb P ps.toList aa ab))) W1:=by
     have hor: ∀(w':World) (lp:Loop),Rel Λ σ w'->B2 Λ σ w σ w'->lp.state= .ready->lp.pending=none->lp.tmps=a.tmps->lp.params=ps->lp.assign=as->lp.body=bd->lp.fn=fn->
      OJ (Hh Λ σ w') (.loop .ready (Gl.prune keep env) (Bb P ps.toList aa ab)) (.loop lp):=fun w' lp hR' hA' q1 q2 q3 q4 q5 q6 q7=>by
      refine⟨lp,rfl,⟨q1,q2⟩,fun k v hm=>?_,?_⟩
      .rw[q3]
       have hg':get k env=some v:=Mh hm;obtain⟨c,hc1,hc2⟩:=he k v hg';exact⟨c,hc1,hc2.mono hA'.hle⟩
      .rw[q3,q4,q5,q6,q7]
       exact⟨hfnP,rfl,by rw[hN];exact h4,pu,fz,by rw[hN];exact h2,by rw[hN];exact h3⟩
     clear ih1 ih2 h;cases r with
     | none=>
       refine⟨w.heap.size+1,_,_,{state:= .ready,pending:=none,fn,tmps:=a.tmps,params:=ps,assign:=as,body:=bd,defers:=w.heap.size},run_enterLoop_outer fn a.tmps ps as bd,?_⟩;have hsz:(w.alloc (.deferred (some []))).heap.size=w.heap.size+1:=by simp
       have hnew:=World.alloc_heap_new (w.alloc (.deferred (some []))) (.loop {state:= .ready,pending:=none,fn,tmps:=a.tmps,params:=ps,assign:=as,body:=bd,defers:=w.heap.size});rw[hsz]at hnew;have hRa:=KH G (.deferred (some []));have hAa:B2 Λ σ w σ (w.alloc (.deferred (some []))):=Hy w _
       have hAb:B2 Λ σ (w.alloc (.deferred (some []))) (A6 σ (w.heap.size+1) (.loop .ready (Gl.prune keep env) (Bb P ps.toList aa ab))) ((w.alloc (.deferred (some []))).alloc (.loop {state:= .ready,pending:=none,fn,tmps:=a.tmps,params:=ps,assign:=as,body:=bd,defers:=w.heap.size})):=by
        rw[<-hsz];exact Dl _ _
       have hfr:σ w.heap.size=none:=by
        cases hs:σ w.heap.size with
        | none=>rfl
        | some o=>exact absurd (G.lt hs) (Nat.lt_irrefl _)
       refine⟨⟨hnew,rfl,rfl,rfl,rfl,rfl,rfl⟩,?_,?_,hAa.trans hAb,?_,?_⟩
       .cases hs:σ (w.heap.size+1)with
        | none=>rfl
        | some o=>have:=G.lt hs;omega
       .rw[<-hsz]
        exact HV hRa (hor _ _ hRa hAa rfl rfl rfl rfl rfl rfl rfl)
       .refine Marks.GJ (Λ:=Λ) (σ:=σ) (w:=w.alloc (.deferred (some []))) ?_ hAb
        exact⟨[w.heap.size],rfl,by simp,fun D hD=>by
         rw[My]at hD;subst hD
         exact⟨IN _,hfr,World.alloc_heap_new w _⟩,fun hne=>absurd rfl hne⟩
       .exact(hrd.GJ hAa).GJ hAb
     | some l0=>
       obtain⟨hl1,lp0,hl2⟩:=hrd l0 rfl;refine⟨w.heap.size,_,_,{state:= .ready,pending:=none,fn,tmps:=a.tmps,params:=ps,assign:=as,body:=bd,defers:=lp0.defers},run_enterLoop_inner hl2 fn a.tmps ps as bd,?_⟩;refine⟨⟨World.alloc_heap_new w _,rfl,rfl,rfl,rfl,rfl,rfl⟩,?_,HV G (hor _ _ G (B2.refl _ _ _) rfl rfl rfl rfl rfl rfl rfl),Dl _ _,Marks.GJ (Λ:=Λ) (Marks.refl _ _ _ _ _) (Dl _ _),hrd.GJ (Λ:=Λ) (Dl _ _)⟩;cases hs:σ w.heap.size with
       | none=>rfl
       | some o=>exact absurd (G.lt hs) (Nat.lt_irrefl _)
    obtain⟨hok,hctr⟩:=h L hfr;refine⟨L,mark,W1,{target:= .fn (.func gf) c',args:= #[.func (.yield L) #[] #[]]},W1,gf,#[.func (.yield L) #[] #[]]++c',W1,hrun,?_,?_,?_⟩
    .simp only[resolve,e1]
     simp[go_sem]
    .simp only[invoke]
     exact Hz hok _ _
    .refine Jt ?_
     have hargs:cw (Hh Λ (A6 σ L (.loop .ready (Gl.prune keep env) (Bb P ps.toList aa ab))) W1) (.f (.yield L) [] []::cap) (#[.func (.yield L) #[] #[]]++c'):=by
      have h0:cw (Hh Λ (A6 σ L (.loop .ready (Gl.prune keep env) (Bb P ps.toList aa ab))) W1) [.f (.yield L) [] []] #[.func (.yield L) #[] #[]]:=
       ⟨rfl,⟨_,rfl,#[],#[],rfl,rfl,trivial,rfl,trivial⟩,trivial⟩
      exact Hr h0 ⟨e4,BO.mono hA1.hle (fun _ _ e=>e) _ _ e5⟩
     refine Calls.mono (hctr Λ W1 _ hR1 hargs) ?_;rintro e W2 ⟨rr,σ2,hq,hrr,hR2,hA2⟩;cases rr with
     | BZ v=>
       obtain⟨c,rfl,hv⟩:=hrr;have hsub:=Fi σ2 L
       exact⟨.BZ v,env,del σ2 L,hq,⟨c,rfl,hv.mono (Ej fun n hn=>hsub.none hn)⟩,(he.mono (hA1.trans hA2).hle).mono (Ej fun n hn=>hsub.none hn),hR2.drop hsub,(hA1.trans hA2).trans (B2.drop W2 hsub),hN,
        (hM1.GJ hA2).GJ (B2.drop (Λ:=Λ) W2 hsub)⟩
     | ret v=>
       obtain⟨c,rfl,hv⟩:=hrr;obtain⟨st,env1,ok,hL2,hq⟩:=hq;have hsub:=Fi σ2 L;obtain⟨hnl,ob,hob,lp2,rfl,hst,_,_⟩:=hR2.own L _ hL2;have hRd:=hR2.drop hsub;have hRf:Rel Λ (del σ2 L) (W2.putObj L (.loop {lp2 with state:= .exhausted})):=hRd.put (DF σ2 L) hob rfl
       have hAf:B2 Λ σ2 W2 (del σ2 L) (W2.putObj L (.loop {lp2 with state:= .exhausted})):=by
        refine⟨fun n hn h0=>World.putObj_heap_other fun e=>?_,by simp,rfl,rfl,rfl,fun n h0 _=>hsub.none h0⟩;subst e;rw[hL2]at h0;cases h0
       have hend:=run_endLoop (P:=P) hob (by cases st<;>simp only[ot]at hst<;>rw[hst.1]<;>simp);generalize W2.putObj L (.loop {lp2 with state:= .exhausted})=W3 at hRf hAf hend;have hAA:=(hA1.trans hA2).trans hAf;have hMM:=(hM1.GJ hA2).GJ hAf;refine⟨lp2.pending,_,hend,?_⟩;cases st with
       | ready=>
         rw[hst.2];exact⟨.normal,env,del σ2 L,hq,rfl,he.mono hAA.hle,hRf,hAA,hN,hMM⟩
       | ret=>
         rw[hst.2];exact Hj (n:=0) <| wpIn_ret ⟨.ret,env,del σ2 L,hq,rfl,he.mono hAA.hle,hRf,hAA,hN,hMM⟩
       | exit id=>
         rw[hst.2];exact Hj (n:=0) <| wpIn_exit ⟨.exit id,env,del σ2 L,hq,rfl,he.mono hAA.hle,hRf,hAA,hN,hMM⟩
   .exact h.elim
 | goto l=>intro ac hc;cases hc
 | refuse s=>intro ac hc;cases hc
end Go.Gl
namespace Go.Gl
variable {P:Program} {Λ:Nat->Prop} {pu:List FuncId} {fz:List Nat} {ds:List Deferred}
def F7:List ResultVar->Option (List Nat)
 | []=>some []
 | .tmp t::r=>(F7 r).map (t:: ·)
 | .cell _ _::_=>none
def dJ (env:Env):List Nat->Option (List V)
 | []=>some []
 | s::r=>match get s env,dJ env r with
   | some v,some vs=>some (v::vs)
   | _,_=>none
def ji (AI:List Nat) (env:Env):Option V:=
 match dJ env AI with
 | some [v]=>some v
 | some vs=>some (.t vs)
 | none=>none
def Am (σ:AH) (v:V) (Q:R->AH->Prop):Prop:= ∃vf σ',Sub σ' σ/\Ff σ σ' v vf/\Q (.ret vf) σ'
def Ac (σ:AH) (v:V) (Q:R->AH->Prop):Prop:= ∃vf σ',Sub σ' σ/\Ff σ σ' v vf/\Q (.BZ vf) σ'
def dR (AI:List Nat) (Q:R->AH->Prop):Ah->Env->AH->Prop
 | .normal,env,σ| .ret,env,σ=>wv (ji AI env) fun v=>Am σ v Q
 | .BZ v,_,σ=>Ac σ v Q
 | .exit _,_,_=>False
def A3:Nat->List V->Env
 | _,[]=>[]
 | i,v::vs=>(i,v)::A3 (i+1) vs
def UK {o:Option V} {k:V->Prop} (h:wv o k): ∃v,o=some v/\k v:=by
 cases o with
 | none=>exact h.elim
 | some v=>exact⟨v,rfl,h⟩
def F9: ∀(vs:List V) (i k:Nat) (v:V),get k (A3 i vs)=some v->i<=k/\vs[k - i]? =some v
 | [],_,_,_,h=>by cases h
 | u ::vs,i,k,v,h=>by
   simp only[A3,get]at h;cases hb:Nat.beq i k with
   | true=>
     rw[hb]at h;simp only[cond_true]at h;cases h;have:i=k:=Ti hb;subst this;exact⟨IN _,by simp⟩
   | false=>
     rw[hb]at h;simp only[cond_false]at h;have hne:i≠k:=Nat.ne_of_beq_eq_false hb;obtain⟨h1,h2⟩:=F9 vs (i+1) k v h;refine⟨by omega,?_⟩;rw[show k - i=k - (i+1)+1 by omega];simpa using h2
def nH (tmps:Array Value):ResultVar->Sem Value
 | .tmp t=>pure (tmps.getD t undef)
 | .cell a t=>do loadVar t (<-asAddr (tmps.getD a undef))
def KG (fn:Func) (tmps:Array Value):results fn tmps=(do
    let vs<-fn.results.mapM (nH tmps)
    pure (if h:vs.size=1 then vs[0]else .tuple vs)):=by
 unfold results;congr 1
def Vw {fn:Func} {AI:List Nat} (hr:F7 fn.results.toList=some AI) {H:Nat->Nat->Option Value} {env:Env} {tmps:Array Value} (he:CE H env tmps) {v:V} (hv:ji AI env=some v) (w:World) :
    ∃c,(results fn tmps).run P w= .ok c w/\Ag H v c:=by
 have key: ∀(l:List ResultVar) (AI:List Nat),F7 l=some AI-> ∀vs,dJ env AI=some vs->
  ∃cs:List Value,(l.mapM (nH tmps)).run P w= .ok cs w/\cs.length=vs.length/\BO H (fun i=>cs[i]?) 0 vs:=by
  intro l
  induction l with
  | nil=>
    intro AI hs vs hv;cases hs;cases hv;exact⟨[],by simp,rfl,trivial⟩
  | cons x l ih=>
    intro AI hs vs hv;cases x with
    | cell a t=>cases hs
    | tmp t=>
      simp only[F7]at hs;obtain⟨s',h1,rfl⟩:=Aj hs;simp only[dJ]at hv;split at hv
      .rename_i u us h2 h3
       cases hv;obtain⟨cs,h4,h5,h6⟩:=ih s' h1 us h3;obtain⟨c,h7,h8⟩:=he t u h2;refine⟨c::cs,?_,by simp[h5],⟨c,rfl,h8⟩,A7 h6 (fun i _=>by rw[show 0+1+i=i+1 by omega];simp)⟩;rw[List.mapM_cons];simp only[nH,C6,EY,GH,h4,Array.getD_eq_getD_getElem?,h7,Option.getD_some]
      .cases hv
 unfold ji at hv;cases hg:dJ env AI with
 | none=>rw[hg]at hv;cases hv
 | some vs =>
   obtain⟨cs,h1,h2,h3⟩:=key _ _ hr vs hg
   have hrun:(fn.results.mapM (nH tmps)).run P w= .ok cs.toArray w:=by
    rw[Array.mapM_eq_mapM_toList];simp[h1]
   rw[KG];simp only[C6];refine⟨if h:cs.toArray.size=1 then cs.toArray[0]else .tuple cs.toArray,?_,?_⟩
   .rw[hrun]
    rfl
   .rw [hg]at hv
    by_cases h1':cs.length=1
    .rw [dif_pos (by simpa using h1')]
     match cs,h1',h2,h3 with
     | [c],_,h2,h3=>
       match vs,h2,h3,hv with
       | [u],_,h3,hv=>
         cases hv;obtain⟨⟨d,hd,hr⟩,_⟩:=h3;simp at hd;subst hd;exact hr
    .rw[dif_neg (by simpa using h1')]
     have hv':v= .t vs:=by
      match vs,hv with
      | [],hv=>cases hv;rfl
      | [u],hv=>simp at h2;exact absurd h2 h1'
      | u::u'::r,hv=>cases hv;rfl
     subst hv';exact⟨_,rfl,by simpa using h2,A7 h3 (fun i _=>by simp)⟩
def B2.Ys {σ₀ σ:AH} {w₀ w:World} {D:Nat} {ob:Obj} (h:B2 Λ σ₀ w₀ σ w) (hD:w₀.heap.size<=D):B2 Λ σ₀ w₀ σ (w.putObj D ob) where
 frame n hn h0:=(World.putObj_heap_other (by omega)).trans (h.frame n hn h0)
 size:=by simpa using h.size
 os:=h.os
 tape:=h.tape
 output:=h.output
 names:=h.names
def C5 {AE:Fence} {n:Nat} {fn:Func} {tmps:Array Value} {R:Ending->World->Prop} {u:FrameMode} (hu:u≠ .run) {σ₀ σ:AH} {w₀:World}: ∀(ms:List Nat) (w:World),ms.Nodup->
    (∀D∈ms,w₀.heap.size<=D/\σ D=none/\w.heap[D]? =some (.deferred (some [])))->Rel Λ σ w->B2 Λ σ₀ w₀ σ w->(∀w',Rel Λ σ w'->B2 Λ σ₀ w₀ σ w'->YJ (Hh Λ σ w) (Hh Λ σ w')->LeavesInM AE n P fn tmps R ds u w')->
    LeavesInM AE n P fn tmps R (ms.map D7++ds) u w
 | [],w,_,_,G,Y,h=>h w G Y fun _ _ _ h=>h
 | D::ms,w,hnd,hms,G,Y,h=>by
   obtain⟨h1,h2,h3⟩:=hms D (.head _);have hnd':=List.nodup_cons.1 hnd;refine⟨hu,.inl ⟨D,_,rfl,run_takeDeferred h3,?_⟩⟩;have hle:=TE (Λ:=Λ) (σ:=σ) (ob':= .deferred none) h3 rfl;refine C5 hu ms _ hnd'.2 (fun E hE=>?_) (G.put h2 h3 rfl) (Y.Ys h1) fun w' q1 q2 q3=>h w' q1 q2 fun b o c hc=>q3 b o c (hle b o c hc)
   obtain⟨h4,h5,h6⟩:=hms E (.tail _ hE);exact⟨h4,h5,(World.putObj_heap_other (fun e=>hnd'.1 (by rw[<-e];exact hE))).trans h6⟩
def GG {n:Nat} {f:FuncId} {fn:Func} {c:Code} {args:Array Value} {w:World} {R:Ending->World->Prop}
    (hf:P.funcs[f]? =some fn) (hb:fn.body=some c)
    (h:NV none P c (bodyPostM (wide none) n P fn R) {tmps:=args++Array.replicate (fn.ntmps - args.size) undef,defers:=[]} w):CallsIn (wide none) n P f args w R:=by
 refine⟨trivial,fun cs hr=>?_⟩
 let b:Frame:={(default:Frame)with fn:=f,kind:= .normal,roundOf:=none}
 have henter:Frame.enter P f args .normal =
  b.atR {tmps:=args++Array.replicate (fn.ntmps - args.size) undef,defers:=[]} [.code c]:=by
  simp[Frame.enter,Frame.atR,hf,hb,b]
 obtain⟨e,a',w',hq,harr⟩:=h b [] cs rfl ⟨fn,hf⟩;rw[<-henter]at harr;cases e with
 | normal=>
   obtain⟨e',w'',fr',G,hs,hfn,hl⟩:=leaves_stepsInM a'.defers .returning w' {b.atR a' []with mode:= .returning} cs rfl rfl rfl hf rfl trivial hr hq;exact⟨e',w'',fr',G,ComesIn.of_steps (StepsIn.trans harr (.one (fenced_calm (fr:=b.atR a' []) trivial hr rfl) (stepR_end rfl))) hs,hfn,hl⟩
 | ret=>
   obtain⟨todo,hs₀⟩:=harr.1 rfl;obtain⟨e',w'',fr',G,hs,hfn,hl⟩:=leaves_stepsInM a'.defers .returning w' {b.atR a' todo with mode:= .returning} cs rfl rfl rfl hf rfl trivial hr hq;exact⟨e',w'',fr',G,ComesIn.of_steps hs₀ hs,hfn,hl⟩
 | panic chain=>
   obtain⟨todo,hs₀⟩:=harr;obtain⟨e',w'',fr',G,hs,hfn,hl⟩:=leaves_stepsInM a'.defers (.panicking chain) w' {b.atR a' todo with mode:= .panicking chain} cs rfl rfl rfl hf rfl trivial hr hq;exact⟨e',w'',fr',G,ComesIn.of_steps hs₀ hs,hfn,hl⟩
 | exit id=>exact hq.elim
 | goto l=>exact hq.elim
 | outgrown=>exact⟨.outgrown,w',b,hq,harr.resolve_left (by simp[b]),rfl,trivial⟩
def ib {f:FuncId} {fn:Func} {c:Code} {ac:AX} {AI:List Nat} (hf:P.funcs[f]? =some fn) (hok:okF P f=true) (hb:fn.body=some c) (hr:F7 fn.results.toList=some AI)
    {args:List V} (hn:args.length<=fn.ntmps) (hc:res P fn.ntmps pu fz c=some (erase ac)) {σ:AH} {Q:R->AH->Prop} (h:T P ac (dR AI Q) (A3 0 args) σ):As P f args σ Q:=by
 refine⟨hok,fun Λ w cs G hv=>?_⟩;refine callsIn_wide (n:=0) |>.1 (GG hf hb ?_)
 have he:CE (Hh Λ σ w) (A3 0 args) (cs++Array.replicate (fn.ntmps - cs.size) undef):=by
  intro k v hg;obtain⟨_,h2⟩:=F9 args 0 k v hg;simp only[Nat.sub_zero]at h2;obtain⟨d,h3,h4⟩:=BV.1 hv.2 k v h2;simp only[GM]at h3;refine⟨d,?_,h4⟩;rw[Array.getElem?_append_left (by have:=(oT.1 h3).1;exact this)];exact h3
 have hsz:(cs++Array.replicate (fn.ntmps - cs.size) undef).size=fn.ntmps:=by
  simp only[Array.size_append,Array.size_replicate];have:=hv.1;omega
 refine CI (Ei (r:=none) (a:={tmps:=cs++Array.replicate (fn.ntmps - cs.size) undef,defers:=[]}) hc h he G hsz Ct.none) ?_;rintro e a' w' ⟨ex,env,σ',hq,hx,he',hR',Y,hN,ms,hms,hnd,hD,_⟩;simp only[Ep]at hms
 have fin: ∀v vf σ'',ji AI env=some v->Sub σ'' σ'->Ff σ' σ'' v vf->Q (.ret vf) σ''->LeavesInM (wide none) 0 P fn a'.tmps (fun e w'=> ∃r σ',Q r σ'/\UJ (Hh Λ σ' w') r e/\Rel Λ σ' w'/\B2 Λ σ w σ' w') a'.defers .returning w':=fun v vf σ'' h1 h2 h3 h4=>by
  rw[hms,<-Ep (ms.map D7)];refine C5 (by simp) ms w' hnd hD hR' Y fun w2 q1 q2 q3=>?_
  obtain⟨c,h5,h6⟩:=Vw (P:=P) hr (he'.mono q3) h1 w2;exact⟨c,h5,.ret vf,σ'',h4,⟨c,rfl,h3.rel q1 h2 h6⟩,q1.drop h2,q2.trans (B2.drop w2 h2)⟩
 cases ex with
 | normal=>
   simp only[Dj]at hx;subst hx;obtain⟨v,h1,vf,σ'',h2,h3,h4⟩:=UK hq;exact fin v vf σ'' h1 h2 h3 h4
 | ret=>
   simp only[Dj]at hx;subst hx;obtain⟨v,h1,vf,σ'',h2,h3,h4⟩:=UK hq;exact fin v vf σ'' h1 h2 h3 h4
 | exit id=>exact hq.elim
 | BZ v=>
   obtain⟨c,rfl,hv'⟩:=hx;obtain⟨vf,σ'',h2,h3,h4⟩:=hq;show LeavesInM _ _ _ _ _ _ a'.defers (.panicking _) w';rw[hms,<-Ep (ms.map D7)];refine C5 (by simp) ms w' hnd hD hR' Y fun w2 q1 q2 q3=>?_
   exact⟨.BZ vf,σ'',h4,⟨c,rfl,h3.rel q1 h2 (hv'.mono q3)⟩,q1.drop h2,q2.trans (B2.drop w2 h2)⟩
def KT {f:FuncId} {fn:Func} {ac:AX} {AI:List Nat} (hf:P.funcs[f]? =some fn) (hok:okF P f=true) (hb:fn.body.bind (res P fn.ntmps pu fz)=some (erase ac)) (hr:F7 fn.results.toList=some AI)
    {args:List V} (hn:args.length<=fn.ntmps) {σ:AH} {Q:R->AH->Prop} (h:T P ac (dR AI Q) (A3 0 args) σ):As P f args σ Q:=by
 cases hc:fn.body with
 | none=>rw[hc]at hb;cases hb
 | some c=>rw[hc]at hb;exact ib hf hok hc hr hn hb h
def scalar:V->Bool
 | .b _=>true
 | .i _ _=>true
 | .t vs=>vs.all fun| .b _=>true| .i _ _=>true|_=>false
 | _=>false
def XW {H H':Nat->Nat->Option Value} {v:V} {c:Value} (hs:scalar v=true) (h:Ag H v c):Ag H' v c:=by
 cases v<;>try(simp[scalar]at hs;done)
 .exact h
 .exact h
 .rename_i vs
  obtain⟨c',rfl,h1,h2⟩:=h;refine⟨c',rfl,h1,?_⟩;rw[BV]at *;intro i v hv;obtain⟨d,hd,hr⟩:=h2 i v hv;refine⟨d,hd,?_⟩;simp only[scalar,Dh]at hs;have:=hs v (Dm hv);cases v<;>first|(simp at this;done)|exact hr
def Pure.T3 {f:FuncId} {args args':List V} {v:V} (h:Pure P f args' v) {σ:AH} (hf:C7 σ emp args args') (hs:scalar v=true) {k kp:V->AH->Prop} (hk:k v σ):As P f args σ (qk k kp):=by
 refine⟨h.1,fun Λ w cs G hv=>?_⟩;have hsub:Sub emp σ:=fun n o ho=>by cases ho
 refine Calls.mono (h.2 Λ w cs (G.drop hsub) ⟨by rw[hf.length];exact hv.1,hf.rel G hsub (fun _ _ e=>e) hv.2⟩) fun e w' ⟨r,σ',⟨hr,hs'⟩,h1,h2,h3⟩=>?_
 subst hr;subst hs';obtain⟨c,rfl,hv'⟩:=h1;exact⟨.ret v,σ,hk,⟨c,rfl,XW hs hv'⟩,Qy G h3,TS h3⟩
end Go.Gl
