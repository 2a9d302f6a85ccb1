import Derived.Test.YtijbpgdmpejgoaaGreatQ4
set_option linter.all false
set_option linter.unusedVariables false
set_option linter.unusedSimpArgs false
namespace Go.Gl
variable {P:Program} {Λ:Nat→Prop} {env env':Env} {σ:AG}
theorem Bk {o:Option V} {k k':V→Prop} (h:wv o k) (hm: ∀v,k v→k' v):wv o k':=by
 cases o with
 | none=>exact h
 | some v=>exact hm v h
theorem Jw {o:Option (List V)} {k k':List V→Prop} (h:ws o k) (hm: ∀v,k v→k' v):ws o k':=by
 cases o with
 | none=>exact h
 | some v=>exact hm v h
theorem Qu {o:Option (Option V)} {k k':Option V→Prop} (h:wo o k) (hm: ∀v,k v→k' v):wo o k':=by
 cases o with
 | none=>exact h
 | some v=>exact hm v h
theorem Tv {sz:Nat} {a x:V} {k k':AG→Prop} (h:Af σ sz a x k) (hm: ∀σ',k σ'→k' σ'):Af σ sz a x k':=by
 unfold Af at *;split at h
 ·rename_i vc hc
  obtain⟨h1,h2,h3⟩:=h;refine⟨h1,h2,?_⟩;cases a<;>first|exact h3.elim|skip
  ·simp only at *
   split at h3
   ·exact⟨h3.1,hm _ h3.2⟩
   ·exact h3.elim
  ·simp only at *
   split at h3
   ·refine⟨h3.1,?_⟩
    have h4:=h3.2;split at h4
    ·exact⟨h4.1,hm _ h4.2⟩
    ·exact h4.elim
   ·exact h3.elim
 ·exact h.elim
theorem Ey {sz:Nat} {y:V} {k k':List (List V)→Prop} (h:rowsOf σ sz y k) (hm: ∀v,k v→k' v):rowsOf σ sz y k':=by
 unfold rowsOf at *;cases y<;>first|exact h.elim|skip
 ·exact⟨h.1,hm _ h.2⟩
 ·simp only at *
  split at h
  ·exact⟨h.1,h.2.1,hm _ h.2.2⟩
  ·exact h.elim
 ·simp only at *
  split at h
  ·exact⟨h.1,h.2.1,h.2.2.1,hm _ h.2.2.2⟩
  ·exact h.elim
theorem Km {b sz:Nat} {x y:V} {k k':V→AG→Prop} (h:AQ b σ sz x y k) (hm: ∀v σ',k v σ'→k' v σ'):AQ b σ sz x y k':=by
 unfold AQ at *;refine Ey h fun ys ⟨h1,h2⟩=>⟨h1,?_⟩
 cases x<;>first|exact h2.elim|skip
 ·simp only at *
  exact⟨h2.1,h2.2.1,fun e=>hm _ _ (h2.2.2.1 e),fun e=>⟨(h2.2.2.2 e).1,fun n cap h3 h4=>hm _ _ ((h2.2.2.2 e).2 n cap h3 h4)⟩⟩
 ·simp only at *
  split at h2
  ·exact⟨h2.1,h2.2.1,h2.2.2.1,h2.2.2.2.1,fun n cap h3 h4=>hm _ _ (h2.2.2.2.2 n cap h3 h4)⟩
  ·exact h2.elim
theorem Gn {o:Option V} {d:Int} {k k':Int→Prop} (h:Oh o d k) (hm: ∀v,k v→k' v):Oh o d k':=by
 unfold Oh at *;split at h
 ·exact hm _ h
 ·exact hm _ h
 ·exact h.elim
theorem Tx {sz:Nat} {x:V} {a b c:Option V} {k k':V→AG→Prop} (h:Ac σ sz x a b c k) (hm: ∀v σ',k v σ'→k' v σ'):Ac σ sz x a b c k':=by
 unfold Ac at *;cases x<;>first|exact h.elim|skip
 ·simp only at *
  refine⟨h.1,Gn h.2 fun hh h2=>Gn h2 fun l h3=>⟨h3.1,h3.2.1,h3.2.2.1,?_⟩⟩;have h4:=h3.2.2.2;split at h4
  ·exact hm _ _ h4
  ·exact⟨h4.1,hm _ _ h4.2⟩
  ·exact h4.elim
 ·simp only at *
  refine Gn h fun hh h2=>Gn h2 fun l h3=>⟨h3.1,h3.2.1,h3.2.2.1,?_⟩
  have h4:=h3.2.2.2;split at h4
  ·exact hm _ _ h4
  ·refine⟨h4.1,h4.2.1,h4.2.2.1,?_⟩
   have h5:=h4.2.2.2;split at h5
   ·exact⟨h5.1,h5.2.1,h5.2.2.1,h5.2.2.2.elim (fun h=> .inl (hm _ _ h)) fun h=> .inr (hm _ _ h)⟩
   ·exact h5.elim
  ·exact h4.elim
 ·simp only at *
  exact Gn h fun hh h2=>Gn h2 fun l h3=>⟨h3.1,h3.2.1,h3.2.2.1,h3.2.2.2.1,h3.2.2.2.2.1,hm _ _ h3.2.2.2.2.2⟩
theorem Pk {sz:Nat} {ys:List (List V)} {n off len:Nat} {k k':V→AG→Prop} (h:M4 σ sz ys n off len k) (hm: ∀v σ',k v σ'→k' v σ'):M4 σ sz ys n off len k':=by
 unfold M4 at *;split at h
 ·exact⟨h.1,h.2.1,hm _ _ h.2.2⟩
 ·exact h.elim
theorem Vb {sz:Nat} {x y:V} {k k':V→AG→Prop} (h:Az σ sz x y k) (hm: ∀v σ',k v σ'→k' v σ'):Az σ sz x y k':=by
 refine Ey h fun ys h=>⟨h.1,?_⟩
 have h:=h.2;split at h
 ·exact Pk h hm
 ·exact⟨h.1,Pk h.2 hm⟩
 ·exact h.elim
theorem Nz {o:EW} {k k' kp kp':V→AG→Prop} (h:Ei P o env σ k kp) (hm: ∀v σ',k v σ'→k' v σ') (hp: ∀v σ',kp v σ'→kp' v σ'):Ei P o env σ k' kp':=by
 by_cases hs:still o=true
 ·obtain⟨v,h1,h2⟩:=G0 hs h
  exact h2 σ k' kp' (.inr fun _ _ h=>h) (hm _ _ h1)
 ·cases o<;>first|(exact absurd rfl hs)|skip
  all_goals simp only[Ei]at *
  case box x=>
   refine Bk h fun v h=>?_
   split at h
   ·exact fun n hn=>hm _ _ (h n hn)
   ·exact h.elim
  case alloc z=>exact fun n hn=>hm _ _ (h n hn)
  case ZF x=>exact Bk h fun v ⟨vf,σ2,h1,h2,h3⟩=>⟨vf,σ2,h1,h2,hm _ _ h3⟩
  case Fw=>exact fun n hn=>hm _ _ (h n hn)
  case Cw ks x y z=>
   refine Bk h fun vm h=>Bk h fun vk h=>Bk h fun vx h=>?_
   unfold Aa at *;obtain⟨h0,h⟩:=h;cases vm<;>first|exact h.elim|skip
   simp only at *;split at h
   ·exact⟨h0,h.1,hm _ _ h.2⟩
   ·exact h.elim
  case UN q n x=>
   refine Bk h fun vx h=>?_
   unfold Hj at *;split at h<;>first|exact h.elim|exact hm _ _ h|exact⟨fun e t=>hm _ _ (h.1 e t),fun e=>hm _ _ (h.2 e)⟩
  case EK a b c x y=>
   refine Bk h fun vx h=>Bk h fun vy h=>?_
   unfold AR at *;split at h
   ·exact⟨h.1,h.2.1,h.2.2.1,fun id hn=>hm _ _ (h.2.2.2 id hn)⟩
   ·exact h.elim
  case store sz a x=>exact Bk h fun va h=>Bk h fun vx h=>Tv h fun σ' h=>hm _ _ h
  case slice sz x a b c=>exact Bk h fun vx h=>Qu h fun l h=>Qu h fun hh h=>Qu h fun m h=>Tx h hm
  case append sz b x y=>exact Bk h fun vx h=>Bk h fun vy h=>Km h hm
  case copy sz x y=>exact Bk h fun vx h=>Bk h fun vy h=>Vb h hm
  case inv tab x as=>exact Bk h fun vx h=>Jw h fun vs h=>h.mono fun r σ' h=>by cases r<;>first|exact hm _ _ h|exact hp _ _ h
  case panic x=>
   refine Bk h fun vx h=>?_
   split at h
   ·exact hp _ _ h
   ·exact h.elim
  case call f as=>exact Jw h fun vs h=>h.mono fun r σ' h=>by cases r<;>first|exact hm _ _ h|exact hp _ _ h
  case Bs x as=>
   exact Bk h fun vx h=>Jw h fun vs h=>h.mono fun r σ' h=>by cases r<;>first|exact hm _ _ h|exact hp _ _ h
theorem Fy {n:Nat} {o:O} (hn:σ n=none):Sub σ (BI σ n o):=fun m p hp=>by
 unfold BI;split
 ·rename_i e
  subst e;rw[hn]at hp;cases hp
 ·exact hp
def calm (o:EW):Bool:=match kd o with| .H=>false|_=>true
theorem MB {b sz:Nat} {y:V} {k:V→AG→Prop}:AQ b σ sz (.l [] true) y k=rowsOf σ sz y fun ys=>(∀e∈ys,∀v∈e,B7 v=true)∧(ys.length≤Ax∧ys.length*b≤140737488355328)∧(ys= []→k (.l [] true) σ)∧
 (ys≠[]→ ∀n cap,σ n=none→ys.length≤cap→k (.sl n ys.length cap) (BI σ n (.arr sz ys cap))):=by
 simp[AQ]
theorem L4 {s:Nat} {x:Bj} {a b c:Option Bj} (h:calm (.slice s x a b c)=true):still (.slice s x a b c)=true:=by
 cases c with
 | none=>rfl
 | some c=>cases h
theorem Pj {a b:Nat} {x y:Bj} (h:kd (.append a b x y)≠ .H):x= .c (.l [] true):=by
 simp only[kd]at h;split at h
 ·rfl
 ·exact absurd rfl h
theorem XU {o:EW} (hc:calm o=true) {k kp:V→AG→Prop} (h:Ei P o env σ k kp):Ei P o env σ (fun v σ'=>k v σ'∧Sub σ σ') kp:=by
 by_cases hs:still o=true
 ·obtain⟨v,h1,h2⟩:=G0 hs h
  exact h2 σ _ kp (.inr fun _ _ h=>h) ⟨h1,fun _ _ h=>h⟩
 ·cases o<;>first|(exact absurd rfl hs)|(cases hc;done)|skip
  all_goals simp only[Ei]at *
  case slice s x a b c=>exact absurd (L4 hc) hs
  case box x=>
   refine Bk h fun v h=>?_
   split at h
   ·exact fun n hn=>⟨h n hn,Fy hn⟩
   ·exact h.elim
  case alloc z=>exact fun n hn=>⟨h n hn,Fy hn⟩
  case append sz b x y=>
   have hx:x= .c (.l [] true):=Pj (b:=b) (a:=sz) (y:=y) (by intro e;simp[calm,e]at hc);subst hx;change wv (ev env y) _ at h;change wv (ev env y) _;refine Bk h fun vy h=>?_
   rw[MB]at *;exact Ey h fun ys h=>⟨h.1,h.2.1,fun e=>⟨h.2.2.1 e,fun _ _ h=>h⟩,fun e n cap h3 h4=>⟨h.2.2.2 e n cap h3 h4,Fy h3⟩⟩
theorem Nc {n m:Nat} (h:n≠m) (a b:O):BI (BI σ n a) m b=BI (BI σ m b) n a:=by
 funext k;unfold BI;by_cases h1:k=m
 ·have h2:k≠n:=fun e=>h (e.symm.trans h1)
  rw[if_pos h1,if_neg h2,if_pos h1]
 ·rw[if_neg h1,if_neg h1]
theorem JA {n m:Nat} (h:n≠m) {a:O}:BI σ n a m=σ m:=by
 unfold BI;rw[if_neg (fun e=>h e.symm)]
theorem K4 {n:Nat} {a:O}:BI σ n a n=some a:=by simp[BI]
theorem VJ {σ':AG} (hs:Sub σ σ') {sz:Nat} {y:V} {k:List (List V)→Prop} (h:rowsOf σ sz y k):rowsOf σ' sz y k:=by
 unfold rowsOf at *;cases y<;>first|exact h.elim|exact h|skip
 ·rename_i m len cap
  simp only at *;cases hm:σ m with
  | none=>rw[hm]at h;exact h.elim
  | some o=>rw[hm]at h;rw[hs m o hm];exact h
 ·rename_i m s off len
  simp only at *;cases hm:σ m with
  | none=>rw[hm]at h;exact h.elim
  | some o=>rw[hm]at h;rw[hs m o hm];exact h
theorem Tc {o:EW} (hc:calm o=true) {k kp:V→AG→Prop} (h:Ei P o env σ k kp) {m:Nat} {z:O} (hm:σ m=none) :
 Ei P o env (BI σ m z) (fun v σ2=> ∃σ1,k v σ1∧σ1 m=none∧σ2=BI σ1 m z) kp:=by
 by_cases hs:still o=true
 ·obtain⟨v,h1,h2⟩:=G0 hs h
  exact h2 _ _ kp (.inr (Fy hm)) ⟨σ,h1,hm,rfl⟩
 ·have hne: ∀n,BI σ m z n=none→σ n=none∧n≠m:=fun n hn=>by
   have:n≠m:=fun e=>by rw[e,K4]at hn;cases hn
   exact⟨by rwa [JA this.symm]at hn,this⟩
  cases o<;>first|(exact absurd rfl hs)|(cases hc;done)|skip
  all_goals simp only[Ei]at *
  case slice s x a b c=>exact absurd (L4 hc) hs
  case box x=>
   refine Bk h fun v h=>?_
   split at h
   ·exact fun n hn=>⟨_,h n (hne n hn).1,by rw[JA (hne n hn).2];exact hm,Nc (hne n hn).2.symm _ _⟩
   ·exact h.elim
  case alloc z'=>exact fun n hn=>⟨_,h n (hne n hn).1,by rw[JA (hne n hn).2];exact hm,Nc (hne n hn).2.symm _ _⟩
  case append sz b x y=>
   have hx:x= .c (.l [] true):=Pj (b:=b) (a:=sz) (y:=y) (by intro e;simp[calm,e]at hc);subst hx;change wv (ev env y) _ at h;change wv (ev env y) _;refine Bk h fun vy h=>?_
   rw[MB]at *;refine Ey (VJ (Fy hm) h) fun ys h=>⟨h.1,h.2.1,fun e=>⟨σ,h.2.2.1 e,hm,rfl⟩,fun e n cap h3 h4=>?_⟩
   exact⟨_,h.2.2.2 e n cap (hne n h3).1 h4,by rw[JA (hne n h3).2];exact hm,Nc (hne n h3).2.symm _ _⟩
def Uw:EW→Bool| .call _ _=>true|_=>false
theorem Td {o:EW} (hc:Uw o=true) {k kp:V→AG→Prop} (hU: ∀v σ m z,σ m=none→kp v σ→kp v (BI σ m z)) (h:Ei P o env σ k kp) {m:Nat} {z:O} (hm:σ m=none) :
 Ei P o env (BI σ m z) (fun v σ2=> ∃σ1,k v σ1∧σ1 m=none∧σ2=BI σ1 m z) kp:=by
 cases o<;>first|(cases hc;done)|skip
 rename_i f args;simp only[Ei]at *;refine Jw h fun vs h=>?_
 have hr:Fu (BI σ m z) (fun n=>n≠m)=σ:=by
  funext n;by_cases hn:n=m
  ·subst hn;rw[DM (fun h=>h rfl),hm]
  ·rw[DF hn];simp[BI,hn]
 have h':BQ P f vs (Fu (BI σ m z) fun n=>n≠m) (qk k kp):=by rw[hr];exact h
 refine BQ.mono (BQ.frame (fun n=>n≠m) h') fun r σ' ⟨σ1,hq,hfr,he⟩=>?_
 have h1:σ1 m=none:=hfr m (fun h=>h rfl) (by rw[K4];simp)
 have h2:σ'=BI σ1 m z:=by
  rw[he];funext n;simp only[join];by_cases hn:n=m
  ·subst hn
   rw[h1];simp only;rw[DF (fun h=>h rfl),K4,K4]
  ·rw[DM (fun h=>h hn)]
   cases hs:σ1 n with
   | none=>simp[BI,hn,hs]
   | some o=>simp[BI,hn,hs]
 cases r with
 | ret v=>exact⟨σ1,hq,h1,h2⟩
 | Bi v=>rw[h2];exact hU _ _ _ _ h1 hq
structure AS where
 dst:Option Nat
 op:EW
 guard:Option (Nat×Bool)
 deriving Inhabited
def put (d:Option Nat) (v:V) (env:Env):Env:=match d with|some d=>(d,v)::env|none=>env
def G6 (P:Program) (o:AS) (env:Env) (σ:AG) (k kp:V→AG→Prop):Prop:=
 match o.guard with
 | none=>Ei P o.op env σ k kp
 | some (g,b)=>match get g env with
   | some (.b t)=>(t=b→Ei P o.op env σ k kp)∧(t= !b→k (.t []) σ)
   | some (.t [])=>k (.t []) σ
   | _=>False
def looks (o:AS):List Nat:=reads o.op++(match o.guard with|some (g,_)=>[g]|none=>[])
theorem FX {o:AS} {k kp:V→AG→Prop} (h: ∀s∈looks o,get s env'=get s env):G6 P o env' σ k kp=G6 P o env σ k kp:=by
 unfold G6;unfold looks at h;cases hg:o.guard with
 | none=>exact QB fun s hs=>h s (Ru _ hs)
 | some p=>
   obtain⟨g,b⟩:=p;simp only;rw[h g (by rw[hg];simp),QB fun s hs=>h s (Ru _ hs)]
theorem B4 {o:AS} {k k' kp kp':V→AG→Prop} (h:G6 P o env σ k kp) (hm: ∀v σ',k v σ'→k' v σ') (hp: ∀v σ',kp v σ'→kp' v σ'):G6 P o env σ k' kp':=by
 unfold G6 at *;split at h
 ·exact Nz h hm hp
 ·split at h
  ·exact⟨fun e=>Nz (h.1 e) hm hp,fun e=>hm _ _ (h.2 e)⟩
  ·exact hm _ _ h
  ·exact h.elim
theorem QC {o:AS} (hs:still o.op=true) {k kp:V→AG→Prop} (h:G6 P o env σ k kp) :
 ∃v,k v σ∧ ∀σ' (k' kp':V→AG→Prop),(kd o.op= .P∨Sub σ σ')→k' v σ'→G6 P o env σ' k' kp':=by
 unfold G6 at *;split at h
 ·obtain⟨v,h1,h2⟩:=G0 hs h
  exact⟨v,h1,fun σ' k' kp' hσ hk=>h2 σ' k' kp' hσ hk⟩
 ·rename_i g b hg
  split at h
  ·rename_i t ht
   skip
   by_cases htb:t=b
   ·obtain⟨v,h1,h2⟩:=G0 hs (h.1 htb)
    refine⟨v,h1,fun σ' k' kp' hσ hk=>?_⟩;exact⟨fun _=>h2 σ' k' kp' hσ hk,fun e=>absurd (htb.symm.trans e) (by cases b<;>simp)⟩
   ·refine⟨.t [],h.2 (by cases t<;>cases b<;>simp_all),fun σ' k' kp' hσ hk=>?_⟩
    exact⟨fun e=>absurd e htb,fun _=>hk⟩
  ·exact⟨.t [],h,fun σ' k' kp' hσ hk=>hk⟩
  ·exact h.elim
theorem XV {o:AS} (hc:calm o.op=true) {k kp:V→AG→Prop} (h:G6 P o env σ k kp):G6 P o env σ (fun v σ'=>k v σ'∧Sub σ σ') kp:=by
 unfold G6 at *;split at h
 ·exact XU hc h
 ·split at h
  ·exact⟨fun e=>XU hc (h.1 e),fun e=>⟨h.2 e,fun _ _ h=>h⟩⟩
  ·exact⟨h,fun _ _ h=>h⟩
  ·exact h.elim
theorem cq {o:AS} (hc:calm o.op=true) {k kp:V→AG→Prop} (h:G6 P o env σ k kp) {m:Nat} {z:O} (hm:σ m=none) :
 G6 P o env (BI σ m z) (fun v σ2=> ∃σ1,k v σ1∧σ1 m=none∧σ2=BI σ1 m z) kp:=by
 unfold G6 at *;split at h
 ·exact Tc hc h hm
 ·split at h
  ·exact⟨fun e=>Tc hc (h.1 e) hm,fun e=>⟨σ,h.2 e,hm,rfl⟩⟩
  ·exact⟨σ,h,hm,rfl⟩
  ·exact h.elim
def WG (o:EW):Bool:=calm o||Uw o
theorem Yx {o:AS} (hc:WG o.op=true) {k kp:V→AG→Prop} (hU: ∀v σ m z,σ m=none→kp v σ→kp v (BI σ m z)) (h:G6 P o env σ k kp) {m:Nat} {z:O} (hm:σ m=none) :
 G6 P o env (BI σ m z) (fun v σ2=> ∃σ1,k v σ1∧σ1 m=none∧σ2=BI σ1 m z) kp:=by
 cases hc':calm o.op with
 | true=>exact cq hc' h hm
 | false=>
   have hc2:Uw o.op=true:=by simpa[WG,hc']using hc
   unfold G6 at *;split at h
   ·exact Td hc2 hU h hm
   ·split at h
    ·exact⟨fun e=>Td hc2 hU (h.1 e) hm,fun e=>⟨σ,h.2 e,hm,rfl⟩⟩
    ·exact⟨σ,h,hm,rfl⟩
    ·exact h.elim
end Go.Gl
namespace Go.Gl
variable {P:Program} {Λ:Nat→Prop} {env env':Env} {σ:AG}
structure CD where
 i:Nat
 o:AS
 qx:List Nat
 re:List AS
 deriving Inhabited
def AL (x:AS):List Nat:=(match x.dst with|some d=>[d]|none=>[])++looks x
def Gd (P:Program) (x:AS) (env:Env) (σ:AG):Prop:=G6 P x env σ (fun u _=> ∀s,x.dst=some s→get s env=some u) (fun _ _=>False)
def Dx (P:Program):List AS→Env→AG→Prop
 | [],_,_=>True
 | x::r,env,σ=>Gd P x env σ∧Dx P r env σ
theorem Dx.mem: ∀ {l:List AS},Dx P l env σ→ ∀x∈l,Gd P x env σ
 | _::_,h,_,.head _=>h.1
 | _::_,h,x,.tail _ hx=>Dx.mem h.2 x hx
def DC (P:Program):List CD→(Env→AG→Prop)→(V→AG→Prop)→Env→AG→Prop
 | [],K,_,env,σ=>K env σ
 | d::r,K,kp,env,σ=>G6 P d.o env σ (fun v σ'=>Dx P d.re (put d.o.dst v env) σ'∧DC P r K kp (put d.o.dst v env) σ') kp
def c8 (env env':Env):Prop:= ∀s,get s env=get s env'
theorem CI {s:Nat} {d:Option Nat} {v:V} (h:d≠some s):get s (put d v env)=get s env:=by
 cases d with
 | none=>rfl
 | some d=>
   simp only[put,get];cases hb:Nat.beq d s with
   | false=>rfl
   | true=>exact absurd (by rw[Nat.eq_of_beq_eq_true hb]) h
theorem D2 {s:Nat} {v:V}:get s (put (some s) v env)=some v:=by simp[put,get]
theorem c8.put {d:Option Nat} {v:V} (h:c8 env env'):c8 (Gl.put d v env) (Gl.put d v env'):=fun s=>by
 by_cases hd:d=some s
 ·subst hd
  rw[D2,D2]
 ·rw[CI hd,CI hd,h]
theorem cB {d e:Option Nat} {v u:V} (h: ∀s,d=some s→e≠some s):c8 (Gl.put d v (Gl.put e u env)) (Gl.put e u (Gl.put d v env)):=fun s=>by
 by_cases hd:d=some s
 ·subst hd
  rw[D2,CI (h s rfl),D2]
 ·rw[CI hd]
  by_cases he:e=some s
  ·subst he
   rw[D2,D2]
  ·rw[CI he,CI he,CI hd]
theorem MJ {x:AS} (h: ∀s∈AL x,get s env'=get s env) (hr:Gd P x env σ):Gd P x env' σ:=by
 unfold Gd at *;rw[FX (env:=env) fun s hs=>h s (US _ hs)];refine B4 hr (fun v σ' hv s hs=>?_) fun _ _ h=>h
 rw[h s (Ru _ (by rw[hs];simp))];exact hv s hs
theorem Kt: ∀ {l:List AS},(∀s,get s env'=get s env)→Dx P l env σ→Dx P l env' σ
 | [],_,_=>trivial
 | _::_,h,hr=>⟨MJ (fun s _=>h s) hr.1,Kt h hr.2⟩
section
variable {K:Env→AG→Prop} {kp:V→AG→Prop}
theorem Ie (U: ∀env env' σ,c8 env env'→K env σ→K env' σ): ∀ {l:List CD} {env env':Env} {σ:AG},c8 env env'→DC P l K kp env σ→DC P l K kp env' σ
 | [],_,_,_,hg,h=>U _ _ _ hg h
 | d::r,env,env',σ,hg,h=>by
   simp only[DC]at *;rw[FX (env:=env) fun s _=>(hg s).symm];exact B4 h (fun v σ' ⟨h1,h2⟩=>⟨Kt (fun s=>(hg.put s).symm) h1,Ie U hg.put h2⟩) fun _ _ h=>h
def qq (x y:AS):Prop:=(∀d,x.dst=some d→d∉looks y∧y.dst≠some d)∧ ∀d,y.dst=some d→d∉looks x
def fresh (y x:AS):Prop:= ∀d,y.dst=some d→d∉AL x
def okD (x y:CD):Prop:=x.re= []∧qq x.o y.o∧
 ((still x.o.op=true∧calm y.o.op=true)∨kd x.o.op= .P∨(still x.o.op=true∧x.o∈y.re∧ ∀d,x.o.dst=some d→d∉looks x.o)∨(WG x.o.op=true∧y.re= []∧y.o.guard=none∧ ∃z,y.o.op= .alloc z))
theorem ae (hU: ∀v σ m z,σ m=none→kp v σ→kp v (BI σ m z)) (U: ∀env env' σ,c8 env env'→K env σ→K env' σ) {i:CD} {ys:List CD}: ∀ {xs:List CD},(∀x∈xs,okD x i)→xs.Pairwise (fun x y=>kd x.o.op= .N→fresh y.o x.o)→
 ∀ {env:Env} {σ:AG},DC P (xs++i::ys) K kp env σ→
 G6 P i.o env σ (fun u σ'=>(∀r∈i.re,(∀x∈xs,fresh x.o r)→Gd P r (put i.o.dst u env) σ')∧DC P (xs++ys) K kp (put i.o.dst u env) σ') kp
 | [],_,_,env,σ,h=>B4 h (fun u σ' ⟨h1,h2⟩=>⟨fun r hr _=>h1.mem r hr,h2⟩) fun _ _ h=>h
 | x ::xs,hok,hpw,env,σ,h=>by
   simp only[List.cons_append,DC]at h;obtain⟨hpw1,hpw2⟩:=List.pairwise_cons.1 hpw;obtain⟨hre,⟨ha1,ha2⟩,hk⟩:=hok x (.head _)
   have h':G6 P x.o env σ (fun v σ1=>G6 P i.o (put x.o.dst v env) σ1 (fun u σ'=>(∀r∈i.re,(∀x∈xs,fresh x.o r)→Gd P r (put i.o.dst u (put x.o.dst v env)) σ')∧DC P (xs++ys) K kp (put i.o.dst u (put x.o.dst v env)) σ') kp) kp:=
    B4 h (fun v σ1 hh=>ae hU U (fun y hy=>hok y (.tail _ hy)) hpw2 hh.2) fun _ _ h=>h
   have agx: ∀v,∀s∈looks i.o,get s (put x.o.dst v env)=get s env:=fun v s hs=>CI fun e=>(ha1 s e).1 hs
   have agi: ∀(env:Env) u,∀s∈looks x.o,get s (put i.o.dst u env)=get s env:=fun env u s hs=>CI fun e=>ha2 s e hs
   have hcm: ∀v u,c8 (put i.o.dst u (put x.o.dst v env)) (put x.o.dst v (put i.o.dst u env)):=fun v u=>cB fun s hs hx=>(ha1 s hx).2 hs
   have hRE: ∀v u σ',(∀r∈i.re,(∀x∈xs,fresh x.o r)→Gd P r (put i.o.dst u (put x.o.dst v env)) σ')→ ∀r∈i.re,(∀y∈x::xs,fresh y.o r)→Gd P r (put i.o.dst u env) σ':=fun v u σ' hh r hr hf=>by
    refine MJ (fun s hs=>?_) (hh r hr fun y hy=>hf y (.tail _ hy));rw[hcm v u s,CI fun e=>hf x (.head _) s e hs]
   by_cases hst:still x.o.op=true
   ·obtain⟨v,hi,hd⟩:=QC hst h'
    have fin: ∀u σ',(kd x.o.op= .P∨Sub σ σ')→(∀r∈i.re,(∀x∈xs,fresh x.o r)→Gd P r (put i.o.dst u (put x.o.dst v env)) σ')→DC P (xs++ys) K kp (put i.o.dst u (put x.o.dst v env)) σ'→
     (∀r∈i.re,(∀y∈x::xs,fresh y.o r)→Gd P r (put i.o.dst u env) σ')∧DC P (x::xs++ys) K kp (put i.o.dst u env) σ':=fun u σ' hs h1 h2=>by
     refine⟨hRE v u σ' h1,?_⟩;simp only[List.cons_append,DC];rw[FX (env:=env) (agi env u)];exact hd σ' _ _ hs ⟨by rw[hre];trivial,Ie U (hcm v u) h2⟩
    rw[FX (env:=env) (agx v)]at hi;rcases hk with⟨_,hc⟩|F|⟨_,hm,hself⟩|⟨_,_,hg,z,hz⟩
    ·exact B4 (XV hc hi) (fun u σ' ⟨⟨h1,h2⟩,hs⟩=>fin u σ' (.inr hs) h1 h2) fun _ _ h=>h
    ·exact B4 hi (fun u σ' ⟨h1,h2⟩=>fin u σ' (.inl F) h1 h2) fun _ _ h=>h
    ·by_cases F:kd x.o.op= .P
     ·exact B4 hi (fun u σ' ⟨h1,h2⟩=>fin u σ' (.inl F) h1 h2) fun _ _ h=>h
     have hN:kd x.o.op= .N:=by
      unfold still at hst;cases hkk:kd x.o.op<;>rw[hkk]at hst<;>simp_all
     refine B4 hi (fun u σ' ⟨h1,h2⟩=>⟨hRE v u σ' h1,?_⟩) fun _ _ h=>h
     have hr:=h1 x.o hm fun y hy=>hpw1 y hy hN
     unfold Gd at hr;obtain⟨v',hv',hd'⟩:=QC hst hr;simp only[List.cons_append,DC]
     have hsame: ∀s∈looks x.o,get s (put i.o.dst u env)=get s (put i.o.dst u (put x.o.dst v env)):=fun s hs=>by
      rw[agi env u s hs,agi _ u s hs];by_cases hxs:x.o.dst=some s
      ·exact absurd hs (hself s hxs)
      ·rw[CI hxs]
     rw[FX (env:=put i.o.dst u (put x.o.dst v env)) hsame];refine hd' σ' _ kp (.inr fun _ _ h=>h) ⟨by rw[hre];trivial,?_⟩
     have hvv:put x.o.dst v' (put i.o.dst u env)=put x.o.dst v (put i.o.dst u env):=by
      cases hxd:x.o.dst with
      | none=>rfl
      | some s=>
        have e:=hv' s hxd;rw[CI (ha1 s hxd).2,hxd,D2]at e;cases e;rfl
     rw[hvv];exact Ie U (hcm v u) h2
    ·have hc:calm i.o.op=true:=by rw[hz];rfl
     exact B4 (XV hc hi) (fun u σ' ⟨⟨h1,h2⟩,hs⟩=>fin u σ' (.inr hs) h1 h2) fun _ _ h=>h
   ·rcases hk with⟨hst',_⟩|F|⟨hst',_,_⟩|⟨hcx,hir,hg,z,hz⟩
    ·exact absurd hst' hst
    ·exact absurd (by unfold still;rw[F]) hst
    ·exact absurd hst' hst
    ·unfold G6
     rw[hg];simp only[hz,Ei];intro m hm;refine⟨fun r hr=>(by rw[hir]at hr;exact absurd hr (by simp)),?_⟩;simp only[List.cons_append,DC];rw[FX (env:=env) (agi env _)];refine B4 (Yx hcx hU h' (z:= .cs z) hm) (fun v σ2 ⟨σ1,hh,h1,h2⟩=>?_) fun _ _ h=>h
     unfold G6 at hh;rw[hg]at hh;simp only[hz,Ei]at hh;subst h2;exact⟨by rw[hre];trivial,Ie U (hcm v _) (hh m h1).2⟩
end
end Go.Gl
namespace Go.Gl
theorem EE.refl (σ σ':AG): ∀vs,EE σ σ' vs vs
 | []=> .nil
 | _::vs=> .cons (.refl _) (EE.refl σ σ' vs)
theorem Fq.refl (σ σ':AG): ∀vs,Fq σ σ' vs vs
 | []=> .nil
 | _::vs=> .cons (EE.refl σ σ' _) (Fq.refl σ σ' vs)
theorem EE.length {σ σ':AG}: ∀ {vs vs':List V},EE σ σ' vs vs'→vs'.length=vs.length
 | _,_,.nil=>rfl
 | _,_,.cons _ h=>by simp[h.length]
theorem Fq.length {σ σ':AG}: ∀ {vs vs':List (List V)},Fq σ σ' vs vs'→vs'.length=vs.length
 | _,_,.nil=>rfl
 | _,_,.cons _ h=>by simp[h.length]
variable {P:Program} {Λ:Nat→Prop}
theorem Ki {σ σ':AG} {w:World} (G:Rel Λ σ w) (n:Nat) {o:O} (hn:σ n=some o) (hn':σ' n=none) {c:Array Value} {e:TypeId} {fr:Nat×Nat} (hb:w.heap[n]? =some (.cells c e fr)) (i:Nat) (v:Value) (hv:c[i]? =some v):Hh Λ σ' w n i=some v:=by
 rw[L2 (G.own n _ hn).1 hn',DJ hb];exact hv
mutual
theorem F6.rel {σ σ':AG} {w:World} (G:Rel Λ σ w) (hs:Sub σ' σ): ∀ {v v':V} {c:Value},F6 σ σ' v v'→AZ (Hh Λ σ w) v c→AZ (Hh Λ σ' w) v' c
 | _,_,_,.refl v,h=>h.mono (El fun n hn=>hs.none hn)
 | _,_,_,.arr (n:=n) (sz:=sz) hn hn' hl hr,h=>by
   obtain⟨rfl,h2⟩:=h;subst hl;obtain⟨c,e,h3,h4,h5,h6,h7⟩:=EL G hn;have hlen:=hr.length;refine⟨some ⟨n,0,none⟩,_,by rw[hlen],by rw[hlen];exact h2,by simp,by rw[hlen];exact h6,by simp,fun _=>⟨n,0,sz,rfl,?_⟩⟩;exact Fq.rel G hs (fun i v hv=>Ki G n hn hn' h3 i v hv) hr h7
 | _,_,_,.cs (n:=n) hn hn' hr,h=>by
   simp only[AZ]at h;subst h;obtain⟨c,e,h3,h4,h5⟩:=Ib G hn;exact⟨n,0,rfl,EE.rel G hs (fun i v hv=>Ki G n hn hn' h3 i v hv) hr h5⟩
 | _,_,_,.a hr,h=>by
   obtain⟨c',rfl,h2,h3⟩:=h;exact⟨c',rfl,by rw[hr.length];exact h2,EE.rel G hs (fun _ _ e=>e) hr h3⟩
 | _,_,_,.t hr,h=>by
   obtain⟨c',rfl,h2,h3⟩:=h;exact⟨c',rfl,by rw[hr.length];exact h2,EE.rel G hs (fun _ _ e=>e) hr h3⟩
 | _,_,_,.ET hr,h=>by
   obtain⟨c',rfl,h2⟩:=h;exact⟨c',rfl,F6.rel G hs hr h2⟩
 | _,_,_,.l hf hr,h=>by
   obtain⟨a,cap,rfl,h2,h3,h4,h5,h6⟩:=h;have hl:=hr.length;refine⟨a,cap,by rw[hl],by rw[hl];exact h2,fun e=>by rw[hl];exact h3 (hf e),by rw[hl];exact h4,h5,fun hne=>?_⟩;obtain⟨b,o,sz,h7,h8⟩:=h6 (by intro e;subst e;cases hr;exact hne rfl);exact⟨b,o,sz,h7,Fq.rel G hs (fun i v hv=>El (fun n hn=>hs.none hn) b i v hv) hr h8⟩
 | _,_,_,.rp hr,h=>by
   obtain⟨b,o,rfl,h2⟩:=h;exact⟨b,o,rfl,EE.rel G hs (fun i v hv=>El (fun n hn=>hs.none hn) b i v hv) hr h2⟩
 | _,_,_,.f h1 h2,h=>by
   obtain⟨f',c',rfl,h3,h4,h5,h6⟩:=h;exact⟨f',c',rfl,by rw[h1.length];exact h3,EE.rel G hs (fun _ _ e=>e) h1 h4,by rw[h2.length];exact h5,EE.rel G hs (fun _ _ e=>e) h2 h6⟩
 | _,_,_,.any,_=>trivial
theorem EE.rel {σ σ':AG} {w:World} (G:Rel Λ σ w) (hs:Sub σ' σ) {g g':Nat→Option Value} (hg: ∀i c,g i=some c→g' i=some c): ∀ {vs vs':List V} {o:Nat},EE σ σ' vs vs'→BV (Hh Λ σ w) g o vs→BV (Hh Λ σ' w) g' o vs'
 | _,_,_,.nil,_=>trivial
 | _,_,_,.cons h1 h2,⟨⟨c,hc,hv⟩,h3⟩=>⟨⟨c,hg _ _ hc,F6.rel G hs h1 hv⟩,EE.rel G hs hg h2 h3⟩
theorem Fq.rel {σ σ':AG} {w:World} (G:Rel Λ σ w) (hs:Sub σ' σ) {g g':Nat→Option Value} (hg: ∀i c,g i=some c→g' i=some c) {sz:Nat}: ∀ {vs vs':List (List V)} {o:Nat},Fq σ σ' vs vs'→BH (Hh Λ σ w) g sz o vs→BH (Hh Λ σ' w) g' sz o vs'
 | _,_,_,.nil,_=>trivial
 | _,_,_,.cons h1 h2,⟨hl,hv,h3⟩=>⟨by rw[h1.length];exact hl,EE.rel G hs hg h1 hv,Fq.rel G hs hg h2 h3⟩
end
theorem Vk {σ:AG} {sz b:Nat} {x y:Bj} {env:Env} {k kp:V→AG→Prop} (h:Ei P (.Oq sz b x y) env σ k kp) :
 Ei P (.append sz b x y) env σ (fun v σ1=> ∃vf σ2,Sub σ2 σ1∧F6 σ1 σ2 v vf∧k vf σ2) kp:=by
 simp only[Ei]at *;refine Bk h fun vx h=>Bk h fun vy h=>?_
 unfold A4 at h;unfold AQ;refine Ey h fun ys ⟨h1,h2⟩=>⟨h1,?_⟩
 cases vx<;>first|exact h2.elim|skip
 rename_i es full;simp only at *;obtain⟨h3,h4,h5,h6⟩:=h2;refine⟨h3,h4,fun e=>?_,fun e=>⟨h5 e,fun n cap hn hc=>?_⟩⟩
 ·subst e
  rw[List.append_nil]at h6;exact⟨_,σ,fun _ _ h=>h,.l (fun h=>(by cases h)) (.refl _ _ _),h6⟩
 ·exact⟨_,σ,Fy hn,.arr (K4) hn (by simp) (.refl _ _ _),h6⟩
theorem je {σ:AG} {x:Bj} {env:Env} {k kp:V→AG→Prop} (h:Ei P (.MS x) env σ k kp) :
 Ei P (.box x) env σ (fun v σ1=> ∃vf σ2,Sub σ2 σ1∧F6 σ1 σ2 v vf∧k vf σ2) kp:=by
 simp only[Ei]at *;refine Bk h fun vx h=>?_
 split at h
 ·exact fun n hn=>⟨_,σ,Fy hn,.cs K4 hn (.refl _ _ _),h⟩
 ·exact h.elim
end Go.Gl
