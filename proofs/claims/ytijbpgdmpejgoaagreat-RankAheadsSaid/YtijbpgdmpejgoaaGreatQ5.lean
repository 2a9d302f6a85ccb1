import Derived.Test.YtijbpgdmpejgoaaGreatQ4
set_option linter.all false
set_option linter.unusedVariables false
set_option linter.unusedSimpArgs false
namespace Go.Gl
variable {P:Program} {Λ:Nat→Prop} {env env':Env} {σ:AH}
theorem B4 {o:Option V} {k k':V→Prop} (h:wv o k) (hm: ∀v,k v→k' v):wv o k':=by
 cases o with
 | none=>exact h
 | some v=>exact hm v h
theorem Kx {o:Option (List V)} {k k':List V→Prop} (h:ws o k) (hm: ∀v,k v→k' v):ws o k':=by
 cases o with
 | none=>exact h
 | some v=>exact hm v h
theorem Rx {o:Option (Option V)} {k k':Option V→Prop} (h:wo o k) (hm: ∀v,k v→k' v):wo o k':=by
 cases o with
 | none=>exact h
 | some v=>exact hm v h
theorem Ue {sz:Nat} {a x:V} {k k':AH→Prop} (h:Aq σ sz a x k) (hm: ∀σ',k σ'→k' σ'):Aq σ sz a x k':=by
 unfold Aq at *;split at h
 ·rename_i vc hc
  obtain⟨h1,h2,h3⟩:=h;refine⟨h1,h2,?_⟩;cases a<;>first|exact h3.elim|skip
  ·simp only at *
   split at h3
   ·exact⟨h3.1,hm _ h3.2⟩
   ·exact h3.elim
  ·simp only at *
   split at h3
   ·refine⟨h3.1,?_⟩
    have h4:=h3.2;split at h4
    ·exact⟨h4.1,hm _ h4.2⟩
    ·exact h4.elim
   ·exact h3.elim
 ·exact h.elim
theorem Fh {sz:Nat} {y:V} {k k':List (List V)→Prop} (h:rowsOf σ sz y k) (hm: ∀v,k v→k' v):rowsOf σ sz y k':=by
 unfold rowsOf at *;cases y<;>first|exact h.elim|skip
 ·exact⟨h.1,hm _ h.2⟩
 ·simp only at *
  split at h
  ·exact⟨h.1,h.2.1,hm _ h.2.2⟩
  ·exact h.elim
 ·simp only at *
  split at h
  ·exact⟨h.1,h.2.1,h.2.2.1,hm _ h.2.2.2⟩
  ·exact h.elim
theorem Lh {b sz:Nat} {x y:V} {k k':V→AH→Prop} (h:Aa b σ sz x y k) (hm: ∀v σ',k v σ'→k' v σ'):Aa b σ sz x y k':=by
 unfold Aa at *;refine Fh h fun ys ⟨h1,h2⟩=>⟨h1,?_⟩
 cases x<;>first|exact h2.elim|skip
 ·simp only at *
  exact⟨h2.1,h2.2.1,fun e=>hm _ _ (h2.2.2.1 e),fun e=>⟨(h2.2.2.2 e).1,fun n cap h3 h4=>hm _ _ ((h2.2.2.2 e).2 n cap h3 h4)⟩⟩
 ·simp only at *
  split at h2
  ·exact⟨h2.1,h2.2.1,h2.2.2.1,h2.2.2.2.1,fun n cap h3 h4=>hm _ _ (h2.2.2.2.2 n cap h3 h4)⟩
  ·exact h2.elim
theorem HS {o:Option V} {d:Int} {k k':Int→Prop} (h:Pb o d k) (hm: ∀v,k v→k' v):Pb o d k':=by
 unfold Pb at *;split at h
 ·exact hm _ h
 ·exact hm _ h
 ·exact h.elim
theorem Ug {sz:Nat} {x:V} {a b c:Option V} {k k':V→AH→Prop} (h:Ao σ sz x a b c k) (hm: ∀v σ',k v σ'→k' v σ'):Ao σ sz x a b c k':=by
 unfold Ao at *;cases x<;>first|exact h.elim|skip
 ·simp only at *
  refine⟨h.1,HS h.2 fun hh h2=>HS h2 fun l h3=>⟨h3.1,h3.2.1,h3.2.2.1,?_⟩⟩;have h4:=h3.2.2.2;split at h4
  ·exact hm _ _ h4
  ·exact⟨h4.1,hm _ _ h4.2⟩
  ·exact h4.elim
 ·simp only at *
  refine HS h fun hh h2=>HS h2 fun l h3=>⟨h3.1,h3.2.1,h3.2.2.1,?_⟩
  have h4:=h3.2.2.2;split at h4
  ·exact hm _ _ h4
  ·refine⟨h4.1,h4.2.1,h4.2.2.1,?_⟩
   have h5:=h4.2.2.2;split at h5
   ·exact⟨h5.1,h5.2.1,h5.2.2.1,h5.2.2.2.elim (fun h=> .inl (hm _ _ h)) fun h=> .inr (hm _ _ h)⟩
   ·exact h5.elim
  ·exact h4.elim
 ·simp only at *
  exact HS h fun hh h2=>HS h2 fun l h3=>⟨h3.1,h3.2.1,h3.2.2.1,h3.2.2.2.1,h3.2.2.2.2.1,hm _ _ h3.2.2.2.2.2⟩
theorem QX {sz:Nat} {ys:List (List V)} {n off len:Nat} {k k':V→AH→Prop} (h:N2 σ sz ys n off len k) (hm: ∀v σ',k v σ'→k' v σ'):N2 σ sz ys n off len k':=by
 unfold N2 at *;split at h
 ·exact⟨h.1,h.2.1,hm _ _ h.2.2⟩
 ·exact h.elim
theorem Vv {sz:Nat} {x y:V} {k k':V→AH→Prop} (h:BO σ sz x y k) (hm: ∀v σ',k v σ'→k' v σ'):BO σ sz x y k':=by
 refine Fh h fun ys h=>⟨h.1,?_⟩
 have h:=h.2;split at h
 ·exact QX h hm
 ·exact⟨h.1,QX h.2 hm⟩
 ·exact h.elim
theorem Ot {o:FA} {k k' kp kp':V→AH→Prop} (h:FL P o env σ k kp) (hm: ∀v σ',k v σ'→k' v σ') (hp: ∀v σ',kp v σ'→kp' v σ'):FL P o env σ k' kp':=by
 by_cases hs:still o=true
 ·obtain⟨v,h1,h2⟩:=Hc hs h
  exact h2 σ k' kp' (.inr fun _ _ h=>h) (hm _ _ h1)
 ·cases o<;>first|(exact absurd rfl hs)|skip
  all_goals simp only[FL]at *
  case box x=>
   refine B4 h fun v h=>?_
   split at h
   ·exact fun n hn=>hm _ _ (h n hn)
   ·exact h.elim
  case alloc z=>exact fun n hn=>hm _ _ (h n hn)
  case Ux x=>exact B4 h fun v ⟨vf,σ2,h1,h2,h3⟩=>⟨vf,σ2,h1,h2,hm _ _ h3⟩
  case GZ=>exact fun n hn=>hm _ _ (h n hn)
  case DO ks x y z=>
   refine B4 h fun vm h=>B4 h fun vk h=>B4 h fun vx h=>?_
   unfold Ap at *;obtain⟨h0,h⟩:=h;cases vm<;>first|exact h.elim|skip
   simp only at *;split at h
   ·exact⟨h0,h.1,hm _ _ h.2⟩
   ·exact h.elim
  case U0 q n x=>
   refine B4 h fun vx h=>?_
   unfold Ij at *;split at h<;>first|exact h.elim|exact hm _ _ h|exact⟨fun e t=>hm _ _ (h.1 e t),fun e=>hm _ _ (h.2 e)⟩
  case Dv a b c x y=>
   refine B4 h fun vx h=>B4 h fun vy h=>?_
   unfold Ac at *;split at h
   ·exact⟨h.1,h.2.1,h.2.2.1,fun id hn=>hm _ _ (h.2.2.2 id hn)⟩
   ·exact h.elim
  case store sz a x=>exact B4 h fun va h=>B4 h fun vx h=>Ue h fun σ' h=>hm _ _ h
  case slice sz x a b c=>exact B4 h fun vx h=>Rx h fun l h=>Rx h fun hh h=>Rx h fun m h=>Ug h hm
  case append sz b x y=>exact B4 h fun vx h=>B4 h fun vy h=>Lh h hm
  case copy sz x y=>exact B4 h fun vx h=>B4 h fun vy h=>Vv h hm
  case inv tab x as=>exact B4 h fun vx h=>Kx h fun vs h=>h.mono fun r σ' h=>by cases r<;>first|exact hm _ _ h|exact hp _ _ h
  case panic x=>
   refine B4 h fun vx h=>?_
   split at h
   ·exact hp _ _ h
   ·exact h.elim
  case call f as=>exact Kx h fun vs h=>h.mono fun r σ' h=>by cases r<;>first|exact hm _ _ h|exact hp _ _ h
  case CC x as=>
   exact B4 h fun vx h=>Kx h fun vs h=>h.mono fun r σ' h=>by cases r<;>first|exact hm _ _ h|exact hp _ _ h
theorem Gh {n:Nat} {o:O} (hn:σ n=none):Sub σ (BI σ n o):=fun m p hp=>by
 unfold BI;split
 ·rename_i e
  subst e;rw[hn]at hp;cases hp
 ·exact hp
def calm (o:FA):Bool:=match kd o with| .H=>false|_=>true
theorem M6 {b sz:Nat} {y:V} {k:V→AH→Prop}:Aa b σ sz (.l [] true) y k=rowsOf σ sz y fun ys=>(∀e∈ys,∀v∈e,Cb v=true)∧(ys.length≤Ak∧ys.length*b≤140737488355328)∧(ys= []→k (.l [] true) σ)∧
 (ys≠[]→ ∀n cap,σ n=none→ys.length≤cap→k (.sl n ys.length cap) (BI σ n (.arr sz ys cap))):=by
 simp[Aa]
theorem Mw {s:Nat} {x:B1} {a b c:Option B1} (h:calm (.slice s x a b c)=true):still (.slice s x a b c)=true:=by
 cases c with
 | none=>rfl
 | some c=>cases h
theorem QW {a b:Nat} {x y:B1} (h:kd (.append a b x y)≠ .H):x= .c (.l [] true):=by
 simp only[kd]at h;split at h
 ·rfl
 ·exact absurd rfl h
theorem Xs {o:FA} (hc:calm o=true) {k kp:V→AH→Prop} (h:FL P o env σ k kp):FL P o env σ (fun v σ'=>k v σ'∧Sub σ σ') kp:=by
 by_cases hs:still o=true
 ·obtain⟨v,h1,h2⟩:=Hc hs h
  exact h2 σ _ kp (.inr fun _ _ h=>h) ⟨h1,fun _ _ h=>h⟩
 ·cases o<;>first|(exact absurd rfl hs)|(cases hc;done)|skip
  all_goals simp only[FL]at *
  case slice s x a b c=>exact absurd (Mw hc) hs
  case box x=>
   refine B4 h fun v h=>?_
   split at h
   ·exact fun n hn=>⟨h n hn,Gh hn⟩
   ·exact h.elim
  case alloc z=>exact fun n hn=>⟨h n hn,Gh hn⟩
  case append sz b x y=>
   have hx:x= .c (.l [] true):=QW (b:=b) (a:=sz) (y:=y) (by intro e;simp[calm,e]at hc);subst hx;change wv (ev env y) _ at h;change wv (ev env y) _;refine B4 h fun vy h=>?_
   rw[M6]at *;exact Fh h fun ys h=>⟨h.1,h.2.1,fun e=>⟨h.2.2.1 e,fun _ _ h=>h⟩,fun e n cap h3 h4=>⟨h.2.2.2 e n cap h3 h4,Gh h3⟩⟩
theorem OW {n m:Nat} (h:n≠m) (a b:O):BI (BI σ n a) m b=BI (BI σ m b) n a:=by
 funext k;unfold BI;by_cases h1:k=m
 ·have h2:k≠n:=fun e=>h (e.symm.trans h1)
  rw[if_pos h1,if_neg h2,if_pos h1]
 ·rw[if_neg h1,if_neg h1]
theorem J4 {n m:Nat} (h:n≠m) {a:O}:BI σ n a m=σ m:=by
 unfold BI;rw[if_neg (fun e=>h e.symm)]
theorem L0 {n:Nat} {a:O}:BI σ n a n=some a:=by simp[BI]
theorem Ve {σ':AH} (hs:Sub σ σ') {sz:Nat} {y:V} {k:List (List V)→Prop} (h:rowsOf σ sz y k):rowsOf σ' sz y k:=by
 unfold rowsOf at *;cases y<;>first|exact h.elim|exact h|skip
 ·rename_i m len cap
  simp only at *;cases hm:σ m with
  | none=>rw[hm]at h;exact h.elim
  | some o=>rw[hm]at h;rw[hs m o hm];exact h
 ·rename_i m s off len
  simp only at *;cases hm:σ m with
  | none=>rw[hm]at h;exact h.elim
  | some o=>rw[hm]at h;rw[hs m o hm];exact h
theorem UK {o:FA} (hc:calm o=true) {k kp:V→AH→Prop} (h:FL P o env σ k kp) {m:Nat} {z:O} (hm:σ m=none) :
 FL P o env (BI σ m z) (fun v σ2=> ∃σ1,k v σ1∧σ1 m=none∧σ2=BI σ1 m z) kp:=by
 by_cases hs:still o=true
 ·obtain⟨v,h1,h2⟩:=Hc hs h
  exact h2 _ _ kp (.inr (Gh hm)) ⟨σ,h1,hm,rfl⟩
 ·have hne: ∀n,BI σ m z n=none→σ n=none∧n≠m:=fun n hn=>by
   have:n≠m:=fun e=>by rw[e,L0]at hn;cases hn
   exact⟨by rwa [J4 this.symm]at hn,this⟩
  cases o<;>first|(exact absurd rfl hs)|(cases hc;done)|skip
  all_goals simp only[FL]at *
  case slice s x a b c=>exact absurd (Mw hc) hs
  case box x=>
   refine B4 h fun v h=>?_
   split at h
   ·exact fun n hn=>⟨_,h n (hne n hn).1,by rw[J4 (hne n hn).2];exact hm,OW (hne n hn).2.symm _ _⟩
   ·exact h.elim
  case alloc z'=>exact fun n hn=>⟨_,h n (hne n hn).1,by rw[J4 (hne n hn).2];exact hm,OW (hne n hn).2.symm _ _⟩
  case append sz b x y=>
   have hx:x= .c (.l [] true):=QW (b:=b) (a:=sz) (y:=y) (by intro e;simp[calm,e]at hc);subst hx;change wv (ev env y) _ at h;change wv (ev env y) _;refine B4 h fun vy h=>?_
   rw[M6]at *;refine Fh (Ve (Gh hm) h) fun ys h=>⟨h.1,h.2.1,fun e=>⟨σ,h.2.2.1 e,hm,rfl⟩,fun e n cap h3 h4=>?_⟩
   exact⟨_,h.2.2.2 e n cap (hne n h3).1 h4,by rw[J4 (hne n h3).2];exact hm,OW (hne n h3).2.symm _ _⟩
def VL:FA→Bool| .call _ _=>true|_=>false
theorem UL {o:FA} (hc:VL o=true) {k kp:V→AH→Prop} (hU: ∀v σ m z,σ m=none→kp v σ→kp v (BI σ m z)) (h:FL P o env σ k kp) {m:Nat} {z:O} (hm:σ m=none) :
 FL P o env (BI σ m z) (fun v σ2=> ∃σ1,k v σ1∧σ1 m=none∧σ2=BI σ1 m z) kp:=by
 cases o<;>first|(cases hc;done)|skip
 rename_i f args;simp only[FL]at *;refine Kx h fun vs h=>?_
 have hr:GY (BI σ m z) (fun n=>n≠m)=σ:=by
  funext n;by_cases hn:n=m
  ·subst hn;rw[Dl (fun h=>h rfl),hm]
  ·rw[De hn];simp[BI,hn]
 have h':Bj P f vs (GY (BI σ m z) fun n=>n≠m) (qk k kp):=by rw[hr];exact h
 refine Bj.mono (Bj.frame (fun n=>n≠m) h') fun r σ' ⟨σ1,hq,hfr,he⟩=>?_
 have h1:σ1 m=none:=hfr m (fun h=>h rfl) (by rw[L0];simp)
 have h2:σ'=BI σ1 m z:=by
  rw[he];funext n;simp only[join];by_cases hn:n=m
  ·subst hn
   rw[h1];simp only;rw[De (fun h=>h rfl),L0,L0]
  ·rw[Dl (fun h=>h hn)]
   cases hs:σ1 n with
   | none=>simp[BI,hn,hs]
   | some o=>simp[BI,hn,hs]
 cases r with
 | ret v=>exact⟨σ1,hq,h1,h2⟩
 | By v=>rw[h2];exact hU _ _ _ _ h1 hq
structure AW where
 dst:Option Nat
 op:FA
 guard:Option (Nat×Bool)
 deriving Inhabited
def put (d:Option Nat) (v:V) (env:Env):Env:=match d with|some d=>(d,v)::env|none=>env
def Hj (P:Program) (o:AW) (env:Env) (σ:AH) (k kp:V→AH→Prop):Prop:=
 match o.guard with
 | none=>FL P o.op env σ k kp
 | some (g,b)=>match get g env with
   | some (.b t)=>(t=b→FL P o.op env σ k kp)∧(t= !b→k (.t []) σ)
   | some (.t [])=>k (.t []) σ
   | _=>False
def looks (o:AW):List Nat:=reads o.op++(match o.guard with|some (g,_)=>[g]|none=>[])
theorem F3 {o:AW} {k kp:V→AH→Prop} (h: ∀s∈looks o,get s env'=get s env):Hj P o env' σ k kp=Hj P o env σ k kp:=by
 unfold Hj;unfold looks at h;cases hg:o.guard with
 | none=>exact Qw fun s hs=>h s (Uv _ hs)
 | some p=>
   obtain⟨g,b⟩:=p;simp only;rw[h g (by rw[hg];simp),Qw fun s hs=>h s (Uv _ hs)]
theorem CX {o:AW} {k k' kp kp':V→AH→Prop} (h:Hj P o env σ k kp) (hm: ∀v σ',k v σ'→k' v σ') (hp: ∀v σ',kp v σ'→kp' v σ'):Hj P o env σ k' kp':=by
 unfold Hj at *;split at h
 ·exact Ot h hm hp
 ·split at h
  ·exact⟨fun e=>Ot (h.1 e) hm hp,fun e=>hm _ _ (h.2 e)⟩
  ·exact hm _ _ h
  ·exact h.elim
theorem Qx {o:AW} (hs:still o.op=true) {k kp:V→AH→Prop} (h:Hj P o env σ k kp) :
 ∃v,k v σ∧ ∀σ' (k' kp':V→AH→Prop),(kd o.op= .P∨Sub σ σ')→k' v σ'→Hj P o env σ' k' kp':=by
 unfold Hj at *;split at h
 ·obtain⟨v,h1,h2⟩:=Hc hs h
  exact⟨v,h1,fun σ' k' kp' hσ hk=>h2 σ' k' kp' hσ hk⟩
 ·rename_i g b hg
  split at h
  ·rename_i t ht
   skip
   by_cases htb:t=b
   ·obtain⟨v,h1,h2⟩:=Hc hs (h.1 htb)
    refine⟨v,h1,fun σ' k' kp' hσ hk=>?_⟩;exact⟨fun _=>h2 σ' k' kp' hσ hk,fun e=>absurd (htb.symm.trans e) (by cases b<;>simp)⟩
   ·refine⟨.t [],h.2 (by cases t<;>cases b<;>simp_all),fun σ' k' kp' hσ hk=>?_⟩
    exact⟨fun e=>absurd e htb,fun _=>hk⟩
  ·exact⟨.t [],h,fun σ' k' kp' hσ hk=>hk⟩
  ·exact h.elim
theorem Xt {o:AW} (hc:calm o.op=true) {k kp:V→AH→Prop} (h:Hj P o env σ k kp):Hj P o env σ (fun v σ'=>k v σ'∧Sub σ σ') kp:=by
 unfold Hj at *;split at h
 ·exact Xs hc h
 ·split at h
  ·exact⟨fun e=>Xs hc (h.1 e),fun e=>⟨h.2 e,fun _ _ h=>h⟩⟩
  ·exact⟨h,fun _ _ h=>h⟩
  ·exact h.elim
theorem dK {o:AW} (hc:calm o.op=true) {k kp:V→AH→Prop} (h:Hj P o env σ k kp) {m:Nat} {z:O} (hm:σ m=none) :
 Hj P o env (BI σ m z) (fun v σ2=> ∃σ1,k v σ1∧σ1 m=none∧σ2=BI σ1 m z) kp:=by
 unfold Hj at *;split at h
 ·exact UK hc h hm
 ·split at h
  ·exact⟨fun e=>UK hc (h.1 e) hm,fun e=>⟨σ,h.2 e,hm,rfl⟩⟩
  ·exact⟨σ,h,hm,rfl⟩
  ·exact h.elim
def Wd (o:FA):Bool:=calm o||VL o
theorem ZK {o:AW} (hc:Wd o.op=true) {k kp:V→AH→Prop} (hU: ∀v σ m z,σ m=none→kp v σ→kp v (BI σ m z)) (h:Hj P o env σ k kp) {m:Nat} {z:O} (hm:σ m=none) :
 Hj P o env (BI σ m z) (fun v σ2=> ∃σ1,k v σ1∧σ1 m=none∧σ2=BI σ1 m z) kp:=by
 cases hc':calm o.op with
 | true=>exact dK hc' h hm
 | false=>
   have hc2:VL o.op=true:=by simpa[Wd,hc']using hc
   unfold Hj at *;split at h
   ·exact UL hc2 hU h hm
   ·split at h
    ·exact⟨fun e=>UL hc2 hU (h.1 e) hm,fun e=>⟨σ,h.2 e,hm,rfl⟩⟩
    ·exact⟨σ,h,hm,rfl⟩
    ·exact h.elim
end Go.Gl
namespace Go.Gl
variable {P:Program} {Λ:Nat→Prop} {env env':Env} {σ:AH}
structure Cg where
 i:Nat
 o:AW
 rf:List Nat
 re:List AW
 deriving Inhabited
def AN (x:AW):List Nat:=(match x.dst with|some d=>[d]|none=>[])++looks x
def HK (P:Program) (x:AW) (env:Env) (σ:AH):Prop:=Hj P x env σ (fun u _=> ∀s,x.dst=some s→get s env=some u) (fun _ _=>False)
def Ea (P:Program):List AW→Env→AH→Prop
 | [],_,_=>True
 | x::r,env,σ=>HK P x env σ∧Ea P r env σ
theorem Ea.mem: ∀ {l:List AW},Ea P l env σ→ ∀x∈l,HK P x env σ
 | _::_,h,_,.head _=>h.1
 | _::_,h,x,.tail _ hx=>Ea.mem h.2 x hx
def Db (P:Program):List Cg→(Env→AH→Prop)→(V→AH→Prop)→Env→AH→Prop
 | [],K,_,env,σ=>K env σ
 | d::r,K,kp,env,σ=>Hj P d.o env σ (fun v σ'=>Ea P d.re (put d.o.dst v env) σ'∧Db P r K kp (put d.o.dst v env) σ') kp
def dU (env env':Env):Prop:= ∀s,get s env=get s env'
theorem Cm {s:Nat} {d:Option Nat} {v:V} (h:d≠some s):get s (put d v env)=get s env:=by
 cases d with
 | none=>rfl
 | some d=>
   simp only[put,get];cases hb:Nat.beq d s with
   | false=>rfl
   | true=>exact absurd (by rw[Nat.eq_of_beq_eq_true hb]) h
theorem Ee {s:Nat} {v:V}:get s (put (some s) v env)=some v:=by simp[put,get]
theorem dU.put {d:Option Nat} {v:V} (h:dU env env'):dU (Gl.put d v env) (Gl.put d v env'):=fun s=>by
 by_cases hd:d=some s
 ·subst hd
  rw[Ee,Ee]
 ·rw[Cm hd,Cm hd,h]
theorem cS {d e:Option Nat} {v u:V} (h: ∀s,d=some s→e≠some s):dU (Gl.put d v (Gl.put e u env)) (Gl.put e u (Gl.put d v env)):=fun s=>by
 by_cases hd:d=some s
 ·subst hd
  rw[Ee,Cm (h s rfl),Ee]
 ·rw[Cm hd]
  by_cases he:e=some s
  ·subst he
   rw[Ee,Ee]
  ·rw[Cm he,Cm he,Cm hd]
theorem NG {x:AW} (h: ∀s∈AN x,get s env'=get s env) (hr:HK P x env σ):HK P x env' σ:=by
 unfold HK at *;rw[F3 (env:=env) fun s hs=>h s (WV _ hs)];refine CX hr (fun v σ' hv s hs=>?_) fun _ _ h=>h
 rw[h s (Uv _ (by rw[hs];simp))];exact hv s hs
theorem Ln: ∀ {l:List AW},(∀s,get s env'=get s env)→Ea P l env σ→Ea P l env' σ
 | [],_,_=>trivial
 | _::_,h,hr=>⟨NG (fun s _=>h s) hr.1,Ln h hr.2⟩
section
variable {K:Env→AH→Prop} {kp:V→AH→Prop}
theorem JW (U: ∀env env' σ,dU env env'→K env σ→K env' σ): ∀ {l:List Cg} {env env':Env} {σ:AH},dU env env'→Db P l K kp env σ→Db P l K kp env' σ
 | [],_,_,_,hg,h=>U _ _ _ hg h
 | d::r,env,env',σ,hg,h=>by
   simp only[Db]at *;rw[F3 (env:=env) fun s _=>(hg s).symm];exact CX h (fun v σ' ⟨h1,h2⟩=>⟨Ln (fun s=>(hg.put s).symm) h1,JW U hg.put h2⟩) fun _ _ h=>h
def rV (x y:AW):Prop:=(∀d,x.dst=some d→d∉looks y∧y.dst≠some d)∧ ∀d,y.dst=some d→d∉looks x
def fresh (y x:AW):Prop:= ∀d,y.dst=some d→d∉AN x
def okD (x y:Cg):Prop:=x.re= []∧rV x.o y.o∧
 ((still x.o.op=true∧calm y.o.op=true)∨kd x.o.op= .P∨(still x.o.op=true∧x.o∈y.re∧ ∀d,x.o.dst=some d→d∉looks x.o)∨(Wd x.o.op=true∧y.re= []∧y.o.guard=none∧ ∃z,y.o.op= .alloc z))
theorem bB (hU: ∀v σ m z,σ m=none→kp v σ→kp v (BI σ m z)) (U: ∀env env' σ,dU env env'→K env σ→K env' σ) {i:Cg} {ys:List Cg}: ∀ {xs:List Cg},(∀x∈xs,okD x i)→xs.Pairwise (fun x y=>kd x.o.op= .N→fresh y.o x.o)→
 ∀ {env:Env} {σ:AH},Db P (xs++i::ys) K kp env σ→
 Hj P i.o env σ (fun u σ'=>(∀r∈i.re,(∀x∈xs,fresh x.o r)→HK P r (put i.o.dst u env) σ')∧Db P (xs++ys) K kp (put i.o.dst u env) σ') kp
 | [],_,_,env,σ,h=>CX h (fun u σ' ⟨h1,h2⟩=>⟨fun r hr _=>h1.mem r hr,h2⟩) fun _ _ h=>h
 | x ::xs,hok,hpw,env,σ,h=>by
   simp only[List.cons_append,Db]at h;obtain⟨hpw1,hpw2⟩:=List.pairwise_cons.1 hpw;obtain⟨hre,⟨ha1,ha2⟩,hk⟩:=hok x (.head _)
   have h':Hj P x.o env σ (fun v σ1=>Hj P i.o (put x.o.dst v env) σ1 (fun u σ'=>(∀r∈i.re,(∀x∈xs,fresh x.o r)→HK P r (put i.o.dst u (put x.o.dst v env)) σ')∧Db P (xs++ys) K kp (put i.o.dst u (put x.o.dst v env)) σ') kp) kp:=
    CX h (fun v σ1 hh=>bB hU U (fun y hy=>hok y (.tail _ hy)) hpw2 hh.2) fun _ _ h=>h
   have agx: ∀v,∀s∈looks i.o,get s (put x.o.dst v env)=get s env:=fun v s hs=>Cm fun e=>(ha1 s e).1 hs
   have agi: ∀(env:Env) u,∀s∈looks x.o,get s (put i.o.dst u env)=get s env:=fun env u s hs=>Cm fun e=>ha2 s e hs
   have hcm: ∀v u,dU (put i.o.dst u (put x.o.dst v env)) (put x.o.dst v (put i.o.dst u env)):=fun v u=>cS fun s hs hx=>(ha1 s hx).2 hs
   have hRE: ∀v u σ',(∀r∈i.re,(∀x∈xs,fresh x.o r)→HK P r (put i.o.dst u (put x.o.dst v env)) σ')→ ∀r∈i.re,(∀y∈x::xs,fresh y.o r)→HK P r (put i.o.dst u env) σ':=fun v u σ' hh r hr hf=>by
    refine NG (fun s hs=>?_) (hh r hr fun y hy=>hf y (.tail _ hy));rw[hcm v u s,Cm fun e=>hf x (.head _) s e hs]
   by_cases hst:still x.o.op=true
   ·obtain⟨v,hi,hd⟩:=Qx hst h'
    have fin: ∀u σ',(kd x.o.op= .P∨Sub σ σ')→(∀r∈i.re,(∀x∈xs,fresh x.o r)→HK P r (put i.o.dst u (put x.o.dst v env)) σ')→Db P (xs++ys) K kp (put i.o.dst u (put x.o.dst v env)) σ'→
     (∀r∈i.re,(∀y∈x::xs,fresh y.o r)→HK P r (put i.o.dst u env) σ')∧Db P (x::xs++ys) K kp (put i.o.dst u env) σ':=fun u σ' hs h1 h2=>by
     refine⟨hRE v u σ' h1,?_⟩;simp only[List.cons_append,Db];rw[F3 (env:=env) (agi env u)];exact hd σ' _ _ hs ⟨by rw[hre];trivial,JW U (hcm v u) h2⟩
    rw[F3 (env:=env) (agx v)]at hi;rcases hk with⟨_,hc⟩|F|⟨_,hm,hself⟩|⟨_,_,hg,z,hz⟩
    ·exact CX (Xt hc hi) (fun u σ' ⟨⟨h1,h2⟩,hs⟩=>fin u σ' (.inr hs) h1 h2) fun _ _ h=>h
    ·exact CX hi (fun u σ' ⟨h1,h2⟩=>fin u σ' (.inl F) h1 h2) fun _ _ h=>h
    ·by_cases F:kd x.o.op= .P
     ·exact CX hi (fun u σ' ⟨h1,h2⟩=>fin u σ' (.inl F) h1 h2) fun _ _ h=>h
     have hN:kd x.o.op= .N:=by
      unfold still at hst;cases hkk:kd x.o.op<;>rw[hkk]at hst<;>simp_all
     refine CX hi (fun u σ' ⟨h1,h2⟩=>⟨hRE v u σ' h1,?_⟩) fun _ _ h=>h
     have hr:=h1 x.o hm fun y hy=>hpw1 y hy hN
     unfold HK at hr;obtain⟨v',hv',hd'⟩:=Qx hst hr;simp only[List.cons_append,Db]
     have hsame: ∀s∈looks x.o,get s (put i.o.dst u env)=get s (put i.o.dst u (put x.o.dst v env)):=fun s hs=>by
      rw[agi env u s hs,agi _ u s hs];by_cases hxs:x.o.dst=some s
      ·exact absurd hs (hself s hxs)
      ·rw[Cm hxs]
     rw[F3 (env:=put i.o.dst u (put x.o.dst v env)) hsame];refine hd' σ' _ kp (.inr fun _ _ h=>h) ⟨by rw[hre];trivial,?_⟩
     have hvv:put x.o.dst v' (put i.o.dst u env)=put x.o.dst v (put i.o.dst u env):=by
      cases hxd:x.o.dst with
      | none=>rfl
      | some s=>
        have e:=hv' s hxd;rw[Cm (ha1 s hxd).2,hxd,Ee]at e;cases e;rfl
     rw[hvv];exact JW U (hcm v u) h2
    ·have hc:calm i.o.op=true:=by rw[hz];rfl
     exact CX (Xt hc hi) (fun u σ' ⟨⟨h1,h2⟩,hs⟩=>fin u σ' (.inr hs) h1 h2) fun _ _ h=>h
   ·rcases hk with⟨hst',_⟩|F|⟨hst',_,_⟩|⟨hcx,hir,hg,z,hz⟩
    ·exact absurd hst' hst
    ·exact absurd (by unfold still;rw[F]) hst
    ·exact absurd hst' hst
    ·unfold Hj
     rw[hg];simp only[hz,FL];intro m hm;refine⟨fun r hr=>(by rw[hir]at hr;exact absurd hr (by simp)),?_⟩;simp only[List.cons_append,Db];rw[F3 (env:=env) (agi env _)];refine CX (ZK hcx hU h' (z:= .cs z) hm) (fun v σ2 ⟨σ1,hh,h1,h2⟩=>?_) fun _ _ h=>h
     unfold Hj at hh;rw[hg]at hh;simp only[hz,FL]at hh;subst h2;exact⟨by rw[hre];trivial,JW U (hcm v _) (hh m h1).2⟩
end
end Go.Gl
namespace Go.Gl
theorem Es.refl (σ σ':AH): ∀vs,Es σ σ' vs vs
 | []=> .nil
 | _::vs=> .cons (.refl _) (Es.refl σ σ' vs)
theorem F6.refl (σ σ':AH): ∀vs,F6 σ σ' vs vs
 | []=> .nil
 | _::vs=> .cons (Es.refl σ σ' _) (F6.refl σ σ' vs)
theorem Es.length {σ σ':AH}: ∀ {vs vs':List V},Es σ σ' vs vs'→vs'.length=vs.length
 | _,_,.nil=>rfl
 | _,_,.cons _ h=>by simp[h.length]
theorem F6.length {σ σ':AH}: ∀ {vs vs':List (List V)},F6 σ σ' vs vs'→vs'.length=vs.length
 | _,_,.nil=>rfl
 | _,_,.cons _ h=>by simp[h.length]
variable {P:Program} {Λ:Nat→Prop}
theorem Ld {σ σ':AH} {w:World} (G:Rel Λ σ w) (n:Nat) {o:O} (hn:σ n=some o) (hn':σ' n=none) {c:Array Value} {e:TypeId} {fr:Nat×Nat} (hb:w.heap[n]? =some (.cells c e fr)) (i:Nat) (v:Value) (hv:c[i]? =some v):Hh Λ σ' w n i=some v:=by
 rw[Mu (G.own n _ hn).1 hn',Di hb];exact hv
mutual
theorem Gs.rel {σ σ':AH} {w:World} (G:Rel Λ σ w) (hs:Sub σ' σ): ∀ {v v':V} {c:Value},Gs σ σ' v v'→Af (Hh Λ σ w) v c→Af (Hh Λ σ' w) v' c
 | _,_,_,.refl v,h=>h.mono (FO fun n hn=>hs.none hn)
 | _,_,_,.arr (n:=n) (sz:=sz) hn hn' hl hr,h=>by
   obtain⟨rfl,h2⟩:=h;subst hl;obtain⟨c,e,h3,h4,h5,h6,h7⟩:=Ex G hn;have hlen:=hr.length;refine⟨some ⟨n,0,none⟩,_,by rw[hlen],by rw[hlen];exact h2,by simp,by rw[hlen];exact h6,by simp,fun _=>⟨n,0,sz,rfl,?_⟩⟩;exact F6.rel G hs (fun i v hv=>Ld G n hn hn' h3 i v hv) hr h7
 | _,_,_,.cs (n:=n) hn hn' hr,h=>by
   simp only[Af]at h;subst h;obtain⟨c,e,h3,h4,h5⟩:=JU G hn;exact⟨n,0,rfl,Es.rel G hs (fun i v hv=>Ld G n hn hn' h3 i v hv) hr h5⟩
 | _,_,_,.a hr,h=>by
   obtain⟨c',rfl,h2,h3⟩:=h;exact⟨c',rfl,by rw[hr.length];exact h2,Es.rel G hs (fun _ _ e=>e) hr h3⟩
 | _,_,_,.t hr,h=>by
   obtain⟨c',rfl,h2,h3⟩:=h;exact⟨c',rfl,by rw[hr.length];exact h2,Es.rel G hs (fun _ _ e=>e) hr h3⟩
 | _,_,_,.E2 hr,h=>by
   obtain⟨c',rfl,h2⟩:=h;exact⟨c',rfl,Gs.rel G hs hr h2⟩
 | _,_,_,.l hf hr,h=>by
   obtain⟨a,cap,rfl,h2,h3,h4,h5,h6⟩:=h;have hl:=hr.length;refine⟨a,cap,by rw[hl],by rw[hl];exact h2,fun e=>by rw[hl];exact h3 (hf e),by rw[hl];exact h4,h5,fun hne=>?_⟩;obtain⟨b,o,sz,h7,h8⟩:=h6 (by intro e;subst e;cases hr;exact hne rfl);exact⟨b,o,sz,h7,F6.rel G hs (fun i v hv=>FO (fun n hn=>hs.none hn) b i v hv) hr h8⟩
 | _,_,_,.rp hr,h=>by
   obtain⟨b,o,rfl,h2⟩:=h;exact⟨b,o,rfl,Es.rel G hs (fun i v hv=>FO (fun n hn=>hs.none hn) b i v hv) hr h2⟩
 | _,_,_,.f h1 h2,h=>by
   obtain⟨f',c',rfl,h3,h4,h5,h6⟩:=h;exact⟨f',c',rfl,by rw[h1.length];exact h3,Es.rel G hs (fun _ _ e=>e) h1 h4,by rw[h2.length];exact h5,Es.rel G hs (fun _ _ e=>e) h2 h6⟩
 | _,_,_,.any,_=>trivial
theorem Es.rel {σ σ':AH} {w:World} (G:Rel Λ σ w) (hs:Sub σ' σ) {g g':Nat→Option Value} (hg: ∀i c,g i=some c→g' i=some c): ∀ {vs vs':List V} {o:Nat},Es σ σ' vs vs'→Bk (Hh Λ σ w) g o vs→Bk (Hh Λ σ' w) g' o vs'
 | _,_,_,.nil,_=>trivial
 | _,_,_,.cons h1 h2,⟨⟨c,hc,hv⟩,h3⟩=>⟨⟨c,hg _ _ hc,Gs.rel G hs h1 hv⟩,Es.rel G hs hg h2 h3⟩
theorem F6.rel {σ σ':AH} {w:World} (G:Rel Λ σ w) (hs:Sub σ' σ) {g g':Nat→Option Value} (hg: ∀i c,g i=some c→g' i=some c) {sz:Nat}: ∀ {vs vs':List (List V)} {o:Nat},F6 σ σ' vs vs'→BR (Hh Λ σ w) g sz o vs→BR (Hh Λ σ' w) g' sz o vs'
 | _,_,_,.nil,_=>trivial
 | _,_,_,.cons h1 h2,⟨hl,hv,h3⟩=>⟨by rw[h1.length];exact hl,Es.rel G hs hg h1 hv,F6.rel G hs hg h2 h3⟩
end
theorem V3 {σ:AH} {sz b:Nat} {x y:B1} {env:Env} {k kp:V→AH→Prop} (h:FL P (.N6 sz b x y) env σ k kp) :
 FL P (.append sz b x y) env σ (fun v σ1=> ∃vf σ2,Sub σ2 σ1∧Gs σ1 σ2 v vf∧k vf σ2) kp:=by
 simp only[FL]at *;refine B4 h fun vx h=>B4 h fun vy h=>?_
 unfold BS at h;unfold Aa;refine Fh h fun ys ⟨h1,h2⟩=>⟨h1,?_⟩
 cases vx<;>first|exact h2.elim|skip
 rename_i es full;simp only at *;obtain⟨h3,h4,h5,h6⟩:=h2;refine⟨h3,h4,fun e=>?_,fun e=>⟨h5 e,fun n cap hn hc=>?_⟩⟩
 ·subst e
  rw[List.append_nil]at h6;exact⟨_,σ,fun _ _ h=>h,.l (fun h=>(by cases h)) (.refl _ _ _),h6⟩
 ·exact⟨_,σ,Gh hn,.arr (L0) hn (by simp) (.refl _ _ _),h6⟩
theorem j5 {σ:AH} {x:B1} {env:Env} {k kp:V→AH→Prop} (h:FL P (.NQ x) env σ k kp) :
 FL P (.box x) env σ (fun v σ1=> ∃vf σ2,Sub σ2 σ1∧Gs σ1 σ2 v vf∧k vf σ2) kp:=by
 simp only[FL]at *;refine B4 h fun vx h=>?_
 split at h
 ·exact fun n hn=>⟨_,σ,Gh hn,.cs L0 hn (.refl _ _ _),h⟩
 ·exact h.elim
end Go.Gl
