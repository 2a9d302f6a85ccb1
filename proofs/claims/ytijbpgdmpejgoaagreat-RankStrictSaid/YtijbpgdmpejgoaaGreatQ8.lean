import Derived.Test.YtijbpgdmpejgoaaGreatProg
import Derived.KernelRfl
import Derived.Test.YtijbpgdmpejgoaaGreatQ7
set_option linter.all false
set_option linter.unusedVariables false
set_option linter.unusedSimpArgs false
namespace Go.Gl
variable {P:Program} {σ:AG} {env env':Env}
abbrev pk:List Nat→Env→(Env→Prop)→Prop
 | [],_,k=>k []
 | s::r,env,k=>match get s env with
   | some v=>pk r env fun e=>k ((s,v)::e)
   | none=>pk r env k
theorem Fv: ∀ {l:List Nat} {env:Env} {k:Env→Prop},pk l env k=k (prune l env)
 | [],_,_=>rfl
 | s::r,env,k=>by
   simp only[pk,prune];cases get s env with
   | none=>exact Fv (l:=r)
   | some v=>exact Fv (l:=r)
abbrev WM:=(Ae→Env→AG→Prop)→Env→AG→Prop
def WT (P:Program) (ops:List AS) (K:Env→AG→Prop) (kp:Env→V→AG→Prop):Env→AG→Prop:=
 List.rec (motive:=fun _=>Env→AG→Prop) K (fun o _ ih env σ=>G6 P o env σ (fun v σ'=>ih (put o.dst v env) σ') (kp env)) ops
theorem qn {P:Program} {K:Env→AG→Prop} {kp:Env→V→AG→Prop}: ∀(ops:List AS) (env:Env) (σ:AG),WT P ops K kp env σ=Il P ops K kp env σ
 | [],_,_=>rfl
 | o::r,env,σ=>by
   have:(fun(v:V) (σ':AG)=>WT P r K kp (put o.dst v env) σ')=fun v σ'=>Il P r K kp (put o.dst v env) σ':=funext fun v=>funext fun σ'=>qn r _ _
   show G6 P o env σ (fun v σ'=>WT P r K kp (put o.dst v env) σ') (kp env)=_;rw[this];rfl
def WD (P:Program) (ops:List CD) (K:Env→AG→Prop) (kp:V→AG→Prop):Env→AG→Prop:=
 List.rec (motive:=fun _=>Env→AG→Prop) K (fun d _ ih env σ=>G6 P d.o env σ (fun v σ'=>Dx P d.re (put d.o.dst v env) σ'∧ih (put d.o.dst v env) σ') kp) ops
theorem qo {P:Program} {K:Env→AG→Prop} {kp:V→AG→Prop}: ∀(ops:List CD) (env:Env) (σ:AG),WD P ops K kp env σ=DC P ops K kp env σ
 | [],_,_=>rfl
 | d::r,env,σ=>by
   have:(fun(v:V) (σ':AG)=>Dx P d.re (put d.o.dst v env) σ'∧WD P r K kp (put d.o.dst v env) σ')=fun v σ'=>Dx P d.re (put d.o.dst v env) σ'∧DC P r K kp (put d.o.dst v env) σ':=funext fun v=>funext fun σ'=>by rw[qo r]
   show G6 P d.o env σ (fun v σ'=>Dx P d.re (put d.o.dst v env) σ'∧WD P r K kp (put d.o.dst v env) σ') kp=_;rw[this];rfl
def wSeq (l:List Nat) (iha ihb:WM):WM:=fun Q env σ=>iha (Ae.andThen (fun env σ=>pk l env fun E=>ihb Q E σ) Q) env σ
def x9 (c:Bj) (iha ihb:WM):WM:=fun Q env σ=>match ev env c with
    | some (.b t)=>(t=true→iha Q env σ)∧(t=false→ihb Q env σ)
    | _=>False
def A6 (l:List Nat) (_:AJ) (iha:WM) (Q:Ae→Env→AG→Prop) (E:Env) (σ:AG):Prop:= ∃AF:Nat→Env→AG→Prop,(∃n,AF n E σ)∧
 ∀n env σ,AF n env σ→iha (Ae.andThen (fun env σ=>pk l env fun E'=> ∃m,m<n∧AF m E' σ) Q) env σ
def x8 (l:List Nat) (a:AJ) (iha:WM):WM:=fun Q env σ=>pk l env fun E=>A6 l a iha Q E σ
def rX (P:Program) (l:List Nat) (g:Bj) (ps:List Nat) (a b:AJ):WM:=fun Q env σ=>match ev env g with
    | some (.f (.func gf) [] cap)=>pk l env fun E=> ∀L,σ L=none→BQ P gf (.f (.yield L) [] []::cap) (BI σ L (.loop .ready E (By P ps a b))) (JN L Q env)
    | _=>False
def W (P:Program) (c:AJ):WM:=
 AJ.rec (motive:=fun _=>WM)
  (fun Q env σ=>Q .normal env σ)
  (fun ops Q env σ=>WT P ops (fun env σ=>Q .normal env σ) (fun env v σ=>Q (.Bi v) env σ) env σ)
  (fun l ops Q env σ=>WD P ops (fun env σ=>pk l env fun E=>Q .normal E σ) (fun v σ=> ∀σ',Sub σ σ'→Q (.Bi v) [] σ') env σ)
  (fun l _ _ iha ihb=>wSeq l iha ihb)
  (fun c _ _ iha ihb=>x9 c iha ihb)
  (fun id _ ih Q env σ=>ih (Ae.inBlock id Q) env σ)
  (fun l a ih=>x8 l a ih)
  (fun id Q env σ=>Q (.exit id) env σ)
  (fun Q env σ=>Q .ret env σ)
  (fun _ ih=>ih)
  (fun l g ps a b _ _=>rX P l g ps a b) c
theorem a8 {c:Bj} {a b:AJ} {Q:Ae→Env→AG→Prop}:W P (.cond c a b) Q env σ=match ev env c with
 | some (.b t)=>(t=true→W P a Q env σ)∧(t=false→W P b Q env σ)
 | _=>False:=rfl
theorem a6 {l:List Nat} {a:AJ} {Q:Ae→Env→AG→Prop}:W P (.loop l a) Q env σ=pk l env fun E=> ∃AF:Nat→Env→AG→Prop,(∃n,AF n E σ)∧
 ∀n env σ,AF n env σ→W P a (Ae.andThen (fun env σ=>pk l env fun E'=> ∃m,m<n∧AF m E' σ) Q) env σ:=rfl
theorem qm {ops:List AS} {Q:Ae→Env→AG→Prop}:W P (.A2 ops) Q env σ=Il P ops (fun env σ=>Q .normal env σ) (fun env v σ=>Q (.Bi v) env σ) env σ:=qn ops env σ
theorem a7 {l:List Nat} {ops:List CD} {Q:Ae→Env→AG→Prop}:W P (.BC l ops) Q env σ=DC P ops (fun env σ=>pk l env fun E=>Q .normal E σ) (fun v σ=> ∀σ',Sub σ σ'→Q (.Bi v) [] σ') env σ:=qo ops env σ
theorem Tb {l:List Nat} {g:Bj} {ps:List Nat} {a b:AJ} {Q:Ae→Env→AG→Prop}:W P (.Cg l g ps a b) Q env σ=match ev env g with
 | some (.f (.func gf) [] cap)=>pk l env fun E=> ∀L,σ L=none→BQ P gf (.f (.yield L) [] []::cap) (BI σ L (.loop .ready E (By P ps a b))) (JN L Q env)
 | _=>False:=rfl
theorem VB: ∀ {c:AJ} {Q Q':Ae→Env→AG→Prop} {env:Env} {σ:AG},W P c Q env σ→(∀ex env σ,Q ex env σ→Q' ex env σ)→T P c Q' env σ:=by
 intro c
 induction c with
 | skip=>intro Q Q' env σ h hm;exact hm _ _ _ h
 | ret=>intro Q Q' env σ h hm;exact hm _ _ _ h
 | exit id=>intro Q Q' env σ h hm;exact hm _ _ _ h
 | A2 ops=>intro Q Q' env σ h hm;rw[qm]at h;exact Lp (fun _ _ h=>hm _ _ _ h) (fun _ _ _ h=>hm _ _ _ h) h
 | BC l ops=>intro Q Q' env σ h hm;rw[a7]at h;exact Je (fun _ _ h=>hm _ _ _ (by rw[Fv]at h;exact h)) (fun _ _ h σ' hs=>hm _ _ _ (h σ' hs)) h
 | seq l a b iha ihb=>
   intro Q Q' env σ h hm;refine iha h fun ex env σ hq=>?_
   cases ex with
   | normal=>simp only[Ae.andThen]at *;rw[Fv]at hq;exact ihb hq hm
   | exit id=>exact hm _ _ _ hq
   | ret=>exact hm _ _ _ hq
   | Bi v=>exact hm _ _ _ hq
 | cond c a b iha ihb=>
   intro Q Q' env σ h hm;simp only[T,a8]at *;split at h
   ·rename_i he
    rw[he];exact⟨fun e=>iha (h.1 e) hm,fun e=>ihb (h.2 e) hm⟩
   ·exact h.elim
 | block id a ih=>
   intro Q Q' env σ h hm;refine ih h fun ex env σ hq=>?_
   cases ex with
   | normal=>exact hm _ _ _ hq
   | exit id'=>
     simp only[Ae.inBlock]at *;cases hb:Nat.beq id' id<;>rw[hb]at hq<;>exact hm _ _ _ hq
   | ret=>exact hm _ _ _ hq
   | Bi v=>exact hm _ _ _ hq
 | scope a ih=>intro Q Q' env σ h hm;exact ih h hm
 | loop l a ih=>
   intro Q Q' env σ h hm;rw[a6,Fv]at h;obtain⟨AF,h0,hr⟩:=h;refine⟨AF,h0,fun n env σ hI=>ih (hr n env σ hI) fun ex env σ hq=>?_⟩;cases ex with
   | normal=>simp only[Ae.andThen]at *;rw[Fv]at hq;exact hq
   | exit id=>exact hm _ _ _ hq
   | ret=>exact hm _ _ _ hq
   | Bi v=>exact hm _ _ _ hq
 | Cg l g ps a b _ _=>
   intro Q Q' env σ h hm;simp only[T,Tb]at *;split at h
   ·rename_i he
    rw[Fv]at h;rw[he];refine fun L hL=>(h L hL).mono fun r σ' hq=>?_
    cases r with
    | ret v=>
      obtain⟨st,env1,ok,h1,h2⟩:=hq;refine⟨st,env1,ok,h1,?_⟩;cases st<;>exact hm _ _ _ h2
    | Bi v=>exact hm _ _ _ hq
   ·exact h.elim
theorem kL {c:AJ} {Q:Ae→Env→AG→Prop} (h:W P c Q env σ):T P c Q env σ:=VB h fun _ _ _ h=>h
theorem az: ∀ {c:AJ} {Q Q':Ae→Env→AG→Prop} {env:Env} {σ:AG},W P c Q env σ→(∀ex env σ,Q ex env σ→Q' ex env σ)→W P c Q' env σ:=by
 intro c
 induction c with
 | skip=>intro Q Q' env σ h hm;exact hm _ _ _ h
 | ret=>intro Q Q' env σ h hm;exact hm _ _ _ h
 | exit id=>intro Q Q' env σ h hm;exact hm _ _ _ h
 | A2 ops=>intro Q Q' env σ h hm;rw[qm]at *;exact Lp (fun _ _ h=>hm _ _ _ h) (fun _ _ _ h=>hm _ _ _ h) h
 | BC l ops=>intro Q Q' env σ h hm;rw[a7]at *;exact Je (fun _ _ h=>by rw[Fv]at *;exact hm _ _ _ h) (fun _ _ h σ' hs=>hm _ _ _ (h σ' hs)) h
 | seq l a b iha ihb=>
   intro Q Q' env σ h hm;refine iha h fun ex env σ hq=>?_
   cases ex with
   | normal=>simp only[Ae.andThen]at *;rw[Fv]at *;exact ihb hq hm
   | exit id=>exact hm _ _ _ hq
   | ret=>exact hm _ _ _ hq
   | Bi v=>exact hm _ _ _ hq
 | cond c a b iha ihb=>
   intro Q Q' env σ h hm;simp only[a8]at *;split at h
   ·exact⟨fun e=>iha (h.1 e) hm,fun e=>ihb (h.2 e) hm⟩
   ·exact h.elim
 | block id a ih=>
   intro Q Q' env σ h hm;refine ih h fun ex env σ hq=>?_
   cases ex with
   | normal=>exact hm _ _ _ hq
   | exit id'=>
     simp only[Ae.inBlock]at *;cases hb:Nat.beq id' id<;>rw[hb]at hq<;>exact hm _ _ _ hq
   | ret=>exact hm _ _ _ hq
   | Bi v=>exact hm _ _ _ hq
 | scope a ih=>intro Q Q' env σ h hm;exact ih h hm
 | loop l a ih=>
   intro Q Q' env σ h hm;simp only[a6]at *;rw[Fv]at *;obtain⟨AF,h0,hr⟩:=h;refine⟨AF,h0,fun n env σ hI=>ih (hr n env σ hI) fun ex env σ hq=>?_⟩;cases ex with
   | normal=>exact hq
   | exit id=>exact hm _ _ _ hq
   | ret=>exact hm _ _ _ hq
   | Bi v=>exact hm _ _ _ hq
 | Cg l g ps a b _ _=>
   intro Q Q' env σ h hm;simp only[Tb]at *;split at h
   ·rw[Fv]at *
    refine fun L hL=>(h L hL).mono fun r σ' hq=>?_
    cases r with
    | ret v=>
      obtain⟨st,env1,ok,h1,h2⟩:=hq;refine⟨st,env1,ok,h1,?_⟩;cases st<;>exact hm _ _ _ h2
    | Bi v=>exact hm _ _ _ hq
   ·exact h.elim
abbrev Zs (P:Program) (l:List Nat) (a:AJ) (Q:Ae→Env→AG→Prop) (E:Env) (σ:AG):Prop:=A6 l a (W P a) Q E σ
theorem upW {l:List Nat} {a:AJ} {Q:Ae→Env→AG→Prop} {E:Env} (len:Nat) (AF:Nat→Env→AG→Prop) (h0:AF 0 E σ)
 (h: ∀k env σ,k≤len→AF k env σ→W P a (Ae.andThen (fun env σ=>pk l env fun E'=>k<len∧AF (k+1) E' σ) Q) env σ):Zs P l a Q E σ:=by
 refine⟨fun n env σ=> ∃k,k≤len∧n=len - k∧AF k env σ,⟨len,0,Nat.zero_le _,by omega,h0⟩,fun n env σ ⟨k,hk,hn,hI⟩=>?_⟩;refine az (h k env σ hk hI) fun ex env' σ' hq=>?_
 cases ex with
 | normal=>
   simp only[Ae.andThen]at *;rw[Fv]at *;exact⟨len - (k+1),by have:=hq.1;omega,k+1,hq.1,rfl,hq.2⟩
 | exit id=>exact hq
 | ret=>exact hq
 | Bi v=>exact hq
def Zb (P:Program) (x:Bj) (l:List Nat) (ac:AJ) (AL:List RS) (Q:R→AG→Prop) (env:Env) (σ:AG):Prop:=
 wv (ev env x) fun vf=>match vf with
  | .f (.func g) [] cap=>pk l env fun E=>W P ac (rW P g cap AL Q) E σ
  | _=>False
theorem tl {x:Bj} {l:List Nat} {ac:AJ} {AL:List RS} {Q:R→AG→Prop} (h:Zb P x l ac AL Q env σ):QU P x l ac AL Q env σ:=by
 unfold Zb at h;unfold QU;refine Bk h fun vf h=>?_
 split at h
 ·rw[Fv]at h;exact kL h
 ·exact h.elim
theorem Iz {K K':Env→AG→Prop} (h: ∀env σ,K env σ→K' env σ): ∀ex env σ,Cm K ex env σ→Cm K' ex env σ:=fun ex env σ hq=>by
 cases ex<;>first|exact h _ _ hq|exact hq.elim
theorem qp {c:AJ} {x:Bj} {l:List Nat} {ac:AJ} {AL:List RS} {Q:R→AG→Prop} (h:W P c (Cm (Zb P x l ac AL Q)) env σ):T P c (Cm (QU P x l ac AL Q)) env σ:=
 VB h (Iz fun _ _ h=>tl h)
theorem LM {l:List Nat} {a b:AJ} {Q:Ae→Env→AG→Prop} (h: ∀K:Env→AG→Prop,(∀env σ,(pk l env fun E=>W P b Q E σ)→K env σ)→W P a (Ae.andThen K Q) env σ):W P (.seq l a b) Q env σ:=
 h _ fun _ _ h=>h
theorem LO {ops:List AS} {Q:Ae→Env→AG→Prop} (h: ∀(I:Env→AG→Prop) (C:Env→V→AG→Prop),(∀env σ,Q .normal env σ→I env σ)→(∀env v σ,Q (.Bi v) env σ→C env v σ)→WT P ops I C env σ):W P (.A2 ops) Q env σ:=
 h _ _ (fun _ _ h=>h) (fun _ _ _ h=>h)
theorem IN {l:List Nat} {ops:List CD} {Q:Ae→Env→AG→Prop} (h: ∀(I:Env→AG→Prop) (C:V→AG→Prop),(∀env σ,(pk l env fun E=>Q .normal E σ)→I env σ)→(∀v σ,(∀σ',Sub σ σ'→Q (.Bi v) [] σ')→C v σ)→WD P ops I C env σ):W P (.BC l ops) Q env σ:=
 h _ _ (fun _ _ h=>h) (fun _ _ h=>h)
theorem IP {c:Bj} {a b:AJ} {Q:Ae→Env→AG→Prop} (h:match ev env c with
 | some (.b t)=>(t=true→W P a Q env σ)∧(t=false→W P b Q env σ)
 | _=>False):W P (.cond c a b) Q env σ:=h
theorem Gr {id:Nat} {a:AJ} {Q:Ae→Env→AG→Prop} (h:W P a (Ae.inBlock id Q) env σ):W P (.block id a) Q env σ:=h
theorem IL {l:List Nat} {a:AJ} {Q:Ae→Env→AG→Prop} (h:pk l env fun E=>A6 l a (W P a) Q E σ):W P (.loop l a) Q env σ:=h
theorem IM {id:Nat} {Q:Ae→Env→AG→Prop} (h:Q (.exit id) env σ):W P (.exit id) Q env σ:=h
theorem LN {Q:Ae→Env→AG→Prop} (h:Q .ret env σ):W P .ret Q env σ:=h
theorem IK {Q:Ae→Env→AG→Prop} (h:Q .normal env σ):W P .skip Q env σ:=h
theorem Gp {a:AJ} {Q:Ae→Env→AG→Prop} (h:W P a Q env σ):W P (.scope a) Q env σ:=h
theorem Gq {l:List Nat} {g:Bj} {ps:List Nat} {a b:AJ} {Q:Ae→Env→AG→Prop} (h:match ev env g with
 | some (.f (.func gf) [] cap)=>pk l env fun E=> ∀L,σ L=none→BQ P gf (.f (.yield L) [] []::cap) (BI σ L (.loop .ready E (By P ps a b))) (JN L Q env)
 | _=>False):W P (.Cg l g ps a b) Q env σ:=h
end Go.Gl
namespace Go.Gl
variable {P:Program} {Λ:Nat→Prop} {σ σ':AG} {env:Env}
def Own (σ:AG) (v:V) (sz:Nat) (es:List (List V)):Prop:=(v= .l es true∧ ∀e∈es,e.length=sz)∨ ∃n cap,v= .sl n es.length cap∧σ n=some (.arr sz es cap)
theorem Own.Jk {v:V} {sz:Nat} {es:List (List V)} (h:Own σ v sz es):F6 σ emp v (.l es false):=by
 rcases h with⟨rfl,_⟩|⟨n,cap,rfl,hn⟩
 ·exact .l (fun h=>(by cases h)) (.refl _ _ _)
 ·exact .arr hn rfl rfl (.refl _ _ _)
inductive At where
 | obj (n:Nat) (o:O)
 | own (v:V) (sz:Nat) (es:List (List V))
abbrev At.box (n:Nat) (vs:List V):At:= .obj n (.cs vs)
abbrev At.map (n:Nat) (kvs:List (V×V)):At:= .obj n (.map kvs)
def Fb:V→Option Nat
 | .sl n _ _=>some n
 | _=>none
def At.wM:At→Option Nat
 | .obj n _=>some n
 | .own v _ _=>Fb v
def At.ok (σ:AG):At→Prop
 | .obj n o=>σ n=some o
 | .own v sz es=>Own σ v sz es
def apart (a b:At):Prop:= ∀n,a.wM=some n→b.wM≠some n
theorem apart.symm {a b:At} (h:apart a b):apart b a:=fun n hb ha=>h n ha hb
def Sat (σ:AG) (l:List At):Prop:=(∀a∈l,a.ok σ)∧l.Pairwise apart
theorem Sat.nil:Sat σ []:=⟨fun _ h=>(by cases h),.nil⟩
theorem Sat.get {l:List At} (h:Sat σ l) {i:Nat} {a:At} (hi:l[i]? =some a):a.ok σ:=h.1 a (Fo hi)
theorem Ra {l:List At} (h:l.Pairwise apart): ∀ {i:Nat} {a a':At},l[i]? =some a→(∀b∈l,apart a b→apart a' b)→(l.set i a').Pairwise apart:=by
 induction h with
 | nil=>intro i a a' hi;cases hi
 | cons hx hl ih=>
   rename_i x r;intro i a a' hi hb;cases i with
   | zero=>
     simp only[qu,Ha]at hi;subst hi;exact .cons (fun b hm=>hb b (.tail _ hm) (hx b hm)) hl
   | succ i=>
     simp only[wQ]at hi;refine .cons (fun b hm=>?_) (ih hi fun b hm=>hb b (.tail _ hm));rcases List.mem_or_eq_of_mem_set hm with hm|rfl
     ·exact hx b hm
     ·exact(hb x (.head _) (hx a (Fo hi)).symm).symm
theorem ES {l:List At} (h:l.Pairwise apart): ∀ {i:Nat} {a:At},l[i]? =some a→ ∀b∈l.eraseIdx i,apart a b:=by
 induction h with
 | nil=>intro i a hi;cases hi
 | cons hx hl ih=>
   rename_i x r;intro i a hi b hb;cases i with
   | zero=>
     simp only[qu,Ha]at hi;subst hi;exact hx b (by simpa using hb)
   | succ i=>
     simp only[wQ]at hi;simp only[List.eraseIdx_cons_succ,G3]at hb;rcases hb with rfl|hb
     ·exact(hx a (Fo hi)).symm
     ·exact ih hi b hb
theorem VY {l:List At} {i:Nat} {a b:At} (h:b∈l.set i a):b=a∨b∈l.eraseIdx i:=by
 induction l generalizing i with
 | nil=>simp at h
 | cons x r ih=>
   cases i with
   | zero=>simp at h;rcases h with rfl|h;exact .inl rfl;exact .inr (by simpa using h)
   | succ i=>
     simp only[List.set_cons_succ,G3,List.eraseIdx_cons_succ]at *;rcases h with rfl|h
     ·exact .inr (.inl rfl)
     ·rcases ih h with h|h
      ·exact .inl h
      ·exact .inr (.inr h)
theorem Sat.change {l:List At} (h:Sat σ l) {i:Nat} {a a':At} (hi:l[i]? =some a) (ho: ∀b:At,b.ok σ→apart a b→b.ok σ') (hd: ∀b:At,b.ok σ→apart a b→apart a' b) (ha:a'.ok σ'):Sat σ' (l.set i a'):=by
 refine⟨fun b hb=>?_,Ra h.2 hi fun b hb=>hd b (h.1 b hb)⟩;rcases VY hb with rfl|hb
 ·exact ha
 ·exact ho b (h.1 b (List.mem_of_mem_eraseIdx hb)) (ES h.2 hi b hb)
theorem DH {a:At} {n:Nat} (h:a.ok σ) (hn:a.wM=some n): ∃o,σ n=some o:=by
 cases a with
 | obj m o=>cases hn;exact⟨o,h⟩
 | own v sz es=>
   rcases h with⟨rfl,_⟩|⟨m,cap,rfl,hm⟩
   ·cases hn
   ·cases hn;exact⟨_,hm⟩
theorem FD {a:At} (h:a.ok σ) (hs: ∀n,a.wM=some n→σ' n=σ n):a.ok σ':=by
 cases a with
 | obj m o=>exact(hs m rfl).trans h
 | own v sz es=>
   rcases h with⟨rfl,he⟩|⟨m,cap,rfl,hm⟩
   ·exact .inl ⟨rfl,he⟩
   ·exact .inr ⟨m,cap,rfl,(hs m rfl).trans hm⟩
theorem Sat.add {l:List At} (h:Sat σ l) {a:At} (ho: ∀b:At,b.ok σ→b.ok σ') (hd: ∀b:At,b.ok σ→apart a b) (ha:a.ok σ'):Sat σ' (l++[a]):=by
 refine⟨fun b hb=>?_,List.pairwise_append.2 ⟨h.2,List.pairwise_singleton _ _,fun x hx y hy=>?_⟩⟩
 ·rcases FQ.1 hb with hb|hb
  ·exact ho b (h.1 b hb)
  ·rw[List.mem_singleton.1 hb];exact ha
 ·rw[List.mem_singleton.1 hy]
  exact(hd x (h.1 x hx)).symm
theorem Sat.less {l l':List At} (h:Sat σ l) (hs:l'.Sublist l):Sat σ l':=⟨fun a ha=>h.1 a (hs.subset ha),h.2.sublist hs⟩
theorem Sat.perm {l l':List At} (h:Sat σ l) (hp:l.Perm l'):Sat σ l':=⟨fun a ha=>h.1 a (hp.mem_iff.2 ha),(hp.pairwise_iff (fun {_ _}=>apart.symm)).1 h.2⟩
theorem rN {l:List At} (h:Sat σ l) {n:Nat} (hn:σ n=none) {o:O}:Sat (BI σ n o) (l++[.obj n o]):=by
 refine h.add (fun b hb=>FD hb fun m hm=>?_) (fun b hb m hm hb'=>?_) (DE _ _ _)
 ·obtain⟨o,ho⟩:=DH hb hm
  rw[Cf];intro e;subst e;rw[hn]at ho;cases ho
 ·cases hm
  obtain⟨o,ho⟩:=DH hb hb';rw[hn]at ho;cases ho
theorem Xd {l:List At} (h:Sat σ l) (sz:Nat):Sat σ (l++[.own (.l [] true) sz []]):=
 h.add (fun _ hb=>hb) (fun b hb n hn=>by cases hn) (.inl ⟨rfl,fun _ h=>by cases h⟩)
theorem hLit {l:List At} (h:Sat σ l) {sz:Nat} {es:List (List V)} (hs: ∀e∈es,e.length=sz):Sat σ (l++[.own (.l es true) sz es]):=
 h.add (fun _ hb=>hb) (fun b hb n hn=>by cases hn) (.inl ⟨rfl,hs⟩)
theorem rM {l:List At} (h:Sat σ l) {i n:Nat} {o:O} (hi:l[i]? =some (.obj n o)) (o':O):Sat (BI σ n o') (l.set i (.obj n o')):=by
 refine h.change hi (fun b hb ha=>FD hb fun m hm=>?_) (fun b hb ha m hm=>ha m hm) (DE _ _ _);rw[Cf];intro e;subst e;exact ha m rfl hm
theorem Uz {l:List At} (h:Sat σ l) (i:Nat) {n off sz:Nat} {vs vc:List V} {x:V} {K:AG→Prop} (hi:l[i]? =some (.box n vs)) (hc:cellsOf x=some vc) (hl:vc.length=sz) (h1:vc.all B7=true) (ho:off+sz≤vs.length)
 (hk: ∀σ',Sat σ' (l.set i (.box n (putAt vs off vc)))→K σ'):Af σ sz (.p n off) x K:=by
 unfold Af;rw[hc];refine⟨hl,h1,?_⟩;have:=h.get hi;simp only[At.ok]at this;simp only[this];exact⟨ho,hk _ (rM h hi _)⟩
theorem yR {l:List At} (h:Sat σ l) (i:Nat) {n off:Nat} {agg:Option Nat} {vs:List V} {K:V→Prop} (hi:l[i]? =some (.box n vs)) (hk:cut agg vs off K):An σ agg (.p n off) K:=by
 have:=h.get hi;simp only[At.ok]at this;simp only[An,NG,this];exact hk
theorem hAppend {l:List At} (h:Sat σ l) (i:Nat) {v:V} {sz:Nat} {es ys:List (List V)} {f:Bool} {K:V→AG→Prop} (hi:l[i]? =some (.own v sz es)) {b:Nat} (hl:es.length+ys.length≤Ax∧(es.length+ys.length)*b≤140737488355328) (hys: ∀e∈ys,e.length=sz) (ho: ∀e∈ys,∀v∈e,B7 v=true)
 (hk: ∀v' σ',Sat σ' (l.set i (.own v' sz (es++ys)))→K v' σ'):AQ b σ sz v (.l ys f) K:=by
 refine⟨hys,ho,?_⟩;rcases h.get hi with⟨rfl,hel⟩|⟨n,cap,rfl,hn⟩
 ·refine⟨hel,hl,fun e=>hk _ _ ?_,fun _=>⟨rfl,fun n cap hn hc=>hk _ _ ?_⟩⟩
  ·subst e
   exact h.change hi (fun _ hb _=>hb) (fun _ _ ha=>ha) (.inl ⟨by simp,by simpa using hel⟩)
  ·refine h.change hi (fun b hb _=>FD hb fun m hm=>?_) (fun b hb _ m hm hb'=>?_) (.inr ⟨n,cap,by simp,by simp[BI]⟩)
   ·obtain⟨o,ho⟩:=DH hb hm
    rw[Cf];intro e;subst e;rw[hn]at ho;cases ho
   ·cases hm
    obtain⟨o,ho⟩:=DH hb hb';rw[hn]at ho;cases ho
 ·simp only
  rw[hn];refine⟨rfl,rfl,rfl,hl,fun n' cap' hn' _=>hk _ _ ?_⟩;refine h.change hi (fun b hb ha=>FD hb fun m hm=>?_) (fun b hb ha m hm hb'=>?_) (.inr ⟨n',cap',by simp,by simp[BI]⟩)
  ·have hmn:m≠n:=fun e=>by subst e;exact ha m rfl hm
   obtain⟨o,ho⟩:=DH hb hm;have hmn':m≠n':=fun e=>by subst e;rw[GF _ hmn,ho]at hn';cases hn'
   rw[Cf _ _ hmn',GF _ hmn]
  ·cases hm
   have hmn:n'≠n:=fun e=>by subst e;exact ha n' rfl hb'
   obtain⟨o,ho⟩:=DH hb hb';rw[GF _ hmn,ho]at hn';cases hn'
theorem J0 {agg:Option Nat} {cs:List V} {K:V→Prop} (h:cut agg cs 0 K):An σ agg (.rp cs) K:=h
theorem NI {es:List (List V)} {f:Bool} {K:V→Prop} (h:K (.i .i64 es.length)):BZ (.l es f) K:=h
theorem I6 {l:List At} (h:Sat σ l) (i:Nat) {v:V} {sz:Nat} {es:List (List V)} (hi:l[i]? =some (.own v sz es)):B7 v=true:=by
 rcases h.get hi with⟨rfl,_⟩|⟨n,cap,rfl,hn⟩<;>rfl
@[simp] theorem ABO {es:List (List V)} {f:Bool}:B7 (.l es f)=true:=rfl
@[simp] theorem ABP {k:IntKind} {n:Int}:B7 (.i k n)=true:=rfl
@[simp] theorem ABR {b:Bool}:B7 (.b b)=true:=rfl
@[simp] theorem ABM {n o:Nat}:B7 (.p n o)=true:=rfl
@[simp] theorem ABJ {cs:List V}:B7 (.rp cs)=true:=rfl
@[simp] theorem ABN {n:Nat}:B7 (.m n)=true:=rfl
@[simp] theorem ABQ {fn:Fn} {a b:List V}:B7 (.f fn a b)=true:=rfl
@[simp] theorem ABI {a b c:Nat}:B7 (.sl a b c)=true:=rfl
@[simp] theorem ABK:B7 .pn=true:=rfl
@[simp] theorem ABL:B7 .mn=true:=rfl
@[simp] theorem wP:B7 .DN=true:=rfl
@[simp] theorem ABE {t:TypeId} {v:V}:B7 (.ET t v)=true:=rfl
theorem Yr {v:V} (h:B7 v=true):cellsOf v=some [v]:=by cases v<;>first|rfl|cases h
theorem Mo {l:List At} (h:Sat σ l) (i:Nat) {n off:Nat} {vs:List V} {x:V} {K:AG→Prop} (hi:l[i]? =some (.box n vs)) (h1:B7 x=true) (ho:off+1≤vs.length)
 (hk: ∀σ',Sat σ' (l.set i (.box n (vs.set off x)))→K σ'):Af σ 1 (.p n off) x K:=
 Uz h i hi (Yr h1) rfl (by simp[h1]) ho hk
theorem Sat.Jk {l:List At} (h:Sat σ l) (i:Nat) {v:V} {sz:Nat} {es:List (List V)} (hi:l[i]? =some (.own v sz es)):F6 σ emp v (.l es false):=(h.get hi).Jk
theorem Sat.frzB {l:List At} (h:Sat σ l) (i:Nat) {n:Nat} {vs vs':List V} (hi:l[i]? =some (.box n vs)) (hf:EE σ emp vs vs'):F6 σ emp (.p n 0) (.rp vs'):= .cs (h.get hi) rfl hf
theorem WH {l:List At} (h:Sat σ l) (i:Nat) {v:V} {sz:Nat} {es:List (List V)} (hi:l[i]? =some (.own v sz es)): ∃σ2,Sub σ2 σ∧F6 σ σ2 v (.l es false)∧Sat σ2 (l.eraseIdx i):=by
 rcases h.get hi with⟨rfl,_⟩|⟨n,cap,rfl,hn⟩
 ·exact⟨σ,fun _ _ h=>h,.l (fun h=>(by cases h)) (.refl _ _ _),h.less (List.eraseIdx_sublist _ _)⟩
 ·refine⟨del σ n,FI σ n,.arr hn (DI σ n) rfl (.refl _ _ _),?_⟩
  refine⟨fun b hb=>?_,h.2.sublist (List.eraseIdx_sublist _ _)⟩;refine FD (h.1 b (List.mem_of_mem_eraseIdx hb)) fun m hm=>?_
  rw[GF];intro e;subst e;exact ES h.2 hi b hb m rfl hm
theorem KB {v vf:V} {σ2:AG} {Q:R→AG→Prop} (hs:Sub σ2 σ) (hf:F6 σ σ2 v vf) (hq:Q (.ret vf) σ2):BJ σ v Q:=⟨vf,σ2,hs,hf,hq⟩
theorem BU {l l':List At} (h:Sat σ l) (hl:l'.Sublist l) {v vf:V} {Q:R→AG→Prop} (hf:F6 σ σ v vf) (hq: ∀σ',Sat σ' l'→Q (.ret vf) σ'):BJ σ v Q:=⟨vf,σ,fun _ _ h=>h,hf,hq σ (h.less hl)⟩
theorem hLet {l:List At} (h:Sat σ l) (i:Nat) {v:V} {sz:Nat} {es:List (List V)} (hi:l[i]? =some (.own v sz es)) {K:V→AG→Prop} (hk: ∀σ',Sat σ' (l.eraseIdx i)→K (.l es false) σ'): ∃vf σ2,Sub σ2 σ∧F6 σ σ2 v vf∧K vf σ2:=by
 obtain⟨σ2,h1,h2,h3⟩:=WH h i hi;exact⟨_,σ2,h1,h2,hk σ2 h3⟩
theorem wu {l:List At} (h:Sat σ l) (i:Nat) {v:V} {sz:Nat} {es:List (List V)} (hi:l[i]? =some (.own v sz es)) (hm:es.length≤Ax) {K:V→Prop} (hk:K (.i .i64 es.length)):BZ v K:=by
 rcases h.get hi with⟨rfl,_⟩|⟨n,cap,rfl,hn⟩
 ·exact hk
 ·exact⟨hm,hk⟩
def Ga (v:V) (sz j:Nat):V:=match v with| .sl n _ _=> .pe n sz j 0| .l es _=> .rp (es.getD j [])|_=> .pn
theorem hAt {l:List At} (h:Sat σ l) (i:Nat) {v:V} {sz:Nat} {es:List (List V)} {ki:IntKind} {j:Int} (k:Nat) (hi:l[i]? =some (.own v sz es)) (hj:j=k) (hlt:k<es.length) {K:V→Prop} (hk:K (Ga v sz k)) :
 Ab sz none v (.i ki j) K:=by
 subst hj;rcases h.get hi with⟨rfl,hel⟩|⟨n,cap,rfl,hn⟩
 ·refine⟨Int.natCast_nonneg k,es[k],by simp[hlt],hel _ (List.getElem_mem hlt),?_⟩
  simpa[Ga,hlt]using hk
 ·exact⟨Int.natCast_nonneg k,by omega,by simpa[Ga]using hk⟩
theorem Wu {l:List At} (h:Sat σ l) (i:Nat) {v:V} {sz k:Nat} {es:List (List V)} {e:List V} {agg:Option Nat} (hi:l[i]? =some (.own v sz es)) (he:es[k]? =some e) {K:V→Prop} (hk:cut agg e 0 K):An σ agg (Ga v sz k) K:=by
 rcases h.get hi with⟨rfl,_⟩|⟨n',cap',rfl,hn⟩
 ·simp only[Ga,An,FA,he]
  exact hk
 ·simp only[Ga,An,NH,hn,he]
  exact⟨trivial,hk⟩
theorem cA {l:List At} (h:Sat σ l) (i:Nat) {v x:V} {sz k:Nat} {es:List (List V)} {e vc:List V} (hi:l[i]? =some (.own v sz es)) (he:es[k]? =some e) (hc:cellsOf x=some vc) (hl:vc.length=sz) (h1:vc.all B7=true) (hel:e.length=sz) (hv:(Fb v).isSome=true) {K:AG→Prop}
 (hk: ∀σ',Sat σ' (l.set i (.own v sz (es.set k vc)))→K σ'):Af σ sz (Ga v sz k) x K:=by
 rcases h.get hi with⟨rfl,_⟩|⟨n,cap,rfl,hn⟩
 ·cases hv
 ·unfold Af
  rw[hc];refine⟨hl,h1,?_⟩;simp only[Ga,hn,he];refine⟨trivial,by omega,hk _ ?_⟩
  have hput: ∀(vs vc:List V),vc.length=vs.length→putAt vs 0 vc=vc:=by
   have gen: ∀(vc pre vs:List V),vc.length=vs.length→putAt (pre++vs) pre.length vc=pre++vc:=by
    intro vc
    induction vc with
    | nil=>intro pre vs hl;cases vs with
      | nil=>rfl
      | cons _ _=>cases hl
    | cons x vc ih=>
      intro pre vs hl;cases vs with
      | nil=>cases hl
      | cons y vs=>
        simp only[putAt];rw[List.set_append_right _ _ (Nat.le_refl _),Nat.sub_self,List.set_cons_zero];have:=ih (pre++[x]) vs (by simpa using hl);simp only[UE,Mu,List.length_nil,Nat.zero_add,UR,List.singleton_append]at this;exact this
   intro vs vc hl;exact gen vc [] vs hl
  rw[hput e vc (by omega)];refine h.change hi (fun b hb ha=>FD hb fun m hm=>?_) (fun b hb ha m hm=>ha m hm) (.inr ⟨n,cap,by simp,by simp[BI]⟩);rw[Cf];intro e;subst e;exact ha m rfl hm
theorem RH {l:List At} (h:Sat σ l) (i:Nat) {n:Nat} {kvs:List (V×V)} {ks:KS} {z vk:V} {ok:Bool} (hi:l[i]? =some (.map n kvs)) (hk:BM ks vk=true) (hks: ∀kv∈kvs,BM ks kv.1=true) {K:V→Prop} (h':K (found z ok (CR vk kvs))) :
 AW σ ks z ok (.m n) vk K:=by
 refine⟨hk,?_⟩;have:=h.get hi;simp only[At.ok]at this;simp only[this];exact⟨hks,h'⟩
theorem J2 {l:List At} (h:Sat σ l) (i:Nat) {n:Nat} {kvs:List (V×V)} {ks:KS} {vk vv:V} (hi:l[i]? =some (.map n kvs)) (hk:BM ks vk=true) (hks: ∀kv∈kvs,BM ks kv.1=true) {K:AG→Prop}
 (h': ∀σ',Sat σ' (l.set i (.map n (DW vk vv kvs)))→K σ'):Aa σ ks (.m n) vk vv K:=by
 refine⟨hk,?_⟩;have:=h.get hi;simp only[At.ok]at this;simp only[this];exact⟨hks,h' _ (rM h hi _)⟩
def Bx (P:Program) (f:FuncId) (args:List V) (pre:List At) (Φ:R→List At→Prop):Prop:= ∀σ,Sat σ pre→BQ P f args σ fun r σ'=> ∃post,Φ r post∧Sat σ' post
theorem eW {a:At} {σ1 τ:AG} (h:a.ok σ1):a.ok (join σ1 τ):=FD h fun n hn=>by
 obtain⟨o,ho⟩:=DH h hn;simp[join,ho]
theorem Bx.use {f:FuncId} {args:List V} {pre rest:List At} {Φ:R→List At→Prop} (h:Bx P f args pre Φ) (hs:Sat σ (pre++rest)) {Q:R→AG→Prop} (hk: ∀r post σ',Φ r post→Sat σ' (post++rest)→Q r σ'):BQ P f args σ Q:=by
 have hpre:Sat σ pre:=hs.less (List.sublist_append_left _ _);have hrest:Sat σ rest:=hs.less (List.sublist_append_right _ _);have hap:=(List.pairwise_append.1 hs.2).2.2
 let D:Nat→Prop:=fun n=> ∀b∈rest,b.wM≠some n
 have h1:Sat (Fu σ D) pre:=⟨fun a ha=>FD (hpre.1 a ha) fun n hn=>DF fun b hb=>hap a ha b hb n hn,hpre.2⟩
 refine BQ.mono (BQ.frame D (h _ h1)) fun r σ' ⟨σ1,⟨post,hp,hsp⟩,hfr,he⟩=>hk r post σ' hp ?_
 subst he
 have hrn: ∀b∈rest,∀n,b.wM=some n→σ1 n=none∧Fu σ (fun n=> ¬D n) n=σ n:=fun b hb n hn=>by
  have hnd: ¬D n:=fun h=>h b hb hn
  obtain⟨o,ho⟩:=DH (hrest.1 b hb) hn;exact⟨hfr n hnd (by rw[ho];simp),DF hnd⟩
 refine⟨fun a ha=>?_,List.pairwise_append.2 ⟨hsp.2,hrest.2,fun a ha b hb n hn hb'=>?_⟩⟩
 ·rcases FQ.1 ha with ha|ha
  ·exact eW (hsp.1 a ha)
  ·refine FD (hrest.1 a ha) fun n hn=>?_
   obtain⟨k1,k2⟩:=hrn a ha n hn;simp only[join,k1,k2]
 ·obtain⟨o,ho⟩:=DH (hsp.1 a ha) hn
  rw[(hrn b hb n hb').1]at ho;cases ho
def Ol:List (Nat×V)→Env→Env
 | _,[]=>[]
 | f,(k,v)::r=>(k,(get k f).getD v)::Ol f r
def sk:List (Nat×V)→Env→(Env→Prop)→Prop
 | _,[],k=>k []
 | f,(n,v)::r,k=>match get n f with
   | some u=>sk f r fun e=>k ((n,u)::e)
   | none=>sk f r fun e=>k ((n,v)::e)
theorem WB {f:List (Nat×V)}: ∀ {E:Env} {k:Env→Prop},sk f E k=k (Ol f E)
 | [],_=>rfl
 | (n,v)::r,k=>by
   simp only[sk,Ol];cases get n f with
   | none=>exact WB (E:=r)
   | some u=>exact WB (E:=r)
theorem FR {l:List Nat} {a:AJ} {Q:Ae→Env→AG→Prop} {E:Env} (len:Nat) {X:Type} (f:Nat→X→List (Nat×V)) (H:Nat→X→List At) (Φ:Nat→X→Prop) (x0:X) (h0:E=Ol (f 0 x0) E) (hΦ:Φ 0 x0) (hs:Sat σ (H 0 x0))
 (h: ∀k x σ,k≤len→Φ k x→Sat σ (H k x)→sk (f k x) E fun E1=>W P a (Ae.andThen (fun env' σ'=>pk l env' fun E'=>k<len∧ ∃x',E'=Ol (f (k+1) x') E∧Φ (k+1) x'∧Sat σ' (H (k+1) x')) Q) E1 σ):Zs P l a Q E σ:=by
 refine upW len (fun k env' σ'=> ∃x,env'=Ol (f k x) E∧Φ k x∧Sat σ' (H k x)) ⟨x0,h0,hΦ,hs⟩ ?_;rintro k _ σ hk ⟨x,rfl,h1,h2⟩;have:=h k x σ hk h1 h2;rw[WB]at this;exact this
theorem NQ {l:List Nat} {a:AJ} {Q:Ae→Env→AG→Prop} {E:Env} {X:Type} (μ:X→Nat) (f:X→List (Nat×V)) (H:X→List At) (Φ:X→Prop) (x0:X) (h0:E=Ol (f x0) E) (hΦ:Φ x0) (hs:Sat σ (H x0))
 (h: ∀x σ,Φ x→Sat σ (H x)→sk (f x) E fun E1=>W P a (Ae.andThen (fun env' σ'=>pk l env' fun E'=> ∃x',μ x'<μ x∧E'=Ol (f x') E∧Φ x'∧Sat σ' (H x')) Q) E1 σ):Zs P l a Q E σ:=by
 refine⟨fun n env σ=> ∃x,n=μ x∧env=Ol (f x) E∧Φ x∧Sat σ (H x),⟨_,x0,rfl,h0,hΦ,hs⟩,?_⟩;rintro n _ σ ⟨x,rfl,rfl,h1,h2⟩;have h:=h x σ h1 h2;rw[WB]at h;refine az h fun ex env' σ' hq=>?_
 cases ex with
 | normal=>
   simp only[Ae.andThen]at *;rw[Fv]at *;obtain⟨x',k1,k2⟩:=hq;exact⟨_,k1,x',rfl,k2⟩
 | exit id=>exact hq
 | ret=>exact hq
 | Bi v=>exact hq
end Go.Gl
namespace Go.Gl
variable {P:Program} {σ:AG} {env:Env}
abbrev iL (xs:List Int):List (List V):=xs.map fun x=>[.i .i64 x]
abbrev Ji (ls:List (List Int)):List (List V):=ls.map fun l=>[.l (iL l) false]
def GX {α:Type} (enc:α→List V) (sz:Nat):Prop:= ∀x,(enc x).length=sz∧ ∀v∈enc x,B7 v=true
theorem FK:GX (fun x:Int=>[V.i .i64 x]) 1:=fun x=>⟨rfl,fun v hv=>by simp at hv;subst hv;rfl⟩
theorem KW:GX (fun l:List Int=>[V.l (iL l) false]) 1:=fun x=>⟨rfl,fun v hv=>by simp at hv;subst hv;rfl⟩
theorem Ww:GX (fun x:Bool=>[V.b x]) 1:=fun x=>⟨rfl,fun v hv=>by simp at hv;subst hv;rfl⟩
theorem FU {α:Type} {enc:α→List V} {sz:Nat} (hg:GX enc sz) (xs:List α):(∀e∈xs.map enc,e.length=sz)∧ ∀e∈xs.map enc,∀v∈e,B7 v=true:=by
 refine⟨fun e he=>?_,fun e he=>?_⟩<;>obtain⟨x,_,rfl⟩:=Oe.1 he
 ·exact(hg x).1
 ·exact(hg x).2
theorem WK {l:List At} (h:Sat σ l) (i:Nat) {α:Type} {enc:α→List V} {sz:Nat} {xs:List α} {x:α} {v:V} {f:Bool} {e:List V} {K:V→AG→Prop} (hi:l[i]? =some (.own v sz (xs.map enc))) {b:Nat} (hl:xs.length<Ax∧(xs.length+1)*b≤140737488355328) (hg:GX enc sz)
 (hk: ∀v' σ',Sat σ' (l.set i (.own v' sz ((xs++[x]).map enc)))→K v' σ') (he:e=enc x:=by rfl):AQ b σ sz v (.l [e] f) K:=by
 subst he;refine hAppend h i hi (by simp;omega) (fun e he=>by simp at he;subst he;exact(hg x).1) (fun e he=>by simp at he;subst he;exact(hg x).2) fun v' σ' hs=>hk v' σ' ?_
 rw[List.map_append];exact hs
theorem PD {l:List At} (h:Sat σ l) (i:Nat) {α:Type} {enc:α→List V} {sz:Nat} {xs ys:List α} {v:V} {f:Bool} {K:V→AG→Prop} (hi:l[i]? =some (.own v sz (xs.map enc))) {b:Nat} (hl:xs.length+ys.length≤Ax∧(xs.length+ys.length)*b≤140737488355328) (hg:GX enc sz)
 (hk: ∀v' σ',Sat σ' (l.set i (.own v' sz ((xs++ys).map enc)))→K v' σ'):AQ b σ sz v (.l (ys.map enc) f) K:=by
 obtain⟨h1,h2⟩:=FU hg ys;refine hAppend h i hi (by simpa using hl) h1 h2 fun v' σ' hs=>hk v' σ' ?_
 rw[List.map_append];exact hs
theorem N0 {l:List At} (h:Sat σ l) (i:Nat) {v:V} {sz:Nat} {es:List (List V)} (hi:l[i]? =some (.own v sz es)) {vf:V} (he:V.l es false=vf):BJ σ v (fun r σ'=>r= .ret vf∧σ'=emp):=
 Dj (he ▸ h.Jk i hi)
theorem BF {α:Type} {xs:List α} {k:Nat} {x:α} (h:xs[k]? =some x):xs.take (k+1)=xs.take k++[x]:=by
 rw[List.take_add_one,h];rfl
theorem rR {α:Type} {enc:α→List V} {xs:List α} {f:Bool} {sz:Nat} {K:V→Prop} {ki:IntKind} {j:Int} (k:Nat) {x:α} (hx:xs[k]? =some x) (hj:j=k) (hs:(enc x).length=sz) (h:K (.rp (enc x))) :
 Ab sz none (.l (xs.map enc) f) (.i ki j) K:=by
 subst hj;refine⟨Int.natCast_nonneg k,enc x,?_,hs,h⟩;rw[Int.toNat_natCast,Rv,hx];rfl
theorem jf {α:Type} {enc:α→List V} {xs:List α} {k:Nat} {A B:Prop} (hk:k≤xs.length) (h1: ∀x,xs[k]? =some x→k<xs.length→A) (h2:k=xs.length→B) :
 (decide ((k:Int)<((xs.map enc).length:Nat))=true→A)∧(decide ((k:Int)<((xs.map enc).length:Nat))=false→B):=
 fork (fun h=>by
  have hlt:=sY h
  exact h1 _ (Fs hlt) hlt) fun h=>h2 (jk hk h)
def Oo (a:Int):Nat→Int
 | 0=>a
 | k+1=>IntKind.i64.wrap (Oo a k+1)
abbrev Bo (k:Nat):Int:=Oo 0 k
theorem RT {a:Int} (ha: -4611686018427387904≤a): ∀ {k:Nat},a+k≤4611686018427387904→Oo a k=a+k
 | 0,_=>by simp[Oo]
 | k+1,h=>by
   rw[Oo,RT ha (by omega),wrap64 (by omega) (by omega)];omega
theorem Ad {k:Nat} (h:k≤Ax+8):Bo k=k:=by
 rw[Bo,RT (by omega) (by simp only[Ax]at h;omega)];omega
theorem aK {α:Type} {enc:α→List V} {xs:List α} {k:Nat} {A B:Prop} (hk:k≤xs.length) (hm:xs.length≤Ax) (h1: ∀x,xs[k]? =some x→k<xs.length→A) (h2:k=xs.length→B) :
 (decide (Bo k<((xs.map enc).length:Nat))=true→A)∧(decide (Bo k<((xs.map enc).length:Nat))=false→B):=by
 rw[Ad (by omega)];exact jf hk h1 h2
theorem xp {α:Type} {enc:α→List V} {xs:List α} {f:Bool} {sz:Nat} {K:V→Prop} {ki:IntKind} {k:Nat} {x:α} (hx:xs[k]? =some x) (hm:xs.length≤Ax) (hs:(enc x).length=sz) (h:K (.rp (enc x))) :
 Ab sz none (.l (xs.map enc) f) (.i ki (Bo k)) K:=
 rR k hx (Ad (by have:=(List.getElem?_eq_some_iff.1 hx).1;omega)) hs h
theorem Cz {α:Type} {xs:List α} {k:Nat} (h:k=xs.length):xs.take k=xs:=by rw[h,List.take_length]
end Go.Gl
namespace Go.Gl
structure Of where
 parents:List Int
 AL:List Int
 inits:List (Int×Int)
 deriving DecidableEq,Inhabited
structure Node where
 op:Int
 n:Int
 kids:List Int
 deriving DecidableEq,Inhabited
inductive Fact where
 | mk (op arg:Int) (path:List Int) (cls n:Int) (kids:List Fact)
 deriving Inhabited
namespace Fact
def op:Fact→Int|mk o _ _ _ _ _=>o
def arg:Fact→Int|mk _ a _ _ _ _=>a
def path:Fact→List Int|mk _ _ p _ _ _=>p
def cls:Fact→Int|mk _ _ _ c _ _=>c
def n:Fact→Int|mk _ _ _ _ n _=>n
def kids:Fact→List Fact|mk _ _ _ _ _ k=>k
mutual
def G8 {α:Type} (g:Fact→List α→α):Fact→α
 | .mk o a p c n k=>g (.mk o a p c n k) (WQ g k)
 termination_by structural f=>f
def WQ {α:Type} (g:Fact→List α→α):List Fact→List α
 | []=>[]
 | x::r=>G8 g x::WQ g r
 termination_by structural l=>l
end
theorem cP {α:Type} (g:Fact→List α→α) (l:List Fact):WQ g l=l.map (G8 g):=by
 induction l with
 | nil=>rfl
 | cons x r ih=>simp[WQ,ih]
theorem Dg {α:Type} (g:Fact→List α→α) (f:Fact):G8 g f=g f (f.kids.map (G8 g)):=by
 cases f with
 | mk o a p c n k=>simp[G8,cP,kids]
theorem ind {motive:Fact→Prop} (h: ∀f,(∀k∈f.kids,motive k)→motive f) (f:Fact):motive f:=by
 refine Fact.rec (motive_1:=motive) (motive_2:=fun l=> ∀k∈l,motive k) (fun o a p c n k ih=>h _ ih) (fun _ h=>by cases h) (fun x r hx hr k hk=>?_) f;rcases G3.1 hk with rfl|hk
 ·exact hx
 ·exact hr k hk
def size (f:Fact):Nat:=G8 (fun f l=>1+f.path.length+f.kids.length+l.sum) f
end Fact
structure Ov where
 kind:Int
 gen:Int
 fact:Fact
 node:Int
 deriving Inhabited
structure Prog where
 AU:List Of
 AL:Int
 EH:List Int
 methods:List Ov
 nodes:List Node
 main:Int
 deriving Inhabited
structure AM where
 parents:List (List Int)
 owner:List Int
 deriving DecidableEq,Inhabited
abbrev eI (n:Int):V:= .i .i64 n
def SB (c:Of):List V:=[.l (iL c.parents) false,.l (iL c.AL) false,.l (c.inits.map fun p=>[eI p.1,eI p.2]) false]
def Ly (x:Node):List V:=[eI x.op,eI x.n,.l (iL x.kids) false]
def Gb (f:Fact):List V:=f.G8 fun f l=>[eI f.op,eI f.arg,.l (iL f.path) false,eI f.cls,eI f.n,.l l false]
abbrev xF (f:Fact):List V:=[eI f.op,eI f.arg,.l (iL f.path) false,eI f.cls,eI f.n,.l (f.kids.map Gb) false]
theorem CO (f:Fact):Gb f=xF f:=Fact.Dg _ f
abbrev facts (l:List Fact):List (List V):=l.map Gb
def Zm (m:Ov):List V:=[eI m.kind,eI m.gen,eI m.fact.op,eI m.fact.arg,.l (iL m.fact.path) false,eI m.fact.cls,eI m.fact.n,.l (facts m.fact.kids) false,eI m.node]
def Bz (p:Prog):List V:=[.l (p.AU.map SB) false,eI p.AL,.l (iL p.EH) false,.l (p.methods.map Zm) false,.l (p.nodes.map Ly) false,eI p.main]
def CY (w:AM):List V:=[.l (Ji w.parents) false,.l (iL w.owner) false]
end Go.Gl
namespace Go.Gl
open Go.Proofs
theorem Sn:Sat emp []:=Sat.nil
theorem Mx:Ax=17592186044416:=rfl
abbrev oM (d s:Nat):AS:=⟨some d,.mv (.t s),none⟩
abbrev Aw (d s n:Nat):AS:=⟨some d,.mv (.t s),some (n,true)⟩
abbrev B0 (d s n:Nat):AS:=⟨some d,.mv (.t s),some (n,false)⟩
abbrev BY (d:Nat) (b:Bool):AS:=⟨some d,.mv (.c (.b b)),none⟩
abbrev Bg (d:Nat) (i:Int):AS:=⟨some d,.mv (.c (.i .i64 i)),none⟩
abbrev FH (d:Nat):AS:=⟨some d,.mv (.c (.l [] true)),none⟩
abbrev oL (d s:Nat):AS:=⟨some d,.load none (.t s),none⟩
abbrev Av (d s n:Nat):AS:=⟨some d,.load none (.t s),some (n,true)⟩
abbrev DA (d s n:Nat):AS:=⟨some d,.load none (.t s),some (n,false)⟩
abbrev BW (d k s:Nat):AS:=⟨some d,.load (some k) (.t s),none⟩
abbrev QK (d k s n:Nat):AS:=⟨some d,.load (some k) (.t s),some (n,true)⟩
abbrev rG (d k s n:Nat):AS:=⟨some d,.load (some k) (.t s),some (n,false)⟩
abbrev oF (d k s:Nat):AS:=⟨some d,.GZ k (.t s),none⟩
abbrev Bh (d k s n:Nat):AS:=⟨some d,.GZ k (.t s),some (n,true)⟩
abbrev EG (d k s n:Nat):AS:=⟨some d,.GZ k (.t s),some (n,false)⟩
abbrev oI (d k s t:Nat):AS:=⟨some d,.BG k none (.t s) (.t t),none⟩
abbrev E4 (d k s t n:Nat):AS:=⟨some d,.BG k none (.t s) (.t t),some (n,true)⟩
abbrev ZR (d k s t n:Nat):AS:=⟨some d,.BG k none (.t s) (.t t),some (n,false)⟩
abbrev oS (k s t:Nat):AS:=⟨none,.store k (.t s) (.t t),none⟩
abbrev oE (d s:Nat):AS:=⟨some d,.len (.t s),none⟩
abbrev Jn (d s n:Nat):AS:=⟨some d,.len (.t s),some (n,true)⟩
abbrev M3 (d s n:Nat):AS:=⟨some d,.len (.t s),some (n,false)⟩
abbrev oN (d s:Nat):AS:=⟨some d,.not (.t s),none⟩
abbrev Ik (d s n:Nat):AS:=⟨some d,.not (.t s),some (n,true)⟩
abbrev Ud (d s n:Nat):AS:=⟨some d,.not (.t s),some (n,false)⟩
abbrev oK (d s:Nat):AS:=⟨some d,.D5 (.t s),none⟩
abbrev oX (d k s:Nat):AS:=⟨some d,.extract k (.t s),none⟩
abbrev oB (d s:Nat):AS:=⟨some d,.box (.t s),none⟩
abbrev C9 (d s:Nat):AS:=⟨some d,.MS (.t s),none⟩
abbrev oG (d:Nat) (o:BinOp) (s t:Nat):AS:=⟨some d,.bin o (.t s) (.t t),none⟩
abbrev Ak (d:Nat) (o:BinOp) (s:Nat) (i:Int):AS:=⟨some d,.bin o (.t s) (.c (.i .i64 i)),none⟩
abbrev F8 (d:Nat) (o:BinOp) (s t n:Nat):AS:=⟨some d,.bin o (.t s) (.t t),some (n,true)⟩
abbrev M0 (d:Nat) (o:BinOp) (s t n:Nat):AS:=⟨some d,.bin o (.t s) (.t t),some (n,false)⟩
abbrev EX (d:Nat) (o:BinOp) (s:Nat) (i:Int) (n:Nat):AS:=⟨some d,.bin o (.t s) (.c (.i .i64 i)),some (n,true)⟩
abbrev E5 (d:Nat) (o:BinOp) (s:Nat) (i:Int) (n:Nat):AS:=⟨some d,.bin o (.t s) (.c (.i .i64 i)),some (n,false)⟩
abbrev oP (d s t:Nat):AS:=⟨some d,.pick (.t s) (.t t) (.c (.b false)),none⟩
abbrev oQ (d s t:Nat):AS:=⟨some d,.pick (.t s) (.c (.b true)) (.t t),none⟩
abbrev oC (d f s:Nat):AS:=⟨some d,.call f [.t s],none⟩
abbrev CG (d f s t:Nat):AS:=⟨some d,.call f [.t s,.t t],none⟩
abbrev QF (d f s t u:Nat):AS:=⟨some d,.call f [.t s,.t t,.t u],none⟩
abbrev QE (d f s t u v:Nat):AS:=⟨some d,.call f [.t s,.t t,.t u,.t v],none⟩
abbrev oA (d k e s t:Nat):AS:=⟨some d,.append k e (.t s) (.t t),none⟩
abbrev oo (d:Nat) (o:EW):AS:=⟨some d,o,none⟩
abbrev Cs (d:Nat) (o:EW) (n:Nat):AS:=⟨some d,o,some (n,true)⟩
abbrev HR (d:Nat) (o:EW) (n:Nat):AS:=⟨some d,o,some (n,false)⟩
abbrev sr (l:List Nat) (o:List AS) (k:AJ):AJ:= .seq l (.A2 o) k
abbrev dO (i:Nat) (o:AS):CD:=⟨i,o,[],[]⟩
abbrev CT (f k:Nat) (a:AJ) (rs:List Nat):Prop:= ∀ {args:List V} (_:args.length≤k) {σ:AG} {Q:R→AG→Prop} (_:W Tryz.prog a (dZ rs Q) (A0 0 args) σ),BQ Tryz.prog f args σ Q
theorem cT {f k:Nat} {a:AJ} {rs:List Nat} {fn:Func} (hf:Tryz.prog.funcs[f]? =some fn) (fz:List Nat:=[]) (pu:List Nat:=[]) (hk:fn.ntmps=k:=by exact rfl) (hok:okF Tryz.prog f=true:=by kernel_rfl) (hb:fn.body.bind (res Tryz.prog fn.ntmps pu fz)=some (erase a):=by kernel_rfl) (hr:Fe fn.results.toList=some rs:=by exact rfl):CT f k a rs:=@fun _ hn _ _ h=>OR hf hok hb hr (hk ▸ hn) (kL h)
abbrev CU (f k:Nat) (a:AJ) (rs:List RS):Prop:= ∀ {args:List V} (_:args.length≤k) {σ:AG} {Q:R→AG→Prop} (_:W Tryz.prog a (SG rs Q) (A0 0 args) σ),BQ Tryz.prog f args σ Q
theorem cU {f k:Nat} {a:AJ} {rs:List RS} {fn:Func} (hf:Tryz.prog.funcs[f]? =some fn) (fz:List Nat:=[]) (pu:List Nat:=[]) (hk:fn.ntmps=k:=by exact rfl) (hok:okF Tryz.prog f=true:=by kernel_rfl) (hb:fn.body.bind (res Tryz.prog fn.ntmps pu fz)=some (erase a):=by kernel_rfl) (hr:MN Tryz.prog fn.results.toList=some rs:=by kernel_rfl):CU f k a rs:=@fun _ hn _ _ h=>Ez hf hok hb hr (hk ▸ hn) (kL h)
abbrev ac2:AJ:=(.A2 [oo 0 (.call 1 [])])
abbrev ac6:AJ:=(sr [1,2,3] [C9 3 0,BY 6 false] (sr [1,3,7,8] [BW 17 6 3,oM 18 1,oM 19 2,oo 20 (.conv .i64 (.t 19)),QF 21 15 17 18 20,oM 16 21,oX 22 0 16,oX 23 1 16,oM 7 22,oM 8 23] (sr [7,8,9,10] [BW 25 6 3,oM 26 1,CG 27 17 25 26,oM 24 27,oX 28 0 24,oX 29 1 24,oM 9 28,oM 10 29] (.seq [7,9] (sr [7,9,35] [oM 30 8,Ak 31 .neq 30 0,oM 32 31,B0 33 10 32,E5 34 .neq 33 0 32,oQ 35 32 34] (.cond (.t 35) (sr [6] [oM 36 7,oE 37 36,Ak 38 .eql 37 0,oM 39 38,Cs 40 (.call 14 []) 39,oP 41 39 40,oM 6 41] .ret) .skip)) (.seq [] (sr [7,9,11] [Bg 11 0] (.block 0 (.loop [7,9,11] (.seq [7,9,11] (sr [7,9,11,45] [oM 42 11,oM 43 7,oE 44 43,oG 45 .lss 42 44] (.cond (.t 45) .skip (.exit 0))) (.seq [7,9,11] (.block 1 (sr [7,9,11,12] [oM 48 7,oM 49 11,oI 50 2 48 49,BW 51 2 50,oo 12 (.alloc [(.i .i64 0),(.i .i64 0)]),oS 2 12 51] (.seq [7,9,11,12] (sr [7,9,11,12,64] [oo 52 (.BG 1 (some 2) (.t 12) (.c (.i .i64 0))),oL 53 52,oo 54 (.BG 1 (some 2) (.t 12) (.c (.i .i64 1))),oL 55 54,oG 56 .eql 53 55,oM 57 56,B0 58 7 57,HR 59 (.BG 1 (some 2) (.t 12) (.c (.i .i64 1))) 57,DA 60 59 57,HR 61 (.BG 1 (some 2) (.t 12) (.c (.i .i64 0))) 57,DA 62 61 57,HR 63 (.call 23 [(.t 58),(.t 60),(.t 62)]) 57,oQ 64 57 63] (.cond (.t 64) (sr [6] [BY 6 false] .ret) .skip)) (.seq [7,9,11,12] (sr [7,9,11,12,13] [Bg 13 0] (.block 2 (.loop [7,9,11,12,13] (.seq [7,9,11,12,13] (sr [7,9,11,12,13,68] [oM 65 13,oM 66 7,oE 67 66,oG 68 .lss 65 67] (.cond (.t 68) .skip (.exit 2))) (.seq [7,9,11,12,13] (.block 3 (.seq [7,9,11,12,13,90] (.BC [7,9,11,12,13,90] [dO 0 (oM 71 7),dO 1 (oM 72 13),dO 2 (oI 73 2 71 72),dO 3 (oo 74 (.BG 1 (some 2) (.t 73) (.c (.i .i64 0)))),dO 4 (oL 75 74),dO 5 (oo 76 (.BG 1 (some 2) (.t 12) (.c (.i .i64 1)))),dO 6 (oL 77 76),dO 7 (oG 78 .eql 75 77),dO 8 (oM 79 78),dO 9 (Aw 80 7 79),dO 10 (Cs 81 (.BG 1 (some 2) (.t 12) (.c (.i .i64 0))) 79),dO 11 (Av 82 81 79),dO 12 (Aw 83 7 79),dO 13 (Aw 84 13 79),dO 14 (E4 85 2 83 84 79),dO 15 (Cs 86 (.BG 1 (some 2) (.t 85) (.c (.i .i64 1))) 79),dO 16 (Av 87 86 79),dO 17 (Cs 88 (.call 23 [(.t 80),(.t 82),(.t 87)]) 79),dO 18 (Ik 89 88 79),dO 19 (oP 90 79 89)]) (.cond (.t 90) (sr [6] [BY 6 false] .ret) .skip))) (.A2 [oM 69 13,Ak 70 .add 69 1,oM 13 70])))))) (sr [7,9,11,12,14] [Bg 14 0] (.block 4 (.loop [7,9,11,12,14] (.seq [7,9,11,12,14] (sr [7,9,11,12,14,94] [oM 91 14,oM 92 9,oE 93 92,oG 94 .lss 91 93] (.cond (.t 94) .skip (.exit 4))) (.seq [7,9,11,12,14] (.block 5 (sr [7,9,11,12,14,15] [Bg 15 0] (.block 6 (.loop [7,9,11,12,14,15] (.seq [7,9,11,12,14,15] (sr [7,9,11,12,14,15,98] [oM 97 15,Ak 98 .lss 97 2] (.cond (.t 98) .skip (.exit 6))) (.seq [7,9,11,12,14,15] (.block 7 (.seq [7,9,11,12,14,15,148] (.BC [7,9,11,12,14,15,148] (dO 0 (oM 101 9)::dO 1 (oM 102 14)::dO 2 (oM 103 15)::dO 3 (oI 104 2 101 102)::dO 4 (oo 105 (.BG 1 (some 2) (.t 104) (.t 103)))::dO 5 (oL 106 105)::dO 6 (oo 107 (.BG 1 (some 2) (.t 12) (.c (.i .i64 0))))::dO 7 (oL 108 107)::dO 8 (oG 109 .eql 106 108)::dO 9 (oM 110 109)::dO 10 (Aw 111 7 110)::dO 11 (Aw 112 9 110)::dO 12 (Aw 113 14 110)::dO 13 (Aw 114 15 110)::dO 14 (Cs 115 (.bin .sub (.c (.i .i64 1)) (.t 114)) 110)::dO 15 (E4 116 2 112 113 110)::dO 16 (Cs 117 (.BG 1 (some 2) (.t 116) (.t 115)) 110)::dO 17 (Av 118 117 110)::dO 18 (Cs 119 (.BG 1 (some 2) (.t 12) (.c (.i .i64 1))) 110)::dO 19 (Av 120 119 110)::dO 20 (Cs 121 (.call 23 [(.t 111),(.t 118),(.t 120)]) 110)::dO 21 (Ik 122 121 110)::dO 22 (oP 123 110 122)::dO 23 (oM 124 123)::dO 24 (B0 125 9 124)::dO 25 (B0 126 14 124)::dO 26 (B0 127 15 124)::dO 27 (ZR 128 2 125 126 124)::dO 28 (HR 129 (.BG 1 (some 2) (.t 128) (.t 127)) 124)::dO 29 (DA 130 129 124)::dO 30 (HR 131 (.BG 1 (some 2) (.t 12) (.c (.i .i64 1))) 124)::dO 31 (DA 132 131 124)::dO 32 (M0 133 .eql 130 132 124)::dO 33 (B0 134 133 124)::dO 34 (Aw 135 7 134)::dO 35 (Cs 136 (.BG 1 (some 2) (.t 12) (.c (.i .i64 0))) 134)::dO 36 (Av 137 136 134)::dO 37 (Aw 138 9 134)::dO 38 (Aw 139 14 134)::dO 39 (Aw 140 15 134)::dO 40 (Cs 141 (.bin .sub (.c (.i .i64 1)) (.t 140)) 134)::dO 41 (E4 142 2 138 139 134)::dO 42 (Cs 143 (.BG 1 (some 2) (.t 142) (.t 141)) 134)::dO 43 (Av 144 143 134)::dO 44 (Cs 145 (.call 23 [(.t 135),(.t 137),(.t 144)]) 134)::dO 45 (Ik 146 145 134)::dO 46 (HR 147 (.pick (.t 134) (.t 146) (.c (.b false))) 124)::dO 47 (oQ 148 124 147):: [])) (.cond (.t 148) (sr [6] [BY 6 false] .ret) .skip))) (.A2 [oM 99 15,Ak 100 .add 99 1,oM 15 100]))))))) (.A2 [oM 95 14,Ak 96 .add 95 1,oM 14 96])))))))))) (.A2 [oM 46 11,Ak 47 .add 46 1,oM 11 47])))))) (sr [6] [oo 149 (.call 14 []),oM 6 149] .ret))))))
theorem ctr6:CT 6 150 ac6 [6]:=cT Tryz.func6 [3]
abbrev x7:AJ:=(sr [3,4,5] [C9 3 0,C9 4 1,C9 5 2,FH 6,Bg 7 0] (sr [4,5,8] [BW 12 6 3,oC 13 42 12,oo 8 (.alloc [.pn]),oS 1 8 13] (.seq [4,5,8] (sr [4,5,8,25] [oL 14 8,oL 15 4,CG 16 49 14 15,oN 17 16,oM 18 17,DA 19 5 18,E5 20 .lss 19 1 18,oQ 21 18 20,oM 22 21,DA 23 5 22,E5 24 .gtr 23 4 22,oQ 25 22 24] (.cond (.t 25) (sr [6,7] [FH 6,Bg 7 2] .ret) .skip)) (sr [4,5,8,9] [oo 9 (.alloc [(.l [] true)])] (.seq [9] (sr [4,5,8,9,28] [oL 26 8,oL 27 4,CG 28 50 26 27] (.block 0 (.Cg [4,5,8,9] (.t 28) [29] (.A2 [oo 10 (.alloc [(.i .i64 0)]),oS 1 10 29]) (.block 1 (sr [5,8,9,10,32] [oL 30 8,oL 31 4,CG 32 50 30 31] (.block 2 (.Cg [5,8,9,10] (.t 32) [33] (.A2 [oM 11 33]) (.block 3 (.seq [9,10,11,56] (.BC [9,10,11,56] [dO 0 (oL 34 8),dO 1 (oK 35 34),dO 2 (oF 36 0 35),dO 3 (oF 37 3 36),dO 4 (oL 38 37),dO 5 (oL 39 10),dO 6 (oI 40 9 38 39),dO 7 (oF 41 0 40),dO 8 (oL 42 41),dO 9 (oL 43 5),dO 10 (oG 44 .eql 42 43),dO 11 (oM 45 44),dO 12 (Av 46 8 45),dO 13 (Av 47 10 45),dO 14 (Aw 48 11 45),dO 15 (Cs 49 (.call 44 [(.t 46),(.t 47),(.t 48)]) 45),dO 16 (oP 50 45 49),dO 17 (oM 51 50),dO 18 (Av 52 8 51),dO 19 (Av 53 10 51),dO 20 (Aw 54 11 51),dO 21 (Cs 55 (.call 45 [(.t 52),(.t 53),(.t 54)]) 51),dO 22 (oP 56 51 55)]) (.cond (.t 56) (.A2 [oL 57 9,oL 58 10,oM 59 11,oo 60 (.build [(.i .i64 0),(.i .i64 0)] [(0,1,(.t 58)),(1,1,(.t 59))]),oo 61 (.Am 2 1 [(.i .i64 0),(.i .i64 0)] [(0,(.t 60))]),oA 62 2 16 57 61,oS 1 9 62]) .skip)))))))))) (sr [6,7] [oL 63 9,oC 64 51 63,oM 6 64,Bg 7 0] .ret))))))
theorem yg:CT 15 65 x7 [6,7]:=cT Tryz.func15 [3,4,5]
abbrev x6:AJ:=(sr [2,3] [C9 2 0,C9 3 1,FH 4,Bg 5 0] (sr [3,6] [BW 10 6 2,oC 11 42 10,oo 6 (.alloc [.pn]),oS 1 6 11] (.seq [3,6] (sr [3,6,15] [oL 12 6,oL 13 3,CG 14 49 12 13,oN 15 14] (.cond (.t 15) (sr [4,5] [FH 4,Bg 5 2] .ret) .skip)) (sr [3,6,7] [oo 7 (.alloc [(.l [] true)])] (.seq [7] (sr [3,6,7,18] [oL 16 6,oL 17 3,CG 18 50 16 17] (.block 0 (.Cg [3,6,7] (.t 18) [19] (.A2 [oo 8 (.alloc [(.i .i64 0)]),oS 1 8 19]) (.block 1 (sr [6,7,8,22] [oL 20 6,oL 21 3,CG 22 50 20 21] (.block 2 (.Cg [6,7,8] (.t 22) [23] (.A2 [oM 9 23]) (.block 3 (sr [7,8,9,44] [oL 24 8,oM 25 9,oG 26 .lss 24 25,oM 27 26,Av 28 6 27,Av 29 8 27,Aw 30 9 27,Cs 31 (.call 44 [(.t 28),(.t 29),(.t 30)]) 27,oP 32 27 31,oM 33 32,Av 34 6 33,Av 35 8 33,Aw 36 9 33,Cs 37 (.call 54 [(.t 34),(.t 35),(.t 36)]) 33,oP 38 33 37,oM 39 38,Av 40 6 39,Aw 41 9 39,Av 42 8 39,Cs 43 (.call 54 [(.t 40),(.t 41),(.t 42)]) 39,oP 44 39 43] (.cond (.t 44) (.A2 [oL 45 7,oL 46 8,oM 47 9,oo 48 (.build [(.i .i64 0),(.i .i64 0)] [(0,1,(.t 46)),(1,1,(.t 47))]),oo 49 (.Am 2 1 [(.i .i64 0),(.i .i64 0)] [(0,(.t 48))]),oA 50 2 16 45 49,oS 1 7 50]) .skip)))))))))) (sr [4,5] [oL 51 7,oC 52 51 51,oM 4 52,Bg 5 0] .ret))))))
theorem yf:CT 17 53 x6 [4,5]:=cT Tryz.func17 [2,3]
abbrev ac23:AJ:=(sr [0,1,2] [BY 6 false] (.seq [] (sr [0,1,2,7] [Bg 7 0] (.block 0 (.loop [0,1,2,7] (.seq [0,1,2,7] (sr [0,1,2,7,11] [oM 8 7,oM 9 0,oE 10 9,oG 11 .lss 8 10] (.cond (.t 11) .skip (.exit 0))) (.seq [0,1,2,7] (.block 1 (sr [0,1,2,7,21] [oM 14 0,oM 15 7,oI 16 2 14 15,BW 17 2 16,oM 18 1,oM 19 2,oo 20 (.build [(.i .i64 0),(.i .i64 0)] [(0,1,(.t 18)),(1,1,(.t 19))]),oo 21 (.ZG 2 false (.t 17) (.t 20))] (.cond (.t 21) (sr [6] [BY 6 true] .ret) .skip))) (.A2 [oM 12 7,Ak 13 .add 12 1,oM 7 13])))))) (sr [6] [BY 6 false] .ret)))
theorem ye:CT 23 22 ac23 [6]:=cT Tryz.func23
abbrev x5:AJ:=(sr [1] [C9 1 0,oo 2 (.mv (.c .pn))] (sr [1,3,4] [BW 6 6 1,oC 7 71 6,oM 5 7,oX 8 0 5,oX 9 1 5,oo 3 (.alloc [(.l [] true),(.l [] true)]),oS 2 3 8,oM 4 9] (.seq [1,3] (sr [1,3,11] [oM 10 4,Ak 11 .neq 10 0] (.cond (.t 11) (sr [2] [oo 2 (.mv (.c .pn))] .ret) .skip)) (sr [2] [BW 12 6 1,BW 13 2 3,oo 14 (.Fw),oo 15 (.build [(.l [] true),(.i .i64 0),(.l [] true),(.l [] true),(.l [] true),(.i .i64 0),(.l [] true),(.l [] true),.mn] [(0,6,(.t 12)),(6,2,(.t 13)),(8,1,(.t 14))]),C9 16 15,oM 2 16] .ret))))
theorem oj:CT 42 17 x5 [2]:=cT Tryz.func42 [1,16]
abbrev x4:AJ:=(sr [0,1,2] [BY 6 false] (.seq [7,8] (.BC [7,8] [dO 0 (oM 9 0),dO 1 (oK 10 9),dO 2 (oF 11 0 10),dO 3 (oF 12 3 11),dO 4 (oL 13 12),dO 5 (oM 14 1),dO 6 (oI 15 9 13 14),dO 7 (BW 16 9 15),dO 8 (oM 17 0),dO 9 (oK 18 17),dO 10 (oF 19 0 18),dO 11 (oF 20 3 19),dO 12 (oL 21 20),dO 13 (oM 22 2),dO 14 (oI 23 9 21 22),dO 15 (BW 24 9 23),dO 16 (oo 7 (.alloc [(.i .i64 0),(.i .i64 0),(.i .i64 0),(.i .i64 0),(.l [] true),(.i .i64 0),(.i .i64 0),(.l [] true),(.i .i64 0)])),dO 17 (oo 8 (.alloc [(.i .i64 0),(.i .i64 0),(.i .i64 0),(.i .i64 0),(.l [] true),(.i .i64 0),(.i .i64 0),(.l [] true),(.i .i64 0)])),⟨18,oS 9 7 16,[15,12],[BW 24 9 23,oL 21 20]⟩,dO 19 (oS 9 8 24)]) (sr [6] [oF 25 1 7,oL 26 25,oF 27 1 8,oL 28 27,oG 29 .eql 26 28,oM 30 29,Bh 31 0 7 30,Av 32 31 30,Bh 33 0 8 30,Av 34 33 30,F8 35 .eql 32 34 30,oP 36 30 35,oM 6 36] .ret)))
theorem yd:CT 44 37 x4 [6]:=cT Tryz.func44
abbrev x3:AJ:=(sr [0,1,2] [BY 6 false] (sr [6] [oM 7 0,oM 8 1,oM 9 2,QF 10 54 7 8 9,oM 11 10,Aw 12 0 11,Aw 13 2 11,Aw 14 1 11,Cs 15 (.call 54 [(.t 12),(.t 13),(.t 14)]) 11,Ik 16 15 11,oP 17 11 16,oM 6 17] .ret))
theorem yc:CT 45 18 x3 [6]:=cT Tryz.func45
abbrev xz:AJ:=(sr [0,1] [BY 4 false] (sr [4] [oM 5 0,oo 6 (.UN 0 true (.t 5)),oM 7 6,Aw 8 1 7,EX 9 .geq 8 0 7,oP 10 7 9,oM 11 10,Aw 12 1 11,Aw 13 0 11,Cs 14 (.D5 (.t 13)) 11,Bh 15 0 14 11,Bh 16 2 15 11,Av 17 16 11,Jn 18 17 11,F8 19 .lss 12 18 11,oP 20 11 19,oM 4 20] .ret))
theorem oh:CT 49 21 xz [4]:=cT Tryz.func49
abbrev xy:AJ:=(sr [2,3] [C9 2 0,C9 3 1,oo 4 (.mv (.c .GP))] (sr [4] [oo 5 (.GN (.func 75) [] [(.t 2),(.t 3)]),oM 4 5] .ret))
theorem yb:CT 50 6 xy [4]:=cT Tryz.func50 [2,3]
abbrev rU:AJ:=(sr [0] [FH 2] (sr [2] [oM 3 0,oM 4 0,oE 5 4,oM 6 0,oE 7 6,oo 8 (.slice 2 (.t 3) none (some (.t 5)) (some (.t 7))),oM 2 8] .ret))
theorem ya:CT 51 9 rU [2]:=cT Tryz.func51
abbrev xx:AJ:=(sr [0,1,2] [BY 6 false] (sr [0,1,2,7] [oM 10 1,oM 11 2,oo 12 (.build [(.i .i64 0),(.i .i64 0)] [(0,1,(.t 10)),(1,1,(.t 11))]),oo 7 (.alloc [(.i .i64 0),(.i .i64 0)]),oS 2 7 12] (.seq [0,1,2,7,8,9] (.BC [0,1,2,7,8,9] [dO 0 (oM 14 0),dO 1 (oK 15 14),dO 2 (oF 16 8 15),dO 3 (oL 17 16),dO 4 (BW 18 2 7),dO 5 (oo 19 (.lookup (.a [.i64,.i64]) (.b false) true (.t 17) (.t 18))),dO 6 (oM 13 19),dO 7 (oX 20 0 13),dO 8 (oX 21 1 13),dO 9 (oM 8 20),dO 10 (oM 9 21)]) (.seq [8] (sr [0,1,2,7,8,23] [oM 22 9,oN 23 22] (.cond (.t 23) (.seq [0,7,8] (.BC [0,7,8] [dO 0 (oM 25 0),dO 1 (oK 26 25),dO 2 (oF 27 6 26),dO 3 (BW 28 2 27),dO 4 (oM 29 0),dO 5 (oK 30 29),dO 6 (oF 31 0 30),dO 7 (oF 32 3 31),dO 8 (oL 33 32),dO 9 (oM 34 1),dO 10 (oI 35 9 33 34),dO 11 (oF 36 2 35),dO 12 (BW 37 6 36),dO 13 (oM 38 0),dO 14 (oK 39 38),dO 15 (oF 40 0 39),dO 16 (oF 41 3 40),dO 17 (oL 42 41),dO 18 (oM 43 2),dO 19 (oI 44 9 42 43),dO 20 (oF 45 2 44),dO 21 (BW 46 6 45),dO 22 (QF 47 76 28 37 46),dO 23 (oM 24 47),dO 24 (oX 48 0 24),dO 25 (oX 49 1 24),dO 26 (oM 8 48)]) (.BC [8] [dO 0 (oM 50 0),dO 1 (oK 51 50),dO 2 (oF 52 8 51),dO 3 (oL 53 52),dO 4 (BW 54 2 7),dO 5 (oM 55 8),⟨6,⟨none,.Cw (.a [.i64,.i64]) (.t 53) (.t 54) (.t 55),none⟩,[],[]⟩])) .skip)) (sr [6] [oM 56 8,oM 6 56] .ret)))))
theorem yZ:CT 54 57 xx [6]:=cT Tryz.func54
abbrev xw:AJ:=(sr [1,2] [C9 1 0,oo 2 (.alloc [(.l [] true),(.l [] true)]),Bg 3 0] (.seq [1,2] (sr [1,2,6] [BW 4 6 1,oC 5 107 4,Ak 6 .neq 5 0] (.cond (.t 6) (sr [2,3] [oo 7 (.build [(.l [] true),(.l [] true)] []),oS 2 2 7,Bg 3 2] .ret) .skip)) (sr [2,3] [BW 8 6 1,oC 9 108 8,oS 2 2 9,Bg 3 0] .ret)))
theorem og:CU 71 10 xw [.c 2 (some 2),.t 3]:=cU Tryz.func71 [1]
abbrev xv:AJ:=(sr [0,1] [BY 4 false] (sr [4] [oM 5 0,oM 6 1,CG 7 103 5 6,Ak 8 .geq 7 0,oM 4 8] .ret))
theorem oe:CT 72 9 xv [4]:=cT Tryz.func72
abbrev xu:AJ:=(sr [0,2,10,11,12] [oL 6 1,oK 7 6,oF 8 0 7,oF 9 3 8,oL 10 9,oE 11 10,Bg 12 0] (.block 0 (.loop [0,2,10,11,12] (sr [0,2,10,11,12,13] [oG 13 .lss 12 11] (.seq [0,2,10,11,12] (.cond (.t 13) .skip (.exit 0)) (.seq [0,2,10,11,12] (.block 1 (sr [0,2,4,5,10,11,12] [oM 14 12,oI 15 9 10 12,BW 16 9 15,oo 5 (.alloc [(.i .i64 0),(.i .i64 0),(.i .i64 0),(.i .i64 0),(.l [] true),(.i .i64 0),(.i .i64 0),(.l [] true),(.i .i64 0)]),oM 4 14,oS 9 5 16] (sr [0,2,10,11,12,26] [oF 17 1 5,oL 18 17,oL 19 2,oG 20 .eql 18 19,oM 21 20,Aw 22 0 21,Aw 23 4 21,Cs 24 (.Bs (.t 22) [(.t 23)]) 21,Ik 25 24 21,oP 26 21 25] (.cond (.t 26) .ret .skip)))) (.A2 [Ak 27 .add 12 1,oM 12 27])))))))
theorem yY:CT 75 28 xu []:=cT Tryz.func75
abbrev xr:AJ:=(sr [3,4,5] [C9 3 0,C9 4 1,C9 5 2,BY 6 false,Bg 7 0] (sr [4,5,8,9] [BW 11 2 3,BW 12 6 4,BW 13 6 5,oo 14 (.Am 6 2 [(.i .i64 0),(.i .i64 0),(.l [] true),(.i .i64 0),(.i .i64 0),(.l [] true)] [(0,(.t 12)),(1,(.t 13))]),CG 15 109 11 14,oM 10 15,oX 16 0 10,oX 17 1 10,oM 8 16,oM 9 17] (.seq [4,5,8] (sr [4,5,8,19] [oM 18 9,oN 19 18] (.cond (.t 19) (sr [6,7] [BY 6 false,Bg 7 2] .ret) .skip)) (sr [6,7] [oM 20 8,BW 21 6 4,BW 22 6 5,QF 23 110 20 21 22,oM 6 23,Bg 7 0] .ret))))
theorem yX:CT 76 24 xr [6,7]:=cT Tryz.func76 [3,4,5]
abbrev ac99:AJ:=(sr [0] [FH 2] (sr [2] [oM 3 0,oM 4 0,oE 5 4,oM 6 0,oE 7 6,oo 8 (.slice 1 (.t 3) none (some (.t 5)) (some (.t 7))),oM 2 8] .ret))
theorem yW:CT 99 9 ac99 [2]:=cT Tryz.func99
abbrev ql:AJ:=(sr [0,1] [Bg 4 0] (.seq [] (sr [0,1,7,8] [oM 6 0,oE 7 6,Bg 8 0] (.block 0 (.loop [0,1,7,8] (sr [0,1,7,8,9] [oG 9 .lss 8 7] (.seq [0,1,7,8] (.cond (.t 9) .skip (.exit 0)) (.seq [0,1,7,8] (.block 1 (sr [0,1,5,7,8] [oM 10 8,oM 5 10] (sr [0,1,5,7,8,16] [oM 11 1,oM 12 0,oM 13 5,oI 14 1 12 13,oL 15 14,oo 16 (.Bs (.t 11) [(.t 15)])] (.cond (.t 16) (sr [4] [oM 17 5,oM 4 17] .ret) .skip)))) (.A2 [Ak 18 .add 8 1,oM 8 18]))))))) (sr [4] [Bg 4 (-1)] .ret)))
theorem aW:CT 103 19 ql [4]:=cT Tryz.func103
abbrev qj:AJ:=(sr [1] [C9 1 0,Bg 2 0] (.seq [] (sr [4] [BW 6 6 1,oC 7 137 6,oM 5 7,oX 8 0 5,oX 9 1 5,oM 3 8,oM 4 9] (sr [11] [oM 10 4,oN 11 10] (.cond (.t 11) (sr [2] [Bg 2 2] .ret) .skip))) (sr [2] [Bg 2 0] .ret)))
theorem vj:CT 107 12 qj [2]:=cT Tryz.func107 [1]
abbrev qi:AJ:=(sr [1,2] [C9 1 0,oo 2 (.alloc [(.l [] true),(.l [] true)])] (sr [1,2,3] [BW 6 6 1,oC 7 138 6,oo 8 (.build [(.l [] true),(.l [] true)] [(0,1,(.t 7))]),oo 3 (.alloc [(.l [] true),(.l [] true)]),oS 2 3 8] (.seq [2,3] (sr [2,3,10,11,12] [oF 9 0 1,oL 10 9,oE 11 10,Bg 12 0] (.block 0 (.loop [2,3,10,11,12] (sr [2,3,10,11,12,13] [oG 13 .lss 12 11] (.seq [2,3,10,11,12] (.cond (.t 13) .skip (.exit 0)) (.seq [2,3,10,11,12] (.block 1 (sr [2,3,4,5,10,11,12] [oM 14 12,oI 15 3 10 12,BW 16 3 15,oo 5 (.alloc [(.l [] true),(.l [] true),(.l [] true)]),oM 4 14,oS 3 5 16] (sr [2,3,4,10,11,12,19,20] [oF 17 1 5,oL 18 17,oE 19 18,Bg 20 0] (.block 2 (.loop [2,3,4,10,11,12,19,20] (sr [2,3,4,10,11,12,19,20,21] [oG 21 .lss 20 19] (.seq [2,3,4,10,11,12,19,20] (.cond (.t 21) .skip (.exit 2)) (.seq [2,3,4,10,11,12,19,20] (.block 3 (.A2 [oF 22 1 3,oL 23 22,oM 24 4,Ak 25 .add 24 3,oo 26 (.Am 1 1 [(.i .i64 0)] [(0,(.t 25))]),oA 27 1 8 23 26,oF 28 1 3,oS 1 28 27])) (.A2 [Ak 29 .add 20 1,oM 20 29]))))))))) (.A2 [Ak 30 .add 12 1,oM 12 30]))))))) (sr [2] [BW 31 2 3,oS 2 2 31] .ret))))
theorem vg:CU 108 32 qi [.c 2 (some 2)]:=cU Tryz.func108 [1]
abbrev qh:AJ:=(sr [1,2] [C9 2 0,oo 4 (.mv (.c .pn)),BY 5 false] (sr [1,6,7] [BW 9 2 2,oC 10 139 9,oM 8 10,oX 11 0 8,oX 12 1 8,oM 6 11,oM 7 12] (sr [4,5] [oM 13 6,oM 14 7,oM 15 14,Aw 16 6 15,Aw 17 1 15,Cs 18 (.call 140 [(.t 16),(.t 17)]) 15,oP 19 15 18,oM 4 13,oM 5 19] .ret)))
theorem ve:CT 109 20 qh [4,5]:=cT Tryz.func109 [2]
abbrev qg:AJ:=(sr [0,4,5] [C9 4 1,C9 5 2,BY 6 false] (.seq [6] (.BC [6] [dO 0 (oM 7 0),dO 1 (BW 8 6 4),dO 2 (BW 9 6 5),⟨3,oC 10 143 9,[1],[BW 8 6 4]⟩,dO 4 (CG 11 142 8 10),dO 5 (CG 12 141 7 11),dO 6 (oN 13 12),dO 7 (oM 6 13)]) .ret))
theorem vd:CT 110 14 qg [6]:=cT Tryz.func110 [4,5]
end Go.Gl
