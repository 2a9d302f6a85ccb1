import Derived.Test.YtijbpgdmpejgoaaGreatProg
import Derived.KernelRfl
import Derived.Test.YtijbpgdmpejgoaaGreatQ7
set_option linter.all false
set_option linter.unusedVariables false
set_option linter.unusedSimpArgs false
namespace Go.Gl
variable {P:Program} {σ:AH} {env env':Env}
abbrev pk:List Nat→Env→(Env→Prop)→Prop
 | [],_,k=>k []
 | s::r,env,k=>match get s env with
   | some v=>pk r env fun e=>k ((s,v)::e)
   | none=>pk r env k
theorem F7: ∀ {l:List Nat} {env:Env} {k:Env→Prop},pk l env k=k (prune l env)
 | [],_,_=>rfl
 | s::r,env,k=>by
   simp only[pk,prune];cases get s env with
   | none=>exact F7 (l:=r)
   | some v=>exact F7 (l:=r)
abbrev WM:=(Ag→Env→AH→Prop)→Env→AH→Prop
def WT (P:Program) (ops:List AW) (K:Env→AH→Prop) (kp:Env→V→AH→Prop):Env→AH→Prop:=
 List.rec (motive:=fun _=>Env→AH→Prop) K (fun o _ ih env σ=>Hj P o env σ (fun v σ'=>ih (put o.dst v env) σ') (kp env)) ops
theorem rS {P:Program} {K:Env→AH→Prop} {kp:Env→V→AH→Prop}: ∀(ops:List AW) (env:Env) (σ:AH),WT P ops K kp env σ=Jd P ops K kp env σ
 | [],_,_=>rfl
 | o::r,env,σ=>by
   have:(fun(v:V) (σ':AH)=>WT P r K kp (put o.dst v env) σ')=fun v σ'=>Jd P r K kp (put o.dst v env) σ':=funext fun v=>funext fun σ'=>rS r _ _
   show Hj P o env σ (fun v σ'=>WT P r K kp (put o.dst v env) σ') (kp env)=_;rw[this];rfl
def WD (P:Program) (ops:List Cg) (K:Env→AH→Prop) (kp:V→AH→Prop):Env→AH→Prop:=
 List.rec (motive:=fun _=>Env→AH→Prop) K (fun d _ ih env σ=>Hj P d.o env σ (fun v σ'=>Ea P d.re (put d.o.dst v env) σ'∧ih (put d.o.dst v env) σ') kp) ops
theorem rT {P:Program} {K:Env→AH→Prop} {kp:V→AH→Prop}: ∀(ops:List Cg) (env:Env) (σ:AH),WD P ops K kp env σ=Db P ops K kp env σ
 | [],_,_=>rfl
 | d::r,env,σ=>by
   have:(fun(v:V) (σ':AH)=>Ea P d.re (put d.o.dst v env) σ'∧WD P r K kp (put d.o.dst v env) σ')=fun v σ'=>Ea P d.re (put d.o.dst v env) σ'∧Db P r K kp (put d.o.dst v env) σ':=funext fun v=>funext fun σ'=>by rw[rT r]
   show Hj P d.o env σ (fun v σ'=>Ea P d.re (put d.o.dst v env) σ'∧WD P r K kp (put d.o.dst v env) σ') kp=_;rw[this];rfl
def wSeq (l:List Nat) (iha ihb:WM):WM:=fun Q env σ=>iha (Ag.andThen (fun env σ=>pk l env fun E=>ihb Q E σ) Q) env σ
def zK (c:B1) (iha ihb:WM):WM:=fun Q env σ=>match ev env c with
    | some (.b t)=>(t=true→iha Q env σ)∧(t=false→ihb Q env σ)
    | _=>False
def Be (l:List Nat) (_:AK) (iha:WM) (Q:Ag→Env→AH→Prop) (E:Env) (σ:AH):Prop:= ∃AG:Nat→Env→AH→Prop,(∃n,AG n E σ)∧
 ∀n env σ,AG n env σ→iha (Ag.andThen (fun env σ=>pk l env fun E'=> ∃m,m<n∧AG m E' σ) Q) env σ
def zJ (l:List Nat) (a:AK) (iha:WM):WM:=fun Q env σ=>pk l env fun E=>Be l a iha Q E σ
def sJ (P:Program) (l:List Nat) (g:B1) (ps:List Nat) (a b:AK):WM:=fun Q env σ=>match ev env g with
    | some (.f (.func gf) [] cap)=>pk l env fun E=> ∀L,σ L=none→Bj P gf (.f (.yield L) [] []::cap) (BI σ L (.loop .ready E (CQ P ps a b))) (KI L Q env)
    | _=>False
def W (P:Program) (c:AK):WM:=
 AK.rec (motive:=fun _=>WM)
  (fun Q env σ=>Q .normal env σ)
  (fun ops Q env σ=>WT P ops (fun env σ=>Q .normal env σ) (fun env v σ=>Q (.By v) env σ) env σ)
  (fun l ops Q env σ=>WD P ops (fun env σ=>pk l env fun E=>Q .normal E σ) (fun v σ=> ∀σ',Sub σ σ'→Q (.By v) [] σ') env σ)
  (fun l _ _ iha ihb=>wSeq l iha ihb)
  (fun c _ _ iha ihb=>zK c iha ihb)
  (fun id _ ih Q env σ=>ih (Ag.inBlock id Q) env σ)
  (fun l a ih=>zJ l a ih)
  (fun id Q env σ=>Q (.exit id) env σ)
  (fun Q env σ=>Q .ret env σ)
  (fun _ ih=>ih)
  (fun l g ps a b _ _=>sJ P l g ps a b) c
theorem bQ {c:B1} {a b:AK} {Q:Ag→Env→AH→Prop}:W P (.cond c a b) Q env σ=match ev env c with
 | some (.b t)=>(t=true→W P a Q env σ)∧(t=false→W P b Q env σ)
 | _=>False:=rfl
theorem bO {l:List Nat} {a:AK} {Q:Ag→Env→AH→Prop}:W P (.loop l a) Q env σ=pk l env fun E=> ∃AG:Nat→Env→AH→Prop,(∃n,AG n E σ)∧
 ∀n env σ,AG n env σ→W P a (Ag.andThen (fun env σ=>pk l env fun E'=> ∃m,m<n∧AG m E' σ) Q) env σ:=rfl
theorem rR {ops:List AW} {Q:Ag→Env→AH→Prop}:W P (.Am ops) Q env σ=Jd P ops (fun env σ=>Q .normal env σ) (fun env v σ=>Q (.By v) env σ) env σ:=rS ops env σ
theorem bP {l:List Nat} {ops:List Cg} {Q:Ag→Env→AH→Prop}:W P (.A9 l ops) Q env σ=Db P ops (fun env σ=>pk l env fun E=>Q .normal E σ) (fun v σ=> ∀σ',Sub σ σ'→Q (.By v) [] σ') env σ:=rT ops env σ
theorem UJ {l:List Nat} {g:B1} {ps:List Nat} {a b:AK} {Q:Ag→Env→AH→Prop}:W P (.C8 l g ps a b) Q env σ=match ev env g with
 | some (.f (.func gf) [] cap)=>pk l env fun E=> ∀L,σ L=none→Bj P gf (.f (.yield L) [] []::cap) (BI σ L (.loop .ready E (CQ P ps a b))) (KI L Q env)
 | _=>False:=rfl
theorem VX: ∀ {c:AK} {Q Q':Ag→Env→AH→Prop} {env:Env} {σ:AH},W P c Q env σ→(∀ex env σ,Q ex env σ→Q' ex env σ)→T P c Q' env σ:=by
 intro c
 induction c with
 | skip=>intro Q Q' env σ h hm;exact hm _ _ _ h
 | ret=>intro Q Q' env σ h hm;exact hm _ _ _ h
 | exit id=>intro Q Q' env σ h hm;exact hm _ _ _ h
 | Am ops=>intro Q Q' env σ h hm;rw[rR]at h;exact Mh (fun _ _ h=>hm _ _ _ h) (fun _ _ _ h=>hm _ _ _ h) h
 | A9 l ops=>intro Q Q' env σ h hm;rw[bP]at h;exact Kc (fun _ _ h=>hm _ _ _ (by rw[F7]at h;exact h)) (fun _ _ h σ' hs=>hm _ _ _ (h σ' hs)) h
 | seq l a b iha ihb=>
   intro Q Q' env σ h hm;refine iha h fun ex env σ hq=>?_
   cases ex with
   | normal=>simp only[Ag.andThen]at *;rw[F7]at hq;exact ihb hq hm
   | exit id=>exact hm _ _ _ hq
   | ret=>exact hm _ _ _ hq
   | By v=>exact hm _ _ _ hq
 | cond c a b iha ihb=>
   intro Q Q' env σ h hm;simp only[T,bQ]at *;split at h
   ·rename_i he
    rw[he];exact⟨fun e=>iha (h.1 e) hm,fun e=>ihb (h.2 e) hm⟩
   ·exact h.elim
 | block id a ih=>
   intro Q Q' env σ h hm;refine ih h fun ex env σ hq=>?_
   cases ex with
   | normal=>exact hm _ _ _ hq
   | exit id'=>
     simp only[Ag.inBlock]at *;cases hb:Nat.beq id' id<;>rw[hb]at hq<;>exact hm _ _ _ hq
   | ret=>exact hm _ _ _ hq
   | By v=>exact hm _ _ _ hq
 | scope a ih=>intro Q Q' env σ h hm;exact ih h hm
 | loop l a ih=>
   intro Q Q' env σ h hm;rw[bO,F7]at h;obtain⟨AG,h0,hr⟩:=h;refine⟨AG,h0,fun n env σ hI=>ih (hr n env σ hI) fun ex env σ hq=>?_⟩;cases ex with
   | normal=>simp only[Ag.andThen]at *;rw[F7]at hq;exact hq
   | exit id=>exact hm _ _ _ hq
   | ret=>exact hm _ _ _ hq
   | By v=>exact hm _ _ _ hq
 | C8 l g ps a b _ _=>
   intro Q Q' env σ h hm;simp only[T,UJ]at *;split at h
   ·rename_i he
    rw[F7]at h;rw[he];refine fun L hL=>(h L hL).mono fun r σ' hq=>?_
    cases r with
    | ret v=>
      obtain⟨st,env1,ok,h1,h2⟩:=hq;refine⟨st,env1,ok,h1,?_⟩;cases st<;>exact hm _ _ _ h2
    | By v=>exact hm _ _ _ hq
   ·exact h.elim
theorem lG {c:AK} {Q:Ag→Env→AH→Prop} (h:W P c Q env σ):T P c Q env σ:=VX h fun _ _ _ h=>h
theorem bN: ∀ {c:AK} {Q Q':Ag→Env→AH→Prop} {env:Env} {σ:AH},W P c Q env σ→(∀ex env σ,Q ex env σ→Q' ex env σ)→W P c Q' env σ:=by
 intro c
 induction c with
 | skip=>intro Q Q' env σ h hm;exact hm _ _ _ h
 | ret=>intro Q Q' env σ h hm;exact hm _ _ _ h
 | exit id=>intro Q Q' env σ h hm;exact hm _ _ _ h
 | Am ops=>intro Q Q' env σ h hm;rw[rR]at *;exact Mh (fun _ _ h=>hm _ _ _ h) (fun _ _ _ h=>hm _ _ _ h) h
 | A9 l ops=>intro Q Q' env σ h hm;rw[bP]at *;exact Kc (fun _ _ h=>by rw[F7]at *;exact hm _ _ _ h) (fun _ _ h σ' hs=>hm _ _ _ (h σ' hs)) h
 | seq l a b iha ihb=>
   intro Q Q' env σ h hm;refine iha h fun ex env σ hq=>?_
   cases ex with
   | normal=>simp only[Ag.andThen]at *;rw[F7]at *;exact ihb hq hm
   | exit id=>exact hm _ _ _ hq
   | ret=>exact hm _ _ _ hq
   | By v=>exact hm _ _ _ hq
 | cond c a b iha ihb=>
   intro Q Q' env σ h hm;simp only[bQ]at *;split at h
   ·exact⟨fun e=>iha (h.1 e) hm,fun e=>ihb (h.2 e) hm⟩
   ·exact h.elim
 | block id a ih=>
   intro Q Q' env σ h hm;refine ih h fun ex env σ hq=>?_
   cases ex with
   | normal=>exact hm _ _ _ hq
   | exit id'=>
     simp only[Ag.inBlock]at *;cases hb:Nat.beq id' id<;>rw[hb]at hq<;>exact hm _ _ _ hq
   | ret=>exact hm _ _ _ hq
   | By v=>exact hm _ _ _ hq
 | scope a ih=>intro Q Q' env σ h hm;exact ih h hm
 | loop l a ih=>
   intro Q Q' env σ h hm;simp only[bO]at *;rw[F7]at *;obtain⟨AG,h0,hr⟩:=h;refine⟨AG,h0,fun n env σ hI=>ih (hr n env σ hI) fun ex env σ hq=>?_⟩;cases ex with
   | normal=>exact hq
   | exit id=>exact hm _ _ _ hq
   | ret=>exact hm _ _ _ hq
   | By v=>exact hm _ _ _ hq
 | C8 l g ps a b _ _=>
   intro Q Q' env σ h hm;simp only[UJ]at *;split at h
   ·rw[F7]at *
    refine fun L hL=>(h L hL).mono fun r σ' hq=>?_
    cases r with
    | ret v=>
      obtain⟨st,env1,ok,h1,h2⟩:=hq;refine⟨st,env1,ok,h1,?_⟩;cases st<;>exact hm _ _ _ h2
    | By v=>exact hm _ _ _ hq
   ·exact h.elim
abbrev Z5 (P:Program) (l:List Nat) (a:AK) (Q:Ag→Env→AH→Prop) (E:Env) (σ:AH):Prop:=Be l a (W P a) Q E σ
theorem upW {l:List Nat} {a:AK} {Q:Ag→Env→AH→Prop} {E:Env} (len:Nat) (AG:Nat→Env→AH→Prop) (h0:AG 0 E σ)
 (h: ∀k env σ,k≤len→AG k env σ→W P a (Ag.andThen (fun env σ=>pk l env fun E'=>k<len∧AG (k+1) E' σ) Q) env σ):Z5 P l a Q E σ:=by
 refine⟨fun n env σ=> ∃k,k≤len∧n=len - k∧AG k env σ,⟨len,0,Nat.zero_le _,by omega,h0⟩,fun n env σ ⟨k,hk,hn,hI⟩=>?_⟩;refine bN (h k env σ hk hI) fun ex env' σ' hq=>?_
 cases ex with
 | normal=>
   simp only[Ag.andThen]at *;rw[F7]at *;exact⟨len - (k+1),by have:=hq.1;omega,k+1,hq.1,rfl,hq.2⟩
 | exit id=>exact hq
 | ret=>exact hq
 | By v=>exact hq
def Zq (P:Program) (x:B1) (l:List Nat) (ac:AK) (AN:List RS) (Q:R→AH→Prop) (env:Env) (σ:AH):Prop:=
 wv (ev env x) fun vf=>match vf with
  | .f (.func g) [] cap=>pk l env fun E=>W P ac (sI P g cap AN Q) E σ
  | _=>False
theorem uW {x:B1} {l:List Nat} {ac:AK} {AN:List RS} {Q:R→AH→Prop} (h:Zq P x l ac AN Q env σ):RN P x l ac AN Q env σ:=by
 unfold Zq at h;unfold RN;refine B4 h fun vf h=>?_
 split at h
 ·rw[F7]at h;exact lG h
 ·exact h.elim
theorem Js {K K':Env→AH→Prop} (h: ∀env σ,K env σ→K' env σ): ∀ex env σ,DQ K ex env σ→DQ K' ex env σ:=fun ex env σ hq=>by
 cases ex<;>first|exact h _ _ hq|exact hq.elim
theorem rU {c:AK} {x:B1} {l:List Nat} {ac:AK} {AN:List RS} {Q:R→AH→Prop} (h:W P c (DQ (Zq P x l ac AN Q)) env σ):T P c (DQ (RN P x l ac AN Q)) env σ:=
 VX h (Js fun _ _ h=>uW h)
theorem Ar {l:List Nat} {a b:AK} {Q:Ag→Env→AH→Prop} (h: ∀K:Env→AH→Prop,(∀env σ,(pk l env fun E=>W P b Q E σ)→K env σ)→W P a (Ag.andThen K Q) env σ):W P (.seq l a b) Q env σ:=
 h _ fun _ _ h=>h
theorem AX {ops:List AW} {Q:Ag→Env→AH→Prop} (h: ∀(I:Env→AH→Prop) (C:Env→V→AH→Prop),(∀env σ,Q .normal env σ→I env σ)→(∀env v σ,Q (.By v) env σ→C env v σ)→WT P ops I C env σ):W P (.Am ops) Q env σ:=
 h _ _ (fun _ _ h=>h) (fun _ _ _ h=>h)
theorem JL {l:List Nat} {ops:List Cg} {Q:Ag→Env→AH→Prop} (h: ∀(I:Env→AH→Prop) (C:V→AH→Prop),(∀env σ,(pk l env fun E=>Q .normal E σ)→I env σ)→(∀v σ,(∀σ',Sub σ σ'→Q (.By v) [] σ')→C v σ)→WD P ops I C env σ):W P (.A9 l ops) Q env σ:=
 h _ _ (fun _ _ h=>h) (fun _ _ h=>h)
theorem Bm {c:B1} {a b:AK} {Q:Ag→Env→AH→Prop} (h:match ev env c with
 | some (.b t)=>(t=true→W P a Q env σ)∧(t=false→W P b Q env σ)
 | _=>False):W P (.cond c a b) Q env σ:=h
theorem BT {id:Nat} {a:AK} {Q:Ag→Env→AH→Prop} (h:W P a (Ag.inBlock id Q) env σ):W P (.block id a) Q env σ:=h
theorem Cs {l:List Nat} {a:AK} {Q:Ag→Env→AH→Prop} (h:pk l env fun E=>Be l a (W P a) Q E σ):W P (.loop l a) Q env σ:=h
theorem Ct {id:Nat} {Q:Ag→Env→AH→Prop} (h:Q (.exit id) env σ):W P (.exit id) Q env σ:=h
theorem DI {Q:Ag→Env→AH→Prop} (h:Q .ret env σ):W P .ret Q env σ:=h
theorem Bt {Q:Ag→Env→AH→Prop} (h:Q .normal env σ):W P .skip Q env σ:=h
theorem HT {a:AK} {Q:Ag→Env→AH→Prop} (h:W P a Q env σ):W P (.scope a) Q env σ:=h
theorem HU {l:List Nat} {g:B1} {ps:List Nat} {a b:AK} {Q:Ag→Env→AH→Prop} (h:match ev env g with
 | some (.f (.func gf) [] cap)=>pk l env fun E=> ∀L,σ L=none→Bj P gf (.f (.yield L) [] []::cap) (BI σ L (.loop .ready E (CQ P ps a b))) (KI L Q env)
 | _=>False):W P (.C8 l g ps a b) Q env σ:=h
end Go.Gl
namespace Go.Gl
variable {P:Program} {Λ:Nat→Prop} {σ σ':AH} {env:Env}
def Own (σ:AH) (v:V) (sz:Nat) (es:List (List V)):Prop:=(v= .l es true∧ ∀e∈es,e.length=sz)∨ ∃n cap,v= .sl n es.length cap∧σ n=some (.arr sz es cap)
theorem Own.I9 {v:V} {sz:Nat} {es:List (List V)} (h:Own σ v sz es):Gs σ emp v (.l es false):=by
 rcases h with⟨rfl,_⟩|⟨n,cap,rfl,hn⟩
 ·exact .l (fun h=>(by cases h)) (.refl _ _ _)
 ·exact .arr hn rfl rfl (.refl _ _ _)
inductive At where
 | obj (n:Nat) (o:O)
 | own (v:V) (sz:Nat) (es:List (List V))
abbrev At.box (n:Nat) (vs:List V):At:= .obj n (.cs vs)
abbrev At.map (n:Nat) (kvs:List (V×V)):At:= .obj n (.map kvs)
def EW:V→Option Nat
 | .sl n _ _=>some n
 | _=>none
def At.xu:At→Option Nat
 | .obj n _=>some n
 | .own v _ _=>EW v
def At.ok (σ:AH):At→Prop
 | .obj n o=>σ n=some o
 | .own v sz es=>Own σ v sz es
def apart (a b:At):Prop:= ∀n,a.xu=some n→b.xu≠some n
theorem apart.symm {a b:At} (h:apart a b):apart b a:=fun n hb ha=>h n ha hb
def Sat (σ:AH) (l:List At):Prop:=(∀a∈l,a.ok σ)∧l.Pairwise apart
theorem Sat.nil:Sat σ []:=⟨fun _ h=>(by cases h),.nil⟩
theorem Sat.get {l:List At} (h:Sat σ l) {i:Nat} {a:At} (hi:l[i]? =some a):a.ok σ:=h.1 a (DL hi)
theorem SV {l:List At} (h:l.Pairwise apart): ∀ {i:Nat} {a a':At},l[i]? =some a→(∀b∈l,apart a b→apart a' b)→(l.set i a').Pairwise apart:=by
 induction h with
 | nil=>intro i a a' hi;cases hi
 | cons hx hl ih=>
   rename_i x r;intro i a a' hi hb;cases i with
   | zero=>
     simp only[rY,JX]at hi;subst hi;exact .cons (fun b hm=>hb b (.tail _ hm) (hx b hm)) hl
   | succ i=>
     simp only[xy]at hi;refine .cons (fun b hm=>?_) (ih hi fun b hm=>hb b (.tail _ hm));rcases List.mem_or_eq_of_mem_set hm with hm|rfl
     ·exact hx b hm
     ·exact(hb x (.head _) (hx a (DL hi)).symm).symm
theorem E0 {l:List At} (h:l.Pairwise apart): ∀ {i:Nat} {a:At},l[i]? =some a→ ∀b∈l.eraseIdx i,apart a b:=by
 induction h with
 | nil=>intro i a hi;cases hi
 | cons hx hl ih=>
   rename_i x r;intro i a hi b hb;cases i with
   | zero=>
     simp only[rY,JX]at hi;subst hi;exact hx b (by simpa using hb)
   | succ i=>
     simp only[xy]at hi;simp only[List.eraseIdx_cons_succ,IF]at hb;rcases hb with rfl|hb
     ·exact(hx a (DL hi)).symm
     ·exact ih hi b hb
theorem Vt {l:List At} {i:Nat} {a b:At} (h:b∈l.set i a):b=a∨b∈l.eraseIdx i:=by
 induction l generalizing i with
 | nil=>simp at h
 | cons x r ih=>
   cases i with
   | zero=>simp at h;rcases h with rfl|h;exact .inl rfl;exact .inr (by simpa using h)
   | succ i=>
     simp only[List.set_cons_succ,IF,List.eraseIdx_cons_succ]at *;rcases h with rfl|h
     ·exact .inr (.inl rfl)
     ·rcases ih h with h|h
      ·exact .inl h
      ·exact .inr (.inr h)
theorem Sat.change {l:List At} (h:Sat σ l) {i:Nat} {a a':At} (hi:l[i]? =some a) (ho: ∀b:At,b.ok σ→apart a b→b.ok σ') (hd: ∀b:At,b.ok σ→apart a b→apart a' b) (ha:a'.ok σ'):Sat σ' (l.set i a'):=by
 refine⟨fun b hb=>?_,SV h.2 hi fun b hb=>hd b (h.1 b hb)⟩;rcases Vt hb with rfl|hb
 ·exact ha
 ·exact ho b (h.1 b (List.mem_of_mem_eraseIdx hb)) (E0 h.2 hi b hb)
theorem DE {a:At} {n:Nat} (h:a.ok σ) (hn:a.xu=some n): ∃o,σ n=some o:=by
 cases a with
 | obj m o=>cases hn;exact⟨o,h⟩
 | own v sz es=>
   rcases h with⟨rfl,_⟩|⟨m,cap,rfl,hm⟩
   ·cases hn
   ·cases hn;exact⟨_,hm⟩
theorem FV {a:At} (h:a.ok σ) (hs: ∀n,a.xu=some n→σ' n=σ n):a.ok σ':=by
 cases a with
 | obj m o=>exact(hs m rfl).trans h
 | own v sz es=>
   rcases h with⟨rfl,he⟩|⟨m,cap,rfl,hm⟩
   ·exact .inl ⟨rfl,he⟩
   ·exact .inr ⟨m,cap,rfl,(hs m rfl).trans hm⟩
theorem Sat.add {l:List At} (h:Sat σ l) {a:At} (ho: ∀b:At,b.ok σ→b.ok σ') (hd: ∀b:At,b.ok σ→apart a b) (ha:a.ok σ'):Sat σ' (l++[a]):=by
 refine⟨fun b hb=>?_,List.pairwise_append.2 ⟨h.2,List.pairwise_singleton _ _,fun x hx y hy=>?_⟩⟩
 ·rcases Fo.1 hb with hb|hb
  ·exact ho b (h.1 b hb)
  ·rw[List.mem_singleton.1 hb];exact ha
 ·rw[List.mem_singleton.1 hy]
  exact(hd x (h.1 x hx)).symm
theorem Sat.less {l l':List At} (h:Sat σ l) (hs:l'.Sublist l):Sat σ l':=⟨fun a ha=>h.1 a (hs.subset ha),h.2.sublist hs⟩
theorem Sat.perm {l l':List At} (h:Sat σ l) (hp:l.Perm l'):Sat σ l':=⟨fun a ha=>h.1 a (hp.mem_iff.2 ha),(hp.pairwise_iff (fun {_ _}=>apart.symm)).1 h.2⟩
theorem Zk {l:List At} (h:Sat σ l) {n:Nat} (hn:σ n=none) {o:O}:Sat (BI σ n o) (l++[.obj n o]):=by
 refine h.add (fun b hb=>FV hb fun m hm=>?_) (fun b hb m hm hb'=>?_) (Dd _ _ _)
 ·obtain⟨o,ho⟩:=DE hb hm
  rw[Cz];intro e;subst e;rw[hn]at ho;cases ho
 ·cases hm
  obtain⟨o,ho⟩:=DE hb hb';rw[hn]at ho;cases ho
theorem Hl {l:List At} (h:Sat σ l) (sz:Nat):Sat σ (l++[.own (.l [] true) sz []]):=
 h.add (fun _ hb=>hb) (fun b hb n hn=>by cases hn) (.inl ⟨rfl,fun _ h=>by cases h⟩)
theorem dj {l:List At} (h:Sat σ l) {sz:Nat} {es:List (List V)} (hs: ∀e∈es,e.length=sz):Sat σ (l++[.own (.l es true) sz es]):=
 h.add (fun _ hb=>hb) (fun b hb n hn=>by cases hn) (.inl ⟨rfl,hs⟩)
theorem sB {l:List At} (h:Sat σ l) {i n:Nat} {o:O} (hi:l[i]? =some (.obj n o)) (o':O):Sat (BI σ n o') (l.set i (.obj n o')):=by
 refine h.change hi (fun b hb ha=>FV hb fun m hm=>?_) (fun b hb ha m hm=>ha m hm) (Dd _ _ _);rw[Cz];intro e;subst e;exact ha m rfl hm
theorem OM {l:List At} (h:Sat σ l) (i:Nat) {n off sz:Nat} {vs vc:List V} {x:V} {K:AH→Prop} (hi:l[i]? =some (.box n vs)) (hc:cellsOf x=some vc) (hl:vc.length=sz) (h1:vc.all Cb=true) (ho:off+sz≤vs.length)
 (hk: ∀σ',Sat σ' (l.set i (.box n (putAt vs off vc)))→K σ'):Aq σ sz (.p n off) x K:=by
 unfold Aq;rw[hc];refine⟨hl,h1,?_⟩;have:=h.get hi;simp only[At.ok]at this;simp only[this];exact⟨ho,hk _ (sB h hi _)⟩
theorem Wg {l:List At} (h:Sat σ l) (i:Nat) {n off:Nat} {agg:Option Nat} {vs:List V} {K:V→Prop} (hi:l[i]? =some (.box n vs)) (hk:cut agg vs off K):A7 σ agg (.p n off) K:=by
 have:=h.get hi;simp only[At.ok]at this;simp only[A7,N9,this];exact hk
theorem hAppend {l:List At} (h:Sat σ l) (i:Nat) {v:V} {sz:Nat} {es ys:List (List V)} {f:Bool} {K:V→AH→Prop} (hi:l[i]? =some (.own v sz es)) {b:Nat} (hl:es.length+ys.length≤Ak∧(es.length+ys.length)*b≤140737488355328) (hys: ∀e∈ys,e.length=sz) (ho: ∀e∈ys,∀v∈e,Cb v=true)
 (hk: ∀v' σ',Sat σ' (l.set i (.own v' sz (es++ys)))→K v' σ'):Aa b σ sz v (.l ys f) K:=by
 refine⟨hys,ho,?_⟩;rcases h.get hi with⟨rfl,hel⟩|⟨n,cap,rfl,hn⟩
 ·refine⟨hel,hl,fun e=>hk _ _ ?_,fun _=>⟨rfl,fun n cap hn hc=>hk _ _ ?_⟩⟩
  ·subst e
   exact h.change hi (fun _ hb _=>hb) (fun _ _ ha=>ha) (.inl ⟨by simp,by simpa using hel⟩)
  ·refine h.change hi (fun b hb _=>FV hb fun m hm=>?_) (fun b hb _ m hm hb'=>?_) (.inr ⟨n,cap,by simp,by simp[BI]⟩)
   ·obtain⟨o,ho⟩:=DE hb hm
    rw[Cz];intro e;subst e;rw[hn]at ho;cases ho
   ·cases hm
    obtain⟨o,ho⟩:=DE hb hb';rw[hn]at ho;cases ho
 ·simp only
  rw[hn];refine⟨rfl,rfl,rfl,hl,fun n' cap' hn' _=>hk _ _ ?_⟩;refine h.change hi (fun b hb ha=>FV hb fun m hm=>?_) (fun b hb ha m hm hb'=>?_) (.inr ⟨n',cap',by simp,by simp[BI]⟩)
  ·have hmn:m≠n:=fun e=>by subst e;exact ha m rfl hm
   obtain⟨o,ho⟩:=DE hb hm;have hmn':m≠n':=fun e=>by subst e;rw[G2 _ hmn,ho]at hn';cases hn'
   rw[Cz _ _ hmn',G2 _ hmn]
  ·cases hm
   have hmn:n'≠n:=fun e=>by subst e;exact ha n' rfl hb'
   obtain⟨o,ho⟩:=DE hb hb';rw[G2 _ hmn,ho]at hn';cases hn'
theorem hMk {l:List At} (h:Sat σ l) {sz:Nat} {z:List V} {n:Nat} {K:V→AH→Prop} (hn:n≤1073741824) (hk: ∀v σ',Sat σ' (l++[.own v sz (List.replicate n z)])→(∃id,v= .sl id n n)→K v σ') {ki kj:IntKind} :
 Ac σ sz z (.i ki (n:Int)) (.i kj (n:Int)) K:=by
 refine⟨by omega,by omega,by omega,fun id hid=>?_⟩;simp only[Int.toNat_natCast];refine hk _ _ (h.add (fun b hb=>FV hb fun m hm=>?_) (fun b hb m hm hb'=>?_) (.inr ⟨id,n,by simp,by simp[BI]⟩)) ⟨id,rfl⟩
 ·obtain⟨o,ho⟩:=DE hb hm
  rw[Cz];intro e;subst e;rw[hid]at ho;cases ho
 ·cases hm
  obtain⟨o,ho⟩:=DE hb hb';rw[hid]at ho;cases ho
theorem Bl {agg:Option Nat} {cs:List V} {K:V→Prop} (h:cut agg cs 0 K):A7 σ agg (.rp cs) K:=h
theorem Dx {es:List (List V)} {f:Bool} {K:V→Prop} (h:K (.i .i64 es.length)):B8 (.l es f) K:=h
theorem Ie {l:List At} (h:Sat σ l) (i:Nat) {v:V} {sz:Nat} {es:List (List V)} (hi:l[i]? =some (.own v sz es)):Cb v=true:=by
 rcases h.get hi with⟨rfl,_⟩|⟨n,cap,rfl,hn⟩<;>rfl
@[simp] theorem ADS {es:List (List V)} {f:Bool}:Cb (.l es f)=true:=rfl
@[simp] theorem ADT {k:IntKind} {n:Int}:Cb (.i k n)=true:=rfl
@[simp] theorem ADV {b:Bool}:Cb (.b b)=true:=rfl
@[simp] theorem ADQ {n o:Nat}:Cb (.p n o)=true:=rfl
@[simp] theorem ADN {cs:List V}:Cb (.rp cs)=true:=rfl
@[simp] theorem ADR {n:Nat}:Cb (.m n)=true:=rfl
@[simp] theorem ADU {fn:Fn} {a b:List V}:Cb (.f fn a b)=true:=rfl
@[simp] theorem ADM {a b c:Nat}:Cb (.sl a b c)=true:=rfl
@[simp] theorem ADO:Cb .pn=true:=rfl
@[simp] theorem ADP:Cb .mn=true:=rfl
@[simp] theorem xx:Cb .Dp=true:=rfl
@[simp] theorem ADI {t:TypeId} {v:V}:Cb (.E2 t v)=true:=rfl
theorem ZE {v:V} (h:Cb v=true):cellsOf v=some [v]:=by cases v<;>first|rfl|cases h
theorem K2 {l:List At} (h:Sat σ l) (i:Nat) {n off:Nat} {vs:List V} {x:V} {K:AH→Prop} (hi:l[i]? =some (.box n vs)) (h1:Cb x=true) (ho:off+1≤vs.length)
 (hk: ∀σ',Sat σ' (l.set i (.box n (vs.set off x)))→K σ'):Aq σ 1 (.p n off) x K:=
 OM h i hi (ZE h1) rfl (by simp[h1]) ho hk
theorem Sat.I9 {l:List At} (h:Sat σ l) (i:Nat) {v:V} {sz:Nat} {es:List (List V)} (hi:l[i]? =some (.own v sz es)):Gs σ emp v (.l es false):=(h.get hi).I9
theorem Sat.frzB {l:List At} (h:Sat σ l) (i:Nat) {n:Nat} {vs vs':List V} (hi:l[i]? =some (.box n vs)) (hf:Es σ emp vs vs'):Gs σ emp (.p n 0) (.rp vs'):= .cs (h.get hi) rfl hf
theorem TF {l:List At} (h:Sat σ l) (i:Nat) {v:V} {sz:Nat} {es:List (List V)} (hi:l[i]? =some (.own v sz es)): ∃σ2,Sub σ2 σ∧Gs σ σ2 v (.l es false)∧Sat σ2 (l.eraseIdx i):=by
 rcases h.get hi with⟨rfl,_⟩|⟨n,cap,rfl,hn⟩
 ·exact⟨σ,fun _ _ h=>h,.l (fun h=>(by cases h)) (.refl _ _ _),h.less (List.eraseIdx_sublist _ _)⟩
 ·refine⟨del σ n,Fu σ n,.arr hn (Dh σ n) rfl (.refl _ _ _),?_⟩
  refine⟨fun b hb=>?_,h.2.sublist (List.eraseIdx_sublist _ _)⟩;refine FV (h.1 b (List.mem_of_mem_eraseIdx hb)) fun m hm=>?_
  rw[G2];intro e;subst e;exact E0 h.2 hi b hb m rfl hm
theorem H0 {v vf:V} {σ2:AH} {Q:R→AH→Prop} (hs:Sub σ2 σ) (hf:Gs σ σ2 v vf) (hq:Q (.ret vf) σ2):Bf σ v Q:=⟨vf,σ2,hs,hf,hq⟩
theorem BG {l l':List At} (h:Sat σ l) (hl:l'.Sublist l) {v vf:V} {Q:R→AH→Prop} (hf:Gs σ σ v vf) (hq: ∀σ',Sat σ' l'→Q (.ret vf) σ'):Bf σ v Q:=⟨vf,σ,fun _ _ h=>h,hf,hq σ (h.less hl)⟩
theorem sC {l:List At} (h:Sat σ l) (i:Nat) {v:V} {sz:Nat} {es:List (List V)} (hi:l[i]? =some (.own v sz es)) {K:V→AH→Prop} (hk: ∀σ',Sat σ' (l.eraseIdx i)→K (.l es false) σ'): ∃vf σ2,Sub σ2 σ∧Gs σ σ2 v vf∧K vf σ2:=by
 obtain⟨σ2,h1,h2,h3⟩:=TF h i hi;exact⟨_,σ2,h1,h2,hk σ2 h3⟩
theorem yM {l:List At} (h:Sat σ l) (i:Nat) {v:V} {sz:Nat} {es:List (List V)} (hi:l[i]? =some (.own v sz es)) (hm:es.length≤Ak) {K:V→Prop} (hk:K (.i .i64 es.length)):B8 v K:=by
 rcases h.get hi with⟨rfl,_⟩|⟨n,cap,rfl,hn⟩
 ·exact hk
 ·exact⟨hm,hk⟩
def GA (v:V) (sz j:Nat):V:=match v with| .sl n _ _=> .pe n sz j 0| .l es _=> .rp (es.getD j [])|_=> .pn
theorem dX {l:List At} (h:Sat σ l) (i:Nat) {v:V} {sz:Nat} {es:List (List V)} {ki:IntKind} {j:Int} (k:Nat) (hi:l[i]? =some (.own v sz es)) (hj:j=k) (hlt:k<es.length) {K:V→Prop} (hk:K (GA v sz k)) :
 Al sz none v (.i ki j) K:=by
 subst hj;rcases h.get hi with⟨rfl,hel⟩|⟨n,cap,rfl,hn⟩
 ·refine⟨Int.natCast_nonneg k,es[k],by simp[hlt],hel _ (List.getElem_mem hlt),?_⟩
  simpa[GA,hlt]using hk
 ·exact⟨Int.natCast_nonneg k,by omega,by simpa[GA]using hk⟩
theorem Hv {l:List At} (h:Sat σ l) (i:Nat) {v:V} {sz k:Nat} {es:List (List V)} {e:List V} {agg:Option Nat} (hi:l[i]? =some (.own v sz es)) (he:es[k]? =some e) {K:V→Prop} (hk:cut agg e 0 K):A7 σ agg (GA v sz k) K:=by
 rcases h.get hi with⟨rfl,_⟩|⟨n',cap',rfl,hn⟩
 ·simp only[GA,A7,E9,he]
  exact hk
 ·simp only[GA,A7,OA,hn,he]
  exact⟨trivial,hk⟩
theorem LR {l:List At} (h:Sat σ l) (i:Nat) {v x:V} {sz k:Nat} {es:List (List V)} {e vc:List V} (hi:l[i]? =some (.own v sz es)) (he:es[k]? =some e) (hc:cellsOf x=some vc) (hl:vc.length=sz) (h1:vc.all Cb=true) (hel:e.length=sz) (hv:(EW v).isSome=true) {K:AH→Prop}
 (hk: ∀σ',Sat σ' (l.set i (.own v sz (es.set k vc)))→K σ'):Aq σ sz (GA v sz k) x K:=by
 rcases h.get hi with⟨rfl,_⟩|⟨n,cap,rfl,hn⟩
 ·cases hv
 ·unfold Aq
  rw[hc];refine⟨hl,h1,?_⟩;simp only[GA,hn,he];refine⟨trivial,by omega,hk _ ?_⟩
  have hput: ∀(vs vc:List V),vc.length=vs.length→putAt vs 0 vc=vc:=by
   have gen: ∀(vc pre vs:List V),vc.length=vs.length→putAt (pre++vs) pre.length vc=pre++vc:=by
    intro vc
    induction vc with
    | nil=>intro pre vs hl;cases vs with
      | nil=>rfl
      | cons _ _=>cases hl
    | cons x vc ih=>
      intro pre vs hl;cases vs with
      | nil=>cases hl
      | cons y vs=>
        simp only[putAt];rw[List.set_append_right _ _ (Nat.le_refl _),Nat.sub_self,List.set_cons_zero];have:=ih (pre++[x]) vs (by simpa using hl);simp only[Sl,NW,List.length_nil,Nat.zero_add,WU,List.singleton_append]at this;exact this
   intro vs vc hl;exact gen vc [] vs hl
  rw[hput e vc (by omega)];refine h.change hi (fun b hb ha=>FV hb fun m hm=>?_) (fun b hb ha m hm=>ha m hm) (.inr ⟨n,cap,by simp,by simp[BI]⟩);rw[Cz];intro e;subst e;exact ha m rfl hm
theorem SF {l:List At} (h:Sat σ l) (i:Nat) {n:Nat} {kvs:List (V×V)} {ks:KS} {z vk:V} {ok:Bool} (hi:l[i]? =some (.map n kvs)) (hk:Bb ks vk=true) (hks: ∀kv∈kvs,Bb ks kv.1=true) {K:V→Prop} (h':K (found z ok (Cr vk kvs))) :
 Ah σ ks z ok (.m n) vk K:=by
 refine⟨hk,?_⟩;have:=h.get hi;simp only[At.ok]at this;simp only[this];exact⟨hks,h'⟩
theorem K3 {l:List At} (h:Sat σ l) (i:Nat) {n:Nat} {kvs:List (V×V)} {ks:KS} {vk vv:V} (hi:l[i]? =some (.map n kvs)) (hk:Bb ks vk=true) (hks: ∀kv∈kvs,Bb ks kv.1=true) {K:AH→Prop}
 (h': ∀σ',Sat σ' (l.set i (.map n (Dy vk vv kvs)))→K σ'):Ap σ ks (.m n) vk vv K:=by
 refine⟨hk,?_⟩;have:=h.get hi;simp only[At.ok]at this;simp only[this];exact⟨hks,h' _ (sB h hi _)⟩
def CL (P:Program) (f:FuncId) (args:List V) (pre:List At) (Φ:R→List At→Prop):Prop:= ∀σ,Sat σ pre→Bj P f args σ fun r σ'=> ∃post,Φ r post∧Sat σ' post
theorem fG {a:At} {σ1 τ:AH} (h:a.ok σ1):a.ok (join σ1 τ):=FV h fun n hn=>by
 obtain⟨o,ho⟩:=DE h hn;simp[join,ho]
theorem CL.use {f:FuncId} {args:List V} {pre rest:List At} {Φ:R→List At→Prop} (h:CL P f args pre Φ) (hs:Sat σ (pre++rest)) {Q:R→AH→Prop} (hk: ∀r post σ',Φ r post→Sat σ' (post++rest)→Q r σ'):Bj P f args σ Q:=by
 have hpre:Sat σ pre:=hs.less (List.sublist_append_left _ _);have hrest:Sat σ rest:=hs.less (List.sublist_append_right _ _);have hap:=(List.pairwise_append.1 hs.2).2.2
 let D:Nat→Prop:=fun n=> ∀b∈rest,b.xu≠some n
 have h1:Sat (GY σ D) pre:=⟨fun a ha=>FV (hpre.1 a ha) fun n hn=>De fun b hb=>hap a ha b hb n hn,hpre.2⟩
 refine Bj.mono (Bj.frame D (h _ h1)) fun r σ' ⟨σ1,⟨post,hp,hsp⟩,hfr,he⟩=>hk r post σ' hp ?_
 subst he
 have hrn: ∀b∈rest,∀n,b.xu=some n→σ1 n=none∧GY σ (fun n=> ¬D n) n=σ n:=fun b hb n hn=>by
  have hnd: ¬D n:=fun h=>h b hb hn
  obtain⟨o,ho⟩:=DE (hrest.1 b hb) hn;exact⟨hfr n hnd (by rw[ho];simp),De hnd⟩
 refine⟨fun a ha=>?_,List.pairwise_append.2 ⟨hsp.2,hrest.2,fun a ha b hb n hn hb'=>?_⟩⟩
 ·rcases Fo.1 ha with ha|ha
  ·exact fG (hsp.1 a ha)
  ·refine FV (hrest.1 a ha) fun n hn=>?_
   obtain⟨k1,k2⟩:=hrn a ha n hn;simp only[join,k1,k2]
 ·obtain⟨o,ho⟩:=DE (hsp.1 a ha) hn
  rw[(hrn b hb n hb').1]at ho;cases ho
def Nz:List (Nat×V)→Env→Env
 | _,[]=>[]
 | f,(k,v)::r=>(k,(get k f).getD v)::Nz f r
def sk:List (Nat×V)→Env→(Env→Prop)→Prop
 | _,[],k=>k []
 | f,(n,v)::r,k=>match get n f with
   | some u=>sk f r fun e=>k ((n,u)::e)
   | none=>sk f r fun e=>k ((n,v)::e)
theorem TC {f:List (Nat×V)}: ∀ {E:Env} {k:Env→Prop},sk f E k=k (Nz f E)
 | [],_=>rfl
 | (n,v)::r,k=>by
   simp only[sk,Nz];cases get n f with
   | none=>exact TC (E:=r)
   | some u=>exact TC (E:=r)
theorem C5 {l:List Nat} {a:AK} {Q:Ag→Env→AH→Prop} {E:Env} (len:Nat) {X:Type} (f:Nat→X→List (Nat×V)) (H:Nat→X→List At) (Φ:Nat→X→Prop) (x0:X) (h0:E=Nz (f 0 x0) E) (hΦ:Φ 0 x0) (hs:Sat σ (H 0 x0))
 (h: ∀k x σ,k≤len→Φ k x→Sat σ (H k x)→sk (f k x) E fun E1=>W P a (Ag.andThen (fun env' σ'=>pk l env' fun E'=>k<len∧ ∃x',E'=Nz (f (k+1) x') E∧Φ (k+1) x'∧Sat σ' (H (k+1) x')) Q) E1 σ):Z5 P l a Q E σ:=by
 refine upW len (fun k env' σ'=> ∃x,env'=Nz (f k x) E∧Φ k x∧Sat σ' (H k x)) ⟨x0,h0,hΦ,hs⟩ ?_;rintro k _ σ hk ⟨x,rfl,h1,h2⟩;have:=h k x σ hk h1 h2;rw[TC]at this;exact this
theorem J2 {l:List Nat} {a:AK} {Q:Ag→Env→AH→Prop} {E:Env} {X:Type} (μ:X→Nat) (f:X→List (Nat×V)) (H:X→List At) (Φ:X→Prop) (x0:X) (h0:E=Nz (f x0) E) (hΦ:Φ x0) (hs:Sat σ (H x0))
 (h: ∀x σ,Φ x→Sat σ (H x)→sk (f x) E fun E1=>W P a (Ag.andThen (fun env' σ'=>pk l env' fun E'=> ∃x',μ x'<μ x∧E'=Nz (f x') E∧Φ x'∧Sat σ' (H x')) Q) E1 σ):Z5 P l a Q E σ:=by
 refine⟨fun n env σ=> ∃x,n=μ x∧env=Nz (f x) E∧Φ x∧Sat σ (H x),⟨_,x0,rfl,h0,hΦ,hs⟩,?_⟩;rintro n _ σ ⟨x,rfl,rfl,h1,h2⟩;have h:=h x σ h1 h2;rw[TC]at h;refine bN h fun ex env' σ' hq=>?_
 cases ex with
 | normal=>
   simp only[Ag.andThen]at *;rw[F7]at *;obtain⟨x',k1,k2⟩:=hq;exact⟨_,k1,x',rfl,k2⟩
 | exit id=>exact hq
 | ret=>exact hq
 | By v=>exact hq
theorem P0 {K A:Env→AH→Prop} {lx:List Nat} (U: ∀env σ,(pk lx env fun E=>A E σ)→K env σ) {AA:Type} (fJ:AA→List (Nat×V)) (HJ:AA→List At) (ΦJ:AA→Prop) (EJ:Env)
 (hJ: ∀y σ,ΦJ y→Sat σ (HJ y)→sk (fJ y) EJ fun E1=>A E1 σ): ∀y env σ,(pk lx env fun E=>E=Nz (fJ y) EJ)→ΦJ y→Sat σ (HJ y)→K env σ:=by
 intro y env σ he h1 h2;refine U _ _ ?_;rw[F7]at *;have:=hJ y σ h1 h2;rw[TC,←he]at this;exact this
end Go.Gl
namespace Go.Gl
variable {P:Program} {σ:AH} {env:Env}
abbrev iL (xs:List Int):List (List V):=xs.map fun x=>[.i .i64 x]
abbrev El (ls:List (List Int)):List (List V):=ls.map fun l=>[.l (iL l) false]
abbrev bL (xs:List Bool):List (List V):=xs.map fun x=>[.b x]
def F9 {α:Type} (enc:α→List V) (sz:Nat):Prop:= ∀x,(enc x).length=sz∧ ∀v∈enc x,Cb v=true
theorem DC:F9 (fun x:Int=>[V.i .i64 x]) 1:=fun x=>⟨rfl,fun v hv=>by simp at hv;subst hv;rfl⟩
theorem Dg:F9 (fun l:List Int=>[V.l (iL l) false]) 1:=fun x=>⟨rfl,fun v hv=>by simp at hv;subst hv;rfl⟩
theorem SH:F9 (fun x:Bool=>[V.b x]) 1:=fun x=>⟨rfl,fun v hv=>by simp at hv;subst hv;rfl⟩
theorem Ej {α:Type} {enc:α→List V} {sz:Nat} (hg:F9 enc sz) (xs:List α):(∀e∈xs.map enc,e.length=sz)∧ ∀e∈xs.map enc,∀v∈e,Cb v=true:=by
 refine⟨fun e he=>?_,fun e he=>?_⟩<;>obtain⟨x,_,rfl⟩:=Nv.1 he
 ·exact(hg x).1
 ·exact(hg x).2
theorem zj {α:Type} {enc:α→List V} {sz:Nat} {xs ys:List α} {f g:Bool} {K:V→Prop} (hg:F9 enc sz) {b:Nat} (hl:xs.length+ys.length≤Ak∧(xs.length+ys.length)*b≤140737488355328) (hf:f=true) (hk:K (.l ((xs++ys).map enc) false)):BS b σ sz (.l (xs.map enc) f) (.l (ys.map enc) g) K:=by
 obtain⟨h1,h2⟩:=Ej hg ys;refine⟨h1,h2,(Ej hg xs).1,by simpa using hl,fun _=>hf,?_⟩;rw[←List.map_append];exact hk
theorem tX {α:Type} {enc:α→List V} {sz:Nat} {ys:List α} {g:Bool} {K:V→Prop} (hg:F9 enc sz) {b:Nat} (hl:ys.length≤Ak∧ys.length*b≤140737488355328) (hk:K (.l (ys.map enc) false)):BS b σ sz (.l [] true) (.l (ys.map enc) g) K:=
 zj (xs:=[]) hg (by simpa using hl) rfl hk
theorem Fs {l:List At} (h:Sat σ l) (i:Nat) {α:Type} {enc:α→List V} {sz:Nat} {xs:List α} {x:α} {v:V} {f:Bool} {e:List V} {K:V→AH→Prop} (hi:l[i]? =some (.own v sz (xs.map enc))) {b:Nat} (hl:xs.length<Ak∧(xs.length+1)*b≤140737488355328) (hg:F9 enc sz)
 (hk: ∀v' σ',Sat σ' (l.set i (.own v' sz ((xs++[x]).map enc)))→K v' σ') (he:e=enc x:=by rfl):Aa b σ sz v (.l [e] f) K:=by
 subst he;refine hAppend h i hi (by simp;omega) (fun e he=>by simp at he;subst he;exact(hg x).1) (fun e he=>by simp at he;subst he;exact(hg x).2) fun v' σ' hs=>hk v' σ' ?_
 rw[List.map_append];exact hs
theorem Kq {l:List At} (h:Sat σ l) (i:Nat) {α:Type} {enc:α→List V} {sz:Nat} {xs ys:List α} {v:V} {f:Bool} {K:V→AH→Prop} (hi:l[i]? =some (.own v sz (xs.map enc))) {b:Nat} (hl:xs.length+ys.length≤Ak∧(xs.length+ys.length)*b≤140737488355328) (hg:F9 enc sz)
 (hk: ∀v' σ',Sat σ' (l.set i (.own v' sz ((xs++ys).map enc)))→K v' σ'):Aa b σ sz v (.l (ys.map enc) f) K:=by
 obtain⟨h1,h2⟩:=Ej hg ys;refine hAppend h i hi (by simpa using hl) h1 h2 fun v' σ' hs=>hk v' σ' ?_
 rw[List.map_append];exact hs
theorem ER {l:List At} (h:Sat σ l) (i:Nat) {v:V} {sz:Nat} {es:List (List V)} (hi:l[i]? =some (.own v sz es)) {vf:V} (he:V.l es false=vf):Bf σ v (fun r σ'=>r= .ret vf∧σ'=emp):=
 CD (he ▸ h.I9 i hi)
theorem AR {α:Type} {xs:List α} {k:Nat} {x:α} (h:xs[k]? =some x):xs.take (k+1)=xs.take k++[x]:=by
 rw[List.take_add_one,h];rfl
theorem S6 {α:Type} {enc:α→List V} {xs:List α} {f:Bool} {sz:Nat} {K:V→Prop} {ki:IntKind} {j:Int} (k:Nat) {x:α} (hx:xs[k]? =some x) (hj:j=k) (hs:(enc x).length=sz) (h:K (.rp (enc x))) :
 Al sz none (.l (xs.map enc) f) (.i ki j) K:=by
 subst hj;refine⟨Int.natCast_nonneg k,enc x,?_,hs,h⟩;rw[Int.toNat_natCast,Pu,hx];rfl
theorem j9 {α:Type} {enc:α→List V} {xs:List α} {k:Nat} {A B:Prop} (hk:k≤xs.length) (h1: ∀x,xs[k]? =some x→k<xs.length→A) (h2:k=xs.length→B) :
 (decide ((k:Int)<((xs.map enc).length:Nat))=true→A)∧(decide ((k:Int)<((xs.map enc).length:Nat))=false→B):=
 fork (fun h=>by
  have hlt:=aT h
  exact h1 _ (E4 hlt) hlt) fun h=>h2 (XX hk h)
def Kl (a:Int):Nat→Int
 | 0=>a
 | k+1=>IntKind.i64.wrap (Kl a k+1)
abbrev Bw (k:Nat):Int:=Kl 0 k
theorem Nr {a:Int} (ha: -4611686018427387904≤a): ∀ {k:Nat},a+k≤4611686018427387904→Kl a k=a+k
 | 0,_=>by simp[Kl]
 | k+1,h=>by
   rw[Kl,Nr ha (by omega),wrap64 (by omega) (by omega)];omega
theorem AU {k:Nat} (h:k≤Ak+8):Bw k=k:=by
 rw[Bw,Nr (by omega) (by simp only[Ak]at h;omega)];omega
def NO (a:Int):Nat→Int
 | 0=>a
 | k+1=>IntKind.i64.wrap (NO a k - 1)
theorem SO {a:Int} (ha:a≤4611686018427387904): ∀ {k:Nat},-4611686018427387904≤a - k→NO a k=a - k
 | 0,_=>by simp[NO]
 | k+1,h=>by
   rw[NO,SO ha (by omega),wrap64 (by omega) (by omega)];omega
theorem GD {α:Type} {enc:α→List V} {xs:List α} {k:Nat} {A B:Prop} (hk:k≤xs.length) (hm:xs.length≤Ak) (h1: ∀x,xs[k]? =some x→k<xs.length→A) (h2:k=xs.length→B) :
 (decide (Bw k<((xs.map enc).length:Nat))=true→A)∧(decide (Bw k<((xs.map enc).length:Nat))=false→B):=by
 rw[AU (by omega)];exact j9 hk h1 h2
theorem Im {α:Type} {enc:α→List V} {xs:List α} {f:Bool} {sz:Nat} {K:V→Prop} {ki:IntKind} {k:Nat} {x:α} (hx:xs[k]? =some x) (hm:xs.length≤Ak) (hs:(enc x).length=sz) (h:K (.rp (enc x))) :
 Al sz none (.l (xs.map enc) f) (.i ki (Bw k)) K:=
 S6 k hx (AU (by have:=(List.getElem?_eq_some_iff.1 hx).1;omega)) hs h
theorem A5 {α:Type} {xs:List α} {k:Nat} (h:k=xs.length):xs.take k=xs:=by rw[h,List.take_length]
end Go.Gl
namespace Go.Gl
structure Pc where
 parents:List Int
 AN:List Int
 inits:List (Int×Int)
 deriving DecidableEq,Inhabited
structure Node where
 op:Int
 n:Int
 kids:List Int
 deriving DecidableEq,Inhabited
inductive Fact where
 | mk (op arg:Int) (path:List Int) (cls n:Int) (kids:List Fact)
 deriving Inhabited
namespace Fact
def op:Fact→Int|mk o _ _ _ _ _=>o
def arg:Fact→Int|mk _ a _ _ _ _=>a
def path:Fact→List Int|mk _ _ p _ _ _=>p
def cls:Fact→Int|mk _ _ _ c _ _=>c
def n:Fact→Int|mk _ _ _ _ n _=>n
def kids:Fact→List Fact|mk _ _ _ _ _ k=>k
mutual
def IZ {α:Type} (g:Fact→List α→α):Fact→α
 | .mk o a p c n k=>g (.mk o a p c n k) (Wj g k)
 termination_by structural f=>f
def Wj {α:Type} (g:Fact→List α→α):List Fact→List α
 | []=>[]
 | x::r=>IZ g x::Wj g r
 termination_by structural l=>l
end
theorem c0 {α:Type} (g:Fact→List α→α) (l:List Fact):Wj g l=l.map (IZ g):=by
 induction l with
 | nil=>rfl
 | cons x r ih=>simp[Wj,ih]
theorem EU {α:Type} (g:Fact→List α→α) (f:Fact):IZ g f=g f (f.kids.map (IZ g)):=by
 cases f with
 | mk o a p c n k=>simp[IZ,c0,kids]
theorem ind {motive:Fact→Prop} (h: ∀f,(∀k∈f.kids,motive k)→motive f) (f:Fact):motive f:=by
 refine Fact.rec (motive_1:=motive) (motive_2:=fun l=> ∀k∈l,motive k) (fun o a p c n k ih=>h _ ih) (fun _ h=>by cases h) (fun x r hx hr k hk=>?_) f;rcases IF.1 hk with rfl|hk
 ·exact hx
 ·exact hr k hk
def size (f:Fact):Nat:=IZ (fun f l=>1+f.path.length+f.kids.length+l.sum) f
end Fact
structure N8 where
 kind:Int
 gen:Int
 fact:Fact
 node:Int
 deriving Inhabited
structure Prog where
 AO:List Pc
 AN:Int
 EA:List Int
 methods:List N8
 nodes:List Node
 main:Int
 deriving Inhabited
structure AP where
 parents:List (List Int)
 owner:List Int
 deriving DecidableEq,Inhabited
abbrev eI (n:Int):V:= .i .i64 n
def S1 (c:Pc):List V:=[.l (iL c.parents) false,.l (iL c.AN) false,.l (c.inits.map fun p=>[eI p.1,eI p.2]) false]
def It (x:Node):List V:=[eI x.op,eI x.n,.l (iL x.kids) false]
def Ge (f:Fact):List V:=f.IZ fun f l=>[eI f.op,eI f.arg,.l (iL f.path) false,eI f.cls,eI f.n,.l l false]
abbrev xF (f:Fact):List V:=[eI f.op,eI f.arg,.l (iL f.path) false,eI f.cls,eI f.n,.l (f.kids.map Ge) false]
theorem Bp (f:Fact):Ge f=xF f:=Fact.EU _ f
abbrev facts (l:List Fact):List (List V):=l.map Ge
def Z0 (m:N8):List V:=[eI m.kind,eI m.gen,eI m.fact.op,eI m.fact.arg,.l (iL m.fact.path) false,eI m.fact.cls,eI m.fact.n,.l (facts m.fact.kids) false,eI m.node]
def Br (p:Prog):List V:=[.l (p.AO.map S1) false,eI p.AN,.l (iL p.EA) false,.l (p.methods.map Z0) false,.l (p.nodes.map It) false,eI p.main]
def BQ (w:AP):List V:=[.l (El w.parents) false,.l (iL w.owner) false]
end Go.Gl
namespace Go.Gl
open Go.Proofs
theorem Sn:Sat emp []:=Sat.nil
theorem Mx:Ak=17592186044416:=rfl
abbrev oM (d s:Nat):AW:=⟨some d,.mv (.t s),none⟩
abbrev Aw (d s n:Nat):AW:=⟨some d,.mv (.t s),some (n,true)⟩
abbrev BW (d s n:Nat):AW:=⟨some d,.mv (.t s),some (n,false)⟩
abbrev A0 (d:Nat) (b:Bool):AW:=⟨some d,.mv (.c (.b b)),none⟩
abbrev BD (d:Nat) (i:Int):AW:=⟨some d,.mv (.c (.i .i64 i)),none⟩
abbrev DG (d:Nat):AW:=⟨some d,.mv (.c (.l [] true)),none⟩
abbrev oL (d s:Nat):AW:=⟨some d,.load none (.t s),none⟩
abbrev Au (d s n:Nat):AW:=⟨some d,.load none (.t s),some (n,true)⟩
abbrev BU (d s n:Nat):AW:=⟨some d,.load none (.t s),some (n,false)⟩
abbrev A2 (d k s:Nat):AW:=⟨some d,.load (some k) (.t s),none⟩
abbrev Jz (d k s n:Nat):AW:=⟨some d,.load (some k) (.t s),some (n,true)⟩
abbrev Ja (d k s n:Nat):AW:=⟨some d,.load (some k) (.t s),some (n,false)⟩
abbrev oF (d k s:Nat):AW:=⟨some d,.HH k (.t s),none⟩
abbrev BM (d k s n:Nat):AW:=⟨some d,.HH k (.t s),some (n,true)⟩
abbrev Bq (d k s n:Nat):AW:=⟨some d,.HH k (.t s),some (n,false)⟩
abbrev oI (d k s t:Nat):AW:=⟨some d,.Bi k none (.t s) (.t t),none⟩
abbrev FB (d k s t n:Nat):AW:=⟨some d,.Bi k none (.t s) (.t t),some (n,true)⟩
abbrev Ih (d k s t n:Nat):AW:=⟨some d,.Bi k none (.t s) (.t t),some (n,false)⟩
abbrev oS (k s t:Nat):AW:=⟨none,.store k (.t s) (.t t),none⟩
abbrev oE (d s:Nat):AW:=⟨some d,.len (.t s),none⟩
abbrev HA (d s n:Nat):AW:=⟨some d,.len (.t s),some (n,true)⟩
abbrev GV (d s n:Nat):AW:=⟨some d,.len (.t s),some (n,false)⟩
abbrev oN (d s:Nat):AW:=⟨some d,.not (.t s),none⟩
abbrev JZ (d s n:Nat):AW:=⟨some d,.not (.t s),some (n,true)⟩
abbrev Ig (d s n:Nat):AW:=⟨some d,.not (.t s),some (n,false)⟩
abbrev oK (d s:Nat):AW:=⟨some d,.Ei (.t s),none⟩
abbrev oX (d k s:Nat):AW:=⟨some d,.extract k (.t s),none⟩
abbrev oB (d s:Nat):AW:=⟨some d,.box (.t s),none⟩
abbrev CJ (d s:Nat):AW:=⟨some d,.NQ (.t s),none⟩
abbrev oG (d:Nat) (o:BinOp) (s t:Nat):AW:=⟨some d,.bin o (.t s) (.t t),none⟩
abbrev AV (d:Nat) (o:BinOp) (s:Nat) (i:Int):AW:=⟨some d,.bin o (.t s) (.c (.i .i64 i)),none⟩
abbrev EG (d:Nat) (o:BinOp) (s t n:Nat):AW:=⟨some d,.bin o (.t s) (.t t),some (n,true)⟩
abbrev Gu (d:Nat) (o:BinOp) (s t n:Nat):AW:=⟨some d,.bin o (.t s) (.t t),some (n,false)⟩
abbrev EF (d:Nat) (o:BinOp) (s:Nat) (i:Int) (n:Nat):AW:=⟨some d,.bin o (.t s) (.c (.i .i64 i)),some (n,true)⟩
abbrev Cp (d:Nat) (o:BinOp) (s:Nat) (i:Int) (n:Nat):AW:=⟨some d,.bin o (.t s) (.c (.i .i64 i)),some (n,false)⟩
abbrev oP (d s t:Nat):AW:=⟨some d,.pick (.t s) (.t t) (.c (.b false)),none⟩
abbrev oQ (d s t:Nat):AW:=⟨some d,.pick (.t s) (.c (.b true)) (.t t),none⟩
abbrev oC (d f s:Nat):AW:=⟨some d,.call f [.t s],none⟩
abbrev CK (d f s t:Nat):AW:=⟨some d,.call f [.t s,.t t],none⟩
abbrev NI (d f s t u:Nat):AW:=⟨some d,.call f [.t s,.t t,.t u],none⟩
abbrev Q1 (d f s t u v:Nat):AW:=⟨some d,.call f [.t s,.t t,.t u,.t v],none⟩
abbrev oA (d k e s t:Nat):AW:=⟨some d,.append k e (.t s) (.t t),none⟩
abbrev oo (d:Nat) (o:FA):AW:=⟨some d,o,none⟩
abbrev C7 (d:Nat) (o:FA) (n:Nat):AW:=⟨some d,o,some (n,true)⟩
abbrev Fp (d:Nat) (o:FA) (n:Nat):AW:=⟨some d,o,some (n,false)⟩
abbrev sr (l:List Nat) (o:List AW) (k:AK):AK:= .seq l (.Am o) k
abbrev dO (i:Nat) (o:AW):Cg:=⟨i,o,[],[]⟩
abbrev CT (f k:Nat) (a:AK) (rs:List Nat):Prop:= ∀ {args:List V} (_:args.length≤k) {σ:AH} {Q:R→AH→Prop} (_:W Tryz.prog a (eF rs Q) (BA 0 args) σ),Bj Tryz.prog f args σ Q
theorem cT {f k:Nat} {a:AK} {rs:List Nat} {fn:Func} (hf:Tryz.prog.funcs[f]? =some fn) (fz:List Nat:=[]) (pu:List Nat:=[]) (hk:fn.ntmps=k:=by exact rfl) (hok:okF Tryz.prog f=true:=by kernel_rfl) (hb:fn.body.bind (res Tryz.prog fn.ntmps pu fz)=some (erase a):=by kernel_rfl) (hr:GG fn.results.toList=some rs:=by exact rfl):CT f k a rs:=@fun _ hn _ _ h=>PQ hf hok hb hr (hk ▸ hn) (lG h)
abbrev CU (f k:Nat) (a:AK) (rs:List RS):Prop:= ∀ {args:List V} (_:args.length≤k) {σ:AH} {Q:R→AH→Prop} (_:W Tryz.prog a (S8 rs Q) (BA 0 args) σ),Bj Tryz.prog f args σ Q
theorem cU {f k:Nat} {a:AK} {rs:List RS} {fn:Func} (hf:Tryz.prog.funcs[f]? =some fn) (fz:List Nat:=[]) (pu:List Nat:=[]) (hk:fn.ntmps=k:=by exact rfl) (hok:okF Tryz.prog f=true:=by kernel_rfl) (hb:fn.body.bind (res Tryz.prog fn.ntmps pu fz)=some (erase a):=by kernel_rfl) (hr:NK Tryz.prog fn.results.toList=some rs:=by kernel_rfl):CU f k a rs:=@fun _ hn _ _ h=>Fi hf hok hb hr (hk ▸ hn) (lG h)
abbrev ac2:AK:=(.Am [oo 0 (.call 1 [])])
abbrev ac3:AK:=(sr [1,2,3] [CJ 3 0,A0 6 false] (sr [1,2,3,7,8] [A2 12 6 3,oM 13 1,oM 14 2,NI 15 12 12 13 14,oM 11 15,oX 16 0 11,oX 17 1 11,oM 7 16,oM 8 17] (sr [7,8,9,10] [A2 19 6 3,oM 20 1,oM 21 2,NI 22 13 19 20 21,oM 18 22,oX 23 0 18,oX 24 1 18,oM 9 23,oM 10 24] (sr [6] [oM 25 7,oM 26 9,oo 27 (.Sk false (.t 25) (.t 26)),oM 28 27,Aw 29 8 28,Aw 30 10 28,EG 31 .eql 29 30 28,oP 32 28 31,oM 33 32,C7 34 (.call 14 []) 33,oP 35 33 34,oM 6 35] .ret))))
theorem ctr3:CT 3 36 ac3 [6]:=cT Tryz.func3 [3]
abbrev zI:AK:=(sr [1,2,3] [CJ 3 0,A0 6 false,BD 7 0] (sr [1,2,8] [A2 9 6 3,oC 10 42 9,oM 8 10] (.seq [1,2,8] (sr [1,2,8,16] [oM 11 8,oM 12 1,oM 13 2,oo 14 (.Ab 1 2 [(.i .i64 0)] [(0,(.t 12)),(1,(.t 13))]),CK 15 43 11 14,oN 16 15] (.cond (.t 16) (sr [6,7] [A0 6 false,BD 7 2] .ret) .skip)) (.seq [1,2,8] (sr [1,2,8,21] [oM 17 8,oM 18 1,oM 19 2,NI 20 44 17 18 19,oN 21 20] (.cond (.t 21) (sr [6,7] [A0 6 false,BD 7 7] .ret) .skip)) (sr [6,7] [oM 22 8,oM 23 1,oM 24 2,NI 25 45 22 23 24,oM 6 25,BD 7 0] .ret)))))
theorem AAH:CT 12 26 zI [6,7]:=cT Tryz.func12 [3]
abbrev ac13:AK:=(sr [1,2,3] [CJ 3 0,A0 6 false,BD 7 0] (.seq [1,2,3] (sr [1,2,3,22] [A2 8 6 3,oC 9 27 8,oN 10 9,oM 11 10,Ja 12 6 3 11,BW 13 1 11,Fp 14 (.call 46 [(.t 12),(.t 13)]) 11,Ig 15 14 11,oQ 16 11 15,oM 17 16,Ja 18 6 3 17,BW 19 2 17,Fp 20 (.call 46 [(.t 18),(.t 19)]) 17,Ig 21 20 17,oQ 22 17 21] (.cond (.t 22) (sr [6,7] [A0 6 false,BD 7 2] .ret) .skip)) (.seq [1,2,3] (sr [1,2,3,27] [A2 23 6 3,oM 24 1,oM 25 2,NI 26 47 23 24 25,oN 27 26] (.cond (.t 27) (sr [6,7] [A0 6 false,BD 7 7] .ret) .skip)) (sr [6,7] [A2 28 6 3,oM 29 1,oM 30 2,NI 31 39 28 29 30,oM 6 31,BD 7 0] .ret))))
theorem AAG:CT 13 32 ac13 [6,7]:=cT Tryz.func13 [3]
abbrev ac27:AK:=(sr [1] [CJ 1 0,A0 2 false] (sr [4] [A2 6 6 1,oC 7 65 6,oM 5 7,oX 8 0 5,oX 9 1 5,oM 3 8,oM 4 9] (sr [2] [oM 10 4,oM 2 10] .ret)))
theorem AAF:CT 27 11 ac27 [2]:=cT Tryz.func27 [1]
abbrev ac30:AK:=(sr [0,1] [A0 4 false] (.seq [0,1] (sr [0,1,10] [oM 6 0,oE 7 6,oM 8 1,oE 9 8,oG 10 .neq 7 9] (.cond (.t 10) (sr [4] [A0 4 false] .ret) .skip)) (.seq [] (sr [0,1,12,13] [oM 11 0,oE 12 11,BD 13 0] (.block 0 (.loop [0,1,12,13] (sr [0,1,12,13,14] [oG 14 .lss 13 12] (.seq [0,1,12,13] (.cond (.t 14) .skip (.exit 0)) (.seq [0,1,12,13] (.block 1 (sr [0,1,5,12,13] [oM 15 13,oM 5 15] (.seq [0,1,12,13,24] (.A9 [0,1,12,13,24] [dO 0 (oM 16 0),dO 1 (oM 17 5),dO 2 (oI 18 1 16 17),dO 3 (oL 19 18),dO 4 (oM 20 1),dO 5 (oM 21 5),dO 6 (oI 22 1 20 21),dO 7 (oL 23 22),dO 8 (oG 24 .neq 19 23)]) (.cond (.t 24) (sr [4] [A0 4 false] .ret) .skip)))) (.Am [AV 25 .add 13 1,oM 13 25]))))))) (sr [4] [A0 4 true] .ret))))
theorem AAE:CT 30 26 ac30 [4]:=cT Tryz.func30
abbrev ac39:AK:=(sr [1,2,3] [CJ 3 0,A0 6 false] (sr [6] [A2 7 6 3,oM 8 1,oM 9 2,NI 10 55 7 8 9,oM 11 10,Jz 12 6 3 11,Aw 13 2 11,Aw 14 1 11,C7 15 (.call 55 [(.t 12),(.t 13),(.t 14)]) 11,JZ 16 15 11,oP 17 11 16,oM 6 17] .ret))
theorem AAD:CT 39 18 ac39 [6]:=cT Tryz.func39 [3]
abbrev zH:AK:=(sr [1] [CJ 1 0,oo 2 (.mv (.c .pn))] (sr [1,3,4] [A2 6 6 1,oC 7 71 6,oM 5 7,oX 8 0 5,oX 9 1 5,oo 3 (.alloc [(.l [] true),(.l [] true)]),oS 2 3 8,oM 4 9] (.seq [1,3] (sr [1,3,11] [oM 10 4,AV 11 .neq 10 0] (.cond (.t 11) (sr [2] [oo 2 (.mv (.c .pn))] .ret) .skip)) (sr [2] [A2 12 6 1,A2 13 2 3,oo 14 (.GZ),oo 15 (.build [(.l [] true),(.i .i64 0),(.l [] true),(.l [] true),(.l [] true),(.i .i64 0),(.l [] true),(.l [] true),.mn] [(0,6,(.t 12)),(6,2,(.t 13)),(8,1,(.t 14))]),CJ 16 15,oM 2 16] .ret))))
theorem pT:CT 42 17 zH [2]:=cT Tryz.func42 [1,16]
abbrev zG:AK:=(sr [1,2] [CJ 2 0,A0 4 false] (sr [4] [oL 5 2,oo 6 (.U0 0 true (.t 5)),oM 7 6,Aw 8 1 7,C7 9 (.G8 (.func 73) [] [(.t 2)]) 7,C7 10 (.call 72 [(.t 8),(.t 9)]) 7,JZ 11 10 7,oP 12 7 11,oM 4 12] .ret))
theorem pS:CT 43 13 zG [4]:=cT Tryz.func43 [2]
abbrev zF:AK:=(sr [0,1,2] [A0 6 false] (.seq [7,8] (.A9 [7,8] [dO 0 (oM 9 0),dO 1 (oK 10 9),dO 2 (oF 11 0 10),dO 3 (oF 12 3 11),dO 4 (oL 13 12),dO 5 (oM 14 1),dO 6 (oI 15 9 13 14),dO 7 (A2 16 9 15),dO 8 (oM 17 0),dO 9 (oK 18 17),dO 10 (oF 19 0 18),dO 11 (oF 20 3 19),dO 12 (oL 21 20),dO 13 (oM 22 2),dO 14 (oI 23 9 21 22),dO 15 (A2 24 9 23),dO 16 (oo 7 (.alloc [(.i .i64 0),(.i .i64 0),(.i .i64 0),(.i .i64 0),(.l [] true),(.i .i64 0),(.i .i64 0),(.l [] true),(.i .i64 0)])),dO 17 (oo 8 (.alloc [(.i .i64 0),(.i .i64 0),(.i .i64 0),(.i .i64 0),(.l [] true),(.i .i64 0),(.i .i64 0),(.l [] true),(.i .i64 0)])),⟨18,oS 9 7 16,[15,12],[A2 24 9 23,oL 21 20]⟩,dO 19 (oS 9 8 24)]) (sr [6] [oF 25 1 7,oL 26 25,oF 27 1 8,oL 28 27,oG 29 .eql 26 28,oM 30 29,BM 31 0 7 30,Au 32 31 30,BM 33 0 8 30,Au 34 33 30,EG 35 .eql 32 34 30,oP 36 30 35,oM 6 36] .ret)))
theorem AAC:CT 44 37 zF [6]:=cT Tryz.func44
abbrev zE:AK:=(sr [0,1,2] [A0 6 false] (sr [6] [oM 7 0,oM 8 1,oM 9 2,NI 10 54 7 8 9,oM 11 10,Aw 12 0 11,Aw 13 2 11,Aw 14 1 11,C7 15 (.call 54 [(.t 12),(.t 13),(.t 14)]) 11,JZ 16 15 11,oP 17 11 16,oM 6 17] .ret))
theorem AAB:CT 45 18 zE [6]:=cT Tryz.func45
abbrev ac46:AK:=(sr [1,2] [CJ 2 0,A0 4 false] (sr [4] [oM 5 1,AV 6 .geq 5 0,oM 7 6,Aw 8 1 7,BM 9 3 2 7,Au 10 9 7,HA 11 10 7,EG 12 .lss 8 11 7,oP 13 7 12,oM 4 13] .ret))
theorem AAA:CT 46 14 ac46 [4]:=cT Tryz.func46 [2]
abbrev ac47:AK:=(sr [1,2,3] [CJ 3 0,A0 6 false] (.seq [6] (.A9 [6] [dO 0 (oF 7 3 3),dO 1 (oL 8 7),dO 2 (oM 9 1),dO 3 (oI 10 9 8 9),dO 4 (oF 11 1 10),dO 5 (oL 12 11),dO 6 (oF 13 3 3),dO 7 (oL 14 13),dO 8 (oM 15 2),dO 9 (oI 16 9 14 15),dO 10 (oF 17 1 16),dO 11 (oL 18 17),dO 12 (oG 19 .eql 12 18),dO 13 (oM 20 19),dO 14 (BM 21 3 3 20),dO 15 (Au 22 21 20),dO 16 (Aw 23 1 20),dO 17 (FB 24 9 22 23 20),dO 18 (BM 25 0 24 20),dO 19 (Au 26 25 20),dO 20 (BM 27 3 3 20),dO 21 (Au 28 27 20),dO 22 (Aw 29 2 20),dO 23 (FB 30 9 28 29 20),dO 24 (BM 31 0 30 20),dO 25 (Au 32 31 20),dO 26 (EG 33 .eql 26 32 20),dO 27 (oP 34 20 33),dO 28 (oM 6 34)]) .ret))
theorem z8:CT 47 35 ac47 [6]:=cT Tryz.func47 [3]
abbrev zD:AK:=(sr [0,1,2] [A0 6 false] (sr [0,1,2,7] [oM 10 1,oM 11 2,oo 12 (.build [(.i .i64 0),(.i .i64 0)] [(0,1,(.t 10)),(1,1,(.t 11))]),oo 7 (.alloc [(.i .i64 0),(.i .i64 0)]),oS 2 7 12] (.seq [0,1,2,7,8,9] (.A9 [0,1,2,7,8,9] [dO 0 (oM 14 0),dO 1 (oK 15 14),dO 2 (oF 16 8 15),dO 3 (oL 17 16),dO 4 (A2 18 2 7),dO 5 (oo 19 (.lookup (.a [.i64,.i64]) (.b false) true (.t 17) (.t 18))),dO 6 (oM 13 19),dO 7 (oX 20 0 13),dO 8 (oX 21 1 13),dO 9 (oM 8 20),dO 10 (oM 9 21)]) (.seq [8] (sr [0,1,2,7,8,23] [oM 22 9,oN 23 22] (.cond (.t 23) (.seq [0,7,8] (.A9 [0,7,8] [dO 0 (oM 25 0),dO 1 (oK 26 25),dO 2 (oF 27 6 26),dO 3 (A2 28 2 27),dO 4 (oM 29 0),dO 5 (oK 30 29),dO 6 (oF 31 0 30),dO 7 (oF 32 3 31),dO 8 (oL 33 32),dO 9 (oM 34 1),dO 10 (oI 35 9 33 34),dO 11 (oF 36 2 35),dO 12 (A2 37 6 36),dO 13 (oM 38 0),dO 14 (oK 39 38),dO 15 (oF 40 0 39),dO 16 (oF 41 3 40),dO 17 (oL 42 41),dO 18 (oM 43 2),dO 19 (oI 44 9 42 43),dO 20 (oF 45 2 44),dO 21 (A2 46 6 45),dO 22 (NI 47 76 28 37 46),dO 23 (oM 24 47),dO 24 (oX 48 0 24),dO 25 (oX 49 1 24),dO 26 (oM 8 48)]) (.A9 [8] [dO 0 (oM 50 0),dO 1 (oK 51 50),dO 2 (oF 52 8 51),dO 3 (oL 53 52),dO 4 (A2 54 2 7),dO 5 (oM 55 8),⟨6,⟨none,.DO (.a [.i64,.i64]) (.t 53) (.t 54) (.t 55),none⟩,[],[]⟩])) .skip)) (sr [6] [oM 56 8,oM 6 56] .ret)))))
theorem z7:CT 54 57 zD [6]:=cT Tryz.func54
abbrev ac55:AK:=(sr [1,2,3] [CJ 3 0,A0 6 false] (.seq [6] (.A9 [6] [dO 0 (A2 7 6 3),dO 2 (oF 9 3 3),dO 3 (oL 10 9),dO 4 (oM 11 1),dO 5 (oI 12 9 10 11),dO 6 (oF 13 2 12),dO 7 (A2 14 6 13),dO 8 (oF 15 3 3),dO 9 (oL 16 15),dO 10 (oM 17 2),dO 11 (oI 18 9 16 17),dO 12 (oF 19 2 18),dO 13 (A2 20 6 19),⟨1,oC 8 62 7,[13,9,7,3],[A2 20 6 19,oL 16 15,A2 14 6 13,oL 10 9]⟩,dO 14 (NI 21 77 8 14 20),dO 15 (oM 6 21)]) .ret))
theorem z6:CT 55 22 ac55 [6]:=cT Tryz.func55 [3]
abbrev ac62:AK:=(sr [1,2] [CJ 1 0,oo 2 (.alloc [(.l [] true),(.l [] true)])] (sr [1,2,3] [A2 6 6 1,oC 7 91 6,oo 8 (.build [(.l [] true),(.l [] true)] [(0,1,(.t 7))]),oo 3 (.alloc [(.l [] true),(.l [] true)]),oS 2 3 8] (.seq [2,3] (sr [1,2,3,4] [BD 4 0] (.block 0 (.loop [1,2,3,4] (.seq [1,2,3,4] (sr [1,2,3,4,13] [oM 9 4,oF 10 0 1,oL 11 10,oE 12 11,oG 13 .lss 9 12] (.cond (.t 13) .skip (.exit 0))) (.seq [1,2,3,4] (.block 1 (sr [1,2,3,4,5] [BD 5 0] (.block 2 (.loop [1,2,3,4,5] (.seq [1,2,3,4,5] (sr [1,2,3,4,5,24] [oM 16 5,oF 17 0 1,oL 18 17,oM 19 4,oI 20 3 18 19,oF 21 1 20,oL 22 21,oE 23 22,oG 24 .lss 16 23] (.cond (.t 24) .skip (.exit 2))) (.seq [1,2,3,4,5] (.block 3 (.Am [oF 27 1 3,oL 28 27,oM 29 4,AV 30 .add 29 3,oo 31 (.Ab 1 1 [(.i .i64 0)] [(0,(.t 30))]),oA 32 1 8 28 31,oF 33 1 3,oS 1 33 32])) (.Am [oM 25 5,AV 26 .add 25 1,oM 5 26]))))))) (.Am [oM 14 4,AV 15 .add 14 1,oM 4 15])))))) (sr [2] [A2 34 2 3,oS 2 2 34] .ret))))
theorem zy:CU 62 35 ac62 [.c 2 (some 2)]:=cU Tryz.func62 [1]
abbrev ac65:AK:=(sr [1] [CJ 1 0,DG 2,A0 3 false] (.seq [1] (sr [1,37] [A2 11 6 1,oC 12 93 11,oN 13 12,oM 14 13,Bq 15 2 1 14,BU 16 15 14,GV 17 16 14,Cp 18 .gtr 17 8 14,oQ 19 14 18,oM 20 19,Bq 21 3 1 20,BU 22 21 20,GV 23 22 20,Cp 24 .gtr 23 16 20,oQ 25 20 24,oM 26 25,Bq 27 4 1 26,BU 28 27 26,GV 29 28 26,Cp 30 .lss 29 1 26,oQ 31 26 30,oM 32 31,Bq 33 4 1 32,BU 34 33 32,GV 35 34 32,Cp 36 .gtr 35 120 32,oQ 37 32 36] (.cond (.t 37) (sr [2,3] [DG 2,A0 3 false] .ret) .skip)) (.seq [1] (sr [1,4] [BD 4 0] (.block 0 (.loop [1,4] (.seq [1,4] (sr [1,4,42] [oM 38 4,oF 39 2 1,oL 40 39,oE 41 40,oG 42 .lss 38 41] (.cond (.t 42) .skip (.exit 0))) (.seq [1,4] (.block 1 (sr [1,4,58] [oF 45 2 1,oL 46 45,oM 47 4,oI 48 1 46 47,oL 49 48,AV 50 .lss 49 1,oM 51 50,Bq 52 2 1 51,BU 53 52 51,BW 54 4 51,Ih 55 1 53 54 51,BU 56 55 51,Cp 57 .gtr 56 3 51,oQ 58 51 57] (.cond (.t 58) (sr [2,3] [DG 2,A0 3 false] .ret) .skip))) (.Am [oM 43 4,AV 44 .add 43 1,oM 4 44])))))) (sr [1,5] [DG 5] (.seq [1,5] (sr [1,5,6] [BD 6 0] (.block 2 (.loop [1,5,6] (.seq [1,5,6] (sr [1,5,6,63] [oM 59 6,oF 60 4 1,oL 61 60,oE 62 61,oG 63 .lss 59 62] (.cond (.t 63) .skip (.exit 2))) (.seq [1,5,6] (.block 3 (.Am [oM 66 5,oo 67 (.Ab 1 1 [(.i .i64 0)] [(0,(.c (.i .i64 (-1))))]),oA 68 1 8 66 67,oM 5 68])) (.Am [oM 64 6,AV 65 .add 64 1,oM 6 65])))))) (sr [1,5,7] [A2 69 6 1,oC 70 62 69,oo 7 (.alloc [(.l [] true),(.l [] true)]),oS 2 7 70] (.seq [1,5] (sr [1,5,7,8] [BD 8 0] (.block 4 (.loop [1,5,7,8] (.seq [1,5,7,8] (sr [1,5,7,8,75] [oM 71 8,oF 72 3 1,oL 73 72,oE 74 73,oG 75 .lss 71 74] (.cond (.t 75) .skip (.exit 4))) (.seq [1,5,7,8] (.block 5 (sr [1,5,7,8,9] [oF 78 3 1,oL 79 78,oM 80 8,oI 81 9 79 80,A2 82 9 81,oo 9 (.alloc [(.i .i64 0),(.i .i64 0),(.i .i64 0),(.i .i64 0),(.l [] true),(.i .i64 0),(.i .i64 0),(.l [] true),(.i .i64 0)]),oS 9 9 82] (.seq [1,5,7,8,9] (.seq [1,5,7,8,9,122] (.A9 [1,5,7,8,9,122] (dO 0 (oF 83 0 9)::dO 1 (oL 84 83)::dO 2 (AV 85 .lss 84 1)::dO 3 (oM 86 85)::dO 4 (Bq 87 0 9 86)::dO 5 (BU 88 87 86)::dO 6 (Cp 89 .gtr 88 4 86)::dO 7 (oQ 90 86 89)::dO 8 (oM 91 90)::dO 9 (Bq 92 1 9 91)::dO 10 (BU 93 92 91)::dO 11 (Cp 94 .lss 93 0 91)::dO 12 (oQ 95 91 94)::dO 13 (oM 96 95)::dO 14 (Bq 97 1 9 96)::dO 15 (BU 98 97 96)::dO 16 (Bq 99 2 1 96)::dO 17 (BU 100 99 96)::dO 18 (GV 101 100 96)::dO 19 (Gu 102 .geq 98 101 96)::dO 20 (oQ 103 96 102)::dO 21 (oM 104 103)::dO 22 (Ja 105 2 7 104)::dO 23 (Bq 106 2 9 104)::dO 24 (Ja 107 6 106 104)::dO 25 (Fp 108 (.call 94 [(.t 105),(.t 107)]) 104)::dO 26 (Ig 109 108 104)::dO 27 (oQ 110 104 109)::dO 28 (oM 111 110)::dO 29 (Bq 112 2 9 111)::dO 30 (Ja 113 6 112 111)::dO 32 (Bq 115 2 1 111)::dO 33 (BU 116 115 111)::dO 34 (Bq 117 1 9 111)::dO 35 (BU 118 117 111)::dO 36 (Ih 119 1 116 118 111)::dO 37 (BU 120 119 111)::⟨31,Fp 114 (.call 95 [(.t 113)]) 111,[37,35,33],[BU 120 119 111,BU 118 117 111,BU 116 115 111]⟩::dO 38 (Gu 121 .gtr 114 120 111)::dO 39 (oQ 122 111 121):: [])) (.cond (.t 122) (sr [2,3] [DG 2,A0 3 false] .ret) .skip)) (.seq [1,5,7,8,137] (.A9 [1,5,7,8,137] [dO 0 (A2 123 6 1),dO 1 (oF 124 8 9),dO 2 (oL 125 124),dO 3 (oF 126 2 1),dO 4 (oL 127 126),dO 5 (oF 128 1 9),dO 6 (oL 129 128),dO 7 (oI 130 1 127 129),dO 8 (oL 131 130),dO 9 (oF 132 0 9),dO 10 (oL 133 132),dO 12 (oM 135 5),⟨11,oC 134 97 133,[8,6,4,2,0],[oL 131 130,oL 129 128,oL 127 126,oL 125 124,A2 123 6 1]⟩,dO 13 (oo 136 (.call 96 [(.t 123),(.t 125),(.t 131),(.c (.i .i64 1)),(.t 134),(.t 135)])),dO 14 (oN 137 136)]) (.cond (.t 137) (sr [2,3] [DG 2,A0 3 false] .ret) .skip))))) (.Am [oM 76 8,AV 77 .add 76 1,oM 8 77])))))) (.seq [5] (sr [5,143] [A2 138 6 1,oF 139 5 1,oL 140 139,oM 141 5,oo 142 (.call 96 [(.t 138),(.t 140),(.c (.i .i64 0)),(.c (.i .i64 1)),(.c (.b false)),(.t 141)]),oN 143 142] (.cond (.t 143) (sr [2,3] [DG 2,A0 3 false] .ret) .skip)) (.seq [5] (sr [5,10] [BD 10 0] (.block 6 (.loop [5,10] (.seq [5,10] (sr [5,10,147] [oM 144 10,oM 145 5,oE 146 145,oG 147 .lss 144 146] (.cond (.t 147) .skip (.exit 6))) (.seq [5,10] (.block 7 (sr [5,10,154] [oM 150 5,oM 151 10,oI 152 1 150 151,oL 153 152,AV 154 .lss 153 0] (.cond (.t 154) (sr [2,3] [DG 2,A0 3 false] .ret) .skip))) (.Am [oM 148 10,AV 149 .add 148 1,oM 10 149])))))) (sr [2,3] [oM 155 5,oM 2 155,A0 3 true] .ret))))))))))
theorem zx:CT 65 156 ac65 [2,3]:=cT Tryz.func65 [1]
abbrev zC:AK:=(sr [1,2] [CJ 1 0,oo 2 (.alloc [(.l [] true),(.l [] true)]),BD 3 0] (.seq [1,2] (sr [1,2,6] [A2 4 6 1,oC 5 107 4,AV 6 .neq 5 0] (.cond (.t 6) (sr [2,3] [oo 7 (.build [(.l [] true),(.l [] true)] []),oS 2 2 7,BD 3 2] .ret) .skip)) (sr [2,3] [A2 8 6 1,oC 9 108 8,oS 2 2 9,BD 3 0] .ret)))
theorem pR:CU 71 10 zC [.c 2 (some 2),.t 3]:=cU Tryz.func71 [1]
abbrev zB:AK:=(sr [0,1] [A0 4 false] (sr [4] [oM 5 0,oM 6 1,CK 7 103 5 6,AV 8 .geq 7 0,oM 4 8] .ret))
theorem pQ:CT 72 9 zB [4]:=cT Tryz.func72
abbrev zA:AK:=(sr [0,1] [A0 3 false] (sr [3] [oM 4 0,AV 5 .lss 4 0,oM 6 5,BW 7 0 6,BU 8 1 6,Fp 9 (.Ei (.t 8)) 6,Bq 10 0 9 6,Bq 11 3 10 6,BU 12 11 6,GV 13 12 6,Gu 14 .geq 7 13 6,oQ 15 6 14,oM 3 15] .ret))
theorem zw:CT 73 16 zA [3]:=cT Tryz.func73
abbrev y9:AK:=(sr [3,4,5] [CJ 3 0,CJ 4 1,CJ 5 2,A0 6 false,BD 7 0] (sr [4,5,8,9] [A2 11 2 3,A2 12 6 4,A2 13 6 5,oo 14 (.Ab 6 2 [(.i .i64 0),(.i .i64 0),(.l [] true),(.i .i64 0),(.i .i64 0),(.l [] true)] [(0,(.t 12)),(1,(.t 13))]),CK 15 109 11 14,oM 10 15,oX 16 0 10,oX 17 1 10,oM 8 16,oM 9 17] (.seq [4,5,8] (sr [4,5,8,19] [oM 18 9,oN 19 18] (.cond (.t 19) (sr [6,7] [A0 6 false,BD 7 2] .ret) .skip)) (sr [6,7] [oM 20 8,A2 21 6 4,A2 22 6 5,NI 23 110 20 21 22,oM 6 23,BD 7 0] .ret))))
theorem zv:CT 76 24 y9 [6,7]:=cT Tryz.func76 [3,4,5]
abbrev ac77:AK:=(sr [3,4,5] [CJ 3 0,CJ 4 1,CJ 5 2,A0 6 false] (.seq [6] (.A9 [6] [dO 0 (A2 7 2 3),dO 1 (A2 8 6 4),dO 2 (A2 9 6 5),⟨3,oC 10 113 9,[1,0],[A2 8 6 4,A2 7 2 3]⟩,⟨4,CK 11 112 8 10,[0],[A2 7 2 3]⟩,dO 5 (CK 12 111 7 11),dO 6 (oN 13 12),dO 7 (oM 6 13)]) .ret))
theorem zu:CT 77 14 ac77 [6]:=cT Tryz.func77 [3,4,5]
abbrev ac91:AK:=(sr [1] [CJ 1 0,DG 2] (sr [1,3] [DG 3] (.seq [3] (sr [1,3,4] [BD 4 0] (.block 0 (.loop [1,3,4] (.seq [1,3,4] (sr [1,3,4,9] [oM 5 4,oF 6 0 1,oL 7 6,oE 8 7,oG 9 .lss 5 8] (.cond (.t 9) .skip (.exit 0))) (.seq [1,3,4] (.block 1 (.Am [oM 12 3,oF 13 0 1,oL 14 13,oM 15 4,oI 16 3 14 15,oF 17 0 16,oL 18 17,oo 19 (.N6 1 8 (.c (.l [] true)) (.t 18)),oo 20 (.Ab 1 1 [(.l [] true)] [(0,(.t 19))]),oA 21 1 24 12 20,oM 3 21])) (.Am [oM 10 4,AV 11 .add 10 1,oM 4 11])))))) (sr [2] [oM 22 3,oM 2 22] .ret))))
theorem zt:CT 91 23 ac91 [2]:=cT Tryz.func91 [1,19]
end Go.Gl
