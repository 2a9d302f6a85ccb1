/-
  GL 14w: what has to be shown, with frames that are spelled out at once (W).
-/
import Derived.Test.YtfbhfdaljendcaaGreatGl19
set_option linter.all false
set_option linter.unusedVariables false
set_option linter.unusedSimpArgs false
namespace Go.Gl
variable {P : Program} {σ : Store} {env env' : Env}
/-- the frame behind a step, spelled out -/
def pk : List Nat → Env → (Env → Prop) → Prop
  | [], _, k => k []
  | s :: r, env, k => match get s env with
    | some v => pk r env fun e => k ((s, v) :: e)
    | none => pk r env k
theorem pk_eq : ∀ {l : List Nat} {env : Env} {k : Env → Prop}, pk l env k = k (prune l env)
  | [], _, _ => rfl
  | s :: r, env, k => by
    simp only [pk, prune]
    cases get s env with
    | none => exact pk_eq (l := r)
    | some v => exact pk_eq (l := r)
/-! By recursors: so that the kernel takes the same steps as the elaborator. -/
abbrev WM := (AExit → Env → Store → Prop) → Env → Store → Prop
def WT (P : Program) (ops : List AOper) (K : Env → Store → Prop) (kp : Env → V → Store → Prop) : Env → Store → Prop :=
  List.rec (motive := fun _ => Env → Store → Prop) K (fun o _ ih env σ => Sop P o env σ (fun v σ' => ih (put o.dst v env) σ') (kp env)) ops
theorem WT_eq {P : Program} {K : Env → Store → Prop} {kp : Env → V → Store → Prop} : ∀ (ops : List AOper) (env : Env) (σ : Store), WT P ops K kp env σ = Tops P ops K kp env σ
  | [], _, _ => rfl
  | o :: r, env, σ => by
    have : (fun (v : V) (σ' : Store) => WT P r K kp (put o.dst v env) σ') = fun v σ' => Tops P r K kp (put o.dst v env) σ' := funext fun v => funext fun σ' => WT_eq r _ _
    show Sop P o env σ (fun v σ' => WT P r K kp (put o.dst v env) σ') (kp env) = _
    rw [this]
    rfl
def WD (P : Program) (ops : List DOper) (K : Env → Store → Prop) (kp : V → Store → Prop) : Env → Store → Prop :=
  List.rec (motive := fun _ => Env → Store → Prop) K (fun d _ ih env σ => Sop P d.o env σ (fun v σ' => Rechks P d.re (put d.o.dst v env) σ' ∧ ih (put d.o.dst v env) σ') kp) ops
theorem WD_eq {P : Program} {K : Env → Store → Prop} {kp : V → Store → Prop} : ∀ (ops : List DOper) (env : Env) (σ : Store), WD P ops K kp env σ = Tdops P ops K kp env σ
  | [], _, _ => rfl
  | d :: r, env, σ => by
    have : (fun (v : V) (σ' : Store) => Rechks P d.re (put d.o.dst v env) σ' ∧ WD P r K kp (put d.o.dst v env) σ') = fun v σ' => Rechks P d.re (put d.o.dst v env) σ' ∧ Tdops P r K kp (put d.o.dst v env) σ' := funext fun v => funext fun σ' => by rw [WD_eq r]
    show Sop P d.o env σ (fun v σ' => Rechks P d.re (put d.o.dst v env) σ' ∧ WD P r K kp (put d.o.dst v env) σ') kp = _
    rw [this]
    rfl
def wSeq (l : List Nat) (iha ihb : WM) : WM := fun Q env σ => iha (AExit.andThen (fun env σ => pk l env fun E => ihb Q E σ) Q) env σ
def wCond (c : Opd) (iha ihb : WM) : WM := fun Q env σ => match ev env c with
    | some (.b t) => (t = true → iha Q env σ) ∧ (t = false → ihb Q env σ)
    | _ => False
/-- a loop, with a measure -/
def LoopR (l : List Nat) (_ : ACode) (iha : WM) (Q : AExit → Env → Store → Prop) (E : Env) (σ : Store) : Prop := ∃ I : Nat → Env → Store → Prop, (∃ n, I n E σ) ∧
      ∀ n env σ, I n env σ → iha (AExit.andThen (fun env σ => pk l env fun E' => ∃ m, m < n ∧ I m E' σ) Q) env σ
def wLoop (l : List Nat) (a : ACode) (iha : WM) : WM := fun Q env σ => pk l env fun E => LoopR l a iha Q E σ
def wRange (P : Program) (l : List Nat) (g : Opd) (ps : List Nat) (a b : ACode) : WM := fun Q env σ => match ev env g with
    | some (.f (.func gf) [] cap) => pk l env fun E => ∀ L, σ L = none → Ctr P gf (.f (.yield L) [] [] :: cap) (upd σ L (.loop .ready E (loopOk P ps a b))) (RangeQ L Q env)
    | _ => False
/-- **what has to be shown** -/
def W (P : Program) (c : ACode) : WM :=
  ACode.rec (motive := fun _ => WM)
    (fun Q env σ => Q .normal env σ)
    (fun ops Q env σ => WT P ops (fun env σ => Q .normal env σ) (fun env v σ => Q (.pan v) env σ) env σ)
    (fun l ops Q env σ => WD P ops (fun env σ => pk l env fun E => Q .normal E σ) (fun v σ => ∀ σ', Sub σ σ' → Q (.pan v) [] σ') env σ)
    (fun l _ _ iha ihb => wSeq l iha ihb)
    (fun c _ _ iha ihb => wCond c iha ihb)
    (fun id _ ih Q env σ => ih (AExit.inBlock id Q) env σ)
    (fun l a ih => wLoop l a ih)
    (fun id Q env σ => Q (.exit id) env σ)
    (fun Q env σ => Q .ret env σ)
    (fun _ ih => ih)
    (fun l g ps a b _ _ => wRange P l g ps a b) c
theorem W_seq {l : List Nat} {a b : ACode} {Q : AExit → Env → Store → Prop} : W P (.seq l a b) Q env σ = W P a (AExit.andThen (fun env σ => pk l env fun E => W P b Q E σ) Q) env σ := rfl
theorem W_cond {c : Opd} {a b : ACode} {Q : AExit → Env → Store → Prop} : W P (.cond c a b) Q env σ = match ev env c with
    | some (.b t) => (t = true → W P a Q env σ) ∧ (t = false → W P b Q env σ)
    | _ => False := rfl
theorem W_loop {l : List Nat} {a : ACode} {Q : AExit → Env → Store → Prop} : W P (.loop l a) Q env σ = pk l env fun E => ∃ I : Nat → Env → Store → Prop, (∃ n, I n E σ) ∧
      ∀ n env σ, I n env σ → W P a (AExit.andThen (fun env σ => pk l env fun E' => ∃ m, m < n ∧ I m E' σ) Q) env σ := rfl
theorem W_reg {ops : List AOper} {Q : AExit → Env → Store → Prop} : W P (.reg ops) Q env σ = Tops P ops (fun env σ => Q .normal env σ) (fun env v σ => Q (.pan v) env σ) env σ := WT_eq ops env σ
theorem W_dreg {l : List Nat} {ops : List DOper} {Q : AExit → Env → Store → Prop} : W P (.dreg l ops) Q env σ = Tdops P ops (fun env σ => pk l env fun E => Q .normal E σ) (fun v σ => ∀ σ', Sub σ σ' → Q (.pan v) [] σ') env σ := WD_eq ops env σ
theorem W_rangef {l : List Nat} {g : Opd} {ps : List Nat} {a b : ACode} {Q : AExit → Env → Store → Prop} : W P (.rangef l g ps a b) Q env σ = match ev env g with
    | some (.f (.func gf) [] cap) => pk l env fun E => ∀ L, σ L = none → Ctr P gf (.f (.yield L) [] [] :: cap) (upd σ L (.loop .ready E (loopOk P ps a b))) (RangeQ L Q env)
    | _ => False := rfl
theorem T_of_W : ∀ {c : ACode} {Q Q' : AExit → Env → Store → Prop} {env : Env} {σ : Store}, W P c Q env σ → (∀ ex env σ, Q ex env σ → Q' ex env σ) → T P c Q' env σ := by
  intro c
  induction c with
  | skip => intro Q Q' env σ h hm; exact hm _ _ _ h
  | ret => intro Q Q' env σ h hm; exact hm _ _ _ h
  | exit id => intro Q Q' env σ h hm; exact hm _ _ _ h
  | reg ops => intro Q Q' env σ h hm; rw [W_reg] at h; exact Tops_mono (fun _ _ h => hm _ _ _ h) (fun _ _ _ h => hm _ _ _ h) h
  | dreg l ops => intro Q Q' env σ h hm; rw [W_dreg] at h; exact Tdops_mono (fun _ _ h => hm _ _ _ (by rw [pk_eq] at h; exact h)) (fun _ _ h σ' hs => hm _ _ _ (h σ' hs)) h
  | seq l a b iha ihb =>
    intro Q Q' env σ h hm
    refine iha h fun ex env σ hq => ?_
    cases ex with
    | normal => simp only [AExit.andThen] at *; rw [pk_eq] at hq; exact ihb hq hm
    | exit id => exact hm _ _ _ hq
    | ret => exact hm _ _ _ hq
    | pan v => exact hm _ _ _ hq
  | cond c a b iha ihb =>
    intro Q Q' env σ h hm
    simp only [T, W_cond] at *
    split at h
    · rename_i he
      rw [he]
      exact ⟨fun e => iha (h.1 e) hm, fun e => ihb (h.2 e) hm⟩
    · exact h.elim
  | block id a ih =>
    intro Q Q' env σ h hm
    refine ih h fun ex env σ hq => ?_
    cases ex with
    | normal => exact hm _ _ _ hq
    | exit id' =>
      simp only [AExit.inBlock] at *
      cases hb : Nat.beq id' id <;> rw [hb] at hq <;> exact hm _ _ _ hq
    | ret => exact hm _ _ _ hq
    | pan v => exact hm _ _ _ hq
  | scope a ih => intro Q Q' env σ h hm; exact ih h hm
  | loop l a ih =>
    intro Q Q' env σ h hm
    rw [W_loop, pk_eq] at h
    obtain ⟨I, h0, hr⟩ := h
    refine ⟨I, h0, fun n env σ hI => ih (hr n env σ hI) fun ex env σ hq => ?_⟩
    cases ex with
    | normal => simp only [AExit.andThen] at *; rw [pk_eq] at hq; exact hq
    | exit id => exact hm _ _ _ hq
    | ret => exact hm _ _ _ hq
    | pan v => exact hm _ _ _ hq
  | rangef l g ps a b _ _ =>
    intro Q Q' env σ h hm
    simp only [T, W_rangef] at *
    split at h
    · rename_i he
      rw [pk_eq] at h
      rw [he]
      refine fun L hL => (h L hL).mono fun r σ' hq => ?_
      cases r with
      | ret v =>
        obtain ⟨st, env1, ok, h1, h2⟩ := hq
        refine ⟨st, env1, ok, h1, ?_⟩
        cases st <;> exact hm _ _ _ h2
      | pan v => exact hm _ _ _ hq
    · exact h.elim
theorem T_W {c : ACode} {Q : AExit → Env → Store → Prop} (h : W P c Q env σ) : T P c Q env σ := T_of_W h fun _ _ _ h => h
theorem W_mono : ∀ {c : ACode} {Q Q' : AExit → Env → Store → Prop} {env : Env} {σ : Store}, W P c Q env σ → (∀ ex env σ, Q ex env σ → Q' ex env σ) → W P c Q' env σ := by
  intro c
  induction c with
  | skip => intro Q Q' env σ h hm; exact hm _ _ _ h
  | ret => intro Q Q' env σ h hm; exact hm _ _ _ h
  | exit id => intro Q Q' env σ h hm; exact hm _ _ _ h
  | reg ops => intro Q Q' env σ h hm; rw [W_reg] at *; exact Tops_mono (fun _ _ h => hm _ _ _ h) (fun _ _ _ h => hm _ _ _ h) h
  | dreg l ops => intro Q Q' env σ h hm; rw [W_dreg] at *; exact Tdops_mono (fun _ _ h => by rw [pk_eq] at *; exact hm _ _ _ h) (fun _ _ h σ' hs => hm _ _ _ (h σ' hs)) h
  | seq l a b iha ihb =>
    intro Q Q' env σ h hm
    refine iha h fun ex env σ hq => ?_
    cases ex with
    | normal => simp only [AExit.andThen] at *; rw [pk_eq] at *; exact ihb hq hm
    | exit id => exact hm _ _ _ hq
    | ret => exact hm _ _ _ hq
    | pan v => exact hm _ _ _ hq
  | cond c a b iha ihb =>
    intro Q Q' env σ h hm
    simp only [W_cond] at *
    split at h
    · exact ⟨fun e => iha (h.1 e) hm, fun e => ihb (h.2 e) hm⟩
    · exact h.elim
  | block id a ih =>
    intro Q Q' env σ h hm
    refine ih h fun ex env σ hq => ?_
    cases ex with
    | normal => exact hm _ _ _ hq
    | exit id' =>
      simp only [AExit.inBlock] at *
      cases hb : Nat.beq id' id <;> rw [hb] at hq <;> exact hm _ _ _ hq
    | ret => exact hm _ _ _ hq
    | pan v => exact hm _ _ _ hq
  | scope a ih => intro Q Q' env σ h hm; exact ih h hm
  | loop l a ih =>
    intro Q Q' env σ h hm
    simp only [W_loop] at *
    rw [pk_eq] at *
    obtain ⟨I, h0, hr⟩ := h
    refine ⟨I, h0, fun n env σ hI => ih (hr n env σ hI) fun ex env σ hq => ?_⟩
    cases ex with
    | normal => exact hq
    | exit id => exact hm _ _ _ hq
    | ret => exact hm _ _ _ hq
    | pan v => exact hm _ _ _ hq
  | rangef l g ps a b _ _ =>
    intro Q Q' env σ h hm
    simp only [W_rangef] at *
    split at h
    · rw [pk_eq] at *
      refine fun L hL => (h L hL).mono fun r σ' hq => ?_
      cases r with
      | ret v =>
        obtain ⟨st, env1, ok, h1, h2⟩ := hq
        refine ⟨st, env1, ok, h1, ?_⟩
        cases st <;> exact hm _ _ _ h2
      | pan v => exact hm _ _ _ hq
    · exact h.elim
/-! loops -/
abbrev LoopG (P : Program) (l : List Nat) (a : ACode) (Q : AExit → Env → Store → Prop) (E : Env) (σ : Store) : Prop := LoopR l a (W P a) Q E σ
/-- a loop that counts up -/
theorem upW {l : List Nat} {a : ACode} {Q : AExit → Env → Store → Prop} {E : Env} (len : Nat) (I : Nat → Env → Store → Prop) (h0 : I 0 E σ)
    (h : ∀ k env σ, k ≤ len → I k env σ → W P a (AExit.andThen (fun env σ => pk l env fun E' => k < len ∧ I (k + 1) E' σ) Q) env σ) : LoopG P l a Q E σ := by
  refine ⟨fun n env σ => ∃ k, k ≤ len ∧ n = len - k ∧ I k env σ, ⟨len, 0, Nat.zero_le _, by omega, h0⟩, fun n env σ ⟨k, hk, hn, hI⟩ => ?_⟩
  refine W_mono (h k env σ hk hI) fun ex env' σ' hq => ?_
  cases ex with
  | normal =>
    simp only [AExit.andThen] at *
    rw [pk_eq] at *
    exact ⟨len - (k + 1), by have := hq.1; omega, k + 1, hq.1, rfl, hq.2⟩
  | exit id => exact hq
  | ret => exact hq
  | pan v => exact hq
/-- the deferred call and what comes behind it -/
def dfrW (P : Program) (x : Opd) (l : List Nat) (ac : ACode) (slots : List RS) (Q : R → Store → Prop) (env : Env) (σ : Store) : Prop :=
  wv (ev env x) fun vf => match vf with
    | .f (.func g) [] cap => pk l env fun E => W P ac (DfrQ P g cap slots Q) E σ
    | _ => False
theorem dfrW_K {x : Opd} {l : List Nat} {ac : ACode} {slots : List RS} {Q : R → Store → Prop} (h : dfrW P x l ac slots Q env σ) : dfrK P x l ac slots Q env σ := by
  unfold dfrW at h
  unfold dfrK
  refine wv_mono h fun vf h => ?_
  split at h
  · rw [pk_eq] at h; exact T_W h
  · exact h.elim
theorem onNormal_mono {K K' : Env → Store → Prop} (h : ∀ env σ, K env σ → K' env σ) : ∀ ex env σ, onNormal K ex env σ → onNormal K' ex env σ := fun ex env σ hq => by
  cases ex <;> first | exact h _ _ hq | exact hq.elim
theorem T_dfr {c : ACode} {x : Opd} {l : List Nat} {ac : ACode} {slots : List RS} {Q : R → Store → Prop} (h : W P c (onNormal (dfrW P x l ac slots Q)) env σ) : T P c (onNormal (dfrK P x l ac slots Q)) env σ :=
  T_of_W h (onNormal_mono fun _ _ h => dfrW_K h)
theorem ctrY_of_W {L : Nat} {env : Env} {ps : List Nat} {a b : ACode} (hσ : σ L = some (.loop .ready env (loopOk P ps a b))) {args : List V} (hl : args.length = ps.length) {Q : R → Store → Prop}
    (h : W P a (onNormal (W P b (RoundQ L env (loopOk P ps a b) Q))) (bindPs ps args env) (del σ L)) : CtrY P L args σ Q :=
  ctrY_of_T hσ hl (T_of_W h (onNormal_mono fun _ _ h => T_W h))
/-! the steps of a proof -/
theorem W_seqK {l : List Nat} {a b : ACode} {Q : AExit → Env → Store → Prop} (h : ∀ K : Env → Store → Prop, (∀ env σ, (pk l env fun E => W P b Q E σ) → K env σ) → W P a (AExit.andThen K Q) env σ) : W P (.seq l a b) Q env σ :=
  h _ fun _ _ h => h
theorem W_regI {ops : List AOper} {Q : AExit → Env → Store → Prop} (h : ∀ (KR : Env → Store → Prop) (KP : Env → V → Store → Prop), (∀ env σ, Q .normal env σ → KR env σ) → (∀ env v σ, Q (.pan v) env σ → KP env v σ) → WT P ops KR KP env σ) : W P (.reg ops) Q env σ :=
  h _ _ (fun _ _ h => h) (fun _ _ _ h => h)
theorem W_dregI {l : List Nat} {ops : List DOper} {Q : AExit → Env → Store → Prop} (h : ∀ (KR : Env → Store → Prop) (KP : V → Store → Prop), (∀ env σ, (pk l env fun E => Q .normal E σ) → KR env σ) → (∀ v σ, (∀ σ', Sub σ σ' → Q (.pan v) [] σ') → KP v σ) → WD P ops KR KP env σ) : W P (.dreg l ops) Q env σ :=
  h _ _ (fun _ _ h => h) (fun _ _ h => h)
theorem W_condI {c : Opd} {a b : ACode} {Q : AExit → Env → Store → Prop} (h : match ev env c with
    | some (.b t) => (t = true → W P a Q env σ) ∧ (t = false → W P b Q env σ)
    | _ => False) : W P (.cond c a b) Q env σ := h
theorem W_blockI {id : Nat} {a : ACode} {Q : AExit → Env → Store → Prop} (h : W P a (AExit.inBlock id Q) env σ) : W P (.block id a) Q env σ := h
theorem W_loopI {l : List Nat} {a : ACode} {Q : AExit → Env → Store → Prop} (h : pk l env fun E => LoopR l a (W P a) Q E σ) : W P (.loop l a) Q env σ := h
theorem W_exitI {id : Nat} {Q : AExit → Env → Store → Prop} (h : Q (.exit id) env σ) : W P (.exit id) Q env σ := h
theorem W_retI {Q : AExit → Env → Store → Prop} (h : Q .ret env σ) : W P .ret Q env σ := h
theorem W_skipI {Q : AExit → Env → Store → Prop} (h : Q .normal env σ) : W P .skip Q env σ := h
theorem W_scopeI {a : ACode} {Q : AExit → Env → Store → Prop} (h : W P a Q env σ) : W P (.scope a) Q env σ := h
theorem W_rangeI {l : List Nat} {g : Opd} {ps : List Nat} {a b : ACode} {Q : AExit → Env → Store → Prop} (h : match ev env g with
    | some (.f (.func gf) [] cap) => pk l env fun E => ∀ L, σ L = none → Ctr P gf (.f (.yield L) [] [] :: cap) (upd σ L (.loop .ready E (loopOk P ps a b))) (RangeQ L Q env)
    | _ => False) : W P (.rangef l g ps a b) Q env σ := h
theorem useK {K A : Env → Store → Prop} (h : ∀ env σ, A env σ → K env σ) (ha : A env σ) : K env σ := h env σ ha
end Go.Gl
