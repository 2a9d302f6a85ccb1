/-
  GL 14: T is monotone; loops.
-/
import Derived.Test.YtfbhfdaljendcaaGreatGl13
set_option linter.all false
set_option linter.unusedVariables false
set_option linter.unusedSimpArgs false
namespace Go.Gl
variable {P : Program} {σ : Store} {env env' : Env}
theorem beq_ne {a b : Nat} (h : ¬ a = b) : Nat.beq a b = false := by
  cases hb : Nat.beq a b with
  | false => rfl
  | true => exact absurd (Nat.eq_of_beq_eq_true hb) h
theorem Done_pure {v vf : V} (h : Frz σ emp v vf) : Done σ v (fun r σ' => r = .ret vf ∧ σ' = emp) := ⟨vf, emp, fun n o ho => (by cases ho), h, rfl, rfl⟩
theorem Done_eq {v vf : V} (h : v = vf) : Done σ v (fun r σ' => r = .ret vf ∧ σ' = emp) := Done_pure (h ▸ .refl v)
theorem Tops_mono {K K' : Env → Store → Prop} {kp kp' : Env → V → Store → Prop} (hm : ∀ env σ, K env σ → K' env σ) (hp : ∀ env v σ, kp env v σ → kp' env v σ) : ∀ {os : List AOper} {env : Env} {σ : Store}, Tops P os K kp env σ → Tops P os K' kp' env σ
  | [], _, _, h => hm _ _ h
  | _ :: _, _, _, h => Sop_mono h (fun _ _ h => Tops_mono hm hp h) (hp _)
theorem Tdops_mono {K K' : Env → Store → Prop} {kp kp' : V → Store → Prop} (hm : ∀ env σ, K env σ → K' env σ) (hp : ∀ v σ, kp v σ → kp' v σ) : ∀ {os : List DOper} {env : Env} {σ : Store}, Tdops P os K kp env σ → Tdops P os K' kp' env σ
  | [], _, _, h => hm _ _ h
  | _ :: _, _, _, h => Sop_mono h (fun _ _ h => ⟨h.1, Tdops_mono hm hp h.2⟩) hp
theorem T_mono : ∀ {c : ACode} {Q Q' : AExit → Env → Store → Prop} {env : Env} {σ : Store}, T P c Q env σ → (∀ ex env σ, Q ex env σ → Q' ex env σ) → T P c Q' env σ := by
  intro c
  induction c with
  | skip => intro Q Q' env σ h hm; exact hm _ _ _ h
  | ret => intro Q Q' env σ h hm; exact hm _ _ _ h
  | exit id => intro Q Q' env σ h hm; exact hm _ _ _ h
  | reg ops => intro Q Q' env σ h hm; exact Tops_mono (fun _ _ h => hm _ _ _ h) (fun _ _ _ h => hm _ _ _ h) h
  | dreg l ops => intro Q Q' env σ h hm; exact Tdops_mono (fun _ _ h => hm _ _ _ h) (fun _ _ h σ' hs => hm _ _ _ (h σ' hs)) h
  | seq l a b iha ihb =>
    intro Q Q' env σ h hm
    refine iha h fun ex env σ hq => ?_
    cases ex with
    | normal => exact ihb hq hm
    | exit id => exact hm _ _ _ hq
    | ret => exact hm _ _ _ hq
    | pan v => exact hm _ _ _ hq
  | cond c a b iha ihb =>
    intro Q Q' env σ h hm
    simp only [T] at *
    split at h
    · exact ⟨fun e => iha (h.1 e) hm, fun e => ihb (h.2 e) hm⟩
    · exact h.elim
  | block id a ih =>
    intro Q Q' env σ h hm
    refine ih h fun ex env σ hq => ?_
    cases ex with
    | normal => exact hm _ _ _ hq
    | exit id' =>
      simp only [AExit.inBlock] at *
      cases hb : Nat.beq id' id <;> rw [hb] at hq <;> exact hm _ _ _ hq
    | ret => exact hm _ _ _ hq
    | pan v => exact hm _ _ _ hq
  | scope a ih => intro Q Q' env σ h hm; exact ih h hm
  | loop l a ih =>
    intro Q Q' env σ h hm
    obtain ⟨I, h0, hr⟩ := h
    refine ⟨I, h0, fun n env σ hI => ih (hr n env σ hI) fun ex env σ hq => ?_⟩
    cases ex with
    | normal => exact hq
    | exit id => exact hm _ _ _ hq
    | ret => exact hm _ _ _ hq
    | pan v => exact hm _ _ _ hq
  | rangef l g ps a b _ _ =>
    intro Q Q' env σ h hm
    simp only [T] at *
    split at h
    · refine fun L hL => (h L hL).mono fun r σ' hq => ?_
      cases r with
      | ret v =>
        obtain ⟨st, env1, ok, h1, h2⟩ := hq
        refine ⟨st, env1, ok, h1, ?_⟩
        cases st <;> exact hm _ _ _ h2
      | pan v => exact hm _ _ _ hq
    · exact h.elim
/-! loops -/
theorem T_loop {l : List Nat} {a : ACode} {Q : AExit → Env → Store → Prop} (I : Nat → Env → Store → Prop) (n : Nat) (h0 : I n (prune l env) σ)
    (h : ∀ n env σ, I n env σ → T P a (AExit.andThen (fun env σ => ∃ m, m < n ∧ I m (prune l env) σ) Q) env σ) : T P (.loop l a) Q env σ := ⟨I, ⟨n, h0⟩, h⟩
/-- a loop that counts up -/
theorem T_up {l : List Nat} {a : ACode} {Q : AExit → Env → Store → Prop} (len : Nat) (I : Nat → Env → Store → Prop) (h0 : I 0 (prune l env) σ)
    (h : ∀ k env σ, k ≤ len → I k env σ → T P a (AExit.andThen (fun env σ => k < len ∧ I (k + 1) (prune l env) σ) Q) env σ) : T P (.loop l a) Q env σ := by
  refine T_loop (fun n env σ => ∃ k, k ≤ len ∧ n = len - k ∧ I k env σ) len ⟨0, Nat.zero_le _, by omega, h0⟩ fun n env σ ⟨k, hk, hn, hI⟩ => ?_
  refine T_mono (h k env σ hk hI) fun ex env' σ' hq => ?_
  cases ex with
  | normal => exact ⟨len - (k + 1), by have := hq.1; omega, k + 1, hq.1, rfl, hq.2⟩
  | exit id => exact hq
  | ret => exact hq
  | pan v => exact hq
/-- the rest of a code behind a name -/
theorem T_seq_k {l : List Nat} {a b : ACode} {Q : AExit → Env → Store → Prop} (h : ∀ K : Env → Store → Prop, (∀ env σ, T P b Q (prune l env) σ → K env σ) → T P a (AExit.andThen K Q) env σ) : T P (.seq l a b) Q env σ :=
  h _ fun _ _ h => h
end Go.Gl
