/-
  GL 11f: the frame: what a call does not look at stays.
-/
import Derived.Test.YtfbhfdaljendcaaGreatGl11b
set_option linter.all false
set_option linter.unusedVariables false
set_option linter.unusedSimpArgs false
namespace Go.Gl
variable {P : Program} {Λ : Nat → Prop} {σ : Store}
noncomputable def restr (σ : Store) (D : Nat → Prop) : Store := fun n => open Classical in if D n then σ n else none
theorem restr_in {D : Nat → Prop} {n : Nat} (h : D n) : restr σ D n = σ n := by unfold restr; rw [if_pos h]
theorem restr_out {D : Nat → Prop} {n : Nat} (h : ¬ D n) : restr σ D n = none := by unfold restr; rw [if_neg h]
/-- both of two stores -/
def join (σ τ : Store) : Store := fun n => match σ n with | some o => some o | none => τ n
/-- **the frame**: what a call does not look at stays -/
theorem Ctr.frame {f : FuncId} {args : List V} {Q : R → Store → Prop} (D : Nat → Prop) (h : Ctr P f args (restr σ D) Q) :
    Ctr P f args σ fun r σ' => ∃ σ1, Q r σ1 ∧ (∀ n, ¬ D n → σ n ≠ none → σ1 n = none) ∧ σ' = join σ1 (restr σ fun n => ¬ D n) := by
  refine ⟨h.1, fun Λ w cs hR hv => ?_⟩
  have hH : (Hh (fun n => Λ n ∨ (¬ D n ∧ σ n ≠ none)) (restr σ D) w) = Hh Λ σ w := by
    funext b o
    unfold Hh
    by_cases hb : Λ b ∨ (σ b).isSome = true
    · rw [if_pos hb, if_pos]
      rcases hb with hb | hb
      · exact .inl (.inl hb)
      · by_cases hd : D b
        · exact .inr (by rw [restr_in hd]; exact hb)
        · exact .inl (.inr ⟨hd, by intro e; rw [e] at hb; cases hb⟩)
    · rw [if_neg hb, if_neg]
      rintro ((h | h) | h)
      · exact hb (.inl h)
      · exact hb (.inr (by cases hs : σ b with | none => exact absurd hs h.2 | some o => rfl))
      · by_cases hd : D b
        · rw [restr_in hd] at h; exact hb (.inr h)
        · rw [restr_out hd] at h; cases h
  have hR1 : Rel (fun n => Λ n ∨ (¬ D n ∧ σ n ≠ none)) (restr σ D) w := by
    refine ⟨fun n o ho => ?_, fun n hn => ?_⟩
    · by_cases hd : D n
      · rw [restr_in hd] at ho
        obtain ⟨h1, ob, h2, h3⟩ := hR.own n o ho
        refine ⟨?_, ob, h2, by rw [hH]; exact h3⟩
        rintro (h | h)
        · exact h1 h
        · exact h.1 hd
      · rw [restr_out hd] at ho; cases ho
    · rcases hn with hn | hn
      · exact hR.lock n hn
      · cases hs : σ n with
        | none => exact absurd hs hn.2
        | some o => exact hR.lt hs
  refine Calls.mono (h.2 _ w cs hR1 (by rw [hH]; exact hv)) fun e w' ⟨r, σ1, hq, h1, h2, h3⟩ => ?_
  have hfr : ∀ n, ¬ D n → σ n ≠ none → σ1 n = none := fun n hd hn => by
    cases hs : σ1 n with
    | none => rfl
    | some o => exact absurd (.inr ⟨hd, hn⟩) (h2.own n o hs).1
  have hle : HLe (Hh (fun n => Λ n ∨ (¬ D n ∧ σ n ≠ none)) σ1 w') (Hh Λ (join σ1 (restr σ fun n => ¬ D n)) w') := by
    intro b o c hc
    obtain ⟨k1, k2, k3⟩ := Hh_some hc
    rw [Hh_of (fun h => k1 (.inl h)) ?_]
    · exact k3
    · simp only [join, k2]
      by_cases hd : D b
      · exact restr_out (fun h => h hd)
      · rw [restr_in hd]
        cases hs : σ b with
        | none => rfl
        | some o => exact absurd (.inr ⟨hd, by rw [hs]; simp⟩) k1
  have hA : Adv Λ σ w (join σ1 (restr σ fun n => ¬ D n)) w' := by
    refine ⟨fun n hn h0 => h3.frame n hn ?_, h3.size, h3.os, h3.tape, h3.output, fun n h0 hn => ?_⟩
    · by_cases hd : D n
      · rw [restr_in hd]; exact h0
      · exact restr_out hd
    · have : σ1 n = none := h3.names n (by
        by_cases hd : D n
        · rw [restr_in hd]; exact h0
        · exact restr_out hd) hn
      simp only [join, this]
      by_cases hd : D n
      · exact restr_out (fun h => h hd)
      · rw [restr_in hd]; exact h0
  refine ⟨r, _, ⟨σ1, hq, hfr, rfl⟩, ?_, ⟨fun n o ho => ?_, fun n hn => h2.lock n (.inl hn)⟩, hA⟩
  · cases r with
    | ret v => obtain ⟨c, rfl, hv⟩ := h1; exact ⟨c, rfl, hv.mono hle⟩
    | pan v => obtain ⟨c, rfl, hv⟩ := h1; exact ⟨c, rfl, hv.mono hle⟩
  · simp only [join] at ho
    cases hs : σ1 n with
    | some o1 =>
      rw [hs] at ho
      simp only [Option.some.injEq] at ho
      subst ho
      obtain ⟨k1, ob, k2, k3⟩ := h2.own n _ hs
      exact ⟨fun h => k1 (.inl h), ob, k2, k3.mono hle⟩
    | none =>
      rw [hs] at ho
      simp only at ho
      by_cases hd : D n
      · rw [restr_out (fun h => h hd)] at ho; cases ho
      · rw [restr_in hd] at ho
        obtain ⟨k1, ob, k2, k3⟩ := hR.own n o ho
        refine ⟨k1, ob, (h3.frame n (hR.lt ho) (restr_out hd)).trans k2, k3.mono ?_⟩
        exact hA.hle
end Go.Gl
