/-
  The statement MetaFoldsSaid: what a list of values is folded to, by all six folds, answers as the chapter says. No conditions: whatever the slice (its elements are opened at every index), the call returns true and the slice reads as it did.
-/
import Derived.Test.YtfbhfdaljendcaaGreatMf7
import Derived.Test.YtfbhfdaljendcaaGreatKcE
import Derived.Test.YtfbhfdaljendcaaGreatJ1
import Derived.Test.YtfbhfdaljendcaaGreatRows
set_option linter.all false
set_option linter.unusedVariables false
set_option linter.unusedSimpArgs false
namespace Go.Proofs.YtfbhfdaljendcaaGreat.metaFolds
open Go.Gl Go.ChangeShapes Go.WideShapes Go.ChangeAt Go.RowKit
set_option linter.unusedVariables false

theorem own : ownKnob Tryz.prog.godebug = none := by kernel_rfl
theorem laidOut : laidOutB Tryz.prog = true := by kernel_rfl
theorem cells61 : Tryz.prog.cellsOf 61 = 2 := by kernel_rfl
theorem cells59 : Tryz.prog.cellsOf 59 = 1 := by kernel_rfl
theorem cells3 : Tryz.prog.cellsOf 3 = 1 := by kernel_rfl

theorem works (w : World) : Calls Tryz.prog 20 #[] w fun e w' => e = .returned (.bool true) ∧ Below w.heap.size w w' := by
  refine Calls.mono (calls_of pe15.2.2 (cs := #[]) ⟨rfl, trivial⟩) fun e w' ⟨⟨c, h1, h2⟩, h3⟩ => ⟨?_, below_of h3⟩
  have h2 : c = .bool true := h2
  rw [h1, h2]
set_option maxRecDepth 50000 in
set_option maxHeartbeats 8000000 in
/-- a slice that is too long for the logic's lists: the test at the door turns it away -/
theorem walkLong (a : Option Addr) (len cap : Nat) (w : World) (h : 60 < (len : Int)) : Calls Tryz.prog 4 #[.slice a len cap] w fun e w' => e = .returned (.bool true) ∧ Below w.heap.size w w' := by
  go_enter Tryz.func4, Tryz.ntmps4
  go_wp2_with (go_at_call 20; refine (works _).mono ?_; rintro e w' ⟨rfl, hb⟩)
  go_ret
  exact ⟨rfl, (Below.alloc (Below.refl _ _) (Nat.le_refl _) _).trans (hb.mono (by simp))⟩
theorem walk (a : Option Addr) (len cap : Nat) (w : World) (hlen : len ≤ maxL → ∃ l : List MV, l.length = len ∧ VRel (Hh (fun _ => False) emp w) (.l (l.map eM) false) (.slice a len cap)) : Calls Tryz.prog 4 #[.slice a len cap] w fun e w' => e = .returned (.bool true) ∧ Below w.heap.size w w' := by
  by_cases hl : len ≤ maxL
  · obtain ⟨l, hll, hv⟩ := hlen hl
    refine Calls.mono (calls_of (folds4 l false (by omega) pe15.2.2) (cs := #[.slice a len cap]) ⟨rfl, ⟨_, rfl, hv⟩, trivial⟩) fun e w' ⟨⟨c, h1, h2⟩, h3⟩ => ⟨?_, below_of h3⟩
    have h2 : c = .bool true := h2
    rw [h1, h2]
  · exact walkLong a len cap w (by unfold maxL at hl; omega)

set_option maxRecDepth 100000 in
theorem lifted (os : Os) (started : os.Started) (H : Type) (enc : TypeId × Value → H) :
    ReturnsInHanded {} Tryz.checked os 4 .any (Rows.metaFoldsSpec.pre6 enc Tryz.prog Tryz.f4 Rows.metaFoldsRow.domain false) (Rows.metaFoldsSpec.post enc Tryz.prog Tryz.f4 false true false false) := by
  refine returnsInHanded_of_change (C := Tryz.checked) own started (by kernel_rfl) Tryz.func4
    (ChangeSpec.witness6 (enc := enc) (C := Tryz.checked) false ⟨#[], #[.slice none 0 0], []⟩ 8 (by kernel_rfl) (by kernel_rfl) (by kernel_rfl) (by kernel_rfl)) ?_
  intro W base args ds gs before hval0 hW hcnd _
  have hval : ∀ (j : Nat) t v, Tryz.f4.params[j]? = some t → args[j]? = some v → Value.okWide Tryz.prog W .any base t v := hval0
  have hW' := hW
  obtain ⟨p, q, hA0, hV, rfl, hfz, hnd⟩ := hW
  have hA : DataW.TrodAll enc Tryz.prog W 0 (fun _ => true) true Tryz.f4.params.toList args.toList ds p := hA0
  rw [Tryz.params4] at hA hval
  obtain ⟨v0, vs0, d0, ds0, p0, q0, hargs, rfl, rfl, h0, r0⟩ := trodAll_cons hA
  obtain ⟨rfl, rfl, rfl⟩ := trodAll_nil r0
  obtain rfl : args = #[v0] := by cases args; simp_all
  obtain ⟨rfl, rfl⟩ := trodVars_none hV
  obtain ⟨a0, len0, cap0, rfl⟩ := okWide_slice Tryz.underlying57 (hval 0 57 v0 rfl rfl)
  have k0 := h0
  have lt0 : ∀ x ∈ p0, x.block < W.heap.size := by obtain ⟨m, hm⟩ := k0; exact DataW.trod_lt m _ _ _ hm
  obtain ⟨fuel, hf⟩ := h0
  obtain ⟨a, len, cap, hcs, _, hrel⟩ := relM (t0 := 59) (t1 := 3) Tryz.underlying57 Tryz.underlying61 cells61 rfl rfl cells59 cells3 Tryz.underlying59 Tryz.underlying3 hf
  simp only [Value.cells, List.cons.injEq, Value.slice.injEq, and_true] at hcs
  obtain ⟨rfl, rfl, rfl⟩ := hcs
  clear hA0 hval0
  refine (walk a0 len0 cap0 W hrel).mono fun e W' ⟨he, bel⟩ => ?_
  subst he
  exact ⟨_, rfl, _, _, _, [], _, [], hW', trodAll_mk1 (shut_bool Tryz.underlying4 _), (trodAll_cons_mk (Below.trod laidOut (by kernel_rfl) (of_decide_eq_true (by kernel_rfl)) k0 bel lt0) trodAll_mk0), rfl, bel.frame _, fun h => by cases h⟩

theorem band {a b : Bool} (h1 : a = true) (h2 : b = true) : (a && b) = true := by rw [h1, h2]; rfl
set_option maxRecDepth 100000 in
set_option maxHeartbeats 4000000 in
theorem facts : joinedFacts Tryz.prog 4 Tryz.f4 Rows.metaFoldsSpec Rows.metaFoldsRow = true := by
  unfold joinedFacts
  refine band (band (band (band (band (band (band (band (band (band (band (band (band (band (band (band (band (band (band (band (band (band (band (band (band (band (band (band (band (band (band ?_ ?_) ?_) ?_) ?_) ?_) ?_) ?_) ?_) ?_) ?_) ?_) ?_) ?_) ?_) ?_) ?_) ?_) ?_) ?_) ?_) ?_) ?_) ?_) ?_) ?_) ?_) ?_) ?_) ?_) ?_) ?_
  all_goals (as_aux_lemma => kernel_rfl)
theorem over : Rows.metaFoldsRow.holds Tryz.pinned (OpenSpec.ofChange Rows.metaFoldsSpec) :=
  OpenClaim.holds_of_wide 4 Tryz.f4 rfl rfl rfl rfl rfl rfl rfl ⟨rfl, rfl, rfl, rfl, rfl⟩ rfl rfl rfl rfl rfl (by kernel_rfl) Tryz.func4 facts
    (of_decide_eq_true (by kernel_rfl)) (by unfold Func.isWrapper; first | (rw [if_pos (by decide +kernel)]; kernel_rfl) | (rw [if_neg (by decide +kernel)]; exact ⟨rfl, rfl⟩))
    (fun os started H enc _ => lifted os started H enc)

/-- **the statement** -/
theorem proved : Rows.MetaFoldsSaid :=
  over
#print axioms proved
end Go.Proofs.YtfbhfdaljendcaaGreat.metaFolds
