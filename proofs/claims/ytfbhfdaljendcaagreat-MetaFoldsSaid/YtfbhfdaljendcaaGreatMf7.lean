/-
  MF 7: a slice of pairs of integers that came in, as the logic has it.
-/
import Derived.Test.YtfbhfdaljendcaaGreatMf6
import Derived.Test.YtfbhfdaljendcaaGreatJ1
import Derived.ChangeOld
import Derived.Below
import Derived.Carry
import Derived.Deep.SlicePairs
set_option linter.all false
set_option linter.unusedVariables false
set_option linter.unusedSimpArgs false
namespace Go.Gl
open Go.ChangeShapes Go.WideShapes Go.ChangeAt Go.RowKit
theorem below_of {w w' : World} (h : Adv (fun _ => False) emp w emp w') : Below w.heap.size w w' :=
  ⟨h.os, h.tape, h.output, h.size, fun k hk => h.frame k hk rfl⟩
theorem hh_emp {w : World} {b o : Nat} : Hh (fun _ => False) emp w b o = w.cell? ⟨b, o, none⟩ := by
  unfold Hh
  rw [if_neg (by simp [emp])]
theorem rowsM {H : Nat → Nat → Option Value} {b : Nat} : ∀ (l : List MV) (o : Nat), (∀ i v, l[i]? = some v → H b (o + i * 2) = some (.int .i64 v.1) ∧ H b (o + i * 2 + 1) = some (.int .i64 v.2) ∧ (Lit.int .i64 v.1).wf = true ∧ (Lit.int .i64 v.2).wf = true) → RowsAt H (H b) 2 o (l.map eM)
  | [], _, _ => by simp only [List.map_nil, RowsAt]
  | v :: r, o, h => by
    obtain ⟨h1, h2, h3, h4⟩ := h 0 v rfl
    simp only [Lit.wf, Bool.and_eq_true, decide_eq_true_eq] at h3 h4
    have ih := rowsM (H := H) (b := b) r (o + 2) fun i u hu => by
      obtain ⟨g1, g2, g3⟩ := h (i + 1) u (by simpa using hu)
      have e1 : o + (i + 1) * 2 = o + 2 + i * 2 := by omega
      rw [e1] at g1 g2
      exact ⟨g1, g2, g3⟩
    simp only [List.map_cons, RowsAt, VsAt, VRel, and_true]
    refine ⟨rfl, ⟨⟨_, by simpa using h1, rfl, h3.1, h3.2⟩, ⟨_, by simpa using h2, rfl, h4.1, h4.2⟩⟩, ih⟩
def numV : Value → Int
  | .int _ n => n
  | _ => 0
/-- a slice of pairs of integers that came in, as the logic has it -/
theorem relM {P : Program} {H : Type} {enc : TypeId × Value → H} {W : World} {t e t0 t1 : TypeId} {f0 f1 : Field} {fuel : Nat} {cs : List Value} {x : DataW H × List MemPlace} (ht : P.underlying t = some (.slice e)) (he : P.underlying e = some (.struct #[f0, f1]))
    (ce : P.cellsOf e = 2) (o0 : f0.offset = 0) (o1 : f1.offset = 1) (c0 : P.cellsOf f0.type = 1) (c1 : P.cellsOf f1.type = 1) (i0 : P.underlying f0.type = some (.int .i64)) (i1 : P.underlying f1.type = some (.int .i64))
    (h : DataW.trod enc P W 0 (fun _ => true) true fuel t cs = some x) :
    ∃ (a : Option Addr) (len cap : Nat), cs = [.slice a len cap] ∧ len ≤ maxLen ∧ (len ≤ maxL → ∃ l : List MV, l.length = len ∧ VRel (Hh (fun _ => False) emp W) (.l (l.map eM) false) (.slice a len cap)) := by
  rcases Deep.open_slice_pairs ht he ce o0 o1 c0 c1 h with ⟨rfl, rfl⟩ | ⟨a, len, cap, m, n, V0, V1, D0, D1, P0, P1, rfl, -, hl, hm, hmm, rfl, hx⟩
  · refine ⟨none, 0, 0, rfl, Nat.zero_le _, fun _ => ⟨[], rfl, ?_⟩⟩
    simp only [List.map_nil, VRel]
    exact ⟨none, 0, rfl, Nat.le_refl _, fun h => (by cases h), Nat.zero_le _, fun _ => rfl, fun h => absurd rfl h⟩
  · refine ⟨some a, len, cap, rfl, Nat.le_trans hl hm, fun hM => ?_⟩
    simp only [if_true] at hmm
    have hcell : ∀ i, i < len → ∃ u : MV, W.cell? (a.add (i * 2)) = some (.int .i64 u.1) ∧ W.cell? (a.add (i * 2 + 1)) = some (.int .i64 u.2) ∧ (Lit.int .i64 u.1).wf = true ∧ (Lit.int .i64 u.2).wf = true := fun i hi => by
      obtain ⟨h1, h2, h3, h4⟩ := hx i (by omega)
      obtain ⟨n0, e0, -, w0⟩ := DataW.trod_int i0 h3
      obtain ⟨n1, e1, -, w1⟩ := DataW.trod_int i1 h4
      refine ⟨(n0, n1), ?_, ?_, w0, w1⟩
      · rw [h1, List.singleton_inj.1 e0]
      · rw [h2, List.singleton_inj.1 e1]
    have hlist : ∃ l : List MV, l.length = len ∧ ∀ i v, l[i]? = some v → W.cell? (a.add (i * 2)) = some (.int .i64 v.1) ∧ W.cell? (a.add (i * 2 + 1)) = some (.int .i64 v.2) ∧ (Lit.int .i64 v.1).wf = true ∧ (Lit.int .i64 v.2).wf = true := by
      clear hmm hx hl hm hM h
      induction len with
      | zero => exact ⟨[], rfl, fun i v h => by simp at h⟩
      | succ k ih =>
        obtain ⟨l, hl, hl2⟩ := ih fun i hi => hcell i (by omega)
        obtain ⟨u, hu⟩ := hcell k (by omega)
        refine ⟨l ++ [u], by simp [hl], fun i v hv => ?_⟩
        by_cases hi : i < l.length
        · rw [List.getElem?_append_left hi] at hv
          exact hl2 i v hv
        · rw [List.getElem?_append_right (by omega)] at hv
          have : i - l.length = 0 := by
            have := (List.getElem?_eq_some_iff.1 hv).1
            simp at this
            omega
          have hik : i = k := by omega
          subst hik
          rw [this] at hv
          rw [← Option.some.inj hv]
          exact hu
    obtain ⟨l, hll, hlc⟩ := hlist
    refine ⟨l, hll, ?_⟩
    simp only [VRel, List.length_map]
    refine ⟨some a, cap, by rw [hll], by omega, fun h => (by cases h), by omega, fun h => (by cases h), fun hne => ?_⟩
    obtain ⟨b, o, spot⟩ := a
    have h0 : 0 < l.length := by
      rcases l with _ | ⟨v, r⟩
      · exact absurd rfl hne
      · simp
    have hspot : spot = none := by
      have := (hlc 0 l[0] (List.getElem?_eq_getElem h0)).1
      simpa [Addr.add] using World.cell?_spot this
    subst hspot
    refine ⟨b, o, 2, rfl, rowsM l o fun i v hv => ?_⟩
    obtain ⟨h1, h2, h3⟩ := hlc i v hv
    rw [add_plain] at h1 h2
    rw [hh_emp, hh_emp]
    exact ⟨h1, by rw [← Nat.add_assoc] at h2; exact h2, h3⟩
end Go.Gl
