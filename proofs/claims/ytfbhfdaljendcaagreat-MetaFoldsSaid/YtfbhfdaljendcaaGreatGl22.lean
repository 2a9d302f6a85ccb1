/-
  GL 22: what every value of the model brings with it: lengths, and sizes of integers.
-/
import Derived.Test.YtfbhfdaljendcaaGreatGl21
set_option linter.all false
set_option linter.unusedVariables false
set_option linter.unusedSimpArgs false
namespace Go.Gl
variable {P : Program} {σ σ' : Store}
mutual
def fitV : V → Prop
  | .i k n => k.min ≤ n ∧ n ≤ k.max
  | .rp cs => fitL cs
  | .l es _ => es.length ≤ maxL ∧ fitR es
  | .f _ a b => fitL a ∧ fitL b
  | .ifc _ v => fitV v
  | .a cs => fitL cs
  | .t vs => fitL vs
  | _ => True
def fitL : List V → Prop
  | [] => True
  | v :: r => fitV v ∧ fitL r
def fitR : List (List V) → Prop
  | [] => True
  | e :: r => fitL e ∧ fitR r
end
mutual
theorem fit_V {H : Nat → Nat → Option Value} : ∀ (v : V) (c : Value), VRel H v c → fitV v
  | .b _, _, _ | .s _, _, _ | .pn, _, _ | .p _ _, _, _ | .sl _ _ _, _, _ | .sv _ _ _ _, _, _ | .pe _ _ _ _, _, _ | .m _, _, _ | .mn, _, _ | .fnil, _, _ | .inil, _, _ | .any, _, _ => by simp only [fitV]
  | .i k n, _, h => by
    simp only [VRel] at h
    simp only [fitV]
    exact h.2
  | .rp cs, _, h => by
    simp only [VRel] at h
    obtain ⟨b, o, rfl, h⟩ := h
    simp only [fitV]
    exact fit_Vs cs o h
  | .l es full, _, h => by
    simp only [VRel] at h
    obtain ⟨a, cap, h1, h2, h3, h4, h5, h6⟩ := h
    simp only [fitV]
    refine ⟨h4, ?_⟩
    cases es with
    | nil => exact trivial
    | cons e es =>
      obtain ⟨b, o, sz, h7, h8⟩ := h6 (by simp)
      exact fit_Rs (e :: es) o h8
  | .f fn first cap, _, h => by
    simp only [VRel] at h
    obtain ⟨f', c', h1, h2, h3, h4, h5⟩ := h
    simp only [fitV]
    exact ⟨fit_Vs first 0 h3, fit_Vs cap 0 h5⟩
  | .ifc t v, _, h => by
    simp only [VRel] at h
    obtain ⟨c', h1, h2⟩ := h
    simp only [fitV]
    exact fit_V v c' h2
  | .a cs, _, h => by
    simp only [VRel] at h
    obtain ⟨c', h1, h2, h3⟩ := h
    simp only [fitV]
    exact fit_Vs cs 0 h3
  | .t cs, _, h => by
    simp only [VRel] at h
    obtain ⟨c', h1, h2, h3⟩ := h
    simp only [fitV]
    exact fit_Vs cs 0 h3
theorem fit_Vs {H : Nat → Nat → Option Value} {g : Nat → Option Value} : ∀ (vs : List V) (o : Nat), VsAt H g o vs → fitL vs
  | [], _, _ => trivial
  | v :: vs, o, h => by
    simp only [VsAt] at h
    obtain ⟨⟨c, h1, h2⟩, h3⟩ := h
    exact ⟨fit_V v c h2, fit_Vs vs (o + 1) h3⟩
theorem fit_Rs {H : Nat → Nat → Option Value} {g : Nat → Option Value} {sz : Nat} : ∀ (es : List (List V)) (o : Nat), RowsAt H g sz o es → fitR es
  | [], _, _ => trivial
  | e :: es, o, h => by
    simp only [RowsAt] at h
    obtain ⟨h1, h2, h3⟩ := h
    exact ⟨fit_Vs e o h2, fit_Rs es (o + sz) h3⟩
end
/-- a contract may take it that its arguments fit -/
theorem Ctr.fit {f : FuncId} {args : List V} {Q : R → Store → Prop} (hok : okF P f = true) (h : fitL args → Ctr P f args σ Q) : Ctr P f args σ Q :=
  ⟨hok, fun Λ w cs hR hv => (h (fit_Vs args 0 hv.2)).2 Λ w cs hR hv⟩
theorem Pure.fit {f : FuncId} {args : List V} {v : V} (hok : okF P f = true) (h : fitL args → Pure P f args v) : Pure P f args v := Ctr.fit hok h
theorem CtrS.fit {f : FuncId} {args : List V} {pre : List At} {Φ : R → List At → Prop} (hok : okF P f = true) (h : fitL args → CtrS P f args pre Φ) : CtrS P f args pre Φ := fun σ hs => Ctr.fit hok fun hf => h hf σ hs
theorem fitR_iff {es : List (List V)} : fitR es ↔ ∀ e ∈ es, fitL e := by
  induction es with
  | nil => simp [fitR]
  | cons e r ih => simp [fitR, ih]
theorem fitL_iff {vs : List V} : fitL vs ↔ ∀ v ∈ vs, fitV v := by
  induction vs with
  | nil => simp [fitL]
  | cons e r ih => simp [fitL, ih]
theorem fitR_map {α : Type} {enc : α → List V} {xs : List α} : fitR (xs.map enc) ↔ ∀ x ∈ xs, fitL (enc x) := by
  rw [fitR_iff]; simp
theorem fitV_i {n : Int} : fitV (.i .i64 n) ↔ -9223372036854775808 ≤ n ∧ n ≤ 9223372036854775807 := Iff.rfl
theorem fitV_l {es : List (List V)} {f : Bool} : fitV (.l es f) ↔ es.length ≤ maxL ∧ fitR es := Iff.rfl
theorem fitV_a {cs : List V} : fitV (.a cs) ↔ fitL cs := Iff.rfl
theorem fitV_t {cs : List V} : fitV (.t cs) ↔ fitL cs := Iff.rfl
theorem fitV_rp {cs : List V} : fitV (.rp cs) ↔ fitL cs := Iff.rfl
theorem fitV_b {b : Bool} : fitV (.b b) ↔ True := Iff.rfl
theorem fitL_cons {v : V} {r : List V} : fitL (v :: r) ↔ fitV v ∧ fitL r := Iff.rfl
theorem fitL_nil : fitL [] ↔ True := Iff.rfl
theorem Sat_cast {l : List At} (e : σ = σ') (h : Sat σ l) : Sat σ' l := e ▸ h
/-! fork, with what is known at once -/
theorem fork_b {b : Bool} {A B : Prop} (h1 : b = true → A) (h2 : b = false → B) : (b = true → A) ∧ (b = false → B) := ⟨h1, h2⟩
theorem fork_nb {b : Bool} {A B : Prop} (h1 : b = false → A) (h2 : b = true → B) : (b = false → A) ∧ (b = true → B) := ⟨h1, h2⟩
theorem drop_cons {α : Type} {xs : List α} {k : Nat} {x : α} (h : xs[k]? = some x) : xs.drop k = x :: xs.drop (k + 1) := by
  obtain ⟨hk, rfl⟩ := List.getElem?_eq_some_iff.1 h
  exact List.drop_eq_getElem_cons hk
theorem drop_all {α : Type} {xs : List α} {k : Nat} (h : k = xs.length) : xs.drop k = [] := List.drop_of_length_le (by omega)
end Go.Gl
