/-
  GL 3: rows of cells by index; the steps of a store; loads, stores, new blocks of the model against abstract ones.
-/
import Derived.Test.YtfbhfdaljendcaaGreatGl2
import Derived.Laws.Cells
import Derived.Laws.Rows
import Derived.Laws.World
import Derived.Laws.Slices
import Derived.Laws.Build
import Derived.WideShapes4
set_option linter.all false
set_option linter.unusedVariables false
set_option linter.unusedSimpArgs false
namespace Go.Gl

theorem vsAt_iff {H : Nat → Nat → Option Value} {g : Nat → Option Value} : ∀ {vs : List V} {o : Nat},
    VsAt H g o vs ↔ ∀ i v, vs[i]? = some v → ∃ c, g (o + i) = some c ∧ VRel H v c
  | [], o => by simp [VsAt]
  | v :: vs, o => by
    simp only [VsAt]
    rw [vsAt_iff (vs := vs) (o := o + 1)]
    constructor
    · rintro ⟨h1, h2⟩ i u hu
      cases i with
      | zero => simp at hu; subst hu; simpa using h1
      | succ i =>
        obtain ⟨c, hc, hr⟩ := h2 i u (by simpa using hu)
        exact ⟨c, by rw [← hc]; congr 1; omega, hr⟩
    · intro h
      refine ⟨by simpa using h 0 v rfl, fun i u hu => ?_⟩
      obtain ⟨c, hc, hr⟩ := h (i + 1) u (by simpa using hu)
      exact ⟨c, by rw [← hc]; congr 1; omega, hr⟩

theorem rowsAt_iff {H : Nat → Nat → Option Value} {g : Nat → Option Value} {sz : Nat} : ∀ {es : List (List V)} {o : Nat},
    RowsAt H g sz o es ↔ ∀ i e, es[i]? = some e → e.length = sz ∧ VsAt H g (o + i * sz) e
  | [], o => by simp [RowsAt]
  | v :: vs, o => by
    simp only [RowsAt]
    rw [rowsAt_iff (es := vs) (o := o + sz)]
    constructor
    · rintro ⟨h1, h2, h3⟩ i u hu
      cases i with
      | zero => simp at hu; subst hu; exact ⟨h1, by simpa using h2⟩
      | succ i =>
        obtain ⟨h4, h5⟩ := h3 i u (by simpa using hu)
        refine ⟨h4, ?_⟩
        rw [show o + (i + 1) * sz = o + sz + i * sz by rw [Nat.add_mul]; omega]
        exact h5
    · intro h
      have h0 := h 0 v rfl
      refine ⟨h0.1, by simpa using h0.2, fun i u hu => ?_⟩
      obtain ⟨h4, h5⟩ := h (i + 1) u (by simpa using hu)
      refine ⟨h4, ?_⟩
      rw [show o + sz + i * sz = o + (i + 1) * sz by rw [Nat.add_mul]; omega]
      exact h5

theorem vsAt_shift {H : Nat → Nat → Option Value} {g g' : Nat → Option Value} {o o' : Nat} {vs : List V} (h : VsAt H g o vs) (hg : ∀ i, i < vs.length → g' (o' + i) = g (o + i)) : VsAt H g' o' vs := by
  rw [vsAt_iff] at *
  intro i v hv
  obtain ⟨c, hc, hr⟩ := h i v hv
  exact ⟨c, by rw [hg i (by rw [List.getElem?_eq_some_iff] at hv; exact hv.1)]; exact hc, hr⟩

theorem vsAt_drop {H : Nat → Nat → Option Value} {g : Nat → Option Value} {o : Nat} {vs : List V} (h : VsAt H g o vs) (n : Nat) : VsAt H g (o + n) (vs.drop n) := by
  rw [vsAt_iff] at *
  intro i v hv
  rw [List.getElem?_drop] at hv
  obtain ⟨c, hc, hr⟩ := h (n + i) v hv
  exact ⟨c, by rw [← hc]; congr 1; omega, hr⟩
theorem vsAt_take {H : Nat → Nat → Option Value} {g : Nat → Option Value} {o : Nat} {vs : List V} (h : VsAt H g o vs) (n : Nat) : VsAt H g o (vs.take n) := by
  rw [vsAt_iff] at *
  intro i v hv
  rw [List.getElem?_take] at hv
  split at hv
  · exact h i v hv
  · cases hv
theorem vsAt_append {H : Nat → Nat → Option Value} {g : Nat → Option Value} {o : Nat} {vs us : List V} (h : VsAt H g o vs) (k : VsAt H g (o + vs.length) us) : VsAt H g o (vs ++ us) := by
  rw [vsAt_iff] at *
  intro i v hv
  rw [List.getElem?_append] at hv
  split at hv
  · exact h i v hv
  · obtain ⟨c, hc, hr⟩ := k _ v hv
    exact ⟨c, by rw [← hc]; congr 1; omega, hr⟩

/-! ### steps of a store -/
theorem Rel.lt {Λ : Nat → Prop} {σ : Store} {w : World} (h : Rel Λ σ w) {n : Nat} {o : O} (ho : σ n = some o) : n < w.heap.size := by
  obtain ⟨_, ob, h2, _⟩ := h.own n o ho
  rcases Nat.lt_or_ge n w.heap.size with h' | h'
  · exact h'
  · simp [Array.getElem?_eq_none h'] at h2
theorem Rel.new {Λ : Nat → Prop} {σ : Store} {w : World} (h : Rel Λ σ w) : σ w.heap.size = none := by
  cases h' : σ w.heap.size with
  | none => rfl
  | some o => exact absurd (h.lt h') (Nat.lt_irrefl _)
theorem Rel.step {Λ : Nat → Prop} {σ σ' : Store} {w w' : World} (h : Rel Λ σ w) (ha : Adv Λ σ w σ' w')
    (hn : ∀ n o, σ' n = some o → (σ n = some o ∧ w'.heap[n]? = w.heap[n]?) ∨ (¬ Λ n ∧ ∃ ob, w'.heap[n]? = some ob ∧ ORel (Hh Λ σ' w') o ob)) : Rel Λ σ' w' where
  own n o ho := by
    rcases hn n o ho with ⟨h1, h2⟩ | h1
    · obtain ⟨h3, ob, h4, h5⟩ := h.own n o h1
      exact ⟨h3, ob, h2.trans h4, h5.mono ha.hle⟩
    · exact h1
  lock n hl := Nat.lt_of_lt_of_le (h.lock n hl) ha.size

theorem upd_same (σ : Store) (n : Nat) (o : O) : upd σ n o n = some o := by simp [upd]
theorem upd_ne (σ : Store) {n m : Nat} (o : O) (h : m ≠ n) : upd σ n o m = σ m := by simp [upd, h]
theorem del_same (σ : Store) (n : Nat) : del σ n n = none := by simp [del]
theorem del_ne (σ : Store) {n m : Nat} (h : m ≠ n) : del σ n m = σ m := by simp [del, h]
theorem sub_del (σ : Store) (n : Nat) : Sub (del σ n) σ := by
  intro m o h
  unfold del at h
  split at h
  · cases h
  · exact h

/-- a new block -/
theorem adv_alloc {Λ : Nat → Prop} {σ : Store} {w : World} (o : O) (ob : Obj) : Adv Λ σ w (upd σ w.heap.size o) (w.alloc ob) where
  frame n hn _ := RowKit.Below.heap_alloc _ _ _ hn
  size := by simp
  os := rfl
  tape := rfl
  output := rfl
  names n h0 hn := by rw [upd_ne _ _ (by omega)]; exact h0
theorem rel_alloc {Λ : Nat → Prop} {σ : Store} {w : World} (h : Rel Λ σ w) {o : O} {ob : Obj} (ho : ORel (Hh Λ σ w) o ob) : Rel Λ (upd σ w.heap.size o) (w.alloc ob) :=
  h.step (adv_alloc o ob) fun n o' hn => by
    by_cases e : n = w.heap.size
    · subst e
      rw [upd_same] at hn
      cases hn
      exact .inr ⟨fun hl => absurd (h.lock _ hl) (Nat.lt_irrefl _), ob, heap_alloc_new _ _, ho.mono (adv_alloc o ob).hle⟩
    · rw [upd_ne _ _ e] at hn
      exact .inl ⟨hn, RowKit.Below.heap_alloc _ _ _ (h.lt hn)⟩

/-- a new block that is frozen at once -/
theorem adv_alloc' {Λ : Nat → Prop} {σ : Store} (w : World) (ob : Obj) : Adv Λ σ w σ (w.alloc ob) where
  frame n hn _ := RowKit.Below.heap_alloc _ _ _ hn
  size := by simp
  os := rfl
  tape := rfl
  output := rfl
  names n h0 _ := h0
theorem rel_alloc' {Λ : Nat → Prop} {σ : Store} {w : World} (h : Rel Λ σ w) (ob : Obj) : Rel Λ σ (w.alloc ob) :=
  h.step (adv_alloc' w ob) fun _ _ hn => .inl ⟨hn, RowKit.Below.heap_alloc _ _ _ (h.lt hn)⟩

/-- a draw -/
theorem adv_drew {Λ : Nat → Prop} {σ : Store} (w : World) : Adv Λ σ w σ w.drew := ⟨fun _ _ _ => rfl, Nat.le_refl _, rfl, rfl, rfl, fun _ h _ => h⟩
theorem rel_drew {Λ : Nat → Prop} {σ : Store} {w : World} (h : Rel Λ σ w) : Rel Λ σ w.drew := h.step (adv_drew w) fun _ _ hn => .inl ⟨hn, rfl⟩

/-- the world with another object in a block -/
def setBlk (w : World) (n : Nat) (ob : Obj) : World := { w with heap := w.heap.setIfInBounds n ob }
theorem setBlk_same {w : World} {n : Nat} {ob : Obj} (h : n < w.heap.size) : (setBlk w n ob).heap[n]? = some ob := by
  simp [setBlk, h]
theorem setBlk_ne {w : World} {n m : Nat} {ob : Obj} (h : m ≠ n) : (setBlk w n ob).heap[m]? = w.heap[m]? := by
  simp only [setBlk]
  rw [Array.getElem?_setIfInBounds_ne (Ne.symm h)]
@[simp] theorem setBlk_size (w : World) (n : Nat) (ob : Obj) : (setBlk w n ob).heap.size = w.heap.size := by simp [setBlk]

theorem adv_set {Λ : Nat → Prop} {σ : Store} {w : World} {n : Nat} {o : O} (hn : σ n = some o) (o' : O) (ob : Obj) : Adv Λ σ w (upd σ n o') (setBlk w n ob) where
  frame m _ h0 := setBlk_ne (fun e => by rw [e, hn] at h0; cases h0)
  size := by simp
  os := rfl
  tape := rfl
  output := rfl
  names m h0 _ := by rw [upd_ne _ _ (fun e => by rw [e, hn] at h0; cases h0)]; exact h0
theorem rel_set {Λ : Nat → Prop} {σ : Store} {w : World} (h : Rel Λ σ w) {n : Nat} {o o' : O} {ob : Obj} (hn : σ n = some o) (ho : ORel (Hh Λ σ w) o' ob) : Rel Λ (upd σ n o') (setBlk w n ob) :=
  h.step (adv_set hn o' ob) fun m o'' hm => by
    by_cases e : m = n
    · subst e
      rw [upd_same] at hm
      cases hm
      exact .inr ⟨(h.own _ _ hn).1, ob, setBlk_same (h.lt hn), ho.mono (adv_set hn o' ob).hle⟩
    · rw [upd_ne _ _ e] at hm
      exact .inl ⟨hm, setBlk_ne e⟩

theorem blk_lt {w : World} {n : Nat} {ob : Obj} (h : w.heap[n]? = some ob) : n < w.heap.size := by
  rcases Nat.lt_or_ge n w.heap.size with h' | h'
  · exact h'
  · simp [Array.getElem?_eq_none h'] at h
theorem setCell_eq {w : World} {n i : Nat} {c : Array Value} {e : TypeId} (h : w.heap[n]? = some (.cells c e (0, 0))) (v : Value) :
    w.setCell ⟨n, i, none⟩ v = setBlk w n (.cells (c.setIfInBounds i v) e (0, 0)) := by
  unfold World.setCell setBlk
  congr 1
  apply Array.ext_getElem?
  intro j
  by_cases hj : n = j
  · subst hj
    rw [Array.getElem?_modify, if_pos rfl, Array.getElem?_setIfInBounds_self_of_lt (blk_lt h), h]
    rfl
  · rw [Array.getElem?_modify, if_neg hj, Array.getElem?_setIfInBounds_ne hj]

theorem cell_blk {w : World} {n i : Nat} {c : Array Value} {e : TypeId} {fr : Nat × Nat} (h : w.heap[n]? = some (.cells c e fr)) : w.cell? ⟨n, i, none⟩ = c[i]? :=
  cell_of_row w n i c e fr h
theorem frozen_blk {w : World} {n i : Nat} {c : Array Value} {e : TypeId} (h : w.heap[n]? = some (.cells c e (0, 0))) : w.frozen? ⟨n, i, none⟩ = false :=
  frozen_of_row w n i c e h

theorem addr_add (n o i : Nat) : (⟨n, o, none⟩ : Addr).add i = ⟨n, o + i, none⟩ := by
  unfold Addr.add
  split
  · subst_vars; rfl
  · rfl

def arrPut : Array Value → Nat → List Value → Array Value
  | c, _, [] => c
  | c, o, v :: vs => arrPut (c.setIfInBounds o v) (o + 1) vs
theorem arrPut_size : ∀ (vs : List Value) (c : Array Value) (o : Nat), (arrPut c o vs).size = c.size
  | [], _, _ => rfl
  | v :: vs, c, o => by simp only [arrPut]; rw [arrPut_size vs]; simp
theorem setBlk_id {w : World} {n : Nat} {ob : Obj} (h : w.heap[n]? = some ob) : setBlk w n ob = w := by
  unfold setBlk
  have : w.heap.setIfInBounds n ob = w.heap := by
    apply Array.ext_getElem?
    intro j
    by_cases hj : n = j
    · subst hj
      rw [Array.getElem?_setIfInBounds_self_of_lt (blk_lt h), h]
    · rw [Array.getElem?_setIfInBounds_ne hj]
  rw [this]
theorem setBlk_setBlk (w : World) (n : Nat) (a b : Obj) : setBlk (setBlk w n a) n b = setBlk w n b := by
  simp [setBlk]

/-- storing cells into an owned block -/
theorem run_storeCells_blk {P : Program} {n : Nat} {e : TypeId} : ∀ (vs : List Value) (w : World) (c : Array Value) (o i : Nat), w.heap[n]? = some (.cells c e (0, 0)) →
    o + i + vs.length ≤ c.size → (∀ v ∈ vs, v.oneCell' = true) →
    (storeCells ⟨n, o, none⟩ vs i).run P w = .ok () (setBlk w n (.cells (arrPut c (o + i) vs) e (0, 0)))
  | [], w, c, o, i, h, _, _ => by
    simp only [storeCells, Sem.run_pure, arrPut]
    rw [setBlk_id h]
  | v :: vs, w, c, o, i, h, hl, hv => by
    have hlt : o + i < c.size := by simp at hl; omega
    have h1 : w.cell? ⟨n, o + i, none⟩ = some c[o + i] := by rw [cell_blk h]; rw [Array.getElem?_eq_getElem hlt]
    have hone := hv v (by simp)
    simp only [storeCells, Sem.run_bind, addr_add, run_store P w _ v _ hone, h1, frozen_blk h, Bool.false_eq_true, if_false, Result.andThen]
    rw [setCell_eq h]
    rw [run_storeCells_blk vs _ (c.setIfInBounds (o + i) v) o (i + 1) (setBlk_same (blk_lt h)) (by simp at hl ⊢; omega) (fun u hu => hv u (by simp [hu]))]
    rw [setBlk_setBlk]
    rfl
end Go.Gl
