/-
  GL 6: operations, one by one (new blocks, addresses).
-/
import Derived.Test.YtfbhfdaljendcaaGreatGl5
set_option linter.all false
set_option linter.unusedVariables false
set_option linter.unusedSimpArgs false
namespace Go.Gl
variable {P : Program} {Λ : Nat → Prop} {σ : Store} {w : World} {k kp : V → Store → Prop}

theorem goodV_new (hR : Rel Λ σ w) {cells : Array Value} {e : TypeId} {cs : List V} (hs : cells.size = cs.length) (hv : VsAt (Hh Λ σ w) (fun i => cells[i]?) 0 cs)
    (h : ∀ n, σ n = none → k (.p n 0) (upd σ n (.cs cs))) : GoodV Λ σ w k kp ((do pure (.pointer (some (← newRow e cells))) : Sem Value).run P w) := by
  simp only [newRow, Sem.run_bind, run_newObj, Sem.run_pure, Result.andThen, World.alloc_eq]
  exact ⟨.p w.heap.size 0, _, h _ hR.new, rfl, rel_alloc hR ⟨cells, e, rfl, hs, hv⟩, adv_alloc _ _⟩

theorem goodV_box (e : TypeId) (hR : Rel Λ σ w) {vx : V} {c : Value} (hx : VRel (Hh Λ σ w) vx c) {cs : List V} (hc : cellsOf vx = some cs) (h : ∀ n, σ n = none → k (.p n 0) (upd σ n (.cs cs))) :
    GoodV Λ σ w k kp ((Instr.box e c).run P w) := by
  obtain ⟨h1, h2⟩ := cellsOf_rel hx hc
  exact goodV_new hR h1 h2 h

theorem cellsZ_rel {z : Option V} {cs : List V} (h : cellsZ z = some cs) : ∃ v, z = some v ∧ cellsOf v = some cs := by
  cases z with
  | none => cases h
  | some v => cases v <;> first | (cases h; done) | (cases h; exact ⟨_, rfl, rfl⟩)

theorem goodV_alloc {e : TypeId} {z : List V} (hz : cellsZ (zeroOf P e) = some z) (hR : Rel Λ σ w) (h : ∀ n, σ n = none → k (.p n 0) (upd σ n (.cs z))) :
    GoodV Λ σ w k kp ((Instr.alloc e true (.tuple #[])).run P w) := by
  obtain ⟨v, h1, h2⟩ := cellsZ_rel hz
  obtain ⟨c, h3, h4⟩ := run_zeroOf h1 w
  obtain ⟨h5, h6⟩ := cellsOf_rel (toV_rel (H := Hh Λ σ w) h4) h2
  have := goodV_new (P := P) (kp := kp) (e := e) hR h5 h6 h
  unfold Instr.alloc
  simp only [Sem.run_bind, h3, Result.andThen] at this ⊢
  simpa [newVar, newRow] using this

/-! ### addresses -/
theorem goodV_faddr {s : TypeId} {fields : Array Field} {f : Nat} {fd : Field} {sz : Nat} (hu : P.underlying s = some (.struct fields)) (hf : fields[f]? = some fd) (hs : szOf P fd.type = some sz) (h0 : sz ≠ 0)
    (hR : Rel Λ σ w) {vx : V} {c : Value} (hx : VRel (Hh Λ σ w) vx c) (h : kFaddr fd.offset vx fun v => k v σ) : GoodV Λ σ w k kp ((Instr.fieldAt s c f).run P w) := by
  have hrun : ∀ b o, c = .pointer (some ⟨b, o, none⟩) → (Instr.fieldAt s c f).run P w = .ok (.pointer (some ⟨b, o + fd.offset, none⟩)) w := by
    rintro b o rfl
    simp [Instr.fieldAt, run_und hu, hf, Instr.sureAddr, fieldPlace, run_szOf hs, h0, addr_add]
  unfold kFaddr at h
  split at h
  · obtain ⟨b, o, hc, hv⟩ := hx
    rw [hrun b o hc]
    exact goodV_k hR h ⟨b, _, rfl, vsAt_drop hv _⟩
  · rw [hrun _ _ hx]
    exact goodV_k hR h rfl
  · simp only [VRel] at hx
    rw [hrun _ _ hx, Nat.add_assoc]
    exact goodV_k hR h rfl
  · exact h.elim

theorem part_at {t : TypeId} {agg : Option Nat} (hA : aggOf P t = some agg) {H : Nat → Nat → Option Value} {c : Array Value} {off : Nat} {vs : List V} (hs : c.size = vs.length) (hv : VsAt H (fun i => c[i]?) 0 vs)
    {K : V → Prop} (hk : cut agg vs off K) (w : World) : ∃ v d, (part t c off).run P w = .ok d w ∧ VRel H v d ∧ K v := by
  obtain ⟨h1, h2⟩ := run_aggOf hA w
  unfold part
  simp only [Sem.run_bind, h1, Result.andThen]
  cases agg with
  | none =>
    simp only [cut] at hk
    split at hk
    · rename_i v hv'
      obtain ⟨d, hd, hr⟩ := vsAt_iff.1 hv off v hv'
      refine ⟨v, d, ?_, hr, hk⟩
      simp only [Nat.zero_add] at hd
      simp [hd]
    · exact hk.elim
  | some n =>
    simp only [cut] at hk
    refine ⟨.a ((vs.drop off).take n), .agg (c.extract off (off + n)), by simp [h2 n rfl], ⟨_, rfl, by simp; omega, ?_⟩, hk.2⟩
    refine vsAt_shift (vsAt_take (vsAt_drop hv off) n) (fun i hi => ?_)
    simp at hi
    rw [Array.getElem?_extract_of_lt (by omega)]
    rw [show 0 + off + i = off + (0 + i) by omega]
    exact (Array.getElem?_eq_getElem (by omega)).symm

theorem goodV_field {s : TypeId} {fields : Array Field} {f : Nat} {fd : Field} {agg : Option Nat} (hu : P.underlying s = some (.struct fields)) (hf : fields[f]? = some fd) (hA : aggOf P fd.type = some agg)
    (hR : Rel Λ σ w) {cs : List V} {c : Value} (hx : VRel (Hh Λ σ w) (.a cs) c) (h : cut agg cs fd.offset fun v => k v σ) : GoodV Λ σ w k kp ((Instr.field s c f).run P w) := by
  obtain ⟨c', rfl, h1, h2⟩ := hx
  obtain ⟨v, d, h3, h4, h5⟩ := part_at hA h1 h2 h w
  simp only [Instr.field, Sem.run_bind, run_und hu, Result.andThen, hf, asAgg, Sem.run_pure, h3]
  exact goodV_pure hR h4 h5

theorem goodV_index {t e : TypeId} {len sz : Nat} {agg : Option Nat} (hu : P.underlying t = some (.array len e)) (hs : szOf P e = some sz) (hA : aggOf P e = some agg)
    (hR : Rel Λ σ w) {vx vi : V} {cx ci : Value} (hx : VRel (Hh Λ σ w) vx cx) (hi : VRel (Hh Λ σ w) vi ci) (h : kIndex len sz agg vx vi fun v => k v σ) : GoodV Λ σ w k kp ((Instr.index t cx ci).run P w) := by
  unfold kIndex at h
  split at h
  · rename_i cs ki j
    obtain ⟨h0, h1, h⟩ := h
    obtain ⟨c', rfl, h2, h3⟩ := hx
    obtain ⟨rfl, _⟩ := hi
    obtain ⟨v, d, h4, h5, h6⟩ := part_at hA h2 h3 h w
    simp only [Instr.index, Sem.run_bind, asIntOf, Sem.run_pure, Result.andThen, run_und hu, h0, h1, and_self, if_true, run_szOf hs, h4]
    exact goodV_pure hR h5 h6
  · exact h.elim

/-- the address of an element of a slice -/
theorem run_indexAt_slice {t e : TypeId} {sz : Nat} (hu : P.underlying t = some (.slice e)) (hs : szOf P e = some sz) {b o : Nat} {n cap : Nat} {j : Int} {ki : IntKind} (h0 : 0 ≤ j) (h1 : j < n) :
    (Instr.indexAt t (.slice (some ⟨b, o, none⟩) n cap) (.int ki j)).run P w = .ok (.pointer (some ⟨b, o + j.toNat * sz, none⟩)) w := by
  simp [Instr.indexAt, asIntOf, run_und hu, h0, h1, run_szOf hs, addr_add]
theorem run_indexAt_array {t e : TypeId} {sz m : Nat} (hu : P.underlying t = some (.array m e)) (hs : szOf P e = some sz) {b o : Nat} {j : Int} {ki : IntKind} (h0 : 0 ≤ j) (h1 : j < m) :
    (Instr.indexAt t (.pointer (some ⟨b, o, none⟩)) (.int ki j)).run P w = .ok (.pointer (some ⟨b, o + j.toNat * sz, none⟩)) w := by
  simp [Instr.indexAt, asIntOf, run_und hu, h0, h1, run_szOf hs, addr_add, Instr.sureAddr]

theorem goodV_iaddr_slice {t e : TypeId} {sz : Nat} (hu : P.underlying t = some (.slice e)) (hs : szOf P e = some sz)
    (hR : Rel Λ σ w) {vx vi : V} {cx ci : Value} (hx : VRel (Hh Λ σ w) vx cx) (hi : VRel (Hh Λ σ w) vi ci) (h : kIaddr sz none vx vi fun v => k v σ) : GoodV Λ σ w k kp ((Instr.indexAt t cx ci).run P w) := by
  cases vi <;> simp only [kIaddr] at h
  rename_i ki j
  obtain ⟨rfl, _⟩ := hi
  cases vx <;> simp only at h
  · rename_i es full
    obtain ⟨h0, e', he, hl, h⟩ := h
    obtain ⟨a, cap, rfl, _, _, _, _, h6⟩ := hx
    have hlt := (List.getElem?_eq_some_iff.1 he).1
    obtain ⟨b, o, s, rfl, h7⟩ := h6 (by rintro rfl; simp at he)
    obtain ⟨h8, h9⟩ := rowsAt_iff.1 h7 _ _ he
    have : s = sz := by omega
    subst this
    rw [run_indexAt_slice hu hs h0 (by omega)]
    exact goodV_k hR h ⟨b, _, rfl, h9⟩
  · rename_i n len cap
    obtain ⟨h0, h1, h⟩ := h
    obtain ⟨rfl, _⟩ := hx
    rw [run_indexAt_slice hu hs h0 h1]
    exact goodV_k hR h (by simp [VRel])
  · rename_i n s off len
    obtain ⟨rfl, h0, h1, h⟩ := h
    obtain ⟨a, cap, rfl, _, h3⟩ := hx
    obtain rfl := h3 (by omega)
    rw [run_indexAt_slice hu hs h0 h1]
    exact goodV_k hR h (by simp [VRel, Nat.add_mul])
theorem goodV_iaddr_array {t e : TypeId} {sz m : Nat} (hu : P.underlying t = some (.array m e)) (hs : szOf P e = some sz)
    (hR : Rel Λ σ w) {vx vi : V} {cx ci : Value} (hx : VRel (Hh Λ σ w) vx cx) (hi : VRel (Hh Λ σ w) vi ci) (h : kIaddr sz (some m) vx vi fun v => k v σ) : GoodV Λ σ w k kp ((Instr.indexAt t cx ci).run P w) := by
  cases vi <;> simp only [kIaddr] at h
  rename_i ki j
  obtain ⟨rfl, _⟩ := hi
  cases vx <;> simp only at h
  · rename_i n o
    obtain ⟨h0, h1, h⟩ := h
    simp only [VRel] at hx
    subst hx
    rw [run_indexAt_array hu hs h0 h1]
    exact goodV_k hR h rfl
  · rename_i cs
    obtain ⟨h0, h1, h⟩ := h
    obtain ⟨b, o, rfl, hv⟩ := hx
    rw [run_indexAt_array hu hs h0 h1]
    exact goodV_k hR h ⟨b, _, rfl, vsAt_drop hv _⟩
  · rename_i n s q o
    obtain ⟨h0, h1, h⟩ := h
    simp only [VRel] at hx
    subst hx
    rw [run_indexAt_array hu hs h0 h1, Nat.add_assoc]
    exact goodV_k hR h rfl
end Go.Gl
