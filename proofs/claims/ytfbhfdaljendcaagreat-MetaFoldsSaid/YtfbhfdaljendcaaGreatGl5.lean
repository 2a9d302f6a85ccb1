/-
  GL 5: operations, one by one: the model does what the resolved one says (memory).
-/
import Derived.Test.YtfbhfdaljendcaaGreatGl4
set_option linter.all false
set_option linter.unusedVariables false
set_option linter.unusedSimpArgs false
namespace Go.Gl
variable {P : Program} {Λ : Nat → Prop} {σ : Store} {w : World} {k kp : V → Store → Prop}

theorem info_of_szOf {t : TypeId} {n : Nat} (h : szOf P t = some n) : ∃ i, P.info? t = some i ∧ i.size = n := by
  unfold szOf at h
  cases hi : P.info? t with
  | none => rw [hi] at h; cases h
  | some i => rw [hi] at h; cases h; exact ⟨i, rfl, rfl⟩
theorem run_szOf {t : TypeId} {n : Nat} (h : szOf P t = some n) (w : World) : (sizeOf t).run P w = .ok n w := by
  obtain ⟨i, h1, h2⟩ := info_of_szOf h
  simp [sizeOf, typeInfo, h1, h2]
theorem run_und {t : TypeId} {d : TypeDesc} (h : P.underlying t = some d) (w : World) : (underlying t).run P w = .ok d w := by
  simp [underlying, h]
theorem run_zeroOf {t : TypeId} {z : V} (h : zeroOf P t = some z) (w : World) : ∃ c, (zeroValue t).run P w = .ok c w ∧ toV c = some z := by
  unfold zeroOf at h
  cases hi : P.info? t with
  | none => rw [hi] at h; cases h
  | some i =>
    rw [hi] at h
    cases hz : i.zero with
    | none => simp [hz] at h
    | some c =>
      refine ⟨c, by simp [zeroValue, typeInfo, hi, hz], ?_⟩
      simpa [hz] using h
theorem zeroOf_info {t : TypeId} {z : V} (h : zeroOf P t = some z) : ∃ i c, P.info? t = some i ∧ i.zero = some c ∧ toV c = some z := by
  unfold zeroOf at h
  cases hi : P.info? t with
  | none => rw [hi] at h; cases h
  | some i =>
    rw [hi] at h
    cases hz : i.zero with
    | none => simp [hz] at h
    | some c => exact ⟨i, c, rfl, hz, by simpa [hz] using h⟩
/-- is it an aggregate: what the model asks -/
theorem run_aggOf {t : TypeId} {a : Option Nat} (h : aggOf P t = some a) (w : World) : (isAgg t).run P w = .ok a.isSome w ∧ ∀ n, a = some n → (sizeOf t).run P w = .ok n w := by
  unfold aggOf at h
  cases hu : P.underlying t with
  | none => rw [hu] at h; cases h
  | some d =>
    rw [hu] at h
    unfold isAgg
    simp only [Sem.run_bind, run_und hu, Result.andThen]
    cases d <;> simp only at h ⊢ <;> first
      | (cases h; exact ⟨rfl, fun n e => by cases e⟩)
      | (cases hs : szOf P t with
         | none => rw [hs] at h; cases h
         | some n => rw [hs] at h; cases h; exact ⟨rfl, fun n e => by cases e; exact run_szOf hs w⟩)

theorem loadCells_at {g : Nat → Option Value} {b o n : Nat} {vs : List V} {H : Nat → Nat → Option Value} (hg : ∀ i c, g i = some c → w.cell? ⟨b, i, none⟩ = some c) (hv : VsAt H g o vs) (hn : vs.length = n) :
    ∃ cs : Array Value, (loadCells ⟨b, o, none⟩ n).run P w = .ok cs w ∧ cs.size = n ∧ VsAt H (fun i => cs[i]?) 0 vs := by
  rw [vsAt_iff] at hv
  have hch : ∀ i, i < n → ∃ c, g (o + i) = some c := fun i hi => by
    obtain ⟨c, hc, _⟩ := hv i vs[i] (List.getElem?_eq_getElem (by omega))
    exact ⟨c, hc⟩
  let f : Nat → Value := fun i => (g (o + i)).getD undef
  refine ⟨((List.range n).map f).toArray, ?_, by simp, ?_⟩
  · rw [run_loadCells w _ n f (fun j hj => by
      obtain ⟨c, hc⟩ := hch j hj
      rw [addr_add, hg _ _ hc]
      simp [f, hc])]
  · rw [vsAt_iff]
    intro i v hi
    obtain ⟨c, hc, hr⟩ := hv i v hi
    have hlt : i < n := by rw [← hn]; exact (List.getElem?_eq_some_iff.1 hi).1
    refine ⟨c, ?_, hr⟩
    simp [f, hc, hlt]

theorem loadVar_at {t : TypeId} {agg : Option Nat} (hA : aggOf P t = some agg) {g : Nat → Option Value} {b o off : Nat} {vs : List V} {H : Nat → Nat → Option Value} (hg : ∀ i c, g i = some c → w.cell? ⟨b, i, none⟩ = some c) (hv : VsAt H g o vs)
    {K : V → Prop} (hk : cut agg vs off K) : ∃ v c, (loadVar t ⟨b, o + off, none⟩).run P w = .ok c w ∧ VRel H v c ∧ K v := by
  obtain ⟨h1, h2⟩ := run_aggOf hA w
  unfold loadVar
  simp only [Sem.run_bind, h1, Result.andThen]
  cases agg with
  | none =>
    simp only [cut] at hk
    split at hk
    · rename_i v hv'
      obtain ⟨c, hc, hr⟩ := vsAt_iff.1 hv off v hv'
      refine ⟨v, c, ?_, hr, hk⟩
      simp [hg _ _ hc]
    · exact hk.elim
  | some n =>
    simp only [cut] at hk
    obtain ⟨cs, h3, h4, h5⟩ := loadCells_at (P := P) (n := n) hg (vsAt_take (vsAt_drop hv off) n) (by simp; omega)
    refine ⟨.a ((vs.drop off).take n), .agg cs, ?_, ⟨cs, rfl, by simp [h4]; omega, h5⟩, hk.2⟩
    simp [h2 n rfl, h3]

theorem cells_own (hR : Rel Λ σ w) {n : Nat} {vs : List V} (h : σ n = some (.cs vs)) : ∃ c e, w.heap[n]? = some (.cells c e (0, 0)) ∧ c.size = vs.length ∧ VsAt (Hh Λ σ w) (fun i => c[i]?) 0 vs := by
  obtain ⟨_, ob, h2, c, e, rfl, h4, h5⟩ := hR.own n _ h
  exact ⟨c, e, h2, h4, h5⟩
theorem arr_own (hR : Rel Λ σ w) {n sz cap : Nat} {es : List (List V)} (h : σ n = some (.arr sz es cap)) : ∃ c e, w.heap[n]? = some (.cells c e (0, 0)) ∧ cap * sz ≤ c.size ∧ es.length ≤ cap ∧ es.length ≤ maxL ∧ RowsAt (Hh Λ σ w) (fun i => c[i]?) sz 0 es := by
  obtain ⟨_, ob, h2, c, e, rfl, h4, h5⟩ := hR.own n _ h
  exact ⟨c, e, h2, h4, h5⟩

theorem goodV_load {t : TypeId} {agg : Option Nat} (hA : aggOf P t = some agg) (hR : Rel Λ σ w) {vx : V} {c : Value} (hx : VRel (Hh Λ σ w) vx c) (h : kLoad σ agg vx fun v => k v σ) :
    GoodV Λ σ w k kp ((Instr.loadAt t c).run P w) := by
  unfold Instr.loadAt
  unfold kLoad at h
  split at h
  · rename_i cs
    obtain ⟨b, o, rfl, hv⟩ := hx
    obtain ⟨v, c, h1, h2, h3⟩ := loadVar_at (P := P) (w := w) (b := b) (off := 0) hA (fun i c hc => (Hh_some hc).2.2) hv h
    simp only [Sem.run_bind, Instr.sureAddr, Sem.run_pure, Result.andThen, Nat.add_zero] at h1 ⊢
    rw [h1]
    exact goodV_pure hR h2 h3
  · rename_i n off
    simp only [VRel] at hx
    subst hx
    unfold loadP at h; split at h
    · rename_i vs hs
      obtain ⟨c, e, h1, h2, h3⟩ := cells_own hR hs
      obtain ⟨v, c', h4, h5, h6⟩ := loadVar_at (P := P) (w := w) (b := n) (off := off) hA (fun i c hc => by rw [cell_blk h1]; exact hc) h3 h
      simp only [Sem.run_bind, Instr.sureAddr, Sem.run_pure, Result.andThen, Nat.zero_add] at h4 ⊢
      rw [h4]
      exact goodV_pure hR h5 h6
    · exact h.elim
  · rename_i n sz i off
    simp only [VRel] at hx
    subst hx
    unfold loadE at h; split at h
    · rename_i sz' es cap hs
      obtain ⟨rfl, h⟩ := h
      split at h
      · rename_i e he
        obtain ⟨c, e', h1, _, _, _, h3⟩ := arr_own hR hs
        obtain ⟨h7, h8⟩ := rowsAt_iff.1 h3 i e he
        obtain ⟨v, c', h4, h5, h6⟩ := loadVar_at (P := P) (w := w) (b := n) (off := off) hA (fun i c hc => by rw [cell_blk h1]; exact hc) h8 h
        simp only [Sem.run_bind, Instr.sureAddr, Sem.run_pure, Result.andThen, Nat.zero_add] at h4 ⊢
        rw [h4]
        exact goodV_pure hR h5 h6
      · exact h.elim
    · exact h.elim
  · exact h.elim

/-! ### cells of a value -/
theorem cellsOf_rel {H : Nat → Nat → Option Value} {v : V} {c : Value} (hv : VRel H v c) {vs : List V} (h : cellsOf v = some vs) : c.cells.size = vs.length ∧ VsAt H (fun i => c.cells[i]?) 0 vs := by
  cases v <;> simp only [cellsOf] at h <;> first
    | (cases h; done)
    | (cases h
       have hc : c.cells = #[c] := by
         first
           | (simp only [VRel] at hv; subst hv; rfl)
           | (simp only [VRel] at hv; obtain ⟨rfl, _⟩ := hv; rfl)
           | (simp only [VRel] at hv; obtain ⟨_, rfl, _⟩ := hv; rfl)
           | (simp only [VRel] at hv; obtain ⟨_, _, rfl, _⟩ := hv; rfl)
       rw [hc]
       exact ⟨rfl, ⟨c, rfl, hv⟩, trivial⟩)
    | skip
  rename_i cs
  cases h
  obtain ⟨c', rfl, h2, h3⟩ := hv
  exact ⟨h2, h3⟩
theorem oneV_rel {H : Nat → Nat → Option Value} {v : V} {c : Value} (hv : VRel H v c) (h : oneV v = true) : c.oneCell' = true := by
  cases v <;> first
    | (simp [oneV] at h; done)
    | (simp only [VRel] at hv; subst hv; rfl)
    | (simp only [VRel] at hv; obtain ⟨rfl, _⟩ := hv; rfl)
    | (simp only [VRel] at hv; obtain ⟨_, rfl, _⟩ := hv; rfl)
    | (simp only [VRel] at hv; obtain ⟨_, _, rfl, _⟩ := hv; rfl)
theorem oneV_all {H : Nat → Nat → Option Value} {vs : List V} {c : Array Value} (hs : c.size = vs.length) (hv : VsAt H (fun i => c[i]?) 0 vs) (h : vs.all oneV = true) : ∀ u ∈ c.toList, u.oneCell' = true := by
  intro u hu
  obtain ⟨i, hi⟩ := List.mem_iff_getElem?.1 hu
  have hlt : i < vs.length := by rw [← hs]; have := (List.getElem?_eq_some_iff.1 hi).1; simpa using this
  obtain ⟨d, hd, hr⟩ := vsAt_iff.1 hv i vs[i] (List.getElem?_eq_getElem hlt)
  have : d = u := by simp only [Nat.zero_add] at hd; rw [Array.getElem?_toList] at hi; rw [hi] at hd; cases hd; rfl
  subst this
  exact oneV_rel hr (List.all_eq_true.1 h _ (List.getElem_mem hlt))

theorem putAt_length : ∀ (us cs : List V) (o : Nat), (putAt cs o us).length = cs.length
  | [], _, _ => rfl
  | u :: us, cs, o => by simp only [putAt]; rw [putAt_length us]; simp
theorem vsAt_set {H : Nat → Nat → Option Value} {c : Array Value} {vs : List V} {i : Nat} {v : V} {d : Value} (hs : c.size = vs.length) (h : VsAt H (fun i => c[i]?) 0 vs) (hv : VRel H v d) :
    VsAt H (fun j => (c.setIfInBounds i d)[j]?) 0 (vs.set i v) := by
  rw [vsAt_iff] at *
  intro j u hu
  simp only [Nat.zero_add] at h ⊢
  rw [List.getElem?_set] at hu
  split at hu
  · rename_i e
    subst e
    split at hu
    · rename_i hlt
      cases hu
      exact ⟨d, by rw [Array.getElem?_setIfInBounds_self_of_lt (by omega)], hv⟩
    · cases hu
  · rename_i e
    obtain ⟨c', h1, h2⟩ := h j u hu
    exact ⟨c', by rw [Array.getElem?_setIfInBounds_ne e]; exact h1, h2⟩
theorem vsAt_put {H : Nat → Nat → Option Value} : ∀ {us : List V} {ds : List Value} {c : Array Value} {vs : List V} {o : Nat}, c.size = vs.length → VsAt H (fun i => c[i]?) 0 vs → ds.length = us.length → VsAt H (fun i => ds[i]?) 0 us →
    VsAt H (fun i => (arrPut c o ds)[i]?) 0 (putAt vs o us)
  | [], [], c, vs, o, _, h, _, _ => h
  | u :: us, d :: ds, c, vs, o, hs, h, hl, hu => by
    simp only [arrPut, putAt]
    obtain ⟨⟨d', hd, hr⟩, hu'⟩ := hu
    have e : d' = d := by simp at hd; exact hd.symm
    subst e
    exact vsAt_put (by simpa using hs) (vsAt_set hs h hr) (by simpa using hl) (vsAt_shift hu' (fun i _ => by rw [show 0 + 1 + i = i + 1 by omega]; simp))
  | [], _ :: _, _, _, _, _, _, hl, _ => by simp at hl
  | _ :: _, [], _, _, _, _, _, hl, _ => by simp at hl

/-- cells outside what is put -/
theorem arrPut_out : ∀ (ds : List Value) (c : Array Value) (o i : Nat), (i < o ∨ o + ds.length ≤ i) → (arrPut c o ds)[i]? = c[i]?
  | [], _, _, _, _ => rfl
  | d :: ds, c, o, i, h => by
    simp only [arrPut]
    rw [arrPut_out ds _ _ _ (by simp at h; omega), Array.getElem?_setIfInBounds_ne (by simp at h; omega)]
theorem arrPut_in : ∀ (ds : List Value) (c : Array Value) (o i : Nat), i < ds.length → o + ds.length ≤ c.size → (arrPut c o ds)[o + i]? = ds[i]?
  | d :: ds, c, o, i, h, hs => by
    simp only [arrPut]
    cases i with
    | zero =>
      simp at hs
      rw [arrPut_out ds _ _ _ (by omega), Nat.add_zero, Array.getElem?_setIfInBounds_self_of_lt (by omega)]
      rfl
    | succ i =>
      rw [show o + (i + 1) = o + 1 + i by omega, arrPut_in ds _ _ i (by simpa using h) (by simp at hs ⊢; omega)]
      simp
  | [], _, _, _, h, _ => by simp at h

theorem goodV_store {t : TypeId} {sz : Nat} (hS : szOf P t = some sz) (hR : Rel Λ σ w) {va vx : V} {ca cx : Value} (ha : VRel (Hh Λ σ w) va ca) (hx : VRel (Hh Λ σ w) vx cx)
    (h : kStore σ sz va vx fun σ' => k (.t []) σ') : ∃ σ' w', (Instr.storeAt t ca cx).run P w = .ok () w' ∧ k (.t []) σ' ∧ Rel Λ σ' w' ∧ Adv Λ σ w σ' w' := by
  unfold kStore at h
  split at h
  · rename_i vc hc
    obtain ⟨hlen, hone, h⟩ := h
    obtain ⟨hcs, hcv⟩ := cellsOf_rel hx hc
    have h1s := oneV_all hcs hcv hone
    have hcv' : VsAt (Hh Λ σ w) (fun i => cx.cells.toList[i]?) 0 vc := vsAt_shift hcv (fun i _ => by simp)
    have hrun : ∀ n o, ca = .pointer (some ⟨n, o, none⟩) → (Instr.storeAt t ca cx).run P w = (storeCells ⟨n, o, none⟩ cx.cells.toList).run P w := by
      rintro n o rfl
      have : cx.cells.size = sz := by omega
      simp [Instr.storeAt, Instr.sureAddr, storeVar, run_szOf hS, this]
    split at h
    · rename_i n off
      split at h
      · rename_i vs hs
        obtain ⟨hle, hk⟩ := h
        simp only [VRel] at ha
        obtain ⟨c, e, h1, h2, h3⟩ := cells_own hR hs
        refine ⟨_, setBlk w n (.cells (arrPut c off cx.cells.toList) e (0, 0)), ?_, hk, ?_, adv_set hs _ _⟩
        · rw [hrun n off ha, run_storeCells_blk cx.cells.toList w c off 0 h1 (by simp; omega) h1s]
          rfl
        · exact rel_set hR hs ⟨_, e, rfl, by rw [arrPut_size, putAt_length]; exact h2, vsAt_put h2 h3 (by simp; omega) hcv'⟩
      · exact h.elim
    · rename_i n s i off
      split at h
      · rename_i s' es cap hs
        obtain ⟨rfl, h⟩ := h
        split at h
        · rename_i e he
          obtain ⟨hle, hk⟩ := h
          simp only [VRel] at ha
          obtain ⟨c, et, h1, h2, h3, h4, h5⟩ := arr_own hR hs
          obtain ⟨h6, h7⟩ := rowsAt_iff.1 h5 i e he
          have hi : i < es.length := (List.getElem?_eq_some_iff.1 he).1
          have hb : i * s + s ≤ c.size := by
            rw [← Nat.succ_mul]
            exact Nat.le_trans (Nat.mul_le_mul_right _ (by omega)) h2
          refine ⟨_, setBlk w n (.cells (arrPut c (i * s + off) cx.cells.toList) et (0, 0)), ?_, hk, ?_, adv_set hs _ _⟩
          · rw [hrun n _ ha, run_storeCells_blk cx.cells.toList w c _ 0 h1 (by simp; omega) h1s]
            rfl
          · refine rel_set hR hs ⟨_, et, rfl, by rw [arrPut_size]; exact h2, by simpa using h3, by simpa using h4, ?_⟩
            rw [rowsAt_iff]
            intro j u hu
            rw [List.getElem?_set] at hu
            split at hu
            · rename_i ej
              subst ej
              cases hu
              refine ⟨by rw [putAt_length]; exact h6, ?_⟩
              -- the row itself
              have hrow : VsAt (Hh Λ σ w) (fun q => (c.extract (i * s) (i * s + s))[q]?) 0 e := by
                refine vsAt_shift h7 (fun q hq => ?_)
                simp only [Nat.zero_add]
                rw [Array.getElem?_extract_of_lt (by omega)]
                exact (Array.getElem?_eq_getElem (by omega)).symm
              have := vsAt_put (o := off) (by simp; omega) hrow (by simp; omega) hcv'
              refine vsAt_shift this (fun q hq => ?_)
              rw [putAt_length] at hq
              simp only [Nat.zero_add]
              by_cases hin : off ≤ q ∧ q < off + cx.cells.toList.length
              · obtain ⟨r, rfl⟩ : ∃ r, q = off + r := ⟨q - off, by omega⟩
                rw [show i * s + (off + r) = i * s + off + r by omega, arrPut_in _ _ _ _ (by omega) (by simp; omega), arrPut_in _ _ _ _ (by omega) (by simp; omega)]
              · rw [arrPut_out _ _ _ _ (by omega), arrPut_out _ _ _ _ (by omega), Array.getElem?_extract_of_lt (by omega)]
                exact Array.getElem?_eq_getElem (by omega)
            · rename_i ej
              obtain ⟨h8, h9⟩ := rowsAt_iff.1 h5 j u hu
              refine ⟨h8, vsAt_shift h9 (fun q hq => ?_)⟩
              rw [arrPut_out]
              rcases Nat.lt_or_ge j i with hji | hji
              · left
                have : (j + 1) * s ≤ i * s := Nat.mul_le_mul_right _ hji
                rw [Nat.succ_mul] at this
                omega
              · right
                have : (i + 1) * s ≤ j * s := Nat.mul_le_mul_right _ (by omega)
                rw [Nat.succ_mul] at this
                simp
                omega
        · exact h.elim
      · exact h.elim
    · exact h.elim
  · exact h.elim
end Go.Gl
