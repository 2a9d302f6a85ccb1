/-
  GL 7: operations, one by one (append, slice expressions, len, literals).
-/
import Derived.Test.YtfbhfdaljendcaaGreatGl6
import Derived.Laws.AppendOwn
import Derived.Laws.Tables
import Derived.Great.BuildSlice
set_option linter.all false
set_option linter.unusedVariables false
set_option linter.unusedSimpArgs false
namespace Go.Gl
variable {P : Program} {Λ : Nat → Prop} {σ : Store} {w : World} {k kp : V → Store → Prop}

theorem rows_lt {n sz j : Nat} (h : j < n * sz) : j / sz < n ∧ j % sz < sz := by
  have hs : 0 < sz := by
    rcases Nat.eq_zero_or_pos sz with h0 | h0
    · subst h0; simp at h
    · exact h0
  exact ⟨(Nat.div_lt_iff_lt_mul hs).2 h, Nat.mod_lt _ hs⟩

/-- the cells of rows, as a list -/
theorem rows_list {H : Nat → Nat → Option Value} {g : Nat → Option Value} {sz o : Nat} {es : List (List V)} (h : RowsAt H g sz o es) :
    ∃ cs : List Value, cs.length = es.length * sz ∧ (∀ j v, cs[j]? = some v → g (o + j) = some v) ∧ RowsAt H (fun i => cs[i]?) sz 0 es := by
  have hex : ∀ j, j < es.length * sz → ∃ c, g (o + j) = some c := fun j hj => by
    obtain ⟨h1, h2⟩ := rows_lt hj
    obtain ⟨h3, h4⟩ := rowsAt_iff.1 h (j / sz) es[j / sz] (List.getElem?_eq_getElem h1)
    obtain ⟨c, hc, _⟩ := vsAt_iff.1 h4 (j % sz) _ (List.getElem?_eq_getElem (by omega))
    refine ⟨c, ?_⟩
    rw [← hc]
    congr 1
    have := Nat.div_add_mod' j sz
    omega
  refine ⟨(List.range (es.length * sz)).map fun j => (g (o + j)).getD undef, by simp, fun j v hv => ?_, ?_⟩
  · have hlt : j < es.length * sz := by simpa using (List.getElem?_eq_some_iff.1 hv).1
    rw [List.getElem?_map, List.getElem?_range hlt] at hv
    obtain ⟨c, hc⟩ := hex j hlt
    simp [hc] at hv
    rw [hc, hv]
  · rw [rowsAt_iff] at *
    intro i e he
    obtain ⟨h1, h2⟩ := h i e he
    refine ⟨h1, vsAt_shift h2 (fun q hq => ?_)⟩
    have hi := (List.getElem?_eq_some_iff.1 he).1
    have hlt : 0 + i * sz + q < es.length * sz := by
      have : (i + 1) * sz ≤ es.length * sz := Nat.mul_le_mul_right _ hi
      rw [Nat.succ_mul] at this
      omega
    obtain ⟨c, hc⟩ := hex _ hlt
    rw [List.getElem?_map, List.getElem?_range hlt]
    rw [show o + i * sz + q = o + (0 + i * sz + q) by omega, hc]
    simp only [Option.map_some, hc, Option.getD_some]

theorem rows_append {H : Nat → Nat → Option Value} {g : Nat → Option Value} {sz o : Nat} {es fs : List (List V)} (h : RowsAt H g sz o es) (k : RowsAt H g sz (o + es.length * sz) fs) : RowsAt H g sz o (es ++ fs) := by
  rw [rowsAt_iff] at *
  intro i e he
  rw [List.getElem?_append] at he
  split at he
  · exact h i e he
  · rename_i hlt
    obtain ⟨h1, h2⟩ := k _ e he
    refine ⟨h1, ?_⟩
    have : o + es.length * sz + (i - es.length) * sz = o + i * sz := by
      rw [Nat.add_assoc, ← Nat.add_mul]
      congr 2
      omega
    rw [← this]
    exact h2
theorem rows_shift {H : Nat → Nat → Option Value} {g g' : Nat → Option Value} {sz o o' : Nat} {es : List (List V)} (h : RowsAt H g sz o es) (hg : ∀ j, j < es.length * sz → g' (o' + j) = g (o + j)) : RowsAt H g' sz o' es := by
  rw [rowsAt_iff] at *
  intro i e he
  obtain ⟨h1, h2⟩ := h i e he
  refine ⟨h1, vsAt_shift h2 (fun q hq => ?_)⟩
  have hi := (List.getElem?_eq_some_iff.1 he).1
  have hlt : i * sz + q < es.length * sz := by
    have : (i + 1) * sz ≤ es.length * sz := Nat.mul_le_mul_right _ hi
    rw [Nat.succ_mul] at this
    omega
  have := hg _ hlt
  rw [Nat.add_assoc, Nat.add_assoc]
  exact this
theorem rows_take {H : Nat → Nat → Option Value} {g : Nat → Option Value} {sz o : Nat} {es : List (List V)} (h : RowsAt H g sz o es) (n : Nat) : RowsAt H g sz o (es.take n) := by
  rw [rowsAt_iff] at *
  intro i e he
  rw [List.getElem?_take] at he
  split at he
  · exact h i e he
  · cases he
theorem rows_drop {H : Nat → Nat → Option Value} {g : Nat → Option Value} {sz o : Nat} {es : List (List V)} (h : RowsAt H g sz o es) (n : Nat) : RowsAt H g sz (o + n * sz) (es.drop n) := by
  rw [rowsAt_iff] at *
  intro i e he
  rw [List.getElem?_drop] at he
  obtain ⟨h1, h2⟩ := h _ e he
  refine ⟨h1, ?_⟩
  rw [Nat.add_mul, ← Nat.add_assoc] at h2
  exact h2
theorem rows_len {H : Nat → Nat → Option Value} {g : Nat → Option Value} {sz o : Nat} {es : List (List V)} (h : RowsAt H g sz o es) {e : List V} (he : e ∈ es) : e.length = sz := by
  obtain ⟨i, hi⟩ := List.mem_iff_getElem?.1 he
  exact (rowsAt_iff.1 h i e hi).1

theorem rowsOf_rel (hR : Rel Λ σ w) {sz : Nat} {vy : V} {cy : Value} (hy : VRel (Hh Λ σ w) vy cy) {K : List (List V) → Prop} (h : rowsOf σ sz vy K) :
    ∃ ys base cap, K ys ∧ cy = .slice base ys.length cap ∧ (∀ e ∈ ys, e.length = sz) ∧
      (ys = [] ∨ ∃ b o g, base = some ⟨b, o, none⟩ ∧ (∀ i c, g i = some c → w.cell? ⟨b, i, none⟩ = some c) ∧ RowsAt (Hh Λ σ w) g sz o ys) := by
  cases vy <;> simp only [rowsOf] at h
  · rename_i ys full
    obtain ⟨hl, h⟩ := h
    obtain ⟨a, cap, rfl, _, _, _, _, h6⟩ := hy
    refine ⟨ys, a, cap, h, rfl, hl, ?_⟩
    by_cases hne : ys = []
    · exact .inl hne
    · obtain ⟨b, o, s, rfl, h7⟩ := h6 hne
      right
      obtain ⟨e, r, rfl⟩ := List.exists_cons_of_ne_nil hne
      have : s = sz := by rw [← hl e (by simp)]; exact (rows_len h7 (by simp)).symm
      subst this
      exact ⟨b, o, _, rfl, fun i c hc => (Hh_some hc).2.2, h7⟩
  · rename_i m len cap
    split at h
    · rename_i s ys c hs
      obtain ⟨rfl, hle, h⟩ := h
      obtain ⟨rfl, _⟩ := hy
      obtain ⟨c', e, h1, h2, h3, h4, h5⟩ := arr_own hR hs
      refine ⟨_, _, cap, h, by simp [Nat.min_eq_left hle], fun e he => rows_len h5 (List.mem_of_mem_take he), .inr ⟨m, 0, _, rfl, fun i c hc => ?_, rows_take h5 _⟩⟩
      rw [cell_blk h1]
      exact hc
    · exact h.elim
  · rename_i m s off len
    split at h
    · rename_i s' ys c hs
      obtain ⟨rfl, rfl, hle, h⟩ := h
      obtain ⟨a, cap, rfl, _, h6⟩ := hy
      obtain ⟨c', e, h1, h2, h3, h4, h5⟩ := arr_own hR hs
      refine ⟨_, a, cap, h, by simp; omega, fun e he => rows_len h5 (List.mem_of_mem_drop (List.mem_of_mem_take he)), ?_⟩
      by_cases h0 : len = 0
      · left; simp [h0]
      · right
        obtain rfl := h6 h0
        refine ⟨m, off * s', _, rfl, fun i c hc => ?_, rows_take (by have := rows_drop h5 off; simpa using this) _⟩
        rw [cell_blk h1]
        exact hc
    · exact h.elim

theorem run_append_nothing (t ty e : TypeId) (i : TypeInfo) (ht : P.underlying t = some (.slice e)) (hi : P.info? e = some i) (base : Option Addr) (n cap : Nat) (hn : n ≤ cap) (b2 : Option Addr) (c2 : Nat) :
    (Builtin.append_ #[t, t] ty #[.slice base n cap, .slice b2 0 c2]).run P w = .ok (.slice base n cap) w := by
  cases base <;> cases b2 <;> simp [Builtin.append_, run_underlying ht, sizeOf, typeInfo, hi, Builtin.lenOf, hn, Builtin.firstCells, loadCells, loadCellsFrom, storeCells]

theorem adv_upd_new {o : O} {ob : Obj} {n : Nat} : Adv Λ σ w (upd (del σ n) w.heap.size o) (w.drew.alloc ob) where
  frame m hm _ := RowKit.Below.heap_alloc _ _ _ hm
  size := by simp
  os := rfl
  tape := rfl
  output := rfl
  names m h0 hm := by
    rw [upd_ne _ _ (by omega)]
    by_cases e : m = n
    · subst e; exact del_same _ _
    · rw [del_ne _ e]; exact h0

theorem goodV_append {t e : TypeId} {i : TypeInfo} {z : Value} (ty : TypeId) (ht : P.underlying t = some (.slice e)) (hi : P.info? e = some i) (hz : i.zero = some z) (hzs : z.cells.size = i.size) (hb : i.bytes ≤ 4096)
    (hR : Rel Λ σ w) {vx vy : V} {cx cy : Value} (hx : VRel (Hh Λ σ w) vx cx) (hy : VRel (Hh Λ σ w) vy cy) (h : kAppend σ i.size vx vy k) :
    GoodV Λ σ w k kp ((Builtin.append_ #[t, t] ty #[cx, cy]).run P w) := by
  have h' := rowsOf_rel hR hy h
  clear h
  obtain ⟨ys, base, c2, ⟨hone, h⟩, rfl, hyl, hys⟩ := h'
  have hbytes : ∀ L, L ≤ maxL → L * i.bytes ≤ 140737488355328 := fun L hL => by
    have : L * i.bytes ≤ 1073741824 * 4096 := Nat.mul_le_mul hL hb
    omega
  -- the new cells
  have hnews : ys ≠ [] → ∃ b o, base = some ⟨b, o, none⟩ ∧ ∃ news : List Value, news.length = ys.length * i.size ∧ (∀ j v, news[j]? = some v → w.cell? ((⟨b, o, none⟩ : Addr).add j) = some v) ∧
      RowsAt (Hh Λ σ w) (fun q => news[q]?) i.size 0 ys ∧ ∀ u ∈ news, u.oneCell' = true := fun hne => by
    rcases hys with hys | ⟨b, o, g, rfl, hg, hrow⟩
    · exact absurd hys hne
    · obtain ⟨news, h1, h2, h3⟩ := rows_list hrow
      refine ⟨b, o, rfl, news, h1, fun j v hv => by rw [addr_add]; exact hg _ _ (h2 j v hv), h3, fun u hu => ?_⟩
      obtain ⟨j, hj⟩ := List.mem_iff_getElem?.1 hu
      have hlt : j < ys.length * i.size := by rw [← h1]; exact (List.getElem?_eq_some_iff.1 hj).1
      obtain ⟨h4, h5⟩ := rows_lt hlt
      obtain ⟨h6, h7⟩ := rowsAt_iff.1 h3 (j / i.size) _ (List.getElem?_eq_getElem h4)
      obtain ⟨c, hc, hr⟩ := vsAt_iff.1 h7 (j % i.size) _ (List.getElem?_eq_getElem (by omega))
      have hdm := Nat.div_add_mod' j i.size
      rw [show 0 + j / i.size * i.size + j % i.size = j by omega, hj] at hc
      cases hc
      exact oneV_rel hr (hone _ (List.getElem_mem h4) _ (List.getElem_mem _))
  -- a new block
  have grown : ∀ (es : List (List V)) (olds news : List Value) (L cap n : Nat), olds.length = es.length * i.size → news.length = ys.length * i.size → RowsAt (Hh Λ σ w) (fun q => olds[q]?) i.size 0 es → RowsAt (Hh Λ σ w) (fun q => news[q]?) i.size 0 ys →
      L = es.length + ys.length → L ≤ maxL →
      (∀ n' cap', del σ n n' = none → L ≤ cap' → k (.sl n' L cap') (upd (del σ n) n' (.arr i.size (es ++ ys) cap'))) →
      GoodV Λ σ w k kp (.ok (.slice (some ⟨w.heap.size, 0, none⟩) L (grownCap w L cap e)) (w.drew.alloc (.cells (olds.toArray ++ news.toArray ++ Builtin.zeroCells z.cells (grownCap w L cap e - L)) e))) := by
    intro es olds news L cap n ho hn hro hrn hL hLm hk
    have hge := grownCap_ge w L cap e
    have ha : Adv Λ σ w (upd (del σ n) w.heap.size (.arr i.size (es ++ ys) (grownCap w L cap e))) (w.drew.alloc (.cells (olds.toArray ++ news.toArray ++ Builtin.zeroCells z.cells (grownCap w L cap e - L)) e)) := adv_upd_new
    have hfresh : del σ n w.heap.size = none := by
      unfold del
      split
      · rfl
      · exact hR.new
    refine ⟨_, _, hk w.heap.size _ hfresh hge, ⟨rfl, hge⟩, ?_, ha⟩
    refine hR.step ha fun m o' hm => ?_
    by_cases em : m = w.heap.size
    · subst em
      rw [upd_same] at hm
      cases hm
      refine .inr ⟨fun hl => absurd (hR.lock _ hl) (Nat.lt_irrefl _), _, heap_alloc_new w.drew _, _, e, rfl, ?_, by simp; omega, by simp; omega, ?_⟩
      · refine Nat.le_of_eq (Eq.symm ?_)
        simp only [Array.size_append, List.size_toArray, size_zeroCells, hzs, ho, hn, ← Nat.add_mul]
        congr 1
        omega
      · refine rows_append (RowsAt.mono ha.hle (fun _ _ e => e) _ _ _ (rows_shift hro fun j hj => ?_)) (RowsAt.mono ha.hle (fun _ _ e => e) _ _ _ (rows_shift hrn fun j hj => ?_))
        · simp only [Nat.zero_add]
          rw [Array.getElem?_append_left (by simp [ho, hn]; omega), Array.getElem?_append_left (by simp [ho]; omega)]
          simp
        · simp only [Nat.zero_add]
          rw [Array.getElem?_append_left (by simp [ho, hn]; omega), Array.getElem?_append_right (by simp [ho])]
          simp [ho]
    · rw [upd_ne _ _ em] at hm
      have hmn : m ≠ n := fun e => by rw [e, del_same] at hm; cases hm
      rw [del_ne _ hmn] at hm
      exact .inl ⟨hm, heap_alloc_old w.drew _ _ (hR.lt hm)⟩
  by_cases hne : ys = []
  · subst hne
    have hrun : ∀ (n cap : Nat) (b : Option Addr), n ≤ cap → (Builtin.append_ #[t, t] ty #[.slice b n cap, .slice base ([] : List (List V)).length c2]).run P w = .ok (.slice b n cap) w := fun n cap b hn => run_append_nothing t ty e i ht hi b n cap hn base c2
    cases vx <;> simp only at h
    · rename_i es full
      obtain ⟨_, _, h, _⟩ := h
      have hx' := hx
      obtain ⟨a, cap, rfl, h2, _⟩ := hx
      rw [hrun _ _ _ h2]
      exact goodV_k hR (h trivial) hx'
    · rename_i n len cap
      split at h
      · rename_i s es c hs
        obtain ⟨rfl, rfl, rfl, hm, h⟩ := h
        have hx' := hx
        obtain ⟨rfl, h2⟩ := hx
        rw [hrun _ _ _ h2]
        have := h n c (del_same _ _) (by simpa using h2)
        simp only [List.length_nil, Nat.add_zero, List.append_nil] at this
        have e : upd (del σ n) n (.arr i.size es c) = σ := by
          funext m
          unfold upd del
          split
          · rename_i e; rw [e, hs]
          · rfl
        rw [e] at this
        exact goodV_k hR this hx'
      · exact h.elim
  · obtain ⟨b, o, rfl, news, hnl, hnc, hnr, hn1⟩ := hnews hne
    have hpos : 0 < ys.length := List.length_pos_iff.2 hne
    cases vx <;> simp only at h
    · rename_i es full
      obtain ⟨hel, hm, _, h⟩ := h
      obtain ⟨rfl, hkk⟩ := h hne
      obtain ⟨a, cap, rfl, h2, h3, h4, h5, h6⟩ := hx
      obtain rfl := h3 rfl
      have hk' : ∀ n' cap', del σ w.heap.size n' = none → es.length + ys.length ≤ cap' → k (.sl n' (es.length + ys.length) cap') (upd (del σ w.heap.size) n' (.arr i.size (es ++ ys) cap')) := by
        have hd : del σ w.heap.size = σ := by
          funext m
          unfold del
          split
          · rename_i e; rw [e, hR.new]
          · rfl
        rw [hd]
        exact hkk
      cases a with
      | none =>
        have h0 : es.length = 0 := by simpa using h5 rfl
        obtain rfl : es = [] := List.eq_nil_of_length_eq_zero h0
        simp only [List.length_nil, Nat.zero_add] at hm hk' ⊢
        rw [run_append_nil w t ty e i z ht hi hz ⟨b, o, none⟩ ys.length c2 news hnl hnc hpos (by unfold maxL at hm; omega) (by have := hbytes _ hm; omega)]
        have hgo := grown [] [] news ys.length 0 w.heap.size (by simp) hnl trivial hnr (by simp) hm hk'
        simpa using hgo
      | some a =>
        have holds : ∃ olds : List Value, olds.length = es.length * i.size ∧ (∀ j v, olds[j]? = some v → w.cell? (a.add j) = some v) ∧ RowsAt (Hh Λ σ w) (fun q => olds[q]?) i.size 0 es := by
          by_cases hes : es = []
          · subst hes; exact ⟨[], by simp, by simp, trivial⟩
          · obtain ⟨b', o', s, ha, h7⟩ := h6 hes
            cases ha
            obtain ⟨e0, r, rfl⟩ := List.exists_cons_of_ne_nil hes
            have : s = i.size := by rw [← hel e0 (by simp)]; exact (rows_len h7 (by simp)).symm
            subst this
            obtain ⟨olds, h8, h9, h10⟩ := rows_list h7
            exact ⟨olds, h8, fun j v hv => by rw [addr_add]; exact (Hh_some (h9 j v hv)).2.2, h10⟩
        obtain ⟨olds, h8, h9, h10⟩ := holds
        rw [run_append_grow w t ty e i z ht hi hz a es.length es.length olds h8 h9 ⟨b, o, none⟩ ys.length c2 news hnl hnc (by omega) (by unfold maxL at hm; omega) (growslice_fits (by omega) (hbytes _ hm))]
        exact grown es olds news _ _ w.heap.size h8 hnl h10 hnr rfl hm hk'
    · rename_i n len cap
      split at h
      · rename_i s es c hs
        obtain ⟨rfl, rfl, rfl, hm, h⟩ := h
        obtain ⟨rfl, h2⟩ := hx
        obtain ⟨cur, et, h3, h4, h5, h6, h7⟩ := arr_own hR hs
        by_cases hroom : es.length + ys.length ≤ c
        · -- in place
          have hmul : (es.length + ys.length) * i.size ≤ c * i.size := Nat.mul_le_mul_right _ hroom
          rw [Nat.add_mul] at hmul
          have hcell : et = et := rfl
          have hrunF := run_firstCells_some (P := P) w i.size ys.length ⟨b, o, none⟩ ys.length c2 news hnl hnc
          have hst := run_storeCells_blk (P := P) news w cur (es.length * i.size) 0 h3 (by omega) hn1
          simp only [Nat.add_zero] at hst
          have hrun : (Builtin.append_ #[t, t] ty #[.slice (some ⟨n, 0, none⟩) es.length c, .slice (some ⟨b, o, none⟩) ys.length c2]).run P w =
              .ok (.slice (some ⟨n, 0, none⟩) (es.length + ys.length) c) (setBlk w n (.cells (arrPut cur (es.length * i.size) news) et (0, 0))) := by
            simp [Builtin.append_, run_underlying ht, sizeOf, typeInfo, hi, Builtin.lenOf, hroom, hrunF, addr_add, hst]
          rw [hrun]
          have hk := h n c (del_same _ _) hroom
          have eu : upd (del σ n) n (.arr i.size (es ++ ys) c) = upd σ n (.arr i.size (es ++ ys) c) := by
            funext m
            unfold upd del
            split
            · rfl
            · rfl
          rw [eu] at hk
          refine ⟨_, _, hk, ⟨rfl, hroom⟩, rel_set hR hs ⟨_, et, rfl, by rw [arrPut_size]; exact h4, by simp; omega, by simp; omega, ?_⟩, adv_set hs _ _⟩
          refine rows_append (rows_shift h7 fun j hj => ?_) (rows_shift hnr fun j hj => ?_)
          · exact arrPut_out _ _ _ _ (by omega)
          · simp only [Nat.zero_add]
            exact arrPut_in _ _ _ _ (by omega) (by omega)
        · obtain ⟨olds, h8, h9, h10⟩ := rows_list h7
          rw [run_append_grow w t ty e i z ht hi hz ⟨n, 0, none⟩ es.length c olds h8 (fun j v hv => by rw [addr_add, cell_blk h3]; simpa using h9 j v hv) ⟨b, o, none⟩ ys.length c2 news hnl hnc (by omega) (by unfold maxL at hm; omega)
            (growslice_fits (by omega) (hbytes _ hm))]
          exact grown es olds news _ _ n h8 hnl h10 hnr rfl hm h
      · exact h.elim
end Go.Gl
