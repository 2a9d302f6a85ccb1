/-
  GL 11: all operations together; an operation in its frame.
-/
import Derived.Test.YtfbhfdaljendcaaGreatGl10
set_option linter.all false
set_option linter.unusedVariables false
set_option linter.unusedSimpArgs false
namespace Go.Gl
variable {P : Program} {Λ : Nat → Prop} {σ : Store} {w : World} {k kp : V → Store → Prop}

theorem replicate_rows {sz : Nat} {z : List V} (hz : z.length = sz) {H : Nat → Nat → Option Value} {c : Array Value} (hc : c.size = sz) (hv : VsAt H (fun i => c[i]?) 0 z) (len : Nat) :
    RowsAt H (fun i => ((Array.range (len * sz)).map (c[· % c.size]!))[i]?) sz 0 (List.replicate len z) := by
  rw [rowsAt_iff]
  intro i e he
  have hi : i < len := by have := (List.getElem?_eq_some_iff.1 he).1; simpa using this
  rw [List.getElem?_replicate, if_pos hi] at he
  cases he
  refine ⟨hz, vsAt_shift hv (fun q hq => ?_)⟩
  have hlt : 0 + i * sz + q < len * sz := by
    have : (i + 1) * sz ≤ len * sz := Nat.mul_le_mul_right _ hi
    rw [Nat.succ_mul] at this
    omega
  rw [Array.getElem?_map, Array.getElem?_range, if_pos hlt]
  simp only [Option.map_some, hc, Nat.zero_add]
  rw [Nat.add_comm, Nat.add_mul_mod_self_right, Nat.mod_eq_of_lt (by omega)]
  rw [getElem!_pos c q (by omega)]
  exact (Array.getElem?_eq_getElem (by omega)).symm

theorem fillE_rel {H : Nat → Nat → Option Value} {env : Env} {a : Act} (he : ERel H env a.tmps) {sz : Nat} : ∀ {parts : List (Nat × Operand)} {ps : List (Nat × Opd)},
    (List.length parts = ps.length ∧ ∀ (i : Nat) (q : Nat × Operand) (r : Nat × Opd), parts[i]? = some q → ps[i]? = some r → r.1 = q.1 ∧ rOpd q.2 = some r.2) →
    ∀ {c : Array Value} {es fs : List (List V)}, c.size = es.length * sz → RowsAt H (fun i => c[i]?) sz 0 es → fillE env sz es ps = some fs →
    ∃ d, Instr.fill (fun i => some (i * sz, sz)) c (parts.map fun (i, x) => (i, a.eval x)) = some d ∧ d.size = fs.length * sz ∧ RowsAt H (fun i => d[i]?) sz 0 fs ∧ fs.length = es.length
  | [], ps, hp, c, es, fs, hs, hv, hf => by
    have : ps = [] := List.eq_nil_of_length_eq_zero hp.1.symm
    subst this
    cases hf
    exact ⟨c, rfl, hs, hv, rfl⟩
  | (i, x) :: parts, ps, hp, c, es, fs, hs, hv, hf => by
    cases ps with
    | nil => simp at hp
    | cons r ps =>
      obtain ⟨j, o⟩ := r
      obtain ⟨h1, h2⟩ := hp.2 0 _ _ rfl rfl
      simp only at h1 h2
      subst h1
      simp only [fillE] at hf
      split at hf
      · rename_i v hev
        split at hf
        · rename_i vc hc
          cases hq : (Nat.beq vc.length sz && Nat.blt j es.length) with
          | false => rw [hq] at hf; simp at hf
          | true =>
            rw [hq] at hf
            simp only [cond_true] at hf
            simp only [Bool.and_eq_true, Nat.beq_eq, Nat.blt_eq] at hq
            obtain ⟨h3, h4⟩ := cellsOf_rel (ev_rel he h2 hev) hc
            have hb : j * sz + sz ≤ c.size := by
              rw [hs, ← Nat.succ_mul]
              exact Nat.mul_le_mul_right _ hq.2
            have hrow : RowsAt H (fun i => (arrPut c (j * sz) (a.eval x).cells.toList)[i]?) sz 0 (es.set j vc) := by
              rw [rowsAt_iff] at hv ⊢
              intro q u hu
              rw [List.getElem?_set] at hu
              split at hu
              · rename_i ej
                subst ej
                rw [if_pos hq.2] at hu
                cases hu
                refine ⟨hq.1, vsAt_shift h4 (fun p hp => ?_)⟩
                simp only [Nat.zero_add]
                rw [arrPut_in _ _ _ _ (by simp; omega) (by simp; omega)]
                simp
              · rename_i ej
                obtain ⟨h5, h6⟩ := hv q u hu
                refine ⟨h5, vsAt_shift h6 (fun p hp => ?_)⟩
                rw [arrPut_out]
                rcases Nat.lt_or_ge q j with hji | hji
                · left
                  have : (q + 1) * sz ≤ j * sz := Nat.mul_le_mul_right _ hji
                  rw [Nat.succ_mul] at this
                  omega
                · right
                  have : (j + 1) * sz ≤ q * sz := Nat.mul_le_mul_right _ (by omega)
                  rw [Nat.succ_mul] at this
                  simp
                  omega
            obtain ⟨d, h5, h6, h7, h8⟩ := fillE_rel he (parts := parts) (ps := ps) ⟨by simpa using hp.1, fun j q r hq hr => hp.2 (j + 1) q r (by simpa using hq) (by simpa using hr)⟩ (c := arrPut c (j * sz) (a.eval x).cells.toList) (es := es.set j vc)
              (by rw [arrPut_size]; simpa using hs) hrow hf
            refine ⟨d, ?_, h6, h7, by simpa using h8⟩
            simp only [List.map_cons, Instr.fill]
            rw [if_neg (by simp; omega), zipIdx_put]
            exact h5
        · cases hf
      · cases hf

theorem und_isInt {t : TypeId} (h : isInt P t = true) : ∃ ki, P.underlying t = some (.int ki) := by
  unfold isInt at h
  split at h
  · rename_i ki hu; exact ⟨ki, hu⟩
  · cases h
theorem und_isBool {t : TypeId} (h : isBool P t = true) : P.underlying t = some .bool := by
  unfold isBool at h
  split at h
  · assumption
  · cases h

theorem opt_map_some {α β : Type} {f : α → β} {o : Option α} {b : β} (h : o.map f = some b) : ∃ a, o = some a ∧ f a = b := by
  cases o with
  | none => cases h
  | some a => exact ⟨a, rfl, by simpa using h⟩

theorem rOp_sound {env : Env} {a : Act} {o : Oper} {ao : AOp} (ho : rOp P o.op = some ao) (h : Top P ao env σ k kp) (he : ERel (Hh Λ σ w) env a.tmps) (hR : Rel Λ σ w) :
    Good P Λ σ w k kp ((execOp a.eval o).run P w) := by
  unfold execOp
  cases hop : o.op <;> simp only [hop, rOp] at ho <;> try (cases ho; done)
  all_goals dsimp only
  case move x =>
    obtain ⟨x', hx, rfl⟩ := opt_map_some ho
    obtain ⟨v, h1, h2⟩ := wv_elim h
    exact ⟨v, σ, h2, ev_rel he hx h1, hR, Adv.refl _ _ _⟩
  case assign x =>
    obtain ⟨x', hx, rfl⟩ := opt_map_some ho
    obtain ⟨v, h1, h2⟩ := wv_elim h
    exact ⟨v, σ, h2, ev_rel he hx h1, hR, Adv.refl _ _ _⟩
  case pick c x y =>
    split at ho
    · rename_i c' x' y' hc hx hy
      cases ho
      obtain ⟨vc, h1, g⟩ := wv_elim h
      clear h
      obtain ⟨vx, h2, h⟩ := wv_elim g
      clear g
      obtain ⟨vy, h3, g⟩ := wv_elim h
      clear h
      cases vc <;> try exact g.elim
      rename_i t
      have hct := ev_rel he hc h1
      simp only [VRel] at hct
      simp only [hct, asBool, Sem.run_bind, Sem.run_pure, Result.andThen_ok]
      have g' : k (bif t then vx else vy) σ := by
        simp only at g
        split at g
        · cases t <;> exact g
        · exact g
      cases t
      · exact ⟨vy, σ, g', ev_rel he hy h3, hR, Adv.refl _ _ _⟩
      · exact ⟨vx, σ, g', ev_rel he hx h2, hR, Adv.refl _ _ _⟩
    · cases ho
  case alloc e =>
    obtain ⟨z, hz, rfl⟩ := opt_map_some ho
    exact good_of_v (goodV_alloc hz hR h)
  case box e x =>
    obtain ⟨x', hx, rfl⟩ := opt_map_some ho
    obtain ⟨v, h1, h2⟩ := wv_elim h
    cases hc : cellsOf v with
    | none => rw [hc] at h2; exact h2.elim
    | some cs =>
      rw [hc] at h2
      exact good_of_v (goodV_box e hR (ev_rel he hx h1) hc h2)
  case build t parts =>
    split at ho
    · rename_i z fields hz hu
      split at ho
      · rename_i hall
        obtain ⟨ps, hps, rfl⟩ := opt_map_some ho
        obtain ⟨us, h1, h2⟩ := ws_elim h
        obtain ⟨v, hz1, hz2⟩ := cellsZ_rel hz
        obtain ⟨c, hz3, hz4⟩ := run_zeroOf hz1 w
        obtain ⟨h5, h6⟩ := cellsOf_rel (toV_rel (H := Hh Λ σ w) hz4) hz2
        obtain ⟨h7, h8⟩ := rParts_rel hps
        have hplaces : ∃ places, fields.toList.mapM (fun f => (P.info? f.type).map fun i => (f.offset, i.size)) = some places ∧ places.length = fields.size ∧ ∀ (j : Nat) (f : Field) (s : Nat), fields[j]? = some f → szOf P f.type = some s → places[j]? = some (f.offset, s) := by
          have hgen : ∀ l : List Field, l.all (fun f => (szOf P f.type).isSome) = true → ∃ places, l.mapM (fun f => (P.info? f.type).map fun i => (f.offset, i.size)) = some places ∧ places.length = l.length ∧
              ∀ (j : Nat) (f : Field) (s : Nat), l[j]? = some f → szOf P f.type = some s → places[j]? = some (f.offset, s) := by
            intro l
            induction l with
            | nil => intro _; exact ⟨[], by simp, rfl, by simp⟩
            | cons f l ih =>
              intro hl
              simp only [List.all_cons, Bool.and_eq_true] at hl
              obtain ⟨places, g1, g2, g3⟩ := ih hl.2
              obtain ⟨s, hs⟩ := Option.isSome_iff_exists.1 hl.1
              obtain ⟨i, hi, hsz⟩ := info_of_szOf hs
              refine ⟨(f.offset, s) :: places, by simp [List.mapM_cons, hi, g1, hsz], by simp [g2], fun j f' s' hj hs' => ?_⟩
              cases j with
              | zero => simp at hj; subst hj; rw [hs] at hs'; cases hs'; rfl
              | succ j => exact g3 j f' s' (by simpa using hj) hs'
          obtain ⟨places, g1, g2, g3⟩ := hgen fields.toList hall
          exact ⟨places, g1, by simpa using g2, fun j f s hj hs => g3 j f s (by simpa using hj) hs⟩
        obtain ⟨places, g1, g2, g3⟩ := hplaces
        obtain ⟨d, h9, h10, h11⟩ := fill_rel he (parts := parts.toList) (ps := ps) (place := fun x => places[x]?) ⟨h7, fun i q r hq hr => by
          obtain ⟨⟨f, e1, e2, e3⟩, e4⟩ := h8 i q r hq hr
          exact ⟨by rw [g3 _ f _ e1 e3, e2], e4⟩⟩ h5 h6 h1
        have hrun : (Instr.build t (parts.map fun (i, x) => (i, a.eval x))).run P w = .ok (.agg d) w := by
          refine run_build w t _ d ?_
          obtain ⟨it, c', q1, q2, q3⟩ := zeroOf_info hz1
          have hcc : c' = c := by
            have : (zeroValue t).run P w = .ok c' w := by simp [zeroValue, typeInfo, q1, q2]
            rw [hz3] at this
            cases this
            rfl
          subst hcc
          simp only [Program.built, q1, hu, q2, g1, Array.toList_map, List.getElem?_toArray]
          exact h9
        exact good_of_v (by rw [hrun]; exact goodV_k hR h2 ⟨d, rfl, h10, h11⟩)
      · cases ho
    · rename_i z len e hz hu
      cases hsz : szOf P e with
      | none => rw [hsz] at ho; cases ho
      | some sz =>
        rw [hsz] at ho
        simp only [Option.bind_some] at ho
        obtain ⟨ps, hps, rfl⟩ := opt_map_some ho
        obtain ⟨us, h1, h2⟩ := ws_elim h
        obtain ⟨v, hz1, hz2⟩ := cellsZ_rel hz
        obtain ⟨c, hz3, hz4⟩ := run_zeroOf hz1 w
        obtain ⟨h5, h6⟩ := cellsOf_rel (toV_rel (H := Hh Λ σ w) hz4) hz2
        obtain ⟨h7, h8⟩ := rPartsA_rel hps
        obtain ⟨d, h9, h10, h11⟩ := fill_rel he (parts := parts.toList) (ps := ps) (place := fun i => some (i * sz, sz)) ⟨h7, fun i q r hq hr => by
          obtain ⟨⟨e1, e2⟩, e4⟩ := h8 i q r hq hr
          exact ⟨by rw [e1, e2], e4⟩⟩ h5 h6 h1
        have hrun : (Instr.build t (parts.map fun (i, x) => (i, a.eval x))).run P w = .ok (.agg d) w := by
          unfold Instr.build
          simp only [Sem.run_bind, hz3, Result.andThen_ok, run_und hu, run_szOf hsz, Array.toList_map, h9, Sem.run_pure]
        exact good_of_v (by rw [hrun]; exact goodV_k hR h2 ⟨d, rfl, h10, h11⟩)
    · cases ho
  case buildSlice t len parts =>
    split at ho
    · rename_i e hu
      split at ho
      · rename_i z sz hz hsz
        split at ho
        · rename_i hcond
          obtain ⟨hzl, h0, hln, hsmall⟩ := hcond
          obtain ⟨ps, hps, rfl⟩ := opt_map_some ho
          simp only [Top] at h
          rw [hzl] at h
          obtain ⟨fs, h1, h3⟩ := wr_elim h
          have h2 : len ≤ maxL := by
            have : len * 1 ≤ len * sz := Nat.mul_le_mul_left _ (by omega)
            simp only [maxL]
            omega
          obtain ⟨v, hz1, hz2⟩ := cellsZ_rel hz
          obtain ⟨c, hz3, hz4⟩ := run_zeroOf hz1 w
          obtain ⟨h5, h6⟩ := cellsOf_rel (toV_rel (H := Hh Λ σ w) hz4) hz2
          obtain ⟨h7, h8⟩ := rPartsE_rel hps
          obtain ⟨d, h9, h10, h11, h12⟩ := fillE_rel he (sz := sz) (parts := parts.toList) (ps := ps) ⟨h7, h8⟩ (c := (Array.range (len * sz)).map (c.cells[· % c.cells.size]!)) (by simp)
            (replicate_rows hzl (by omega) h6 len) h1
          have hfl : fs.length = len := by simpa using h12
          have hrun : (Instr.buildSlice t len (parts.map fun (i, x) => (i, a.eval x))).run P w = .ok (.slice (some ⟨w.heap.size, 0, none⟩) len len) (w.alloc (.cells d e)) := by
            unfold Instr.buildSlice
            have hns : ¬ len * sz > 2 ^ 24 := by omega
            simp only [Sem.run_bind, run_und hu, Result.andThen_ok, run_szOf hsz, hns, if_false]
            have hl0 : ¬ len * sz = 0 := fun h => by rcases Nat.mul_eq_zero.1 h with h | h <;> omega
            simp only [hl0, if_false, Sem.run_bind, hz3, Result.andThen_ok, Sem.run_pure, Array.toList_map, h9]
            rfl
          refine good_of_v ?_
          rw [hrun]
          have ha : Adv Λ σ w σ (w.alloc (.cells d e)) := adv_alloc' w _
          refine ⟨_, σ, h3, ?_, rel_alloc' hR _, ha⟩
          refine ⟨some ⟨w.heap.size, 0, none⟩, len, by rw [hfl], by omega, fun _ => hfl.symm, by omega, by simp, fun _ => ⟨w.heap.size, 0, sz, rfl, ?_⟩⟩
          refine RowsAt.mono ha.hle (fun i v hv => ?_) _ _ _ h11
          rw [Hh_of (fun hl => absurd (hR.lock _ hl) (Nat.lt_irrefl _)) hR.new, cell_blk (heap_alloc_new w _)]
          exact hv
        · cases ho
      · cases ho
    · cases ho
  case load t x =>
    split at ho
    · rename_i agg x' hA hx
      cases ho
      obtain ⟨v, h1, h2⟩ := wv_elim h
      exact good_of_v (goodV_load hA hR (ev_rel he hx h1) h2)
    · cases ho
  case store t ad x =>
    split at ho
    · rename_i s a' x' hs ha hx
      cases ho
      obtain ⟨va, h1, g⟩ := wv_elim h
      obtain ⟨vx, h2, h3⟩ := wv_elim g
      obtain ⟨σ', w', e1, e2, e3, e4⟩ := goodV_store hs hR (ev_rel he ha h1) (ev_rel he hx h2) h3
      simp only [Sem.run_bind, e1, Result.andThen_ok, Sem.run_pure]
      exact ⟨σ', e2, e3, e4⟩
    · cases ho
  case binOp op t x y yt =>
    split at ho
    · rename_i x' y' hx hy
      unfold rBin at ho
      split at ho
      · cases ho
        obtain ⟨vx, h1, g⟩ := wv_elim h
        obtain ⟨vy, h2, h3⟩ := wv_elim g
        exact good_of_v (goodV_bin op x y hR (ev_rel he hx h1) (ev_rel he hy h2) h3)
      · split at ho
        · rename_i _ hb
          split at ho
          · cases ho
            obtain ⟨vx, h1, g⟩ := wv_elim h
            obtain ⟨vy, h2, h3⟩ := wv_elim g
            cases vx <;> try exact h3.elim
            cases vy <;> try exact h3.elim
            have ex := ev_rel he hx h1
            have ey := ev_rel he hy h2
            simp only [VRel] at ex ey
            rw [ex, ey]
            exact good_of_v (goodV_eqb (und_isBool hb) _ (.inl rfl) x y hR h3)
          · cases ho
            obtain ⟨vx, h1, g⟩ := wv_elim h
            obtain ⟨vy, h2, h3⟩ := wv_elim g
            cases vx <;> try exact h3.elim
            cases vy <;> try exact h3.elim
            have ex := ev_rel he hx h1
            have ey := ev_rel he hy h2
            simp only [VRel] at ex ey
            rw [ex, ey]
            exact good_of_v (goodV_eqb (und_isBool hb) _ (.inr rfl) x y hR h3)
          · cases ho
        · cases ho
    · cases ho
  case unOp op t x =>
    cases op <;> simp only at ho
    case not =>
      obtain ⟨x', hx, rfl⟩ := opt_map_some ho
      obtain ⟨v, h1, h2⟩ := wv_elim h
      cases v <;> try exact h2.elim
      have ex := ev_rel he hx h1
      simp only [VRel] at ex
      rw [ex]
      exact good_of_v (s := Op.unary .not (.bool _)) (goodV_k hR h2 rfl)
    case neg =>
      split at ho
      · obtain ⟨x', hx, rfl⟩ := opt_map_some ho
        obtain ⟨v, h1, h2⟩ := wv_elim h
        cases v <;> try exact h2.elim
        obtain ⟨ex, _⟩ := ev_rel he hx h1
        rw [ex]
        exact good_of_v (s := Op.unary .neg (.int _ _)) (goodV_k hR h2 ⟨rfl, wrap_in _ _⟩)
      · cases ho
    case xor =>
      split at ho
      · obtain ⟨x', hx, rfl⟩ := opt_map_some ho
        obtain ⟨v, h1, h2⟩ := wv_elim h
        cases v <;> try exact h2.elim
        rename_i ka n
        obtain ⟨ex, _⟩ := ev_rel he hx h1
        rw [ex]
        refine good_of_v (s := Op.unary .xor (.int ka n)) ?_
        have : (Op.unary .xor (.int ka n)).run P w = .ok (.int ka (bits .xor ka (bif ka.signed then -1 else ka.max) n)) w := by
          simp only [Op.unary, Op.intBits, Sem.run_pure, bits]
          cases ka.signed <;> rfl
        rw [this]
        exact goodV_k hR h2 ⟨rfl, wrap_in _ _⟩
      · cases ho
    all_goals cases ho
  case convert s d x =>
    split at ho
    · rename_i k1 k2 hs hd
      obtain ⟨x', hx, rfl⟩ := opt_map_some ho
      obtain ⟨v, h1, h2⟩ := wv_elim h
      cases v <;> try exact h2.elim
      rename_i ka n
      obtain ⟨ex, _⟩ := ev_rel he hx h1
      rw [ex]
      refine good_of_v (s := convert s d (.int ka n)) ?_
      have : (convert s d (.int ka n)).run P w = .ok (.int k2 (k2.wrap n)) w := by
        simp only [convert, Sem.run_bind, run_und hs, run_und hd, Result.andThen_ok, Conv.intToInt, Sem.run_pure]
      rw [this]
      exact goodV_k hR h2 ⟨rfl, wrap_in _ _⟩
    · cases ho
  case makeInterface t x =>
    split at ho
    · cases ho
    · rename_i d hd hu
      obtain ⟨x', hx, rfl⟩ := opt_map_some ho
      obtain ⟨v, h1, h2⟩ := wv_elim h
      refine good_of_v ?_
      have : (Instr.makeInterface t (a.eval x)).run P w = .ok (.iface t (a.eval x)) w := by
        simp only [Instr.makeInterface, Sem.run_bind, run_und hu, Result.andThen_ok]
        cases d <;> first | rfl | exact absurd hu (hd _)
      rw [this]
      exact goodV_k hR h2 ⟨_, rfl, ev_rel he hx h1⟩
    · cases ho
  case makeFunc fn first cap =>
    cases fn <;> simp only at ho <;> try (cases ho; done)
    rename_i f
    split at ho
    · rename_i os ps h1 h2
      cases ho
      obtain ⟨vf, h3, g⟩ := ws_elim h
      obtain ⟨vc, h4, h5⟩ := ws_elim g
      have e1 := evs_vsL he h1 h3
      have e2 := evs_vsL he h2 h4
      exact ⟨_, σ, h5, ⟨_, _, rfl, e1.1, e1.2, e2.1, e2.2⟩, hR, Adv.refl _ _ _⟩
    · cases ho
  case slice t x lo hi mx =>
    split at ho
    · rename_i e hu
      split at ho
      · rename_i s x' l' h' m' hs hx hl hh hm
        split at ho
        · rename_i hcond
          cases ho
          obtain ⟨vx, h1, g⟩ := wv_elim h
          obtain ⟨vl, h2, g2⟩ := wo_elim g
          obtain ⟨vh, h3, g3⟩ := wo_elim g2
          obtain ⟨vm, h4, g4⟩ := wo_elim g3
          refine good_of_v (goodV_slice hu hs hcond.1 hR (ev_rel he hx h1) (optEv_rel he hl h2) (optEv_rel he hh h3) (optEv_rel he hm h4) (fun hms => ?_) g4)
          have : m'.isSome = true := by
            cases mx with
            | none => simp at hms
            | some q =>
              simp only [rOpt] at hm
              cases hq : rOpd q with
              | none => rw [hq] at hm; cases hm
              | some z => rw [hq] at hm; cases hm; rfl
          have := hcond.2 this
          cases hi with
          | none => cases hh; simp at this
          | some q => rfl
        · cases ho
      · cases ho
    · cases ho
  case fieldAddr s x f =>
    split at ho
    · rename_i fields hu
      split at ho
      · rename_i fd hf
        split at ho
        · rename_i sz hs
          split at ho
          · cases ho
          · rename_i h0
            obtain ⟨x', hx, rfl⟩ := opt_map_some ho
            obtain ⟨v, h1, h2⟩ := wv_elim h
            exact good_of_v (goodV_faddr hu hf hs h0 hR (ev_rel he hx h1) h2)
        · cases ho
      · cases ho
    · cases ho
  case field t x f =>
    split at ho
    · rename_i fields hu
      split at ho
      · rename_i fd hf
        split at ho
        · rename_i agg x' hA hx
          cases ho
          obtain ⟨v, h1, h2⟩ := wv_elim h
          cases v <;> try exact h2.elim
          exact good_of_v (goodV_field hu hf hA hR (ev_rel he hx h1) h2)
        · cases ho
      · cases ho
    · cases ho
  case indexAddr t x i =>
    split at ho
    · rename_i e hu
      split at ho
      · rename_i s x' i' hs hx hi
        cases ho
        obtain ⟨vx, h1, g⟩ := wv_elim h
        obtain ⟨vi, h2, h3⟩ := wv_elim g
        exact good_of_v (goodV_iaddr_slice hu hs hR (ev_rel he hx h1) (ev_rel he hi h2) h3)
      · cases ho
    · rename_i n e hu
      split at ho
      · rename_i s x' i' hs hx hi
        cases ho
        obtain ⟨vx, h1, g⟩ := wv_elim h
        obtain ⟨vi, h2, h3⟩ := wv_elim g
        exact good_of_v (goodV_iaddr_array hu hs hR (ev_rel he hx h1) (ev_rel he hi h2) h3)
      · cases ho
    · cases ho
  case index t x i =>
    split at ho
    · rename_i n e hu
      split at ho
      · rename_i s ag x' i' hs hA hx hi
        cases ho
        obtain ⟨vx, h1, g⟩ := wv_elim h
        obtain ⟨vi, h2, h3⟩ := wv_elim g
        exact good_of_v (goodV_index hu hs hA hR (ev_rel he hx h1) (ev_rel he hi h2) h3)
      · cases ho
    · cases ho
  case extract x i =>
    obtain ⟨x', hx, rfl⟩ := opt_map_some ho
    obtain ⟨v, h1, h2⟩ := wv_elim h
    cases v <;> try exact h2.elim
    rename_i vs
    simp only at h2
    split at h2
    · rename_i u hu
      obtain ⟨c, e1, e2, e3⟩ := ev_rel he hx h1
      obtain ⟨d, hd, hr⟩ := vsAt_iff.1 e3 i u hu
      simp only [Nat.zero_add] at hd
      refine good_of_v ?_
      have : (Instr.extract (a.eval x) i).run P w = .ok d w := by
        rw [e1]; simp only [Instr.extract, hd, Sem.run_pure]
      rw [this]
      exact goodV_k hR h2 hr
    · exact h2.elim
  case nilCheck x =>
    obtain ⟨x', hx, rfl⟩ := opt_map_some ho
    obtain ⟨v, h1, h2⟩ := wv_elim h
    have hev := ev_rel he hx h1
    cases v <;> try exact h2.elim
    case p n off =>
      have e := hev
      simp only [VRel] at e
      simp only [e]
      exact ⟨_, σ, h2, rfl, hR, Adv.refl _ _ _⟩
    case rp cs =>
      have hev' := hev
      obtain ⟨b, o', e, _⟩ := hev
      simp only [e]
      rw [e] at hev'
      exact ⟨_, σ, h2, hev', hR, Adv.refl _ _ _⟩
    case pe n sz i off =>
      have e := hev
      simp only [VRel] at e
      simp only [e]
      exact ⟨_, σ, h2, rfl, hR, Adv.refl _ _ _⟩
    case f fn first cap =>
      cases fn <;> try exact h2.elim
      all_goals
        have hev' := hev
        obtain ⟨f', c', e, _⟩ := hev
        simp only [e]
        rw [e] at hev'
        exact ⟨_, σ, h2, hev', hR, Adv.refl _ _ _⟩
  case typeAssert x xt t ok =>
    split at ho
    · cases ho
    · rename_i d hd hu
      split at ho
      · rename_i x' z hx hz
        cases ho
        obtain ⟨v, h1, h2⟩ := wv_elim h
        have hev := ev_rel he hx h1
        obtain ⟨c, hz3, hz4⟩ := run_zeroOf hz w
        have hzr := toV_rel (H := Hh Λ σ w) hz4
        cases v <;> try exact h2.elim
        case ifc t' u =>
          obtain ⟨c', e, hr⟩ := hev
          rw [e]
          refine good_of_v ?_
          by_cases htt : t' = t
          · have : (Instr.typeAssert (.iface t' c') xt t ok).run P w = .ok (if ok then .tuple #[c', .bool true] else c') w := by
              unfold Instr.typeAssert
              simp only [Sem.run_bind, run_und hu, Result.andThen_ok]
              cases d <;> first | (simp [htt]; done) | exact absurd hu (hd _)
            rw [this]
            refine goodV_k hR (h2.1 htt) ?_
            cases ok
            · exact hr
            · exact ⟨_, rfl, rfl, ⟨c', rfl, hr⟩, ⟨_, rfl, rfl⟩, trivial⟩
          · obtain ⟨rfl, h3⟩ := h2.2 htt
            have : (Instr.typeAssert (.iface t' c') xt t true).run P w = .ok (.tuple #[c, .bool false]) w := by
              unfold Instr.typeAssert
              simp only [Sem.run_bind, run_und hu, Result.andThen_ok]
              cases d <;> first | (simp [htt, hz3]; done) | exact absurd hu (hd _)
            rw [this]
            exact goodV_k hR h3 ⟨_, rfl, rfl, ⟨c, rfl, hzr⟩, ⟨_, rfl, rfl⟩, trivial⟩
        case inil =>
          simp only [VRel] at hev
          rw [hev]
          obtain ⟨rfl, h3⟩ := h2
          refine good_of_v ?_
          have : (Instr.typeAssert .nilIface xt t true).run P w = .ok (.tuple #[c, .bool false]) w := by
            unfold Instr.typeAssert
            simp only [Sem.run_bind, run_und hu, Result.andThen_ok]
            cases d <;> first | (simp [hz3]; done) | exact absurd hu (hd _)
          rw [this]
          exact goodV_k hR h3 ⟨_, rfl, rfl, ⟨c, rfl, hzr⟩, ⟨_, rfl, rfl⟩, trivial⟩
      · cases ho
    · cases ho
  case panic x =>
    obtain ⟨x', hx, rfl⟩ := opt_map_some ho
    obtain ⟨v, h1, h2⟩ := wv_elim h
    cases v <;> try exact h2.elim
    have hev := ev_rel he hx h1
    have hev' := hev
    obtain ⟨c', e, hr⟩ := hev
    rw [e] at hev' ⊢
    exact ⟨_, σ, h2, hev', hR, Adv.refl _ _ _⟩
  case call c => exact good_rCall o.type ho h he hR
end Go.Gl
