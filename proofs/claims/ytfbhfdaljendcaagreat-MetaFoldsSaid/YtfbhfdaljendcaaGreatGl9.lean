/-
  GL 9: operations, one by one (arithmetic, literals); all together.
-/
import Derived.Test.YtfbhfdaljendcaaGreatGl8
set_option linter.all false
set_option linter.unusedVariables false
set_option linter.unusedSimpArgs false
namespace Go.Gl
variable {P : Program} {Λ : Nat → Prop} {σ : Store} {w : World} {k kp : V → Store → Prop}

theorem wrap_in (ki : IntKind) (n : Int) : ki.min ≤ ki.wrap n ∧ ki.wrap n ≤ ki.max := by
  have := WideShapes.wf_wrap ki n
  simpa [Lit.wf] using this
theorem min_nonpos (ki : IntKind) : ki.min ≤ 0 := by cases ki <;> decide
theorem max_nonneg (ki : IntKind) : 0 ≤ ki.max := by cases ki <;> decide
theorem tmod_in {ki : IntKind} {a : Int} (b : Int) (h : ki.min ≤ a ∧ a ≤ ki.max) : ki.min ≤ a.tmod b ∧ a.tmod b ≤ ki.max := by
  have h1 := min_nonpos ki
  have h2 := max_nonneg ki
  have h5 : (a.tmod b).natAbs ≤ a.natAbs := by rw [Int.natAbs_tmod]; exact Nat.mod_le _ _
  rcases Int.le_total 0 a with h0 | h0
  · have h3 := Int.tmod_nonneg b h0
    omega
  · have h4 := Int.tmod_nonneg b (show 0 ≤ -a by omega)
    rw [Int.neg_tmod] at h4
    omega
theorem fdiv_in {ki : IntKind} {a : Int} (n : Nat) (h : ki.min ≤ a ∧ a ≤ ki.max) : ki.min ≤ a.fdiv (2 ^ n) ∧ a.fdiv (2 ^ n) ≤ ki.max := by
  have h1 := min_nonpos ki
  have h2 := max_nonneg ki
  have hp : (0 : Int) < 2 ^ n := Int.pow_pos (by omega)
  rw [Int.fdiv_eq_ediv_of_nonneg _ (by omega)]
  constructor
  · rw [Int.le_ediv_iff_mul_le hp]
    have : ki.min * 2 ^ n ≤ ki.min * 1 := Int.mul_le_mul_of_nonpos_left h1 (by omega)
    omega
  · have : a / 2 ^ n < ki.max + 1 := by
      rw [Int.ediv_lt_iff_lt_mul hp]
      have : (ki.max + 1) * 1 ≤ (ki.max + 1) * 2 ^ n := Int.mul_le_mul_of_nonneg_left (by omega) (by omega)
      omega
    omega

theorem goodV_bin {t : TypeId} (op : BinOp) (x y : Operand) (hR : Rel Λ σ w) {vx vy : V} {cx cy : Value} (hx : VRel (Hh Λ σ w) vx cx) (hy : VRel (Hh Λ σ w) vy cy) (h : kBin op vx vy fun v => k v σ) :
    GoodV Λ σ w k kp ((do eqGuard op t x y cx cy; binOp op t cx cy : Sem Value).run P w) := by
  cases vx <;> simp only [kBin] at h
  cases vy <;> simp only at h
  rename_i ka a kb b
  obtain ⟨rfl, ha⟩ := hx
  obtain ⟨rfl, hb⟩ := hy
  have hg : (eqGuard op t x y (.int ka a) (.int kb b)).run P w = .ok () w := by
    unfold eqGuard
    cases op <;> rfl
  simp only [Sem.run_bind, hg, Result.andThen]
  cases op <;> simp only at h <;> first
    | (obtain ⟨rfl, h⟩ := h
       first
         | (obtain ⟨hb0, h⟩ := h
            simp only [binOp, Op.intDiv, hb0, if_false, ne_eq, not_true_eq_false]
            first
              | exact goodV_k hR h ⟨rfl, wrap_in _ _⟩
              | exact goodV_k hR h ⟨rfl, tmod_in _ ha⟩)
         | (simp only [binOp, Op.intArith, Op.intCmp, Op.intBits, ne_eq, not_true_eq_false, if_false]
            first
              | exact goodV_k hR h rfl
              | exact goodV_k hR h ⟨rfl, wrap_in _ _⟩))
    | (obtain ⟨h0, h⟩ := h
       have hn : ¬ b < 0 := by omega
       simp only [binOp, Op.shift, hn, if_false]
       first
         | exact goodV_k hR h ⟨rfl, wrap_in _ _⟩
         | exact goodV_k hR h ⟨rfl, fdiv_in _ ha⟩)

theorem equalIn_bool {t : TypeId} (hu : P.underlying t = some .bool) (d : Nat) (p q : Bool) : (Op.equalIn (d + 1) t (.bool p) (.bool q)).run P w = .ok (p == q) w := by
  simp only [Op.equalIn, Sem.run_bind, run_und hu, Result.andThen, Sem.run_pure]
theorem goodV_eqb {t : TypeId} (hu : P.underlying t = some .bool) (op : BinOp) (hop : op = .eql ∨ op = .neq) (x y : Operand) (hR : Rel Λ σ w) {p q : Bool} (h : k (.b (bif (match op with | .neq => true | _ => false) then p != q else p == q)) σ) :
    GoodV Λ σ w k kp ((do eqGuard op t x y (.bool p) (.bool q); binOp op t (.bool p) (.bool q) : Sem Value).run P w) := by
  have hg : (eqGuard op t x y (.bool p) (.bool q)).run P w = .ok () w := by
    unfold eqGuard
    rcases hop with rfl | rfl <;> rfl
  simp only [Sem.run_bind, hg, Result.andThen]
  have he : (Op.equal t (.bool p) (.bool q)).run P w = .ok (p == q) w := by
    exact equalIn_bool hu 9999 p q
  rcases hop with rfl | rfl
  · simp only [binOp, Sem.run_bind, he, Result.andThen, Sem.run_pure]
    exact goodV_k hR h rfl
  · simp only [binOp, Sem.run_bind, he, Result.andThen, Sem.run_pure]
    exact goodV_k hR h (by simp only [VRel, cond_true]; cases p <;> cases q <;> rfl)

/-! ### literals -/
theorem foldl_put (off : Nat) : ∀ (l : List Value) (j : Nat) (c : Array Value), (l.zipIdx j).foldl (fun cs (x : Value × Nat) => cs.setIfInBounds (off + x.2) x.1) c = arrPut c (off + j) l
  | [], _, _ => rfl
  | v :: l, j, c => by
    simp only [List.zipIdx_cons, List.foldl_cons, arrPut]
    rw [foldl_put off l (j + 1), show off + (j + 1) = off + j + 1 by omega]
theorem zipIdx_put (off : Nat) (d c : Array Value) : d.zipIdx.foldl (fun cs (x : Value × Nat) => cs.setIfInBounds (off + x.2) x.1) c = arrPut c off d.toList := by
  rw [← Array.foldl_toList, Array.toList_zipIdx]
  exact foldl_put off d.toList 0 c

theorem fill_rel {H : Nat → Nat → Option Value} {env : Env} {a : Act} (he : ERel H env a.tmps) {place : Nat → Option (Nat × Nat)} : ∀ {parts : List (Nat × Operand)} {ps : List (Nat × Nat × Opd)},
    (List.length parts = ps.length ∧ ∀ (i : Nat) (q : Nat × Operand) (r : Nat × Nat × Opd), parts[i]? = some q → ps[i]? = some r → place q.1 = some (r.1, r.2.1) ∧ rOpd q.2 = some r.2.2) →
    ∀ {c : Array Value} {vs us : List V}, c.size = vs.length → VsAt H (fun i => c[i]?) 0 vs → fillV env vs ps = some us →
    ∃ d, Instr.fill place c (parts.map fun (i, x) => (i, a.eval x)) = some d ∧ d.size = us.length ∧ VsAt H (fun i => d[i]?) 0 us
  | [], ps, hp, c, vs, us, hs, hv, hf => by
    have : ps = [] := List.eq_nil_of_length_eq_zero hp.1.symm
    subst this
    cases hf
    exact ⟨c, rfl, hs, hv⟩
  | (i, x) :: parts, ps, hp, c, vs, us, hs, hv, hf => by
    cases ps with
    | nil => simp at hp
    | cons r ps =>
      obtain ⟨off, sz, o⟩ := r
      obtain ⟨h1, h2⟩ := hp.2 0 _ _ rfl rfl
      simp only at h1 h2
      simp only [fillV] at hf
      split at hf
      · rename_i v hev
        split at hf
        · rename_i vc hc
          cases hq : (Nat.beq vc.length sz && Nat.ble (off + sz) vs.length) with
          | false => rw [hq] at hf; simp at hf
          | true =>
            rw [hq] at hf
            simp only [cond_true] at hf
            simp only [Bool.and_eq_true, Nat.beq_eq, Nat.ble_eq] at hq
            obtain ⟨h3, h4⟩ := cellsOf_rel (ev_rel he h2 hev) hc
            obtain ⟨d, h5, h6⟩ := fill_rel he (parts := parts) (ps := ps) ⟨by simpa using hp.1, fun j q r hq hr => hp.2 (j + 1) q r (by simpa using hq) (by simpa using hr)⟩ (c := arrPut c off (a.eval x).cells.toList) (vs := putAt vs off vc)
              (by rw [arrPut_size, putAt_length]; exact hs) (vsAt_put hs hv (by simpa using h3) (vsAt_shift h4 (fun i _ => by simp))) hf
            refine ⟨d, ?_, h6⟩
            simp only [List.map_cons, Instr.fill, h1]
            rw [if_neg (by simp; omega), zipIdx_put]
            exact h5
        · cases hf
      · cases hf

theorem rParts_rel {fields : Array Field} : ∀ {parts : List (Nat × Operand)} {ps : List (Nat × Nat × Opd)}, rParts fields P parts = some ps →
    parts.length = ps.length ∧ ∀ (i : Nat) (q : Nat × Operand) (r : Nat × Nat × Opd), parts[i]? = some q → ps[i]? = some r → (∃ f : Field, fields[q.1]? = some f ∧ r.1 = f.offset ∧ szOf P f.type = some r.2.1) ∧ rOpd q.2 = some r.2.2
  | [], ps, h => by cases h; simp
  | (i, x) :: parts, ps, h => by
    simp only [rParts] at h
    split at h
    · rename_i f o ps' h1 h2 h3
      cases hs : szOf P f.type with
      | none => rw [hs] at h; cases h
      | some s =>
        rw [hs] at h
        cases h
        obtain ⟨h4, h5⟩ := rParts_rel h3
        refine ⟨by simp [h4], fun j q r hq hr => ?_⟩
        cases j with
        | zero => simp at hq hr; subst hq; subst hr; exact ⟨⟨f, h1, rfl, hs⟩, h2⟩
        | succ j => exact h5 j q r (by simpa using hq) (by simpa using hr)
    · cases h
theorem rPartsA_rel {sz : Nat} : ∀ {parts : List (Nat × Operand)} {ps : List (Nat × Nat × Opd)}, rPartsA sz parts = some ps →
    parts.length = ps.length ∧ ∀ (i : Nat) (q : Nat × Operand) (r : Nat × Nat × Opd), parts[i]? = some q → ps[i]? = some r → (r.1 = q.1 * sz ∧ r.2.1 = sz) ∧ rOpd q.2 = some r.2.2
  | [], ps, h => by cases h; simp
  | (i, x) :: parts, ps, h => by
    simp only [rPartsA] at h
    split at h
    · rename_i o ps' h2 h3
      cases h
      obtain ⟨h4, h5⟩ := rPartsA_rel h3
      refine ⟨by simp [h4], fun j q r hq hr => ?_⟩
      cases j with
      | zero => simp at hq hr; subst hq; subst hr; exact ⟨⟨rfl, rfl⟩, h2⟩
      | succ j => exact h5 j q r (by simpa using hq) (by simpa using hr)
    · cases h
theorem rPartsE_rel : ∀ {parts : List (Nat × Operand)} {ps : List (Nat × Opd)}, rPartsE parts = some ps →
    parts.length = ps.length ∧ ∀ (i : Nat) (q : Nat × Operand) (r : Nat × Opd), parts[i]? = some q → ps[i]? = some r → r.1 = q.1 ∧ rOpd q.2 = some r.2
  | [], ps, h => by cases h; simp
  | (i, x) :: parts, ps, h => by
    simp only [rPartsE] at h
    split at h
    · rename_i o ps' h2 h3
      cases h
      obtain ⟨h4, h5⟩ := rPartsE_rel h3
      refine ⟨by simp [h4], fun j q r hq hr => ?_⟩
      cases j with
      | zero => simp at hq hr; subst hq; subst hr; exact ⟨rfl, h2⟩
      | succ j => exact h5 j q r (by simpa using hq) (by simpa using hr)
    · cases h
end Go.Gl
