/-
  GL 8: operations, one by one (slice expressions, len, literals, arithmetic).
-/
import Derived.Test.YtfbhfdaljendcaaGreatGl7
set_option linter.all false
set_option linter.unusedVariables false
set_option linter.unusedSimpArgs false
namespace Go.Gl
variable {P : Program} {Λ : Nat → Prop} {σ : Store} {w : World} {k kp : V → Store → Prop}

/-- an owned array, let go, can be read -/
theorem frozen_arr (hR : Rel Λ σ w) {n sz cap : Nat} {es : List (List V)} (hs : σ n = some (.arr sz es cap)) : RowsAt (Hh Λ (del σ n) w) (Hh Λ (del σ n) w n) sz 0 es ∧ es.length ≤ cap ∧ es.length ≤ maxL := by
  obtain ⟨c, e, h1, h2, h3, h4, h5⟩ := arr_own hR hs
  refine ⟨RowsAt.mono (Hh_less fun m hm => (sub_del σ n).none hm) (fun i v hv => ?_) _ _ _ h5, h3, h4⟩
  rw [Hh_of (hR.own n _ hs).1 (del_same σ n), cell_blk h1]
  exact hv
theorem frozen_cs (hR : Rel Λ σ w) {n : Nat} {vs : List V} (hs : σ n = some (.cs vs)) : VsAt (Hh Λ (del σ n) w) (Hh Λ (del σ n) w n) 0 vs := by
  obtain ⟨c, e, h1, h2, h3⟩ := cells_own hR hs
  refine VsAt.mono (Hh_less fun m hm => (sub_del σ n).none hm) (fun i v hv => ?_) _ _ h3
  rw [Hh_of (hR.own n _ hs).1 (del_same σ n), cell_blk h1]
  exact hv

/-- an owned array with less room -/
theorem less_room (hR : Rel Λ σ w) {n sz cap : Nat} {es : List (List V)} (hs : σ n = some (.arr sz es cap)) : Rel Λ (upd σ n (.arr sz es es.length)) w ∧ Adv Λ σ w (upd σ n (.arr sz es es.length)) w := by
  have hh : Hh Λ (upd σ n (.arr sz es es.length)) w = Hh Λ σ w := by
    funext b o
    have e : (upd σ n (.arr sz es es.length) b).isSome = (σ b).isSome := by
      by_cases e : b = n
      · rw [e, upd_same, hs]; rfl
      · rw [upd_ne _ _ e]
    unfold Hh
    by_cases hl : Λ b ∨ (σ b).isSome = true
    · rw [if_pos hl, if_pos (by rw [e]; exact hl)]
    · rw [if_neg hl, if_neg (by rw [e]; exact hl)]
  refine ⟨⟨fun m o ho => ?_, hR.lock⟩, ⟨fun _ _ _ => rfl, Nat.le_refl _, rfl, rfl, rfl, fun m hm _ => ?_⟩⟩
  · rw [hh]
    by_cases e : m = n
    · subst e
      rw [upd_same] at ho
      cases ho
      obtain ⟨h1, ob, h2, c, ce, h3, h4, h5, h6, h7⟩ := hR.own m _ hs
      exact ⟨h1, ob, h2, c, ce, h3, Nat.le_trans (Nat.mul_le_mul_right _ h5) h4, Nat.le_refl _, h6, h7⟩
    · rw [upd_ne _ _ e] at ho
      exact hR.own m o ho
  · have e : m ≠ n := fun e => by rw [e, hs] at hm; cases hm
    rw [upd_ne _ _ e]; exact hm
def OptR (H : Nat → Nat → Option Value) (v : Option V) (c : Option Value) : Prop := match v, c with | none, none => True | some v, some c => VRel H v c | _, _ => False
/-- an optional bound -/
def BRel (o : Option V) (c : Option Value) : Prop :=
  match o, c with
  | none, none => True
  | some v, some c => ∃ ki n, v = .i ki n ∧ c = .int ki n
  | _, _ => False
theorem bnd_of {o : Option V} {c : Option Value} {H : Nat → Nat → Option Value} {d : Int} {K : Int → Prop} (hr : OptR H o c) (h : bnd o d K) :
    BRel o c ∧ ∃ n, K n ∧ ((o = none ∧ n = d) ∨ ∃ ki, c = some (.int ki n)) := by
  cases o with
  | none =>
    cases c with
    | none => exact ⟨trivial, d, h, .inl ⟨rfl, rfl⟩⟩
    | some c => exact hr.elim
  | some v =>
    cases c with
    | none => exact hr.elim
    | some c =>
      cases v <;> simp only [bnd] at h
      rename_i ki n
      obtain ⟨rfl, _⟩ := hr
      exact ⟨⟨ki, n, rfl, rfl⟩, n, h, .inr ⟨ki, rfl⟩⟩

theorem run_sliceBounds {len cap : Nat} {lo hi mx : Option Value} {l h m : Int} (hl : (lo = none ∧ l = 0) ∨ ∃ ki, lo = some (.int ki l)) (hh : (hi = none ∧ h = len) ∨ ∃ ki, hi = some (.int ki h))
    (hm : (mx = none ∧ m = cap) ∨ ∃ ki, mx = some (.int ki m)) (hmh : mx.isSome = true → hi.isSome = true) (h0 : 0 ≤ l) (h1 : l ≤ h) (h2 : h ≤ m) (h3 : m ≤ cap) :
    (Instr.sliceBounds true len cap lo hi mx).run P w = .ok (l.toNat, h.toNat, m.toNat) w := by
  have eh : (h.toNat : Int) = h := Int.toNat_of_nonneg (by omega)
  have em : (m.toNat : Int) = m := Int.toNat_of_nonneg (by omega)
  have bl : ∀ ki code, (Instr.sliceBound (.int ki l) h.toNat code).run P w = .ok l.toNat w := fun ki code => run_sliceBound w ki l _ code h0 (by omega)
  have bh : ∀ ki code, (Instr.sliceBound (.int ki h) m.toNat code).run P w = .ok h.toNat w := fun ki code => run_sliceBound w ki h _ code (by omega) (by omega)
  have bm : ∀ ki code, (Instr.sliceBound (.int ki m) cap code).run P w = .ok m.toNat w := fun ki code => run_sliceBound w ki m _ code (by omega) (by omega)
  unfold Instr.sliceBounds
  rcases hm with ⟨rfl, rfl⟩ | ⟨km, rfl⟩
  · simp only [Int.toNat_natCast] at bh
    rcases hh with ⟨rfl, rfl⟩ | ⟨kh, rfl⟩
    · simp only [Int.toNat_natCast] at bl
      rcases hl with ⟨rfl, rfl⟩ | ⟨kl, rfl⟩
      · simp
      · simp [bl]
    · rcases hl with ⟨rfl, rfl⟩ | ⟨kl, rfl⟩
      · simp [bh]
      · simp [bh, bl]
  · rcases hh with ⟨rfl, rfl⟩ | ⟨kh, rfl⟩
    · simp at hmh
    · rcases hl with ⟨rfl, rfl⟩ | ⟨kl, rfl⟩
      · simp [bm, bh]
      · simp [bm, bh, bl]

theorem run_sliceAt {t e : TypeId} {sz : Nat} (hu : P.underlying t = some (.slice e)) (hs : szOf P e = some sz) {a : Option Addr} {len cap : Nat} {lo hi mx : Option Value} {l h m : Int} (hl : (lo = none ∧ l = 0) ∨ ∃ ki, lo = some (.int ki l)) (hh : (hi = none ∧ h = len) ∨ ∃ ki, hi = some (.int ki h))
    (hm : (mx = none ∧ m = cap) ∨ ∃ ki, mx = some (.int ki m)) (hmh : mx.isSome = true → hi.isSome = true) (h0 : 0 ≤ l) (h1 : l ≤ h) (h2 : h ≤ m) (h3 : m ≤ cap) :
    (Instr.sliceAt t (.slice a len cap) lo hi mx).run P w = .ok (.slice (if m.toNat = l.toNat then a else a.map (·.add (l.toNat * sz))) (h.toNat - l.toNat) (m.toNat - l.toNat)) w := by
  simp only [Instr.sliceAt, Sem.run_bind, run_und hu, Result.andThen, Instr.slice, run_sliceBounds hl hh hm hmh h0 h1 h2 h3, run_szOf hs, Sem.run_pure]

theorem goodV_slice {t e : TypeId} {sz : Nat} (hu : P.underlying t = some (.slice e)) (hs : szOf P e = some sz) (h0 : 0 < sz)
    (hR : Rel Λ σ w) {vx : V} {cx : Value} (hx : VRel (Hh Λ σ w) vx cx) {vl vh vm : Option V} {cl ch cm : Option Value}
    (hl : OptR (Hh Λ σ w) vl cl)
    (hh : OptR (Hh Λ σ w) vh ch)
    (hm : OptR (Hh Λ σ w) vm cm)
    (hmh : cm.isSome = true → ch.isSome = true) (h : kSlice σ sz vx vl vh vm k) : GoodV Λ σ w k kp ((Instr.sliceAt t cx cl ch cm).run P w) := by
  have hlo : ∀ n, ((vl = none ∧ n = 0) ∨ ∃ ki, cl = some (.int ki n)) → (cl = none ∧ n = 0) ∨ ∃ ki, cl = some (.int ki n) := by
    rintro n (⟨rfl, rfl⟩ | h)
    · cases cl with
      | none => exact .inl ⟨rfl, rfl⟩
      | some c => exact hl.elim
    · exact .inr h
  have hhi : ∀ n (d : Int), ((vh = none ∧ n = d) ∨ ∃ ki, ch = some (.int ki n)) → (ch = none ∧ n = d) ∨ ∃ ki, ch = some (.int ki n) := by
    rintro n d (⟨rfl, rfl⟩ | h)
    · cases ch with
      | none => exact .inl ⟨rfl, rfl⟩
      | some c => exact hh.elim
    · exact .inr h
  have hno : vm = none → cm = none := by
    rintro rfl
    cases cm with
    | none => rfl
    | some c => exact hm.elim
  cases vx <;> simp only [kSlice] at h
  · rename_i es full
    obtain ⟨hel, h⟩ := h
    obtain ⟨a, cap, rfl, h2, h3, h4, h5, h6⟩ := hx
    replace h := bnd_of hh h
    obtain ⟨_, hi, h, hhi'⟩ := h
    replace h := bnd_of hl h
    obtain ⟨_, li, ⟨hl0, hlh, hhl, h⟩, hli'⟩ := h
    have hlen : ((es.take hi.toNat).drop li.toNat).length = hi.toNat - li.toNat := by simp; omega
    have hrow : ∀ cap' : Nat, (es.take hi.toNat).drop li.toNat ≠ [] → cap' ≠ li.toNat →
        ∃ b o s, (if cap' = li.toNat then a else a.map (·.add (li.toNat * sz))) = some ⟨b, o, none⟩ ∧ RowsAt (Hh Λ σ w) (Hh Λ σ w b) s o ((es.take hi.toNat).drop li.toNat) := fun cap' hne hcap => by
      have hes : es ≠ [] := by rintro rfl; simp at hne
      obtain ⟨b, o, s, rfl, h7⟩ := h6 hes
      have hss : s = sz := by
        obtain ⟨e0, r, rfl⟩ := List.exists_cons_of_ne_nil hes
        rw [← hel e0 (by simp)]
        exact (rows_len h7 (by simp)).symm
      subst hss
      refine ⟨b, o + li.toNat * s, s, ?_, rows_drop (rows_take h7 _) _⟩
      rw [if_neg hcap]
      simp [addr_add]
    have hne : ∀ cap' : Nat, hi.toNat ≤ cap' → (es.take hi.toNat).drop li.toNat ≠ [] → cap' ≠ li.toNat := fun cap' hc hn => by
      have := List.length_pos_iff.2 hn
      rw [hlen] at this
      omega
    cases vm with
    | none =>
      obtain rfl := hno rfl
      rw [run_sliceAt (m := cap) hu hs (hlo _ hli') (hhi _ _ hhi') (.inl ⟨rfl, rfl⟩) (by simp) hl0 hlh (by omega) (Int.le_refl _)]
      refine goodV_k hR h ?_
      simp only [Int.toNat_natCast]
      refine ⟨_, _, by rw [hlen], by rw [hlen]; omega, fun hf => ?_, by rw [hlen]; omega, fun ha => ?_, fun hn => hrow _ hn (hne _ (by omega) hn)⟩
      · simp at hf
        have := h3 hf.1
        rw [hlen]
        omega
      · cases a with
        | none => have := h5 rfl; omega
        | some a => split at ha <;> simp at ha
    | some v =>
      cases v <;> simp only at h
      rename_i km mi
      obtain ⟨rfl, h⟩ := h
      cases cm with
      | none => exact hm.elim
      | some c =>
        obtain ⟨rfl, _⟩ := hm
        rw [run_sliceAt (m := mi) hu hs (hlo _ hli') (hhi _ _ hhi') (.inr ⟨_, rfl⟩) hmh hl0 hlh (Int.le_refl _) (by omega)]
        refine goodV_k hR h ?_
        refine ⟨_, _, by rw [hlen], by rw [hlen]; omega, fun _ => by rw [hlen], by rw [hlen]; omega, fun ha => ?_, fun hn => hrow _ hn (hne _ (Nat.le_refl _) hn)⟩
        cases a with
        | none => have := h5 rfl; omega
        | some a => split at ha <;> simp at ha
  · rename_i n len cap
    obtain ⟨rfl, h2⟩ := hx
    replace h := bnd_of hh h
    obtain ⟨_, hi, h, hhi'⟩ := h
    replace h := bnd_of hl h
    obtain ⟨_, li, ⟨hl0, hlh, hhl, h⟩, hli'⟩ := h
    cases vm with
    | none =>
      obtain rfl := hno rfl
      rw [run_sliceAt (m := cap) hu hs (hlo _ hli') (hhi _ _ hhi') (.inl ⟨rfl, rfl⟩) (by simp) hl0 hlh (by omega) (Int.le_refl _)]
      refine goodV_k hR h ⟨_, _, by congr 1; omega, by omega, fun hn => ?_⟩
      rw [if_neg (by omega)]
      simp [addr_add]
    | some v =>
      cases v <;> simp only at h
      rename_i km mi
      obtain ⟨rfl, rfl, rfl, h⟩ := h
      split at h
      · rename_i s es c hs'
        obtain ⟨rfl, rfl, rfl, h⟩ := h
        cases cm with
        | none => exact hm.elim
        | some c =>
          obtain ⟨rfl, _⟩ := hm
          rw [run_sliceAt (m := (es.length : Int)) hu hs (hlo _ hli') (hhi _ _ hhi') (.inr ⟨_, rfl⟩) hmh hl0 hlh (Int.le_refl _) (by omega)]
          rcases h with h | h
          · obtain ⟨h7, h8, h9⟩ := frozen_arr hR hs'
            refine ⟨_, _, h, ?_, hR.drop (sub_del σ n), Adv.drop w (sub_del σ n)⟩
            refine ⟨some ⟨n, 0, none⟩, es.length, ?_, Nat.le_refl _, fun _ => rfl, h9, fun ha => by simp at ha, fun hn => ⟨n, 0, s, rfl, h7⟩⟩
            simp only [Int.toNat_natCast, Int.toNat_zero, Nat.sub_zero, Nat.zero_mul, Option.map_some, addr_add, Nat.add_zero, ite_self]
          · obtain ⟨cc, ce, g1, g2, g3, g4, g5⟩ := arr_own hR hs'
            have hle := less_room hR hs'
            refine ⟨_, _, h, ⟨?_, Nat.le_refl _⟩, hle.1, hle.2⟩
            simp only [Int.toNat_natCast, Int.toNat_zero, Nat.sub_zero, Nat.zero_mul, Option.map_some, addr_add, Nat.add_zero, ite_self]
      · exact h.elim
  · rename_i n s off len
    obtain ⟨a, cap, rfl, h2, h3⟩ := hx
    replace h := bnd_of hh h
    obtain ⟨_, hi, h, hhi'⟩ := h
    replace h := bnd_of hl h
    obtain ⟨_, li, ⟨hl0, hlh, hhl, rfl, rfl, h⟩, hli'⟩ := h
    obtain rfl := hno rfl
    rw [run_sliceAt (m := cap) hu hs (hlo _ hli') (hhi _ _ hhi') (.inl ⟨rfl, rfl⟩) (by simp) hl0 hlh (by omega) (Int.le_refl _)]
    refine goodV_k hR h ⟨_, _, by congr 1; omega, by omega, fun hn => ?_⟩
    obtain rfl := h3 (by omega)
    rw [if_neg (by omega)]
    simp [addr_add, Nat.add_mul]

theorem kvRel_length {H : Nat → Nat → Option Value} : ∀ {kvs : List (V × V)} {es : List MapEntry}, KvRel H kvs es → es.length = kvs.length
  | [], [], _ => rfl
  | (_, _) :: r, _ :: es, h => by simp only [KvRel] at h; simp [kvRel_length h.2.2]
  | [], _ :: _, h => h.elim
  | _ :: _, [], h => h.elim
theorem map_own (hR : Rel Λ σ w) {n : Nat} {kvs : List (V × V)} (h : σ n = some (.map kvs)) : ∃ es clk, w.heap[n]? = some (.map es clk) ∧ KvRel (Hh Λ σ w) kvs es.toList := by
  obtain ⟨_, ob, h2, es, clk, rfl, h4⟩ := hR.own n _ h
  exact ⟨es, clk, h2, h4.1⟩
theorem i64_len {n : Nat} (h : n ≤ maxL) : IntKind.i64.min ≤ (n : Int) ∧ (n : Int) ≤ IntKind.i64.max := by
  unfold maxL at h
  simp only [IntKind.min, IntKind.max, IntKind.signed, IntKind.bits, if_true]
  omega
theorem goodV_len {t e : TypeId} (ty : TypeId) (hu : P.underlying t = some (.slice e))
    (hR : Rel Λ σ w) {vx : V} {cx : Value} (hx : VRel (Hh Λ σ w) vx cx) (h : kLen vx fun v => k v σ) : GoodV Λ σ w k kp ((Builtin.len_ #[t] ty #[cx]).run P w) := by
  cases vx <;> simp only [kLen] at h
  · rename_i es full
    obtain ⟨a, cap, rfl, h2, h3, h4, h5, h6⟩ := hx
    have : (Builtin.len_ #[t] ty #[.slice a es.length cap]).run P w = .ok (goInt es.length) w := by simp [Builtin.len_, run_und hu]
    rw [this]
    exact goodV_k hR h ⟨rfl, i64_len h4⟩
  · rename_i n len cap
    obtain ⟨rfl, _⟩ := hx
    have : (Builtin.len_ #[t] ty #[.slice (some ⟨n, 0, none⟩) len cap]).run P w = .ok (goInt len) w := by simp [Builtin.len_, run_und hu]
    rw [this]
    exact goodV_k hR h.2 ⟨rfl, i64_len h.1⟩
  · rename_i n s o len
    obtain ⟨a, cap, rfl, _⟩ := hx
    have : (Builtin.len_ #[t] ty #[.slice a len cap]).run P w = .ok (goInt len) w := by simp [Builtin.len_, run_und hu]
    rw [this]
    exact goodV_k hR h.2 ⟨rfl, i64_len h.1⟩
theorem goodV_lenm {t e f : TypeId} (ty : TypeId) (hu : P.underlying t = some (.map e f))
    (hR : Rel Λ σ w) {vx : V} {cx : Value} (hx : VRel (Hh Λ σ w) vx cx) (h : kLenM σ vx fun v => k v σ) : GoodV Λ σ w k kp ((Builtin.len_ #[t] ty #[cx]).run P w) := by
  cases vx <;> simp only [kLenM] at h
  · rename_i n
    split at h
    · rename_i kvs hs
      obtain ⟨es, clk, h1, h2⟩ := map_own hR hs
      simp only [VRel] at hx
      subst hx
      have hl := kvRel_length h2
      have : (Builtin.len_ #[t] ty #[.map (some n)]).run P w = .ok (goInt kvs.length) w := by
        simp [Builtin.len_, run_und hu, getObj, Sem.run, h1, ← hl]
      rw [this]
      exact goodV_k hR h.2 ⟨rfl, i64_len h.1⟩
    · exact h.elim
  · simp only [VRel] at hx
    subst hx
    have : (Builtin.len_ #[t] ty #[.map none]).run P w = .ok (goInt 0) w := by simp [Builtin.len_, run_und hu]
    rw [this]
    exact goodV_k hR h ⟨rfl, i64_len (Nat.zero_le _)⟩
end Go.Gl
