/-
  GL 10: an operation, whichever it is.
-/
import Derived.Test.YtfbhfdaljendcaaGreatGl9
set_option linter.all false
set_option linter.unusedVariables false
set_option linter.unusedSimpArgs false
namespace Go.Gl
variable {P : Program} {Λ : Nat → Prop} {σ : Store} {w : World} {k kp : V → Store → Prop}

theorem run_callFunc {f : FuncId} (h : okF P f = true) (args : Array Value) (w : World) : (callFunc f args).run P w = .ok (.enter f args) w := by
  unfold okF at h
  split at h
  · rename_i fn hf
    simp only [Bool.and_eq_true, bne_iff_ne, ne_eq] at h
    have hb : fn.body.isNone = false := by cases hb : fn.body <;> simp [hb] at h ⊢
    have hn : (fn.name == "runtime.NumGoroutine") = false := by simpa using h.2
    simp only [callFunc, Sem.run_bind, run_program, Result.andThen_ok, hf, hn, hb, Bool.false_eq_true, if_false, Sem.run_pure]
  · cases h
theorem vsL_append {H : Nat → Nat → Option Value} {vs us : List V} {cs ds : Array Value} (h : VsL H vs cs) (k : VsL H us ds) : VsL H (vs ++ us) (cs ++ ds) := by
  refine ⟨by simp [h.1, k.1], vsAt_append (vsAt_shift h.2 fun i hi => ?_) (vsAt_shift k.2 fun i hi => ?_)⟩
  · simp only [Nat.zero_add]
    rw [Array.getElem?_append_left (by rw [h.1]; exact hi)]
  · simp only [Nat.zero_add]
    rw [Array.getElem?_append_right (by rw [h.1]; omega), h.1]
    simp
theorem evs_vsL {H : Nat → Nat → Option Value} {env : Env} {a : Act} (he : ERel H env a.tmps) {xs : Array Operand} {os : List Opd} (ho : rOpds xs.toList = some os) {vs : List V} (hv : evs env os = some vs) : VsL H vs (xs.map a.eval) := by
  obtain ⟨h1, h2⟩ := evs_rel he ho hv
  exact ⟨by simpa using h1, vsAt_shift h2 (fun i _ => by simp)⟩
theorem good_of_v' {s : Sem Value} (h : GoodV Λ σ w k kp (s.run P w)) : Good P Λ σ w k kp ((s.run P w).andThen fun c w => .ok (.value c) w) := by
  have := good_of_v (P := P) h
  simpa only [Sem.run_bind, Sem.run_pure] using this
/-- a call by the contract -/
theorem good_ctr {f : FuncId} {vs : List V} {cs : Array Value} (hR : Rel Λ σ w) (hv : VsL (Hh Λ σ w) vs cs) (h : Ctr P f vs σ (qk k kp)) : Good P Λ σ w k kp ((callFunc f cs).run P w) := by
  rw [run_callFunc h.1]
  exact h.2 Λ w cs hR hv

theorem optEv_rel {H : Nat → Nat → Option Value} {env : Env} {a : Act} (he : ERel H env a.tmps) {x : Option Operand} {o : Option Opd} (ho : rOpt x = some o) {v : Option V} (hv : optEv env o = some v) :
    OptR H v (x.map a.eval) := by
  cases x with
  | none =>
    cases ho
    cases hv
    trivial
  | some x =>
    simp only [rOpt] at ho
    cases hq : rOpd x with
    | none => rw [hq] at ho; cases ho
    | some q =>
      rw [hq] at ho
      cases ho
      simp only [optEv] at hv
      split at hv
      · rename_i u hu
        cases hv
        exact ev_rel he hq hu
      · cases hv

theorem good_rCall {env : Env} {a : Act} {c : Call} {ao : AOp} (ty : TypeId) (ho : rCall P c = some ao) (h : Top P ao env σ k kp) (he : ERel (Hh Λ σ w) env a.tmps) (hR : Rel Λ σ w) :
    Good P Λ σ w k kp ((do let d ← resolve a.eval c ty; invoke d.target d.args : Sem Next).run P w) := by
  obtain ⟨callee, args, tys⟩ := c
  unfold rCall at ho
  split at ho
  · -- len
    rename_i x t hc ha ht
    simp only at hc ha ht
    subst hc
    obtain rfl : args = #[x] := by apply Array.ext'; simpa using ha
    obtain rfl : tys = #[t] := by apply Array.ext'; simpa using ht
    simp only [resolve, Sem.run_bind, Sem.run_pure, Result.andThen_ok, invoke, builtin, List.map_toArray, List.map_cons, List.map_nil]
    split at ho
    · rename_i e hu
      cases hx : rOpd x with
      | none => rw [hx] at ho; cases ho
      | some o =>
        rw [hx] at ho
        cases ho
        obtain ⟨v, h1, h2⟩ := wv_elim h
        exact good_of_v' (goodV_len (P := P) (kp := kp) ty hu hR (ev_rel he hx h1) h2)
    · rename_i e f hu
      cases hx : rOpd x with
      | none => rw [hx] at ho; cases ho
      | some o =>
        rw [hx] at ho
        cases ho
        obtain ⟨v, h1, h2⟩ := wv_elim h
        exact good_of_v' (goodV_lenm (P := P) (kp := kp) ty hu hR (ev_rel he hx h1) h2)
    · rename_i n e hu
      split at ho
      · rename_i hn
        cases ho
        simp only [Top, ev, wv_some] at h
        have hr : (Builtin.len_ #[t] ty #[a.eval x]).run P w = .ok (goInt n) w := by simp [Builtin.len_, run_und hu]
        exact good_of_v' (s := Builtin.len_ #[t] ty #[a.eval x]) (k := k) (kp := kp) (by rw [hr]; exact goodV_k hR h ⟨rfl, by have := min_nonpos .i64; omega, hn⟩)
      · cases ho
    · cases ho
  · -- append
    rename_i x y t u hc ha ht
    simp only at hc ha ht
    subst hc
    obtain rfl : args = #[x, y] := by apply Array.ext'; simpa using ha
    obtain rfl : tys = #[t, u] := by apply Array.ext'; simpa using ht
    split at ho
    · rename_i e e2 hu1 hu2
      split at ho
      · rename_i x' y' i hx hy hi
        split at ho
        · rename_i hcond
          obtain ⟨rfl, hb, hz⟩ := hcond
          cases ho
          obtain ⟨vx, h1, h⟩ := wv_elim h
          obtain ⟨vy, h2, h⟩ := wv_elim h
          cases hzz : i.zero with
          | none => rw [hzz] at hz; cases hz
          | some z =>
            rw [hzz] at hz
            simp only [Option.map_some, Option.some.injEq] at hz
            simp only [resolve, Sem.run_bind, Sem.run_pure, Result.andThen_ok, invoke, builtin, List.map_toArray, List.map_cons, List.map_nil]
            exact good_of_v' (goodV_append (P := P) (kp := kp) ty hu1 hi hzz hz hb hR (ev_rel he hx h1) (ev_rel he hy h2) h)
        · cases ho
      · cases ho
    · cases ho
  · -- max
    rename_i x y hc ha
    simp only at hc ha
    subst hc
    obtain rfl : args = #[x, y] := by apply Array.ext'; simpa using ha
    split at ho
    · rename_i x' y' hx hy
      cases ho
      obtain ⟨vx, h1, g⟩ := wv_elim h
      clear h
      obtain ⟨vy, h2, h⟩ := wv_elim g
      clear g
      cases vx <;> try exact h.elim
      cases vy <;> try exact h.elim
      rename_i ka p kb q
      obtain ⟨rfl, h⟩ := h
      obtain ⟨ex, bx⟩ := ev_rel he hx h1
      obtain ⟨ey, by'⟩ := ev_rel he hy h2
      have hr : (Builtin.max_ tys ty #[a.eval x, a.eval y]).run P w = .ok (.int ka (if q > p then q else p)) w := by
        rw [ex, ey]; simp [Builtin.max_, Builtin.max2]
      simp only [resolve, Sem.run_bind, Sem.run_pure, Result.andThen_ok, invoke, builtin, List.map_toArray, List.map_cons, List.map_nil]
      exact good_of_v' (s := Builtin.max_ tys ty #[a.eval x, a.eval y]) (k := k) (kp := kp) (by rw [hr]; exact goodV_k hR h ⟨rfl, by split <;> assumption⟩)
    · cases ho
  · -- min
    rename_i x y hc ha
    simp only at hc ha
    subst hc
    obtain rfl : args = #[x, y] := by apply Array.ext'; simpa using ha
    split at ho
    · rename_i x' y' hx hy
      cases ho
      obtain ⟨vx, h1, g⟩ := wv_elim h
      clear h
      obtain ⟨vy, h2, h⟩ := wv_elim g
      clear g
      cases vx <;> try exact h.elim
      cases vy <;> try exact h.elim
      rename_i ka p kb q
      obtain ⟨rfl, h⟩ := h
      obtain ⟨ex, bx⟩ := ev_rel he hx h1
      obtain ⟨ey, by'⟩ := ev_rel he hy h2
      have hr : (Builtin.min_ tys ty #[a.eval x, a.eval y]).run P w = .ok (.int ka (if q < p then q else p)) w := by
        rw [ex, ey]; simp [Builtin.min_, Builtin.min2]
      simp only [resolve, Sem.run_bind, Sem.run_pure, Result.andThen_ok, invoke, builtin, List.map_toArray, List.map_cons, List.map_nil]
      exact good_of_v' (s := Builtin.min_ tys ty #[a.eval x, a.eval y]) (k := k) (kp := kp) (by rw [hr]; exact goodV_k hR h ⟨rfl, by split <;> assumption⟩)
    · cases ho
  · -- a function
    rename_i f hc
    simp only at hc
    subst hc
    cases hx : rOpds args.toList with
    | none => simp [hx] at ho
    | some os =>
      simp only [hx, Option.map_some, Option.some.injEq] at ho
      subst ho
      obtain ⟨vs, h1, h⟩ := ws_elim h
      have := good_ctr hR (evs_vsL he hx h1) h
      simp only [resolve, Act.eval, Deferred.ofValue, Sem.run_bind, Sem.run_pure, Result.andThen_ok, invoke, Array.append_empty, Array.empty_append]
      exact this
  · -- a function value
    rename_i x _ hc
    simp only at hc
    subst hc
    split at ho
    · rename_i x' os hx hos
      cases ho
      obtain ⟨vx, h1, g⟩ := wv_elim h
      clear h
      obtain ⟨vs, h2, h⟩ := ws_elim g
      clear g
      cases vx <;> try exact h.elim
      rename_i fn first cap
      cases fn <;> try exact h.elim
      case yield l =>
        have hfc : first = [] ∧ cap = [] := by
          cases first <;> cases cap <;> first | exact ⟨rfl, rfl⟩ | exact h.elim
        obtain ⟨rfl, rfl⟩ := hfc
        obtain ⟨f', c', e1, e2, e3, e4, e5⟩ := ev_rel he hx h1
        obtain ⟨f, tmps, assign, body, e6, e7⟩ := h Λ w _ hR (evs_vsL he hos h2)
        have e2' : f' = #[] := Array.size_eq_zero_iff.1 e2
        have e4' : c' = #[] := Array.size_eq_zero_iff.1 e4
        subst e2' e4'
        simp only [resolve, e1, Deferred.ofValue, Sem.run_bind, Sem.run_pure, Result.andThen_ok, invoke, Array.append_empty, Array.empty_append]
        rw [e6]
        exact e7
      rename_i f
      simp only [CtrF] at h
      obtain ⟨f', c', e1, e2, e3, e4, e5⟩ := ev_rel he hx h1
      have := good_ctr hR (vsL_append (vsL_append ⟨e2, e3⟩ (evs_vsL he hos h2)) ⟨e4, e5⟩) h
      simp only [resolve, e1, Deferred.ofValue, Sem.run_bind, Sem.run_pure, Result.andThen_ok, invoke]
      exact this
    · cases ho
  · cases ho
end Go.Gl
