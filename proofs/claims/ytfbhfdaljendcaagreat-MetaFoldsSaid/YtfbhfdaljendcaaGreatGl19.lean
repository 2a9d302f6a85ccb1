/-
  GL 19: a function that defers one call of a function value.
-/
import Derived.Test.YtfbhfdaljendcaaGreatGl18
set_option linter.all false
set_option linter.unusedVariables false
set_option linter.unusedSimpArgs false
namespace Go.Gl
variable {P : Program} {Λ : Nat → Prop} {σ : Store} {pu : List FuncId} {fz : List Nat} {N n : Nat} {r : Option Nat} {ds : List Deferred}
def DfrQ (P : Program) (g : FuncId) (cap : List V) (slots : List RS) (Q : R → Store → Prop) : AExit → Env → Store → Prop
  | .normal, env, σ | .ret, env, σ => CtrD P g cap none σ fun σ' => wRs σ' env slots fun vs => Done σ' (tupV vs) Q
  | .pan v, env, σ => CtrD P g cap (some v) σ fun σ' => wRs σ' env slots fun vs => Done σ' (tupV vs) Q
  | .exit _, _, _ => False
def dfrK (P : Program) (x : Opd) (l : List Nat) (ac : ACode) (slots : List RS) (Q : R → Store → Prop) (env : Env) (σ : Store) : Prop :=
  wv (ev env x) fun vf => match vf with
    | .f (.func g) [] cap => T P ac (DfrQ P g cap slots Q) (prune l env) σ
    | _ => False
theorem ctr_of_dfr {f : FuncId} {fn : Func} {aA aC : ACode} {os : List AOper} {x : Opd} {l1 l2 : List Nat} {slots : List RS} (hf : P.funcs[f]? = some fn) (hok : okF P f = true)
    (hb : fn.body.bind (resDfr P fn.ntmps pu fz) = some (erase aA, os, x, erase aC)) (hr : rsOf P fn.results.toList = some slots)
    {args : List V} (hn : args.length ≤ fn.ntmps) {σ : Store} {Q : R → Store → Prop} (h : T P (.seq l1 aA (.reg os)) (onNormal (dfrK P x l2 aC slots Q)) (argEnv 0 args) σ) : Ctr P f args σ Q := by
  refine ⟨hok, fun Λ w cs hR hv => ?_⟩
  obtain ⟨c, hc, hb⟩ := Option.bind_eq_some_iff.1 hb
  obtain ⟨id, ops, cc, o, os', hra, hlast, hdf, hos, rfl, hrc⟩ := resDfr_elim hb
  refine callsIn_wide (n := 0) |>.1 (callsIn_of_wpK hf hc ?_)
  have he : ERel (Hh Λ σ w) (argEnv 0 args) (cs ++ Array.replicate (fn.ntmps - cs.size) undef) := by
    intro k v hg
    obtain ⟨_, h2⟩ := get_argEnv args 0 k v hg
    simp only [Nat.sub_zero] at h2
    obtain ⟨d, h3, h4⟩ := vsAt_iff.1 hv.2 k v h2
    simp only [Nat.zero_add] at h3
    refine ⟨d, ?_, h4⟩
    rw [Array.getElem?_append_left (by have := (Array.getElem?_eq_some_iff.1 h3).1; exact this)]
    exact h3
  have hsz : (cs ++ Array.replicate (fn.ntmps - cs.size) undef).size = fn.ntmps := by
    simp only [Array.size_append, Array.size_replicate]
    have := hv.1
    omega
  -- the operation that defers
  obtain ⟨cl, xo, hop, hg, hd, hcal, hargs, hxo⟩ : ∃ cl xo, o.op = .defer cl ∧ o.guard = none ∧ o.dst = none ∧ cl.callee = .value xo ∧ cl.args = #[] ∧ rOpd xo = some x := by
    unfold isDfr at hdf
    split at hdf
    · rename_i cl e1 e2 e3
      split at hdf
      · rename_i xo e4 e5
        exact ⟨cl, xo, e1, e2, e3, e4, Array.toList_eq_nil_iff.1 e5, hdf⟩
      · cases hdf
    · cases hdf
  obtain ⟨hl1, hl2⟩ := rOpers_get hos
  have hne : ops.toList ≠ [] := fun e => by rw [e] at hlast; cases hlast
  have hsplit : ops.toList = ops.toList.dropLast ++ [o] := by
    have h1 := List.dropLast_concat_getLast hne
    rw [List.getLast?_eq_some_getLast hne] at hlast
    simp only [Option.some.injEq] at hlast
    rw [hlast] at h1
    exact h1.symm
  have hsize : ops.size = os'.length + 1 := by
    rw [← Array.length_toList, hsplit]; simp [← hl1]
  have hlasto : ops[os'.length]? = some o := by
    rw [← Array.getElem?_toList, hsplit, ← hl1]; simp
  simp only [T] at h
  refine pre_sound (r := none) (a := { tmps := cs ++ Array.replicate (fn.ntmps - cs.size) undef, defers := [] }) hra h he hR hsz RoundOk.none ?_
  rintro e a1 w1 ⟨ex, env1, σ1, hq, hx, he1, hR1, hA1, hN1, hM1⟩
  cases ex with
  | exit id => exact hq.elim
  | ret => exact hq.elim
  | pan v => exact hq.elim
  | normal =>
    simp only [XRel] at hx
    subst hx
    refine wpK_seq (wpK_of (n := 0) (wpIn_region ?_))
    rw [List.range_eq_range', hsize, ← List.range'_append_1]
    simp only [List.range'_one, Nat.zero_add]
    refine tops_then (P := P) (Λ := Λ) (r := none) (n := 0) (ds := a1.defers) (σ₀ := σ1) (w₀ := w1) (pu := pu) (fz := fz) (N := fn.ntmps) (K := fun env σ => onNormal (dfrK P x l2 aC slots Q) .normal env σ)
      (kp := fun env v σ => onNormal (dfrK P x l2 aC slots Q) (.pan v) env σ) (fun env2 σ2 a2 w2 hk he2 hR2 hA2 hN2 hd2 => ?_) (fun _ _ _ _ _ _ h => h.elim) os' 0 (fun i ao hao => by
        have hlt : i < ops.toList.dropLast.length := by
          rw [hl1]
          exact (List.getElem?_eq_some_iff.1 hao).1
        obtain ⟨y, hx, hy⟩ := hl2 i _ (List.getElem?_eq_getElem hlt)
        rw [hao] at hx
        cases hx
        refine ⟨_, ?_, hy⟩
        rw [← Array.getElem?_toList, Nat.zero_add]
        have e1 : ops.toList[i]? = (ops.toList.dropLast ++ [o])[i]? := congrArg (fun l => l[i]?) hsplit
        rw [e1, List.getElem?_append_left hlt, List.getElem?_eq_getElem hlt]) _ σ1 a1 w1 hq (he1.prune l1) hR1 (Adv.refl _ _ _) hN1 rfl
    obtain ⟨vf, hvf, hk⟩ := wv_ex hk
    obtain ⟨g, cap, rfl, hk⟩ : ∃ g cap, vf = .f (.func g) [] cap ∧ T P aC (DfrQ P g cap slots Q) (prune l2 env2) σ2 := by
      split at hk
      · exact ⟨_, _, rfl, hk⟩
      · exact hk.elim
    obtain ⟨f', c', e1, e2, e3, e4, e5⟩ := ev_rel he2 hxo hvf
    have e2' : f' = #[] := Array.size_eq_zero_iff.1 e2
    subst e2'
    -- the operation itself
    have hwant : Region.wanted o (yielded ops a2.tmps) = true := by simp [Region.wanted, hg]
    simp only [wpOpsIn, hlasto]
    rw [if_pos hwant]
    refine ⟨fun _ _ => trivial, ?_⟩
    have hrun : (o.semAt (wide none).round a2.eval).run P w2 = .ok (.defer { target := .fn (.func g) c', args := #[] }) w2 := by
      show (execOp a2.eval o).run P w2 = _
      unfold execOp
      simp only [hop, resolve, hcal, hargs, e1, Deferred.ofValue, Sem.run_bind, Sem.run_pure, Result.andThen_ok]
      simp
    rw [hrun]
    simp only [Oper.uponIn, hd, Act.put, Exit.then]
    -- the rest
    obtain ⟨m1, hm1, hnd1, hD1, _⟩ := hM1
    simp only [List.append_nil] at hm1
    refine wpK_mono (T_sound (r := none) hrc hk (he2.prune l2) hR2 hN2 RoundOk.none) ?_
    rintro e a3 w3 ⟨ex, env3, σ3, hq3, hx3, he3, hR3, hA3, hN3, m3, hm3, hnd3, hD3, _⟩
    simp only [hd2, hm1] at hm3
    -- behind the deferred call
    have last : ∀ (w5 : World) (σ5 : Store), Adv Λ σ2 w2 σ5 w5 → HLe (Hh Λ σ3 w3) (Hh Λ σ5 w5) → Rel Λ σ5 w5 → (wRs σ5 env3 slots fun vs => Done σ5 (tupV vs) Q) →
        LeavesInM (wide none) 0 P fn a3.tmps (fun e w' => ∃ r σ', Q r σ' ∧ RRel (Hh Λ σ' w') r e ∧ Rel Λ σ' w' ∧ Adv Λ σ w σ' w') (m1.map markOf) .returning w5 := fun w5 σ5 hA5 hle hR5 hw => by
      rw [← List.append_nil (m1.map markOf)]
      have hA25 := hA2.trans hA5
      refine leaves_marks (σ₀ := σ) (w₀ := w) (by simp) m1 w5 hnd1 (fun D hD => ?_) hR5 (hA1.trans hA25) fun w6 q1 q2 q3 => ?_
      · obtain ⟨h4, h5, h6⟩ := hD1 D hD
        exact ⟨h4, hA25.names D h5 (lt_of_at h6), (hA25.frame D (lt_of_at h6) h5).trans h6⟩
      · obtain ⟨c, vs, h5, h6, vf, σ'', h2, h3, h4⟩ := run_resultsC (P := P) hr q1 ((he3.mono hle).mono q3) hw
        exact ⟨c, h5, .ret vf, σ'', h4, ⟨c, rfl, h3.rel q1 h2 h6⟩, q1.drop h2, q2.trans (Adv.drop w6 h2)⟩
    have main : ∀ (m : Option V) (u : FrameMode), u ≠ .run → (CtrD P g cap m σ3 fun σ' => wRs σ' env3 slots fun vs => Done σ' (tupV vs) Q) →
        (∀ w4, HLe (Hh Λ σ3 w3) (Hh Λ σ3 w4) → (match m with | none => u = .returning | some v => ∃ c, VRel (Hh Λ σ3 w4) v c ∧ u = .panicking [{ v := c, recovered := false }])) →
        LeavesInM (wide none) 0 P fn a3.tmps (fun e w' => ∃ r σ', Q r σ' ∧ RRel (Hh Λ σ' w') r e ∧ Rel Λ σ' w' ∧ Adv Λ σ w σ' w') a3.defers u w3 := fun m u hu hD hm => by
      rw [hm3]
      refine leaves_marks (σ₀ := σ2) (w₀ := w2) hu m3 w3 hnd3 hD3 hR3 hA3 fun w4 q1 q2 q3 => ?_
      refine ⟨hu, .inr ⟨fun hd => by simp [wide, Fence.wide] at hd, .func g, c', g, c', rfl, ?_, fun _ _ => trivial, ?_⟩⟩
      · simp only [invoke, Array.empty_append]
        exact run_callFunc hD.1 _ _
      · obtain ⟨k1, k2⟩ := hD.2 Λ w4 c' u q1 ⟨e4, VsAt.mono q3 (fun _ _ e => e) _ _ (VsAt.mono hA3.hle (fun _ _ e => e) _ _ e5)⟩ (hm w4 q3)
        refine ⟨k1, fun c cs hcu hroom => ?_⟩
        obtain ⟨e, u', w5, fr, ⟨⟨v, rfl⟩, hst, σ5, hw, hR5, hA5⟩, hrest⟩ := k2 c cs hcu hroom
        refine ⟨.returned v, u', w5, fr, ?_, hrest⟩
        simp only
        rw [hst]
        exact last w5 σ5 (q2.trans hA5) (fun b o c hc => hA5.hle b o c (q3 b o c hc)) hR5 hw
    cases ex with
    | exit id => exact hq3.elim
    | normal =>
      simp only [XRel] at hx3
      subst hx3
      exact main none .returning (by simp) hq3 fun _ _ => rfl
    | ret =>
      simp only [XRel] at hx3
      subst hx3
      exact main none .returning (by simp) hq3 fun _ _ => rfl
    | pan v =>
      obtain ⟨c, rfl, hv3⟩ := hx3
      exact main (some v) (.panicking [{ v := c, recovered := false }]) (by simp) hq3 fun w4 hle => ⟨c, hv3.mono hle, rfl⟩
end Go.Gl
