/-
  GL 11e: freezing: what a value is once objects have been let go.
-/
import Derived.Test.YtfbhfdaljendcaaGreatGl11d
set_option linter.all false
set_option linter.unusedVariables false
set_option linter.unusedSimpArgs false
namespace Go.Gl

theorem FrzL.refl (σ σ' : Store) : ∀ vs, FrzL σ σ' vs vs
  | [] => .nil
  | _ :: vs => .cons (.refl _) (FrzL.refl σ σ' vs)
theorem FrzR.refl (σ σ' : Store) : ∀ vs, FrzR σ σ' vs vs
  | [] => .nil
  | _ :: vs => .cons (FrzL.refl σ σ' _) (FrzR.refl σ σ' vs)
theorem FrzL.length {σ σ' : Store} : ∀ {vs vs' : List V}, FrzL σ σ' vs vs' → vs'.length = vs.length
  | _, _, .nil => rfl
  | _, _, .cons _ h => by simp [h.length]
theorem FrzR.length {σ σ' : Store} : ∀ {vs vs' : List (List V)}, FrzR σ σ' vs vs' → vs'.length = vs.length
  | _, _, .nil => rfl
  | _, _, .cons _ h => by simp [h.length]

variable {P : Program} {Λ : Nat → Prop}

theorem own_readable {σ σ' : Store} {w : World} (hR : Rel Λ σ w) (n : Nat) {o : O} (hn : σ n = some o) (hn' : σ' n = none) {c : Array Value} {e : TypeId} {fr : Nat × Nat} (hb : w.heap[n]? = some (.cells c e fr)) (i : Nat) (v : Value) (hv : c[i]? = some v) : Hh Λ σ' w n i = some v := by
  rw [Hh_of (hR.own n _ hn).1 hn', cell_blk hb]
  exact hv

mutual
theorem Frz.rel {σ σ' : Store} {w : World} (hR : Rel Λ σ w) (hs : Sub σ' σ) : ∀ {v v' : V} {c : Value}, Frz σ σ' v v' → VRel (Hh Λ σ w) v c → VRel (Hh Λ σ' w) v' c
  | _, _, _, .refl v, h => h.mono (Hh_less fun n hn => hs.none hn)
  | _, _, _, .arr (n := n) (sz := sz) hn hn' hl hr, h => by
    obtain ⟨rfl, h2⟩ := h
    subst hl
    obtain ⟨c, e, h3, h4, h5, h6, h7⟩ := arr_own hR hn
    have hlen := hr.length
    refine ⟨some ⟨n, 0, none⟩, _, by rw [hlen], by rw [hlen]; exact h2, by simp, by rw [hlen]; exact h6, by simp, fun _ => ⟨n, 0, sz, rfl, ?_⟩⟩
    exact FrzR.rel hR hs (fun i v hv => own_readable hR n hn hn' h3 i v hv) hr h7
  | _, _, _, .cs (n := n) hn hn' hr, h => by
    simp only [VRel] at h
    subst h
    obtain ⟨c, e, h3, h4, h5⟩ := cells_own hR hn
    exact ⟨n, 0, rfl, FrzL.rel hR hs (fun i v hv => own_readable hR n hn hn' h3 i v hv) hr h5⟩
  | _, _, _, .a hr, h => by
    obtain ⟨c', rfl, h2, h3⟩ := h
    exact ⟨c', rfl, by rw [hr.length]; exact h2, FrzL.rel hR hs (fun _ _ e => e) hr h3⟩
  | _, _, _, .t hr, h => by
    obtain ⟨c', rfl, h2, h3⟩ := h
    exact ⟨c', rfl, by rw [hr.length]; exact h2, FrzL.rel hR hs (fun _ _ e => e) hr h3⟩
  | _, _, _, .ifc hr, h => by
    obtain ⟨c', rfl, h2⟩ := h
    exact ⟨c', rfl, Frz.rel hR hs hr h2⟩
  | _, _, _, .l hf hr, h => by
    obtain ⟨a, cap, rfl, h2, h3, h4, h5, h6⟩ := h
    have hl := hr.length
    refine ⟨a, cap, by rw [hl], by rw [hl]; exact h2, fun e => by rw [hl]; exact h3 (hf e), by rw [hl]; exact h4, h5, fun hne => ?_⟩
    obtain ⟨b, o, sz, h7, h8⟩ := h6 (by intro e; subst e; cases hr; exact hne rfl)
    exact ⟨b, o, sz, h7, FrzR.rel hR hs (fun i v hv => Hh_less (fun n hn => hs.none hn) b i v hv) hr h8⟩
  | _, _, _, .rp hr, h => by
    obtain ⟨b, o, rfl, h2⟩ := h
    exact ⟨b, o, rfl, FrzL.rel hR hs (fun i v hv => Hh_less (fun n hn => hs.none hn) b i v hv) hr h2⟩
  | _, _, _, .f h1 h2, h => by
    obtain ⟨f', c', rfl, h3, h4, h5, h6⟩ := h
    exact ⟨f', c', rfl, by rw [h1.length]; exact h3, FrzL.rel hR hs (fun _ _ e => e) h1 h4, by rw [h2.length]; exact h5, FrzL.rel hR hs (fun _ _ e => e) h2 h6⟩
  | _, _, _, .any, _ => trivial
theorem FrzL.rel {σ σ' : Store} {w : World} (hR : Rel Λ σ w) (hs : Sub σ' σ) {g g' : Nat → Option Value} (hg : ∀ i c, g i = some c → g' i = some c) : ∀ {vs vs' : List V} {o : Nat}, FrzL σ σ' vs vs' → VsAt (Hh Λ σ w) g o vs → VsAt (Hh Λ σ' w) g' o vs'
  | _, _, _, .nil, _ => trivial
  | _, _, _, .cons h1 h2, ⟨⟨c, hc, hv⟩, h3⟩ => ⟨⟨c, hg _ _ hc, Frz.rel hR hs h1 hv⟩, FrzL.rel hR hs hg h2 h3⟩
theorem FrzR.rel {σ σ' : Store} {w : World} (hR : Rel Λ σ w) (hs : Sub σ' σ) {g g' : Nat → Option Value} (hg : ∀ i c, g i = some c → g' i = some c) {sz : Nat} : ∀ {vs vs' : List (List V)} {o : Nat}, FrzR σ σ' vs vs' → RowsAt (Hh Λ σ w) g sz o vs → RowsAt (Hh Λ σ' w) g' sz o vs'
  | _, _, _, .nil, _ => trivial
  | _, _, _, .cons h1 h2, ⟨hl, hv, h3⟩ => ⟨by rw [h1.length]; exact hl, FrzL.rel hR hs hg h1 hv, FrzR.rel hR hs hg h2 h3⟩
end


theorem frz_append {σ : Store} {sz b : Nat} {x y : Opd} {env : Env} {k kp : V → Store → Prop} (h : Top P (.appf sz b x y) env σ k kp) :
    Top P (.append sz b x y) env σ (fun v σ1 => ∃ vf σ2, Sub σ2 σ1 ∧ Frz σ1 σ2 v vf ∧ k vf σ2) kp := by
  simp only [Top] at *
  refine wv_mono h fun vx h => wv_mono h fun vy h => ?_
  unfold kAppf at h
  unfold kAppend
  refine rowsOf_mono h fun ys ⟨h1, h2⟩ => ⟨h1, ?_⟩
  cases vx <;> first | exact h2.elim | skip
  rename_i es full
  simp only at *
  obtain ⟨h3, h4, h5, h6⟩ := h2
  refine ⟨h3, h4, fun e => ?_, fun e => ⟨h5 e, fun n cap hn hc => ?_⟩⟩
  · subst e
    rw [List.append_nil] at h6
    exact ⟨_, σ, fun _ _ h => h, .l (fun h => (by cases h)) (.refl _ _ _), h6⟩
  · exact ⟨_, σ, sub_upd hn, .arr (upd_is) hn (by simp) (.refl _ _ _), h6⟩
theorem frz_box {σ : Store} {x : Opd} {env : Env} {k kp : V → Store → Prop} (h : Top P (.boxf x) env σ k kp) :
    Top P (.box x) env σ (fun v σ1 => ∃ vf σ2, Sub σ2 σ1 ∧ Frz σ1 σ2 v vf ∧ k vf σ2) kp := by
  simp only [Top] at *
  refine wv_mono h fun vx h => ?_
  split at h
  · exact fun n hn => ⟨_, σ, sub_upd hn, .cs upd_is hn (.refl _ _ _), h⟩
  · exact h.elim
end Go.Gl
