/-
  GL 16: results that lie in cells.
-/
import Derived.Test.YtfbhfdaljendcaaGreatGl15
set_option linter.all false
set_option linter.unusedVariables false
set_option linter.unusedSimpArgs false
namespace Go.Gl
variable {P : Program} {Λ : Nat → Prop} {pu : List FuncId} {fz : List Nat}
/-- a result: a slot, or a cell to which a slot points -/
inductive RS where
  | t (n : Nat)
  | c (n : Nat) (agg : Option Nat)
def rsOf (P : Program) : List ResultVar → Option (List RS)
  | [] => some []
  | .tmp t :: r => (rsOf P r).map (.t t :: ·)
  | .cell a t :: r => match aggOf P t, rsOf P r with | some g, some l => some (.c a g :: l) | _, _ => none
def wRs (σ : Store) (env : Env) : List RS → (List V → Prop) → Prop
  | [], k => k []
  | .t n :: r, k => wv (get n env) fun v => wRs σ env r fun vs => k (v :: vs)
  | .c n g :: r, k => wv (get n env) fun a => kLoad σ g a fun v => wRs σ env r fun vs => k (v :: vs)
def tupV : List V → V
  | [v] => v
  | vs => .t vs
def RetC (slots : List RS) (Q : R → Store → Prop) : AExit → Env → Store → Prop
  | .normal, env, σ | .ret, env, σ => wRs σ env slots fun vs => Done σ (tupV vs) Q
  | .pan v, _, σ => DoneP σ v Q
  | .exit _, _, _ => False
theorem load_cell {t : TypeId} {agg : Option Nat} (hA : aggOf P t = some agg) {σ : Store} {w : World} (hR : Rel Λ σ w) {vx : V} {c : Value} (hx : VRel (Hh Λ σ w) vx c) {K : V → Prop} (h : kLoad σ agg vx K) :
    ∃ v d, (do loadVar t (← asAddr c) : Sem Value).run P w = .ok d w ∧ VRel (Hh Λ σ w) v d ∧ K v := by
  unfold kLoad at h
  split at h
  · rename_i cs
    obtain ⟨b, o, rfl, hv⟩ := hx
    obtain ⟨v, c, h1, h2, h3⟩ := loadVar_at (P := P) (w := w) (b := b) (off := 0) hA (fun i c hc => (Hh_some hc).2.2) hv h
    refine ⟨v, c, ?_, h2, h3⟩
    simp only [Sem.run_bind, asAddr, Sem.run_pure, Result.andThen, Nat.add_zero] at h1 ⊢
    exact h1
  · rename_i n off
    simp only [VRel] at hx
    subst hx
    unfold loadP at h; split at h
    · rename_i vs hs
      obtain ⟨c, e, h1, h2, h3⟩ := cells_own hR hs
      obtain ⟨v, c', h4, h5, h6⟩ := loadVar_at (P := P) (w := w) (b := n) (off := off) hA (fun i c hc => by rw [cell_blk h1]; exact hc) h3 h
      refine ⟨v, c', ?_, h5, h6⟩
      simp only [Sem.run_bind, asAddr, Sem.run_pure, Result.andThen, Nat.zero_add] at h4 ⊢
      exact h4
    · exact h.elim
  · rename_i n sz i off
    simp only [VRel] at hx
    subst hx
    unfold loadE at h; split at h
    · rename_i sz' es cap hs
      obtain ⟨rfl, h⟩ := h
      split at h
      · rename_i e he
        obtain ⟨c, e', h1, _, _, _, h3⟩ := arr_own hR hs
        obtain ⟨h7, h8⟩ := rowsAt_iff.1 h3 i e he
        obtain ⟨v, c', h4, h5, h6⟩ := loadVar_at (P := P) (w := w) (b := n) (off := off) hA (fun i c hc => by rw [cell_blk h1]; exact hc) h8 h
        refine ⟨v, c', ?_, h5, h6⟩
        simp only [Sem.run_bind, asAddr, Sem.run_pure, Result.andThen, Nat.zero_add] at h4 ⊢
        exact h4
      · exact h.elim
    · exact h.elim
  · exact h.elim
theorem run_resultsC {fn : Func} {slots : List RS} (hr : rsOf P fn.results.toList = some slots) {σ : Store} {w : World} (hR : Rel Λ σ w) {env : Env} {tmps : Array Value} (he : ERel (Hh Λ σ w) env tmps) {K : List V → Prop} (hv : wRs σ env slots K) :
    ∃ c vs, (results fn tmps).run P w = .ok c w ∧ VRel (Hh Λ σ w) (tupV vs) c ∧ K vs := by
  have key : ∀ (l : List ResultVar) (slots : List RS), rsOf P l = some slots → ∀ K, wRs σ env slots K →
      ∃ (cs : List Value) (vs : List V), (l.mapM (rv1 tmps)).run P w = .ok cs w ∧ cs.length = vs.length ∧ VsAt (Hh Λ σ w) (fun i => cs[i]?) 0 vs ∧ K vs := by
    intro l
    induction l with
    | nil =>
      intro slots hs K hv
      cases hs
      exact ⟨[], [], by simp, rfl, trivial, hv⟩
    | cons x l ih =>
      intro slots hs K hv
      cases x with
      | cell a t =>
        simp only [rsOf] at hs
        split at hs
        · rename_i g s' h0 h1
          cases hs
          obtain ⟨va, h2, hv⟩ := wv_ex hv
          obtain ⟨ca, h7, h8⟩ := he a va h2
          obtain ⟨v, d, h9, h10, hv⟩ := load_cell (P := P) h0 hR h8 hv
          obtain ⟨cs, vs, h4, h5, h6, hk⟩ := ih s' h1 _ hv
          refine ⟨d :: cs, v :: vs, ?_, by simp [h5], ⟨d, rfl, h10⟩ |> fun h => ⟨h, vsAt_shift h6 (fun i _ => by rw [show 0 + 1 + i = i + 1 by omega]; simp)⟩, hk⟩
          rw [List.mapM_cons]
          simp only [Sem.run_bind, rv1] at h9 ⊢
          simp only [Array.getD_eq_getD_getElem?, h7, Option.getD_some, h9, Result.andThen_ok, h4, Sem.run_pure]
        · cases hs
      | tmp t =>
        simp only [rsOf] at hs
        obtain ⟨s', h1, rfl⟩ := opt_map_some hs
        obtain ⟨u, h2, hv⟩ := wv_ex hv
        obtain ⟨cs, vs, h4, h5, h6, hk⟩ := ih s' h1 _ hv
        obtain ⟨c, h7, h8⟩ := he t u h2
        refine ⟨c :: cs, u :: vs, ?_, by simp [h5], ⟨⟨c, rfl, h8⟩, vsAt_shift h6 (fun i _ => by rw [show 0 + 1 + i = i + 1 by omega]; simp)⟩, hk⟩
        rw [List.mapM_cons]
        simp only [rv1, Sem.run_bind, Sem.run_pure, Result.andThen_ok, h4, Array.getD_eq_getD_getElem?, h7, Option.getD_some]
  obtain ⟨cs, vs, h1, h2, h3, hk⟩ := key _ _ hr K hv
  have hrun : (fn.results.mapM (rv1 tmps)).run P w = .ok cs.toArray w := by
    rw [Array.mapM_eq_mapM_toList]
    simp [h1]
  rw [results_eq]
  simp only [Sem.run_bind]
  refine ⟨if h : cs.toArray.size = 1 then cs.toArray[0] else .tuple cs.toArray, vs, ?_, ?_, hk⟩
  · rw [hrun]
    rfl
  · by_cases h1' : cs.length = 1
    · rw [dif_pos (by simpa using h1')]
      match cs, h1', h2, h3 with
      | [c], _, h2, h3 =>
        match vs, h2, h3 with
        | [u], _, h3 =>
          obtain ⟨⟨d, hd, hr⟩, _⟩ := h3
          simp at hd
          subst hd
          exact hr
    · rw [dif_neg (by simpa using h1')]
      have hv' : tupV vs = .t vs := by
        match vs with
        | [] => rfl
        | [u] => simp at h2; exact absurd h2 h1'
        | u :: u' :: r => rfl
      rw [hv']
      exact ⟨_, rfl, by simpa using h2, vsAt_shift h3 (fun i _ => by simp)⟩
theorem ctr_of_TC {f : FuncId} {fn : Func} {c : Code} {ac : ACode} {slots : List RS} (hf : P.funcs[f]? = some fn) (hok : okF P f = true) (hb : fn.body = some c) (hr : rsOf P fn.results.toList = some slots)
    {args : List V} (hn : args.length ≤ fn.ntmps) (hc : res P fn.ntmps pu fz c = some (erase ac)) {σ : Store} {Q : R → Store → Prop} (h : T P ac (RetC slots Q) (argEnv 0 args) σ) : Ctr P f args σ Q := by
  refine ⟨hok, fun Λ w cs hR hv => ?_⟩
  refine callsIn_wide (n := 0) |>.1 (callsIn_of_wpK hf hb ?_)
  have he : ERel (Hh Λ σ w) (argEnv 0 args) (cs ++ Array.replicate (fn.ntmps - cs.size) undef) := by
    intro k v hg
    obtain ⟨_, h2⟩ := get_argEnv args 0 k v hg
    simp only [Nat.sub_zero] at h2
    obtain ⟨d, h3, h4⟩ := vsAt_iff.1 hv.2 k v h2
    simp only [Nat.zero_add] at h3
    refine ⟨d, ?_, h4⟩
    rw [Array.getElem?_append_left (by have := (Array.getElem?_eq_some_iff.1 h3).1; exact this)]
    exact h3
  have hsz : (cs ++ Array.replicate (fn.ntmps - cs.size) undef).size = fn.ntmps := by
    simp only [Array.size_append, Array.size_replicate]
    have := hv.1
    omega
  refine wpK_mono (T_sound (r := none) (a := { tmps := cs ++ Array.replicate (fn.ntmps - cs.size) undef, defers := [] }) hc h he hR hsz RoundOk.none) ?_
  rintro e a' w' ⟨ex, env, σ', hq, hx, he', hR', hA, hN, ms, hms, hnd, hD, _⟩
  simp only [List.append_nil] at hms
  have fin : wRs σ' env slots (fun vs => Done σ' (tupV vs) Q) → LeavesInM (wide none) 0 P fn a'.tmps (fun e w' => ∃ r σ', Q r σ' ∧ RRel (Hh Λ σ' w') r e ∧ Rel Λ σ' w' ∧ Adv Λ σ w σ' w') a'.defers .returning w' := fun h1 => by
    rw [hms, ← List.append_nil (ms.map markOf)]
    refine leaves_marks (by simp) ms w' hnd hD hR' hA fun w2 q1 q2 q3 => ?_
    obtain ⟨c, vs, h5, h6, vf, σ'', h2, h3, h4⟩ := run_resultsC (P := P) hr q1 (he'.mono q3) h1
    exact ⟨c, h5, .ret vf, σ'', h4, ⟨c, rfl, h3.rel q1 h2 h6⟩, q1.drop h2, q2.trans (Adv.drop w2 h2)⟩
  cases ex with
  | normal => simp only [XRel] at hx; subst hx; exact fin hq
  | ret => simp only [XRel] at hx; subst hx; exact fin hq
  | exit id => exact hq.elim
  | pan v =>
    obtain ⟨c, rfl, hv'⟩ := hx
    obtain ⟨vf, σ'', h2, h3, h4⟩ := hq
    show LeavesInM _ _ _ _ _ _ a'.defers (.panicking _) w'
    rw [hms, ← List.append_nil (ms.map markOf)]
    refine leaves_marks (by simp) ms w' hnd hD hR' hA fun w2 q1 q2 q3 => ?_
    exact ⟨.pan vf, σ'', h4, ⟨c, rfl, h3.rel q1 h2 (hv'.mono q3)⟩, q1.drop h2, q2.trans (Adv.drop w2 h2)⟩
theorem ctr_of_resC {f : FuncId} {fn : Func} {ac : ACode} {slots : List RS} (hf : P.funcs[f]? = some fn) (hok : okF P f = true) (hb : fn.body.bind (res P fn.ntmps pu fz) = some (erase ac)) (hr : rsOf P fn.results.toList = some slots)
    {args : List V} (hn : args.length ≤ fn.ntmps) {σ : Store} {Q : R → Store → Prop} (h : T P ac (RetC slots Q) (argEnv 0 args) σ) : Ctr P f args σ Q := by
  cases hc : fn.body with
  | none => rw [hc] at hb; cases hb
  | some c => rw [hc] at hb; exact ctr_of_TC hf hok hc hr hn hb h
end Go.Gl
