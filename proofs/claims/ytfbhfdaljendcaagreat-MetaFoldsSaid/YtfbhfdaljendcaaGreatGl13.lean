/-
  GL 13: freezing; contracts out of T; pure contracts and how a caller uses them.
-/
import Derived.Test.YtfbhfdaljendcaaGreatGl12
import Derived.RangeFuncLeaves
set_option linter.all false
set_option linter.unusedVariables false
set_option linter.unusedSimpArgs false
namespace Go.Gl

variable {P : Program} {Λ : Nat → Prop} {pu : List FuncId} {fz : List Nat} {ds : List Deferred}
/-! ### contracts -/
def resSlots : List ResultVar → Option (List Nat)
  | [] => some []
  | .tmp t :: r => (resSlots r).map (t :: ·)
  | .cell _ _ :: _ => none
def gets (env : Env) : List Nat → Option (List V)
  | [] => some []
  | s :: r => match get s env, gets env r with
    | some v, some vs => some (v :: vs)
    | _, _ => none
def resV (slots : List Nat) (env : Env) : Option V :=
  match gets env slots with
  | some [v] => some v
  | some vs => some (.t vs)
  | none => none

/-- the end of a call -/
def Done (σ : Store) (v : V) (Q : R → Store → Prop) : Prop := ∃ vf σ', Sub σ' σ ∧ Frz σ σ' v vf ∧ Q (.ret vf) σ'
def DoneP (σ : Store) (v : V) (Q : R → Store → Prop) : Prop := ∃ vf σ', Sub σ' σ ∧ Frz σ σ' v vf ∧ Q (.pan vf) σ'
def RetP (slots : List Nat) (Q : R → Store → Prop) : AExit → Env → Store → Prop
  | .normal, env, σ | .ret, env, σ => wv (resV slots env) fun v => Done σ v Q
  | .pan v, _, σ => DoneP σ v Q
  | .exit _, _, _ => False

def argEnv : Nat → List V → Env
  | _, [] => []
  | i, v :: vs => (i, v) :: argEnv (i + 1) vs

theorem wv_ex {o : Option V} {k : V → Prop} (h : wv o k) : ∃ v, o = some v ∧ k v := by
  cases o with
  | none => exact h.elim
  | some v => exact ⟨v, rfl, h⟩

theorem get_argEnv : ∀ (vs : List V) (i k : Nat) (v : V), get k (argEnv i vs) = some v → i ≤ k ∧ vs[k - i]? = some v
  | [], _, _, _, h => by cases h
  | u :: vs, i, k, v, h => by
    simp only [argEnv, get] at h
    cases hb : Nat.beq i k with
    | true =>
      rw [hb] at h
      simp only [cond_true] at h
      cases h
      have : i = k := Nat.eq_of_beq_eq_true hb
      subst this
      exact ⟨Nat.le_refl _, by simp⟩
    | false =>
      rw [hb] at h
      simp only [cond_false] at h
      have hne : i ≠ k := Nat.ne_of_beq_eq_false hb
      obtain ⟨h1, h2⟩ := get_argEnv vs (i + 1) k v h
      refine ⟨by omega, ?_⟩
      rw [show k - i = k - (i + 1) + 1 by omega]
      simpa using h2

def rv1 (tmps : Array Value) : ResultVar → Sem Value
  | .tmp t => pure (tmps.getD t undef)
  | .cell a t => do loadVar t (← asAddr (tmps.getD a undef))
theorem results_eq (fn : Func) (tmps : Array Value) : results fn tmps = (do
    let vs ← fn.results.mapM (rv1 tmps)
    pure (if h : vs.size = 1 then vs[0] else .tuple vs)) := by
  unfold results
  congr 1
theorem run_results {fn : Func} {slots : List Nat} (hr : resSlots fn.results.toList = some slots) {H : Nat → Nat → Option Value} {env : Env} {tmps : Array Value} (he : ERel H env tmps) {v : V} (hv : resV slots env = some v) (w : World) :
    ∃ c, (results fn tmps).run P w = .ok c w ∧ VRel H v c := by
  have key : ∀ (l : List ResultVar) (slots : List Nat), resSlots l = some slots → ∀ vs, gets env slots = some vs →
      ∃ cs : List Value, (l.mapM (rv1 tmps)).run P w = .ok cs w ∧ cs.length = vs.length ∧ VsAt H (fun i => cs[i]?) 0 vs := by
    intro l
    induction l with
    | nil =>
      intro slots hs vs hv
      cases hs
      cases hv
      exact ⟨[], by simp, rfl, trivial⟩
    | cons x l ih =>
      intro slots hs vs hv
      cases x with
      | cell a t => cases hs
      | tmp t =>
        simp only [resSlots] at hs
        obtain ⟨s', h1, rfl⟩ := opt_map_some hs
        simp only [gets] at hv
        split at hv
        · rename_i u us h2 h3
          cases hv
          obtain ⟨cs, h4, h5, h6⟩ := ih s' h1 us h3
          obtain ⟨c, h7, h8⟩ := he t u h2
          refine ⟨c :: cs, ?_, by simp [h5], ⟨c, rfl, h8⟩, vsAt_shift h6 (fun i _ => by rw [show 0 + 1 + i = i + 1 by omega]; simp)⟩
          rw [List.mapM_cons]
          simp only [rv1, Sem.run_bind, Sem.run_pure, Result.andThen_ok, h4, Array.getD_eq_getD_getElem?, h7, Option.getD_some]
        · cases hv
  unfold resV at hv
  cases hg : gets env slots with
  | none => rw [hg] at hv; cases hv
  | some vs =>
    obtain ⟨cs, h1, h2, h3⟩ := key _ _ hr vs hg
    have hrun : (fn.results.mapM (rv1 tmps)).run P w = .ok cs.toArray w := by
      rw [Array.mapM_eq_mapM_toList]
      simp [h1]
    rw [results_eq]
    simp only [Sem.run_bind]
    refine ⟨if h : cs.toArray.size = 1 then cs.toArray[0] else .tuple cs.toArray, ?_, ?_⟩
    · rw [hrun]
      rfl
    · rw [hg] at hv
      by_cases h1' : cs.length = 1
      · rw [dif_pos (by simpa using h1')]
        match cs, h1', h2, h3 with
        | [c], _, h2, h3 =>
          match vs, h2, h3, hv with
          | [u], _, h3, hv =>
            cases hv
            obtain ⟨⟨d, hd, hr⟩, _⟩ := h3
            simp at hd
            subst hd
            exact hr
      · rw [dif_neg (by simpa using h1')]
        have hv' : v = .t vs := by
          match vs, hv with
          | [], hv => cases hv; rfl
          | [u], hv => simp at h2; exact absurd h2 h1'
          | u :: u' :: r, hv => cases hv; rfl
        subst hv'
        exact ⟨_, rfl, by simpa using h2, vsAt_shift h3 (fun i _ => by simp)⟩

/-! the marks of loops over functions, on the way out -/
theorem Adv.put_new {σ₀ σ : Store} {w₀ w : World} {D : Nat} {ob : Obj} (h : Adv Λ σ₀ w₀ σ w) (hD : w₀.heap.size ≤ D) : Adv Λ σ₀ w₀ σ (w.putObj D ob) where
  frame n hn h0 := (World.putObj_heap_other (by omega)).trans (h.frame n hn h0)
  size := by simpa using h.size
  os := h.os
  tape := h.tape
  output := h.output
  names := h.names
theorem leaves_marks {F : Fence} {n : Nat} {fn : Func} {tmps : Array Value} {R : Ending → World → Prop} {u : FrameMode} (hu : u ≠ .run) {σ₀ σ : Store} {w₀ : World} : ∀ (ms : List Nat) (w : World), ms.Nodup →
    (∀ D ∈ ms, w₀.heap.size ≤ D ∧ σ D = none ∧ w.heap[D]? = some (.deferred (some []))) → Rel Λ σ w → Adv Λ σ₀ w₀ σ w → (∀ w', Rel Λ σ w' → Adv Λ σ₀ w₀ σ w' → HLe (Hh Λ σ w) (Hh Λ σ w') → LeavesInM F n P fn tmps R ds u w') →
    LeavesInM F n P fn tmps R (ms.map markOf ++ ds) u w
  | [], w, _, _, hR, hA, h => h w hR hA fun _ _ _ h => h
  | D :: ms, w, hnd, hms, hR, hA, h => by
    obtain ⟨h1, h2, h3⟩ := hms D (.head _)
    have hnd' := List.nodup_cons.1 hnd
    refine ⟨hu, .inl ⟨D, _, rfl, run_takeDeferred h3, ?_⟩⟩
    have hle := hle_put (Λ := Λ) (σ := σ) (ob' := .deferred none) h3 rfl
    refine leaves_marks hu ms _ hnd'.2 (fun E hE => ?_) (hR.put h2 h3 rfl) (hA.put_new h1) fun w' q1 q2 q3 => h w' q1 q2 fun b o c hc => q3 b o c (hle b o c hc)
    obtain ⟨h4, h5, h6⟩ := hms E (.tail _ hE)
    exact ⟨h4, h5, (World.putObj_heap_other (fun e => hnd'.1 (by rw [← e]; exact hE))).trans h6⟩

theorem callsIn_of_wpK {n : Nat} {f : FuncId} {fn : Func} {c : Code} {args : Array Value} {w : World} {R : Ending → World → Prop}
    (hf : P.funcs[f]? = some fn) (hb : fn.body = some c)
    (h : wpK none P c (bodyPostM (wide none) n P fn R) { tmps := args ++ Array.replicate (fn.ntmps - args.size) undef, defers := [] } w) : CallsIn (wide none) n P f args w R := by
  refine ⟨trivial, fun cs hr => ?_⟩
  let b : Frame := { (default : Frame) with fn := f, kind := .normal, roundOf := none }
  have henter : Frame.enter P f args .normal =
      b.atR { tmps := args ++ Array.replicate (fn.ntmps - args.size) undef, defers := [] } [.code c] := by
    simp [Frame.enter, Frame.atR, hf, hb, b]
  obtain ⟨e, a', w', hq, harr⟩ := h b [] cs rfl ⟨fn, hf⟩
  rw [← henter] at harr
  cases e with
  | normal =>
    obtain ⟨e', w'', fr', hR, hs, hfn, hl⟩ := leaves_stepsInM a'.defers .returning w' { b.atR a' [] with mode := .returning } cs rfl rfl rfl hf rfl trivial hr hq
    exact ⟨e', w'', fr', hR, ComesIn.of_steps (StepsIn.trans harr (.one (fenced_calm (fr := b.atR a' []) trivial hr rfl) (stepR_end rfl))) hs, hfn, hl⟩
  | ret =>
    obtain ⟨todo, hs₀⟩ := harr.1 rfl
    obtain ⟨e', w'', fr', hR, hs, hfn, hl⟩ := leaves_stepsInM a'.defers .returning w' { b.atR a' todo with mode := .returning } cs rfl rfl rfl hf rfl trivial hr hq
    exact ⟨e', w'', fr', hR, ComesIn.of_steps hs₀ hs, hfn, hl⟩
  | panic chain =>
    obtain ⟨todo, hs₀⟩ := harr
    obtain ⟨e', w'', fr', hR, hs, hfn, hl⟩ := leaves_stepsInM a'.defers (.panicking chain) w' { b.atR a' todo with mode := .panicking chain } cs rfl rfl rfl hf rfl trivial hr hq
    exact ⟨e', w'', fr', hR, ComesIn.of_steps hs₀ hs, hfn, hl⟩
  | exit id => exact hq.elim
  | goto l => exact hq.elim
  | outgrown => exact ⟨.outgrown, w', b, hq, harr.resolve_left (by simp [b]), rfl, trivial⟩
/-- **a contract out of T** -/
theorem ctr_of_T {f : FuncId} {fn : Func} {c : Code} {ac : ACode} {slots : List Nat} (hf : P.funcs[f]? = some fn) (hok : okF P f = true) (hb : fn.body = some c) (hr : resSlots fn.results.toList = some slots)
    {args : List V} (hn : args.length ≤ fn.ntmps) (hc : res P fn.ntmps pu fz c = some (erase ac)) {σ : Store} {Q : R → Store → Prop} (h : T P ac (RetP slots Q) (argEnv 0 args) σ) : Ctr P f args σ Q := by
  refine ⟨hok, fun Λ w cs hR hv => ?_⟩
  refine callsIn_wide (n := 0) |>.1 (callsIn_of_wpK hf hb ?_)
  have he : ERel (Hh Λ σ w) (argEnv 0 args) (cs ++ Array.replicate (fn.ntmps - cs.size) undef) := by
    intro k v hg
    obtain ⟨_, h2⟩ := get_argEnv args 0 k v hg
    simp only [Nat.sub_zero] at h2
    obtain ⟨d, h3, h4⟩ := vsAt_iff.1 hv.2 k v h2
    simp only [Nat.zero_add] at h3
    refine ⟨d, ?_, h4⟩
    rw [Array.getElem?_append_left (by have := (Array.getElem?_eq_some_iff.1 h3).1; exact this)]
    exact h3
  have hsz : (cs ++ Array.replicate (fn.ntmps - cs.size) undef).size = fn.ntmps := by
    simp only [Array.size_append, Array.size_replicate]
    have := hv.1
    omega
  refine wpK_mono (T_sound (r := none) (a := { tmps := cs ++ Array.replicate (fn.ntmps - cs.size) undef, defers := [] }) hc h he hR hsz RoundOk.none) ?_
  rintro e a' w' ⟨ex, env, σ', hq, hx, he', hR', hA, hN, ms, hms, hnd, hD, _⟩
  simp only [List.append_nil] at hms
  have fin : ∀ v vf σ'', resV slots env = some v → Sub σ'' σ' → Frz σ' σ'' v vf → Q (.ret vf) σ'' → LeavesInM (wide none) 0 P fn a'.tmps (fun e w' => ∃ r σ', Q r σ' ∧ RRel (Hh Λ σ' w') r e ∧ Rel Λ σ' w' ∧ Adv Λ σ w σ' w') a'.defers .returning w' := fun v vf σ'' h1 h2 h3 h4 => by
    rw [hms, ← List.append_nil (ms.map markOf)]
    refine leaves_marks (by simp) ms w' hnd hD hR' hA fun w2 q1 q2 q3 => ?_
    obtain ⟨c, h5, h6⟩ := run_results (P := P) hr (he'.mono q3) h1 w2
    exact ⟨c, h5, .ret vf, σ'', h4, ⟨c, rfl, h3.rel q1 h2 h6⟩, q1.drop h2, q2.trans (Adv.drop w2 h2)⟩
  cases ex with
  | normal =>
    simp only [XRel] at hx
    subst hx
    obtain ⟨v, h1, vf, σ'', h2, h3, h4⟩ := wv_ex hq
    exact fin v vf σ'' h1 h2 h3 h4
  | ret =>
    simp only [XRel] at hx
    subst hx
    obtain ⟨v, h1, vf, σ'', h2, h3, h4⟩ := wv_ex hq
    exact fin v vf σ'' h1 h2 h3 h4
  | exit id => exact hq.elim
  | pan v =>
    obtain ⟨c, rfl, hv'⟩ := hx
    obtain ⟨vf, σ'', h2, h3, h4⟩ := hq
    show LeavesInM _ _ _ _ _ _ a'.defers (.panicking _) w'
    rw [hms, ← List.append_nil (ms.map markOf)]
    refine leaves_marks (by simp) ms w' hnd hD hR' hA fun w2 q1 q2 q3 => ?_
    exact ⟨.pan vf, σ'', h4, ⟨c, rfl, h3.rel q1 h2 (hv'.mono q3)⟩, q1.drop h2, q2.trans (Adv.drop w2 h2)⟩

theorem ctr_of_res {f : FuncId} {fn : Func} {ac : ACode} {slots : List Nat} (hf : P.funcs[f]? = some fn) (hok : okF P f = true) (hb : fn.body.bind (res P fn.ntmps pu fz) = some (erase ac)) (hr : resSlots fn.results.toList = some slots)
    {args : List V} (hn : args.length ≤ fn.ntmps) {σ : Store} {Q : R → Store → Prop} (h : T P ac (RetP slots Q) (argEnv 0 args) σ) : Ctr P f args σ Q := by
  cases hc : fn.body with
  | none => rw [hc] at hb; cases hb
  | some c => rw [hc] at hb; exact ctr_of_T hf hok hc hr hn hb h
def scalar : V → Bool
  | .b _ => true
  | .i _ _ => true
  | .t vs => vs.all fun | .b _ => true | .i _ _ => true | _ => false
  | _ => false
theorem scalar_rel {H H' : Nat → Nat → Option Value} {v : V} {c : Value} (hs : scalar v = true) (h : VRel H v c) : VRel H' v c := by
  cases v <;> try (simp [scalar] at hs; done)
  · exact h
  · exact h
  · rename_i vs
    obtain ⟨c', rfl, h1, h2⟩ := h
    refine ⟨c', rfl, h1, ?_⟩
    rw [vsAt_iff] at *
    intro i v hv
    obtain ⟨d, hd, hr⟩ := h2 i v hv
    refine ⟨d, hd, ?_⟩
    simp only [scalar, List.all_eq_true] at hs
    have := hs v (List.mem_of_getElem? hv)
    cases v <;> first | (simp at this; done) | exact hr
/-- a call of a pure function that reads objects of the caller's and hands back numbers -/
theorem Pure.lend {f : FuncId} {args args' : List V} {v : V} (h : Pure P f args' v) {σ : Store} (hf : FrzL σ emp args args') (hs : scalar v = true) {k kp : V → Store → Prop} (hk : k v σ) : Ctr P f args σ (qk k kp) := by
  refine ⟨h.1, fun Λ w cs hR hv => ?_⟩
  have hsub : Sub emp σ := fun n o ho => by cases ho
  refine Calls.mono (h.2 Λ w cs (hR.drop hsub) ⟨by rw [hf.length]; exact hv.1, hf.rel hR hsub (fun _ _ e => e) hv.2⟩) fun e w' ⟨r, σ', ⟨hr, hs'⟩, h1, h2, h3⟩ => ?_
  subst hr
  subst hs'
  obtain ⟨c, rfl, hv'⟩ := h1
  exact ⟨.ret v, σ, hk, ⟨c, rfl, scalar_rel hs hv'⟩, rel_after hR h3, adv_emp h3⟩
end Go.Gl
