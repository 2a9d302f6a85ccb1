/-
  GL 18p: a deferred function that does not recover, when no panic passes by.
-/
import Derived.Test.YtfbhfdaljendcaaGreatGl18
set_option linter.all false
set_option linter.unusedVariables false
set_option linter.unusedSimpArgs false
namespace Go.Gl
variable {P : Program} {Λ : Nat → Prop} {σ : Store} {pu : List FuncId} {fz : List Nat}
theorem ctrD_plain {f : FuncId} {fn : Func} {ac : ACode} (hf : P.funcs[f]? = some fn) (hok : okF P f = true) (hb : fn.body.bind (res P fn.ntmps pu fz) = some (erase ac)) (hr : fn.results = #[])
    {args : List V} (hn : args.length ≤ fn.ntmps) {σ : Store} {Q : Store → Prop} (h : T P ac (DefQ Q) (argEnv 0 args) σ) : CtrD P f args none σ Q := by
  refine ⟨hok, fun Λ w cs u hR hv hu => ?_⟩
  simp only at hu
  subst hu
  obtain ⟨c, hc, hb⟩ := Option.bind_eq_some_iff.1 hb
  have he : ERel (Hh Λ σ w) (argEnv 0 args) (cs ++ Array.replicate (fn.ntmps - cs.size) undef) := by
    intro k v hg
    obtain ⟨_, h2⟩ := get_argEnv args 0 k v hg
    simp only [Nat.sub_zero] at h2
    obtain ⟨d, h3, h4⟩ := vsAt_iff.1 hv.2 k v h2
    simp only [Nat.zero_add] at h3
    refine ⟨d, ?_, h4⟩
    rw [Array.getElem?_append_left (by have := (Array.getElem?_eq_some_iff.1 h3).1; exact this)]
    exact h3
  have hsz0 : (cs ++ Array.replicate (fn.ntmps - cs.size) undef).size = fn.ntmps := by
    simp only [Array.size_append, Array.size_replicate]
    have := hv.1
    omega
  have hW := T_sound (r := none) (a := { tmps := cs ++ Array.replicate (fn.ntmps - cs.size) undef, defers := [] }) hb h he hR hsz0 RoundOk.none
  refine ⟨trivial, fun c₀ fs hu0 hroom => ?_⟩
  let b : Frame := { (default : Frame) with fn := f, kind := .deferred, roundOf := none }
  have henter : Frame.enter P f cs .deferred = b.atR { tmps := cs ++ Array.replicate (fn.ntmps - cs.size) undef, defers := [] } [.code c] := by
    simp [Frame.enter, Frame.atR, hf, hc, b]
  have hcm : ({ c₀ with mode := .returning } : Frame) = c₀ := by cases c₀; simp_all
  have hres0 : ∀ (tm : Array Value) (w : World), (results fn tm).run P w = .ok (.tuple #[]) w := fun tm w => by
    rw [results_eq, hr]
    simp
  have out : ∀ (m0 : Machine) (a2 : Act) (w2 : World) (todo : List Item) (σ2 : Store), StepsIn (Machine.fenced P (wide none)) P m0 (lone { b.atR a2 todo with mode := .returning } (c₀ :: fs) w2) → Q σ2 → Rel Λ σ2 w2 → Adv Λ σ w σ2 w2 →
      Marks none w σ2 w2 [] a2.defers → ∃ e u'' w' fr, ((∃ v, e = Ending.returned v) ∧ settle u'' = .returning ∧ ∃ σ', Q σ' ∧ Rel Λ σ' w' ∧ Adv Λ σ w σ' w') ∧
        ComesIn (Machine.fenced P (wide none)) P m0 (lone fr ({ c₀ with mode := u'' } :: fs) w') e ∧ fr.kind = .deferred ∧ fr.fn = f ∧ fr.going P w' e := fun m0 a2 w2 todo σ2 hs hq hR2 hA2 ⟨ms, hms, hnd, hD, _⟩ => by
    obtain ⟨w', q1, q2, q3⟩ := unmark (P := P) (cs := c₀ :: fs) ms { b.atR a2 todo with mode := .returning } w2 hnd hD (by simp) (by simpa [Frame.atR] using hms) hR2 hA2
    exact ⟨.returned (.tuple #[]), .returning, w', _, ⟨⟨_, rfl⟩, rfl, σ2, hq, q2, q3⟩, (by rw [hcm]; exact hs.trans q1), rfl, rfl, rfl, rfl, fn, hf, hres0 _ _⟩
  obtain ⟨e, a2, w2, hq, harr⟩ := hW b [] (c₀ :: fs) rfl ⟨fn, hf⟩
  rw [henter]
  obtain ⟨ex, env, σ2, hq, hx, he2, hR2, hA2, hN2, hM2⟩ := hq
  cases ex with
  | exit id => exact hq.elim
  | pan v => exact hq.elim
  | normal =>
    simp only [XRel] at hx
    subst hx
    exact out _ a2 w2 [] σ2 (StepsIn.trans harr (.one (calmW rfl) (stepR_end rfl))) hq hR2 hA2 hM2
  | ret =>
    simp only [XRel] at hx
    subst hx
    obtain ⟨todo, hs⟩ := harr.1 rfl
    exact out _ a2 w2 todo σ2 hs hq hR2 hA2 hM2
end Go.Gl
