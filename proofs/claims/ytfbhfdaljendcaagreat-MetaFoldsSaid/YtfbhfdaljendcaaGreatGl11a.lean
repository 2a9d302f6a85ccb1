/-
  GL 11a: pure contracts (ahead of T), and what operations read.
-/
import Derived.Test.YtfbhfdaljendcaaGreatGl11n
set_option linter.all false
set_option linter.unusedVariables false
set_option linter.unusedSimpArgs false
namespace Go.Gl
variable {P : Program} {Λ : Nat → Prop}
def emp : Store := fun _ => none
/-- a function that changes nothing and hands back v -/
def Pure (P : Program) (f : FuncId) (args : List V) (v : V) : Prop := Ctr P f args emp fun r σ' => r = .ret v ∧ σ' = emp

theorem rel_emp {w : World} (Λ : Nat → Prop) (h : ∀ n, Λ n → n < w.heap.size) : Rel Λ emp w := ⟨fun n o ho => (by cases ho), h⟩
theorem adv_emp {σ : Store} {w w' : World} {Λ' : Nat → Prop} (h : Adv Λ' emp w emp w') : Adv Λ σ w σ w' :=
  ⟨fun n hn _ => h.frame n hn rfl, h.size, h.os, h.tape, h.output, fun _ h0 _ => h0⟩
theorem rel_after {σ : Store} {w w' : World} {Λ' : Nat → Prop} (hR : Rel Λ σ w) (h : Adv Λ' emp w emp w') : Rel Λ σ w' :=
  hR.step (adv_emp h) fun n _ hn => .inl ⟨hn, h.frame n (hR.lt hn) rfl⟩

/-- a call of a pure function -/
theorem Pure.use {f : FuncId} {args : List V} {v : V} (h : Pure P f args v) {σ : Store} {k kp : V → Store → Prop} (hk : k v σ) : Ctr P f args σ (qk k kp) := by
  refine ⟨h.1, fun Λ w cs hR hv => ?_⟩
  have hH : ∀ w : World, (Hh (fun n => Λ n ∨ σ n ≠ none) emp w) = Hh Λ σ w := fun w => by
    funext b o
    unfold Hh
    by_cases hb : Λ b ∨ (σ b).isSome = true
    · rw [if_pos hb, if_pos]
      rcases hb with hb | hb
      · exact .inl (.inl hb)
      · exact .inl (.inr (by intro e; rw [e] at hb; cases hb))
    · rw [if_neg hb, if_neg]
      rintro ((h | h) | h)
      · exact hb (.inl h)
      · exact hb (.inr (by cases hs : σ b with | none => exact absurd hs h | some o => rfl))
      · cases h
  refine Calls.mono (h.2 (fun n => Λ n ∨ σ n ≠ none) w cs (rel_emp _ fun n hn => ?_) (by rw [hH]; exact hv)) fun e w' ⟨r, σ', ⟨hr, hs⟩, h1, h2, h3⟩ => ?_
  · rcases hn with hn | hn
    · exact hR.lock n hn
    · cases hs : σ n with
      | none => exact absurd hs hn
      | some o => exact hR.lt hs
  · subst hr
    subst hs
    rw [hH] at h1
    exact ⟨.ret v, σ, hk, h1, rel_after hR h3, adv_emp h3⟩
theorem Ctr.mono {f : FuncId} {args : List V} {σ : Store} {Q Q' : R → Store → Prop} (h : Ctr P f args σ Q) (hq : ∀ r σ', Q r σ' → Q' r σ') : Ctr P f args σ Q' :=
  ⟨h.1, fun Λ w cs hR hv => Calls.mono (h.2 Λ w cs hR hv) fun _ _ ⟨r, σ', h1, h2⟩ => ⟨r, σ', hq _ _ h1, h2⟩⟩

theorem CtrY.mono {l : Nat} {args : List V} {σ : Store} {Q Q' : R → Store → Prop} (h : CtrY P l args σ Q) (hq : ∀ r σ', Q r σ' → Q' r σ') : CtrY P l args σ Q' :=
  fun Λ w cs hR hv => let ⟨f, tmps, assign, body, h1, h2⟩ := h Λ w cs hR hv; ⟨f, tmps, assign, body, h1, h2.mono fun e w' ⟨r, σ', h3, h4⟩ => ⟨r, σ', hq _ _ h3, h4⟩⟩
theorem CtrF.mono {x : V} {args : List V} {σ : Store} {Q Q' : R → Store → Prop} (h : CtrF P x args σ Q) (hq : ∀ r σ', Q r σ' → Q' r σ') : CtrF P x args σ Q' := by
  unfold CtrF at *
  split at h
  · exact Ctr.mono h hq
  · exact CtrY.mono h hq
  · exact h.elim
theorem CtrI.mono {tab : List (TypeId × FuncId)} {x : V} {args : List V} {σ : Store} {Q Q' : R → Store → Prop} (h : CtrI P tab x args σ Q) (hq : ∀ r σ', Q r σ' → Q' r σ') : CtrI P tab x args σ Q' := by
  unfold CtrI at *
  split at h
  · split at h
    · exact Ctr.mono h hq
    · exact h.elim
  · exact h.elim
/-! what an operation reads -/
def rd : Opd → List Nat | .t n => [n] | .c _ => []
def rdO : Option Opd → List Nat | some x => rd x | none => []
def rds (l : List Opd) : List Nat := l.flatMap rd
def reads : AOp → List Nat
  | .mv x | .mvf x | .not x | .neg _ x | .conv _ x | .box x | .boxf x | .load _ x | .faddr _ x | .field _ _ x | .len x | .lenm x | .str x | .extract _ x | .nilck x | .mkifc _ x | .tas _ _ _ x | .panic x | .eqn _ _ x => rd x
  | .pick a b c => rd a ++ rd b ++ rd c
  | .sidx x y | .bin _ x y | .eqb _ x y | .eqf _ _ x y | .store _ x y | .iaddr _ _ x y | .index _ _ _ x y | .append _ _ x y | .appf _ _ x y | .copy _ x y | .mmax x y | .mmin x y | .mkslice _ _ _ x y | .lookup _ _ _ x y => rd x ++ rd y
  | .alloc _ | .mkmap => []
  | .build _ ps => rds (ps.map fun p => p.2.2)
  | .bslice _ _ _ ps => rds (ps.map fun p => p.2)
  | .slice _ x a b c => rd x ++ rdO a ++ rdO b ++ rdO c
  | .mkf _ a b => rds a ++ rds b
  | .mapset _ m k v => rd m ++ rd k ++ rd v
  | .call _ as | .callp _ as => rds as
  | .callv x as | .callvp x as | .inv _ x as => rd x ++ rds as
variable {env env' : Env}
theorem ev_agree {x : Opd} (h : ∀ s ∈ rd x, get s env' = get s env) : ev env' x = ev env x := by
  cases x with
  | t n => exact h n (by simp [rd])
  | c v => rfl
theorem evs_agree : ∀ {l : List Opd}, (∀ s ∈ rds l, get s env' = get s env) → evs env' l = evs env l
  | [], _ => rfl
  | x :: r, h => by
    simp only [rds, List.flatMap_cons, List.mem_append] at h
    simp only [evs, ev_agree (fun s hs => h s (.inl hs)), evs_agree (l := r) (fun s hs => h s (.inr hs))]
theorem optEv_agree {x : Option Opd} (h : ∀ s ∈ rdO x, get s env' = get s env) : optEv env' x = optEv env x := by
  cases x with
  | none => rfl
  | some x => simp only [optEv, ev_agree (x := x) h]
theorem fillV_agree : ∀ {ps : List (Nat × Nat × Opd)} {cs : List V}, (∀ s ∈ rds (ps.map fun p => p.2.2), get s env' = get s env) → fillV env' cs ps = fillV env cs ps
  | [], _, _ => rfl
  | (off, sz, x) :: r, cs, h => by
    simp only [rds, List.map_cons, List.flatMap_cons, List.mem_append] at h
    simp only [fillV, ev_agree (fun s hs => h s (.inl hs))]
    split <;> try rfl
    split <;> try rfl
    cases hb : (Nat.beq _ sz && Nat.ble (off + sz) cs.length) <;> simp only [cond_true, cond_false]
    exact fillV_agree (ps := r) fun s hs => h s (.inr hs)
theorem fillE_agree {sz : Nat} : ∀ {ps : List (Nat × Opd)} {es : List (List V)}, (∀ s ∈ rds (ps.map fun p => p.2), get s env' = get s env) → fillE env' sz es ps = fillE env sz es ps
  | [], _, _ => rfl
  | (i, x) :: r, es, h => by
    simp only [rds, List.map_cons, List.flatMap_cons, List.mem_append] at h
    simp only [fillE, ev_agree (fun s hs => h s (.inl hs))]
    split <;> try rfl
    split <;> try rfl
    cases hb : (Nat.beq _ sz && Nat.blt i es.length) <;> simp only [cond_true, cond_false]
    exact fillE_agree (ps := r) fun s hs => h s (.inr hs)
theorem Top_agree {o : AOp} {σ : Store} {k kp : V → Store → Prop} (h : ∀ s ∈ reads o, get s env' = get s env) : Top P o env' σ k kp = Top P o env σ k kp := by
  cases o <;> simp only [reads, List.mem_append, or_imp, forall_and] at h <;> simp only [Top]
  case mv x => rw [ev_agree h]
  case mvf x => rw [ev_agree h]
  case pick a b c => rw [ev_agree h.1.1, ev_agree h.1.2, ev_agree h.2]
  case bin op x y => rw [ev_agree h.1, ev_agree h.2]
  case eqb n x y => rw [ev_agree h.1, ev_agree h.2]
  case eqf q n x y => rw [ev_agree h.1, ev_agree h.2]
  case eqn q n x => rw [ev_agree h]
  case lookup a b c x y => rw [ev_agree h.1, ev_agree h.2]
  case mapset a x y z => rw [ev_agree h.1.1, ev_agree h.1.2, ev_agree h.2]
  case mkslice a b c x y => rw [ev_agree h.1, ev_agree h.2]
  case not x => rw [ev_agree h]
  case neg n x => rw [ev_agree h]
  case conv n x => rw [ev_agree h]
  case box x => rw [ev_agree h]
  case boxf x => rw [ev_agree h]
  case appf a b x y => rw [ev_agree h.1, ev_agree h.2]
  case build z ps => rw [fillV_agree h]
  case bslice a b c ps => rw [fillE_agree h]
  case load a x => rw [ev_agree h]
  case store a x y => rw [ev_agree h.1, ev_agree h.2]
  case faddr a x => rw [ev_agree h]
  case field a b x => rw [ev_agree h]
  case iaddr a b x y => rw [ev_agree h.1, ev_agree h.2]
  case index a b c x y => rw [ev_agree h.1, ev_agree h.2]
  case slice s x a b c => rw [ev_agree h.1.1.1, optEv_agree h.1.1.2, optEv_agree h.1.2, optEv_agree h.2]
  case len x => rw [ev_agree h]
  case lenm x => rw [ev_agree h]
  case str x => rw [ev_agree h]
  case sidx x y => rw [ev_agree h.1, ev_agree h.2]
  case append a b x y => rw [ev_agree h.1, ev_agree h.2]
  case copy a x y => rw [ev_agree h.1, ev_agree h.2]
  case inv tab x as => rw [ev_agree h.1, evs_agree h.2]
  case mmax x y => rw [ev_agree h.1, ev_agree h.2]
  case mmin x y => rw [ev_agree h.1, ev_agree h.2]
  case extract i x => rw [ev_agree h]
  case nilck x => rw [ev_agree h]
  case mkf f a b => rw [evs_agree h.1, evs_agree h.2]
  case mkifc t x => rw [ev_agree h]
  case tas a b c x => rw [ev_agree h]
  case panic x => rw [ev_agree h]
  case call f as => rw [evs_agree h]
  case callp f as => rw [evs_agree h]
  case callv x as => rw [ev_agree h.1, evs_agree h.2]
end Go.Gl
