/-
  GL 11d: a region that draws its order: what holds in one order holds in each.
-/
import Derived.Test.YtfbhfdaljendcaaGreatGl11c
set_option linter.all false
set_option linter.unusedVariables false
set_option linter.unusedSimpArgs false
namespace Go.Gl
variable {P : Program} {Λ : Nat → Prop} {env env' : Env} {σ : Store}

structure DOper where
  i : Nat
  o : AOper
  rei : List Nat
  re : List AOper
  deriving Inhabited
def slots (x : AOper) : List Nat := (match x.dst with | some d => [d] | none => []) ++ looks x
/-- the value is what it was -/
def Rechk (P : Program) (x : AOper) (env : Env) (σ : Store) : Prop := Sop P x env σ (fun u _ => ∀ s, x.dst = some s → get s env = some u) (fun _ _ => False)
def Rechks (P : Program) : List AOper → Env → Store → Prop
  | [], _, _ => True
  | x :: r, env, σ => Rechk P x env σ ∧ Rechks P r env σ
theorem Rechks.mem : ∀ {l : List AOper}, Rechks P l env σ → ∀ x ∈ l, Rechk P x env σ
  | _ :: _, h, _, .head _ => h.1
  | _ :: _, h, x, .tail _ hx => Rechks.mem h.2 x hx
def Tdops (P : Program) : List DOper → (Env → Store → Prop) → (V → Store → Prop) → Env → Store → Prop
  | [], K, _, env, σ => K env σ
  | d :: r, K, kp, env, σ => Sop P d.o env σ (fun v σ' => Rechks P d.re (put d.o.dst v env) σ' ∧ Tdops P r K kp (put d.o.dst v env) σ') kp

def Geq (env env' : Env) : Prop := ∀ s, get s env = get s env'
theorem get_put_ne {s : Nat} {d : Option Nat} {v : V} (h : d ≠ some s) : get s (put d v env) = get s env := by
  cases d with
  | none => rfl
  | some d =>
    simp only [put, get]
    cases hb : Nat.beq d s with
    | false => rfl
    | true => exact absurd (by rw [Nat.eq_of_beq_eq_true hb]) h
theorem get_put_eq {s : Nat} {v : V} : get s (put (some s) v env) = some v := by simp [put, get]
theorem Geq.put {d : Option Nat} {v : V} (h : Geq env env') : Geq (Gl.put d v env) (Gl.put d v env') := fun s => by
  by_cases hd : d = some s
  · subst hd
    rw [get_put_eq, get_put_eq]
  · rw [get_put_ne hd, get_put_ne hd, h]
theorem geq_comm {d e : Option Nat} {v u : V} (h : ∀ s, d = some s → e ≠ some s) : Geq (Gl.put d v (Gl.put e u env)) (Gl.put e u (Gl.put d v env)) := fun s => by
  by_cases hd : d = some s
  · subst hd
    rw [get_put_eq, get_put_ne (h s rfl), get_put_eq]
  · rw [get_put_ne hd]
    by_cases he : e = some s
    · subst he
      rw [get_put_eq, get_put_eq]
    · rw [get_put_ne he, get_put_ne he, get_put_ne hd]
theorem Rechk_agree {x : AOper} (h : ∀ s ∈ slots x, get s env' = get s env) (hr : Rechk P x env σ) : Rechk P x env' σ := by
  unfold Rechk at *
  rw [Sop_agree (env := env) fun s hs => h s (List.mem_append_right _ hs)]
  refine Sop_mono hr (fun v σ' hv s hs => ?_) fun _ _ h => h
  rw [h s (List.mem_append_left _ (by rw [hs]; simp))]
  exact hv s hs
theorem Rechks_agree : ∀ {l : List AOper}, (∀ s, get s env' = get s env) → Rechks P l env σ → Rechks P l env' σ
  | [], _, _ => trivial
  | _ :: _, h, hr => ⟨Rechk_agree (fun s _ => h s) hr.1, Rechks_agree h hr.2⟩
section
variable {K : Env → Store → Prop} {kp : V → Store → Prop}
theorem Tdops_geq (hK : ∀ env env' σ, Geq env env' → K env σ → K env' σ) : ∀ {l : List DOper} {env env' : Env} {σ : Store}, Geq env env' → Tdops P l K kp env σ → Tdops P l K kp env' σ
  | [], _, _, _, hg, h => hK _ _ _ hg h
  | d :: r, env, env', σ, hg, h => by
    simp only [Tdops] at *
    rw [Sop_agree (env := env) fun s _ => (hg s).symm]
    exact Sop_mono h (fun v σ' ⟨h1, h2⟩ => ⟨Rechks_agree (fun s => (hg.put s).symm) h1, Tdops_geq hK hg.put h2⟩) fun _ _ h => h

def Apart (x y : AOper) : Prop := (∀ d, x.dst = some d → d ∉ looks y ∧ y.dst ≠ some d) ∧ ∀ d, y.dst = some d → d ∉ looks x
def fresh (y x : AOper) : Prop := ∀ d, y.dst = some d → d ∉ slots x
/-- y may be taken ahead of x, which stands ahead of it -/
def okD (x y : DOper) : Prop := x.re = [] ∧ Apart x.o y.o ∧
  ((still x.o.op = true ∧ calm y.o.op = true) ∨ kd x.o.op = .P ∨ (still x.o.op = true ∧ x.o ∈ y.re ∧ ∀ d, x.o.dst = some d → d ∉ looks x.o) ∨ (moves x.o.op = true ∧ y.re = [] ∧ y.o.guard = none ∧ ∃ z, y.o.op = .alloc z))

theorem bubble (hU : ∀ v σ m z, σ m = none → kp v σ → kp v (upd σ m z)) (hK : ∀ env env' σ, Geq env env' → K env σ → K env' σ) {i : DOper} {ys : List DOper} : ∀ {xs : List DOper}, (∀ x ∈ xs, okD x i) → xs.Pairwise (fun x y => kd x.o.op = .N → fresh y.o x.o) →
    ∀ {env : Env} {σ : Store}, Tdops P (xs ++ i :: ys) K kp env σ →
    Sop P i.o env σ (fun u σ' => (∀ r ∈ i.re, (∀ x ∈ xs, fresh x.o r) → Rechk P r (put i.o.dst u env) σ') ∧ Tdops P (xs ++ ys) K kp (put i.o.dst u env) σ') kp
  | [], _, _, env, σ, h => Sop_mono h (fun u σ' ⟨h1, h2⟩ => ⟨fun r hr _ => h1.mem r hr, h2⟩) fun _ _ h => h
  | x :: xs, hok, hpw, env, σ, h => by
    simp only [List.cons_append, Tdops] at h
    obtain ⟨hpw1, hpw2⟩ := List.pairwise_cons.1 hpw
    obtain ⟨hre, ⟨ha1, ha2⟩, hk⟩ := hok x (.head _)
    have h' : Sop P x.o env σ (fun v σ1 => Sop P i.o (put x.o.dst v env) σ1 (fun u σ' => (∀ r ∈ i.re, (∀ x ∈ xs, fresh x.o r) → Rechk P r (put i.o.dst u (put x.o.dst v env)) σ') ∧ Tdops P (xs ++ ys) K kp (put i.o.dst u (put x.o.dst v env)) σ') kp) kp :=
      Sop_mono h (fun v σ1 hh => bubble hU hK (fun y hy => hok y (.tail _ hy)) hpw2 hh.2) fun _ _ h => h
    have agx : ∀ v, ∀ s ∈ looks i.o, get s (put x.o.dst v env) = get s env := fun v s hs => get_put_ne fun e => (ha1 s e).1 hs
    have agi : ∀ (env : Env) u, ∀ s ∈ looks x.o, get s (put i.o.dst u env) = get s env := fun env u s hs => get_put_ne fun e => ha2 s e hs
    have hcm : ∀ v u, Geq (put i.o.dst u (put x.o.dst v env)) (put x.o.dst v (put i.o.dst u env)) := fun v u => geq_comm fun s hs hx => (ha1 s hx).2 hs
    have hRE : ∀ v u σ', (∀ r ∈ i.re, (∀ x ∈ xs, fresh x.o r) → Rechk P r (put i.o.dst u (put x.o.dst v env)) σ') → ∀ r ∈ i.re, (∀ y ∈ x :: xs, fresh y.o r) → Rechk P r (put i.o.dst u env) σ' := fun v u σ' hh r hr hf => by
      refine Rechk_agree (fun s hs => ?_) (hh r hr fun y hy => hf y (.tail _ hy))
      rw [hcm v u s, get_put_ne fun e => hf x (.head _) s e hs]
    by_cases hst : still x.o.op = true
    · obtain ⟨v, hi, hd⟩ := Sop_still hst h'
      have fin : ∀ u σ', (kd x.o.op = .P ∨ Sub σ σ') → (∀ r ∈ i.re, (∀ x ∈ xs, fresh x.o r) → Rechk P r (put i.o.dst u (put x.o.dst v env)) σ') → Tdops P (xs ++ ys) K kp (put i.o.dst u (put x.o.dst v env)) σ' →
          (∀ r ∈ i.re, (∀ y ∈ x :: xs, fresh y.o r) → Rechk P r (put i.o.dst u env) σ') ∧ Tdops P (x :: xs ++ ys) K kp (put i.o.dst u env) σ' := fun u σ' hs h1 h2 => by
        refine ⟨hRE v u σ' h1, ?_⟩
        simp only [List.cons_append, Tdops]
        rw [Sop_agree (env := env) (agi env u)]
        exact hd σ' _ _ hs ⟨by rw [hre]; trivial, Tdops_geq hK (hcm v u) h2⟩
      rw [Sop_agree (env := env) (agx v)] at hi
      rcases hk with ⟨_, hc⟩ | hP | ⟨_, hm, hself⟩ | ⟨_, _, hg, z, hz⟩
      · exact Sop_mono (Sop_sub hc hi) (fun u σ' ⟨⟨h1, h2⟩, hs⟩ => fin u σ' (.inr hs) h1 h2) fun _ _ h => h
      · exact Sop_mono hi (fun u σ' ⟨h1, h2⟩ => fin u σ' (.inl hP) h1 h2) fun _ _ h => h
      · by_cases hP : kd x.o.op = .P
        · exact Sop_mono hi (fun u σ' ⟨h1, h2⟩ => fin u σ' (.inl hP) h1 h2) fun _ _ h => h
        have hN : kd x.o.op = .N := by
          unfold still at hst
          cases hkk : kd x.o.op <;> rw [hkk] at hst <;> simp_all
        refine Sop_mono hi (fun u σ' ⟨h1, h2⟩ => ⟨hRE v u σ' h1, ?_⟩) fun _ _ h => h
        have hr := h1 x.o hm fun y hy => hpw1 y hy hN
        unfold Rechk at hr
        obtain ⟨v', hv', hd'⟩ := Sop_still hst hr
        simp only [List.cons_append, Tdops]
        have hsame : ∀ s ∈ looks x.o, get s (put i.o.dst u env) = get s (put i.o.dst u (put x.o.dst v env)) := fun s hs => by
          rw [agi env u s hs, agi _ u s hs]
          by_cases hxs : x.o.dst = some s
          · exact absurd hs (hself s hxs)
          · rw [get_put_ne hxs]
        rw [Sop_agree (env := put i.o.dst u (put x.o.dst v env)) hsame]
        refine hd' σ' _ kp (.inr fun _ _ h => h) ⟨by rw [hre]; trivial, ?_⟩
        have hvv : put x.o.dst v' (put i.o.dst u env) = put x.o.dst v (put i.o.dst u env) := by
          cases hxd : x.o.dst with
          | none => rfl
          | some s =>
            have e := hv' s hxd
            rw [get_put_ne (ha1 s hxd).2, hxd, get_put_eq] at e
            cases e
            rfl
        rw [hvv]
        exact Tdops_geq hK (hcm v u) h2
      · have hc : calm i.o.op = true := by rw [hz]; rfl
        exact Sop_mono (Sop_sub hc hi) (fun u σ' ⟨⟨h1, h2⟩, hs⟩ => fin u σ' (.inr hs) h1 h2) fun _ _ h => h
    · rcases hk with ⟨hst', _⟩ | hP | ⟨hst', _, _⟩ | ⟨hcx, hir, hg, z, hz⟩
      · exact absurd hst' hst
      · exact absurd (by unfold still; rw [hP]) hst
      · exact absurd hst' hst
      · unfold Sop
        rw [hg]
        simp only [hz, Top]
        intro m hm
        refine ⟨fun r hr => (by rw [hir] at hr; exact absurd hr (by simp)), ?_⟩
        simp only [List.cons_append, Tdops]
        rw [Sop_agree (env := env) (agi env _)]
        refine Sop_mono (Sop_moves hcx hU h' (z := .cs z) hm) (fun v σ2 ⟨σ1, hh, h1, h2⟩ => ?_) fun _ _ h => h
        unfold Sop at hh
        rw [hg] at hh
        simp only [hz, Top] at hh
        subst h2
        exact ⟨by rw [hre]; trivial, Tdops_geq hK (hcm v _) (hh m h1).2⟩
end
end Go.Gl
