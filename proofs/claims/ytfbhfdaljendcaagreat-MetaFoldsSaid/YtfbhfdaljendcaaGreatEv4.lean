/-
  EV 4: code and calls, evaluated; this is sound.
-/
import Derived.Test.YtfbhfdaljendcaaGreatEv3
set_option linter.all false
set_option linter.unusedVariables false
set_option linter.unusedSimpArgs false
namespace Go.Gl
variable {P : Program} {ρ ρ' : Ren} {σ : Store} {env env₀ : Env}
def eSop (cf : CF) (cv : CV) (cp : CP) (o : AOper) (env : Env) (s : St) : Option (R × St) :=
  match o.guard with
  | none => eOp cf cv cp o.op env s
  | some (g, b) => match get g env with
    | some (.b t) => bif t == b then eOp cf cv cp o.op env s else some (.ret (.t []), s)
    | some (.t []) => some (.ret (.t []), s)
    | _ => none
theorem qk_ret {k kp : V → Store → Prop} {v : V} {σ : Store} : qk k kp (.ret v) σ = k v σ := rfl
theorem eSop_ok {cf : CF} {cv : CV} {cp : CP} (hcf : CallOk P cf) (hcv : CallVOk P cv) (hcp : PureOk P cp) {o : AOper} {s s' : St} {r : R} (h : eSop cf cv cp o env s = some (r, s')) (he : RE ρ env env₀) (hs : SR P ρ s σ) {k kp : V → Store → Prop}
    (hk : ∀ ρ' r' σ', ρ.le ρ' → RR1 ρ' r r' → SR P ρ' s' σ' → qk k kp r' σ') : Sop P o env₀ σ k kp := by
  unfold eSop at h
  unfold Sop
  have skip : some (R.ret (.t []), s) = some (r, s') → k (.t []) σ := fun e => by
    cases e
    exact hk ρ (.ret (.t [])) σ (.refl _) ⟨_, RV.pure _ rfl, rfl⟩ hs
  split at h
  · rename_i hg
    rw [hg]
    exact eOp_ok hcf hcv hcp h he hs hk
  · rename_i g b hg
    rw [hg]
    split at h
    · rename_i t ht
      obtain ⟨v', h1, h2⟩ := he.get ht
      simp only [RV] at h2
      subst h2
      simp only [h1]
      refine ⟨fun e => ?_, fun e => ?_⟩
      · subst e
        rw [beq_self_eq_true] at h
        exact eOp_ok hcf hcv hcp h he hs hk
      · subst e
        have : ((!b) == b) = false := by cases b <;> rfl
        rw [this] at h
        exact skip h
    · rename_i ht
      obtain ⟨v', h1, h2⟩ := he.get ht
      have e := RV.eqp h2 rfl
      subst e
      simp only [h1]
      exact skip h
    · cases h
def forceN {β : Type} (n : Nat) (K : Nat → β) : β := match n with | 0 => K 0 | k + 1 => K (k + 1)
def forceV {β : Type} (v : V) (K : V → β) : β :=
  match v with
  | .i k (.ofNat 0) => K (.i k (.ofNat 0))
  | .i k (.ofNat (m + 1)) => K (.i k (.ofNat (m + 1)))
  | .i k (.negSucc 0) => K (.i k (.negSucc 0))
  | .i k (.negSucc (m + 1)) => K (.i k (.negSucc (m + 1)))
  | .b true => K (.b true)
  | .b false => K (.b false)
  | v => K v
theorem forceV_eq {β : Type} (v : V) (K : V → β) : forceV v K = K v := by
  unfold forceV
  split <;> rfl
abbrev Rs := Option (AExit × Env × St)
def eOps (cf : CF) (cv : CV) (cp : CP) : List AOper → Env → St → Rs
  | [], env, s => some (.normal, env, s)
  | o :: r, env, s => match eSop cf cv cp o env s with
    | some (.ret v, s') => forceV v fun v => eOps cf cv cp r (put o.dst v env) s'
    | some (.pan v, s') => some (.pan v, env, s')
    | none => none
theorem RE.put (h : RE ρ env env₀) {v v' : V} (hv : RV ρ v v') (d : Option Nat) : RE ρ (Gl.put d v env) (Gl.put d v' env₀) := by
  cases d with
  | none => exact h
  | some d => exact F2.cons ⟨rfl, hv⟩ h
theorem RE.prune (h : RE ρ env env₀) : ∀ l : List Nat, RE ρ (Gl.prune l env) (Gl.prune l env₀)
  | [] => F2.nil
  | k :: r => by
    simp only [Gl.prune]
    cases hg : Gl.get k env with
    | none => rw [h.getN hg]; exact RE.prune h r
    | some v =>
      obtain ⟨v', h1, h2⟩ := h.get hg
      rw [h1]
      exact F2.cons ⟨rfl, h2⟩ (RE.prune h r)
theorem RE.args : ∀ {vs vs' : List V} {i : Nat}, RVs ρ vs vs' → RE ρ (argEnv i vs) (argEnv i vs')
  | [], _, _, h => by cases h; exact F2.nil
  | _ :: _, _, i, ⟨y, ys, h1, h2, e⟩ => by subst e; exact F2.cons ⟨rfl, h1⟩ (RE.args h2)
theorem RE.binds : ∀ {ps : List Nat} {vs vs' : List V} {env env₀ : Env}, RVs ρ vs vs' → RE ρ env env₀ → RE ρ (bindPs ps vs env) (bindPs ps vs' env₀)
  | [], vs, vs', _, _, _, he => by cases vs <;> cases vs' <;> exact he
  | p :: ps, [], _, _, _, h, he => by cases h; exact he
  | p :: ps, _ :: _, _, _, _, ⟨y, ys, h1, h2, e⟩, he => by subst e; simp only [bindPs]; exact RE.binds h2 (RE.put he h1 (some p))
theorem eOps_ok {cf : CF} {cv : CV} {cp : CP} (hcf : CallOk P cf) (hcv : CallVOk P cv) (hcp : PureOk P cp) : ∀ {ops : List AOper} {env env₀ : Env} {ρ : Ren} {σ : Store} {s s' : St} {ex : AExit} {env' : Env}, eOps cf cv cp ops env s = some (ex, env', s') → RE ρ env env₀ → SR P ρ s σ →
    ∀ {K : Env → Store → Prop} {kp : Env → V → Store → Prop}, (∀ ρ' env₁ σ', ρ.le ρ' → ex = .normal → RE ρ' env' env₁ → SR P ρ' s' σ' → K env₁ σ') → (∀ ρ' v v' env₁ σ', ρ.le ρ' → ex = .pan v → RV ρ' v v' → RE ρ' env' env₁ → SR P ρ' s' σ' → kp env₁ v' σ') →
    (∀ id, ex ≠ .exit id) ∧ ex ≠ .ret ∧ Tops P ops K kp env₀ σ
  | [], env, env₀, ρ, σ, s, s', ex, env', h, he, hs, K, kp, hK, hp => by cases h; exact ⟨fun _ e => (by cases e), fun e => (by cases e), hK ρ _ _ (.refl _) rfl he hs⟩
  | o :: r, env, env₀, ρ, σ, s, s', ex, env', h, he, hs, K, kp, hK, hp => by
    simp only [Tops]
    have h' : (match eSop cf cv cp o env s with
      | some (.ret v, s') => forceV v fun v => eOps cf cv cp r (put o.dst v env) s'
      | some (.pan v, s') => some (.pan v, env, s')
      | none => none) = some (ex, env', s') := h
    split at h'
    · rename_i v s1 h1
      rw [forceV_eq] at h'
      have base : ∀ ρ1 v' σ1, ρ.le ρ1 → RV ρ1 v v' → SR P ρ1 s1 σ1 → (∀ id, ex ≠ .exit id) ∧ ex ≠ .ret ∧ Tops P r K kp (put o.dst v' env₀) σ1 := fun ρ1 v' σ1 q1 q2 q3 =>
        eOps_ok hcf hcv hcp h' ((he.mono q1).put q2 o.dst) q3 (fun ρ' e₁ σ' p1 p2 p3 p4 => hK ρ' e₁ σ' (q1.trans p1) p2 p3 p4) (fun ρ' v v' e₁ σ' p1 p2 p3 p4 p5 => hp ρ' v v' e₁ σ' (q1.trans p1) p2 p3 p4 p5)
      have hx : (∀ id, ex ≠ .exit id) ∧ ex ≠ .ret := by
        clear base hK hp
        have gen : ∀ (ops : List AOper) (env : Env) (s : St), eOps cf cv cp ops env s = some (ex, env', s') → (∀ id, ex ≠ .exit id) ∧ ex ≠ .ret := by
          intro ops
          induction ops with
          | nil => intro env s h; cases h; exact ⟨fun _ e => (by cases e), fun e => (by cases e)⟩
          | cons o r ih =>
            intro env s h
            have h' : (match eSop cf cv cp o env s with
              | some (.ret v, s') => forceV v fun v => eOps cf cv cp r (put o.dst v env) s'
              | some (.pan v, s') => some (.pan v, env, s')
              | none => none) = some (ex, env', s') := h
            split at h'
            · rw [forceV_eq] at h'; exact ih _ _ h'
            · cases h'; exact ⟨fun _ e => (by cases e), fun e => (by cases e)⟩
            · cases h'
        exact gen _ _ _ h'
      refine ⟨hx.1, hx.2, eSop_ok hcf hcv hcp h1 he hs fun ρ1 r1 σ1 q1 q2 q3 => ?_⟩
      obtain ⟨v', q4, rfl⟩ := q2
      exact (base ρ1 v' σ1 q1 q4 q3).2.2
    · rename_i v s1 h1
      cases h'
      refine ⟨fun _ e => (by cases e), fun e => (by cases e), eSop_ok hcf hcv hcp h1 he hs fun ρ1 r1 σ1 q1 q2 q3 => ?_⟩
      obtain ⟨v', q4, rfl⟩ := q2
      exact hp ρ1 v v' _ σ1 q1 rfl q4 (he.mono q1) q3
    · cases h'
/-! regions that draw -/
def eRe (cf : CF) (cv : CV) (cp : CP) (re : List AOper) (env : Env) (s : St) : Bool :=
  re.all fun x => match eSop cf cv cp x env s with
    | some (.ret u, _) => match x.dst with
      | none => true
      | some d => match get d env with | some w => beqV u w | none => false
    | _ => false
def eDops (cf : CF) (cv : CV) (cp : CP) : List DOper → Env → St → Rs
  | [], env, s => some (.normal, env, s)
  | d :: r, env, s => match eSop cf cv cp d.o env s with
    | some (.ret v, s') => forceV v fun v => bif eRe cf cv cp d.re (put d.o.dst v env) s' then eDops cf cv cp r (put d.o.dst v env) s' else none
    | some (.pan v, s') => some (.pan v, [], s')
    | none => none
theorem eRe_ok {cf : CF} {cv : CV} {cp : CP} (hcf : CallOk P cf) (hcv : CallVOk P cv) (hcp : PureOk P cp) {s : St} (he : RE ρ env env₀) (hs : SR P ρ s σ) : ∀ {re : List AOper}, eRe cf cv cp re env s = true → Rechks P re env₀ σ
  | [], _ => trivial
  | x :: r, h => by
    have h' : ((match eSop cf cv cp x env s with
      | some (.ret u, _) => match x.dst with
        | none => true
        | some d => match get d env with | some w => beqV u w | none => false
      | _ => false) && eRe cf cv cp r env s) = true := h
    simp only [Bool.and_eq_true] at h'
    refine ⟨?_, eRe_ok hcf hcv hcp he hs h'.2⟩
    have h1 := h'.1
    split at h1
    · rename_i u s1 hu
      refine eSop_ok hcf hcv hcp hu he hs fun ρ1 r1 σ1 q1 q2 q3 => ?_
      obtain ⟨u', q4, rfl⟩ := q2
      intro d hd
      rw [hd] at h1
      simp only at h1
      split at h1
      · rename_i w hw
        obtain ⟨w', g1, g2⟩ := he.get hw
        have e := beqV_eq _ _ h1
        subst e
        rw [g1, RV.fn u w' u' (RV.mono q1 _ _ g2) q4]
      · cases h1
    · cases h1
theorem eDops_ok {cf : CF} {cv : CV} {cp : CP} (hcf : CallOk P cf) (hcv : CallVOk P cv) (hcp : PureOk P cp) : ∀ {ops : List DOper} {env env₀ : Env} {ρ : Ren} {σ : Store} {s s' : St} {ex : AExit} {env' : Env}, eDops cf cv cp ops env s = some (ex, env', s') → RE ρ env env₀ → SR P ρ s σ →
    ∀ {K : Env → Store → Prop} {kp : V → Store → Prop}, (∀ ρ' env₁ σ', ρ.le ρ' → ex = .normal → RE ρ' env' env₁ → SR P ρ' s' σ' → K env₁ σ') → (∀ ρ' v v' σ', ρ.le ρ' → ex = .pan v → env' = [] → RV ρ' v v' → SR P ρ' s' σ' → kp v' σ') →
    Tdops P ops K kp env₀ σ
  | [], env, env₀, ρ, σ, s, s', ex, env', h, he, hs, K, kp, hK, hp => by cases h; exact hK ρ _ _ (.refl _) rfl he hs
  | d :: r, env, env₀, ρ, σ, s, s', ex, env', h, he, hs, K, kp, hK, hp => by
    simp only [Tdops]
    have h' : (match eSop cf cv cp d.o env s with
      | some (.ret v, s') => forceV v fun v => bif eRe cf cv cp d.re (put d.o.dst v env) s' then eDops cf cv cp r (put d.o.dst v env) s' else none
      | some (.pan v, s') => some (.pan v, [], s')
      | none => none) = some (ex, env', s') := h
    split at h'
    · rename_i v s1 h1
      rw [forceV_eq] at h'
      obtain ⟨h2, h3⟩ := bif_some h'
      refine eSop_ok hcf hcv hcp h1 he hs fun ρ1 r1 σ1 q1 q2 q3 => ?_
      obtain ⟨v', q4, rfl⟩ := q2
      have he' := (he.mono q1).put q4 d.o.dst
      exact ⟨eRe_ok hcf hcv hcp he' q3 h2, eDops_ok hcf hcv hcp h3 he' q3 (fun ρ' e₁ σ' p1 p2 p3 p4 => hK ρ' e₁ σ' (q1.trans p1) p2 p3 p4) (fun ρ' v v' σ' p1 p2 p3 p4 p5 => hp ρ' v v' σ' (q1.trans p1) p2 p3 p4 p5)⟩
    · rename_i v s1 h1
      cases h'
      refine eSop_ok hcf hcv hcp h1 he hs fun ρ1 r1 σ1 q1 q2 q3 => ?_
      obtain ⟨v', q4, rfl⟩ := q2
      exact hp ρ1 v v' σ1 q1 rfl rfl q4 q3
    · cases h'
/-! ### freezing -/
def mapO {α β : Type} (f : α → Option β) : List α → Option (List β)
  | [] => some []
  | x :: r => ob (f x) fun y => ob (mapO f r) fun ys => some (y :: ys)
def frz (s : St) : Nat → V → Option V
  | 0, _ => none
  | d + 1, v => bif pureV v then some v else
    match v with
    | .p n 0 => match s.t.get n with
      | some (.cs vs) => ob (mapO (frz s d) vs) fun us => some (.rp us)
      | _ => none
    | .sl n len _ => match s.t.get n with
      | some (.arr _ es) => bif Nat.beq len es.length then ob (mapO (mapO (frz s d)) es) fun us => some (.l us false) else none
      | _ => none
    | .a cs => ob (mapO (frz s d) cs) fun us => some (.a us)
    | .t cs => ob (mapO (frz s d) cs) fun us => some (.t us)
    | .rp cs => ob (mapO (frz s d) cs) fun us => some (.rp us)
    | .l es f => ob (mapO (mapO (frz s d)) es) fun us => some (.l us f)
    | .ifc t x => ob (frz s d x) fun u => some (.ifc t u)
    | _ => none
/-- the objects that are let go -/
def frzI (s : St) : Nat → V → List Nat
  | 0, _ => []
  | d + 1, v => bif pureV v then [] else
    match v with
    | .p n 0 => match s.t.get n with
      | some (.cs vs) => n :: vs.flatMap (frzI s d)
      | _ => []
    | .sl n _ _ => match s.t.get n with
      | some (.arr _ es) => n :: es.flatMap fun e => e.flatMap (frzI s d)
      | _ => []
    | .a cs => cs.flatMap (frzI s d)
    | .t cs => cs.flatMap (frzI s d)
    | .rp cs => cs.flatMap (frzI s d)
    | .l es _ => es.flatMap fun e => e.flatMap (frzI s d)
    | .ifc _ x => frzI s d x
    | _ => []
def delAll (s : St) : List Nat → St
  | [] => s
  | i :: r => match s.t.get i with
    | some _ => Tr.put none depthTr s.t i fun t => delAll ⟨s.nx, t⟩ r
    | none => delAll s r
theorem delAll_ok : ∀ {l : List Nat} {s : St} {σ : Store}, SR P ρ s σ → ∃ σ', SR P ρ (delAll s l) σ' ∧ Sub σ' σ ∧ ∀ i ∈ l, ∀ m, ρ i = some m → (s.t.get i).isSome = true → σ' m.1 = none
  | [], s, σ, h => ⟨σ, h, Sub.refl _, fun _ h => by cases h⟩
  | i :: r, s, σ, h => by
    simp only [delAll]
    split
    · rename_i o hg
      rw [Tr.put_eq]
      obtain ⟨m, hm, _⟩ := h.get i o hg
      obtain ⟨σ', h1, h2, h3⟩ := delAll_ok (l := r) (h.del hg hm)
      have hsub : Sub (del σ m.1) σ := sub_del σ m.1
      refine ⟨σ', h1, h2.trans hsub, fun j hj m' hm' hl => ?_⟩
      by_cases e : j = i
      · subst e
        rw [hm] at hm'; cases hm'
        exact h2.none (del_same σ m.1)
      · rcases List.mem_cons.1 hj with e' | hj
        · exact absurd e' e
        · refine h3 j hj m' hm' ?_
          show ((Tr.set none depthTr s.t i).get j).isSome = true
          rw [Tr.set_get _ _ _ (limD (h.lt hm)), if_neg e]
          exact hl
    · rename_i hg
      obtain ⟨σ', h1, h2, h3⟩ := delAll_ok (l := r) h
      refine ⟨σ', h1, h2, fun j hj m' hm' hl => ?_⟩
      rcases List.mem_cons.1 hj with e' | hj
      · subst e'; rw [hg] at hl; cases hl
      · exact h3 j hj m' hm' hl
theorem mapO_frz {f : V → Option V} {g : V → List Nat} {s : St} {σ σ' : Store} (hf : ∀ v v' u, f v = some u → RV ρ v v' → (∀ i ∈ g v, ∀ m, ρ i = some m → (s.t.get i).isSome = true → σ' m.1 = none) → Frz σ σ' v' u) : ∀ {vs vs' us : List V}, mapO f vs = some us → RVs ρ vs vs' →
    (∀ i ∈ vs.flatMap g, ∀ m, ρ i = some m → (s.t.get i).isSome = true → σ' m.1 = none) → FrzL σ σ' vs' us
  | [], _, _, h, h', _ => by cases h; cases h'; exact .nil
  | x :: r, _, us, h, ⟨y, ys, h1, h2, e⟩, hd => by
    subst e
    replace h := ob_some h; obtain ⟨u, h3, h⟩ := h
    replace h := ob_some h; obtain ⟨us, h4, h⟩ := h
    cases h
    exact .cons (hf _ _ _ h3 h1 fun i hi => hd i (by simp only [List.flatMap_cons, List.mem_append]; exact .inl hi)) (mapO_frz hf h4 h2 fun i hi => hd i (by simp only [List.flatMap_cons, List.mem_append]; exact .inr hi))
theorem mapO_frzR {f : V → Option V} {g : V → List Nat} {s : St} {σ σ' : Store} (hf : ∀ v v' u, f v = some u → RV ρ v v' → (∀ i ∈ g v, ∀ m, ρ i = some m → (s.t.get i).isSome = true → σ' m.1 = none) → Frz σ σ' v' u) : ∀ {vs vs' us : List (List V)}, mapO (mapO f) vs = some us → RRs ρ vs vs' →
    (∀ i ∈ vs.flatMap (fun e => e.flatMap g), ∀ m, ρ i = some m → (s.t.get i).isSome = true → σ' m.1 = none) → FrzR σ σ' vs' us
  | [], _, _, h, h', _ => by cases h; cases h'; exact .nil
  | x :: r, _, us, h, ⟨y, ys, h1, h2, e⟩, hd => by
    subst e
    replace h := ob_some h; obtain ⟨u, h3, h⟩ := h
    replace h := ob_some h; obtain ⟨us, h4, h⟩ := h
    cases h
    exact .cons (mapO_frz hf h3 h1 fun i hi => hd i (by simp only [List.flatMap_cons, List.mem_append]; exact .inl hi)) (mapO_frzR hf h4 h2 fun i hi => hd i (by simp only [List.flatMap_cons, List.mem_append]; exact .inr hi))
theorem frz_gone {s : St} (hs : SR P ρ s σ) {σ' : Store} : ∀ (d : Nat) (v v' u : V), frz s d v = some u → RV ρ v v' → (∀ i ∈ frzI s d v, ∀ m, ρ i = some m → (s.t.get i).isSome = true → σ' m.1 = none) → Frz σ σ' v' u
  | 0, _, _, _, h, _, _ => by cases h
  | d + 1, v, v', u, h, hv, hd => by
    have ih := frz_gone hs (σ' := σ') d
    simp only [frz] at h
    simp only [frzI] at hd
    cases hp : pureV v with
    | true =>
      rw [hp] at h
      cases h
      rw [RV.eqp hv hp]
      exact .refl _
    | false =>
      rw [hp] at h hd
      simp only [cond_false] at h hd
      split at h
      · obtain ⟨m, g1, rfl⟩ := hv
        split at h
        · rename_i vs hg
          replace h := ob_some h; obtain ⟨us, h1, h⟩ := h
          cases h
          simp only [hg] at hd
          obtain ⟨o', g2, vs', g3, rfl⟩ := hs.at hg g1
          exact .cs g2 (hd _ (.head _) m g1 (by rw [hg]; rfl)) (mapO_frz ih h1 g3 fun i hi => hd i (.tail _ hi))
        · cases h
      · obtain ⟨m, g1, rfl⟩ := hv
        split at h
        · rename_i es hg
          replace h := bif_some h; obtain ⟨h0, h⟩ := h
          replace h := ob_some h; obtain ⟨us, h1, h⟩ := h
          cases h
          simp only [hg] at hd
          obtain ⟨o', g2, es', g3, rfl⟩ := hs.at hg g1
          exact .arr g2 (hd _ (.head _) m g1 (by rw [hg]; rfl)) (by rw [g3.len]; exact nbeq h0) (mapO_frzR ih h1 g3 fun i hi => hd i (.tail _ hi))
        · cases h
      · replace h := ob_some h; obtain ⟨us, h1, h⟩ := h
        cases h
        obtain ⟨c, g1, rfl⟩ := hv
        exact .a (mapO_frz ih h1 (RL_eq.1 g1) hd)
      · replace h := ob_some h; obtain ⟨us, h1, h⟩ := h
        cases h
        obtain ⟨c, g1, rfl⟩ := hv
        exact .t (mapO_frz ih h1 (RL_eq.1 g1) hd)
      · replace h := ob_some h; obtain ⟨us, h1, h⟩ := h
        cases h
        obtain ⟨c, g1, rfl⟩ := hv
        exact .rp (mapO_frz ih h1 (RL_eq.1 g1) hd)
      · replace h := ob_some h; obtain ⟨us, h1, h⟩ := h
        cases h
        obtain ⟨c, g1, rfl⟩ := hv
        exact .l (fun e => e) (mapO_frzR ih h1 (RR_eq.1 g1) hd)
      · replace h := ob_some h; obtain ⟨us, h1, h⟩ := h
        cases h
        obtain ⟨c, g1, rfl⟩ := hv
        exact .ifc (ih _ _ _ h1 g1 hd)
      · cases h
theorem frz_ok {s : St} (hs : SR P ρ s σ) (d : Nat) (v v' u : V) (h : frz s d v = some u) (hv : RV ρ v v') : Frz σ emp v' u := frz_gone hs d v v' u h hv fun _ _ _ _ _ => rfl
theorem mapO_pure {f : V → Option V} (hf : ∀ v u, f v = some u → pureV u = true) : ∀ {vs us : List V}, mapO f vs = some us → pureL us = true
  | [], _, h => by cases h; rfl
  | x :: r, us, h => by
    replace h := ob_some h; obtain ⟨u, h3, h⟩ := h
    replace h := ob_some h; obtain ⟨us, h4, h⟩ := h
    cases h
    simp only [pureL, hf _ _ h3, mapO_pure hf h4, Bool.and_self]
theorem mapO_pureR {f : V → Option V} (hf : ∀ v u, f v = some u → pureV u = true) : ∀ {vs us : List (List V)}, mapO (mapO f) vs = some us → pureR us = true
  | [], _, h => by cases h; rfl
  | x :: r, us, h => by
    replace h := ob_some h; obtain ⟨u, h3, h⟩ := h
    replace h := ob_some h; obtain ⟨us, h4, h⟩ := h
    cases h
    simp only [pureR, mapO_pure hf h3, mapO_pureR hf h4, Bool.and_self]
theorem frz_pure (s : St) : ∀ (d : Nat) (v u : V), frz s d v = some u → pureV u = true
  | 0, _, _, h => by cases h
  | d + 1, v, u, h => by
    have ih := frz_pure s d
    simp only [frz] at h
    cases hp : pureV v with
    | true => rw [hp] at h; cases h; exact hp
    | false =>
      rw [hp] at h
      simp only [cond_false] at h
      split at h
      · split at h
        · replace h := ob_some h; obtain ⟨us, h1, h⟩ := h
          cases h; simp only [pureV]; exact mapO_pure ih h1
        · cases h
      · split at h
        · replace h := bif_some h; obtain ⟨h0, h⟩ := h
          replace h := ob_some h; obtain ⟨us, h1, h⟩ := h
          cases h; simp only [pureV]; exact mapO_pureR ih h1
        · cases h
      · replace h := ob_some h; obtain ⟨us, h1, h⟩ := h
        cases h; simp only [pureV]; exact mapO_pure ih h1
      · replace h := ob_some h; obtain ⟨us, h1, h⟩ := h
        cases h; simp only [pureV]; exact mapO_pure ih h1
      · replace h := ob_some h; obtain ⟨us, h1, h⟩ := h
        cases h; simp only [pureV]; exact mapO_pure ih h1
      · replace h := ob_some h; obtain ⟨us, h1, h⟩ := h
        cases h; simp only [pureV]; exact mapO_pureR ih h1
      · replace h := ob_some h; obtain ⟨us, h1, h⟩ := h
        cases h; simp only [pureV]; exact ih _ _ h1
      · cases h
def frzD : Nat := 60
def frzR : Option (R × St) → Option (R × St)
  | some (.ret v, s) => ob (frz s frzD v) fun u => some (.ret u, delAll s (frzI s frzD v))
  | r => r
/-- a contract whose result is let go -/
theorem Ctr.frz {f : FuncId} {args : List V} {σ : Store} {Q Q' : R → Store → Prop} (h : Ctr P f args σ Q) (hq : ∀ r σ', Q r σ' → (∃ v vf σ'', r = .ret v ∧ Sub σ'' σ' ∧ Frz σ' σ'' v vf ∧ Q' (.ret vf) σ'') ∨ Q' r σ') : Ctr P f args σ Q' :=
  ⟨h.1, fun Λ w cs h1 h2 => Calls.mono (h.2 Λ w cs h1 h2) fun e w' ⟨r, σ', q1, q2, q3, q4⟩ => by
    rcases hq r σ' q1 with ⟨v, vf, σ'', rfl, p1, p2, p3⟩ | h
    · obtain ⟨c, rfl, q5⟩ := q2
      exact ⟨.ret vf, σ'', p3, ⟨c, rfl, p2.rel q3 p1 q5⟩, q3.drop p1, q4.trans (Adv.drop w' p1)⟩
    · exact ⟨r, σ', h, q2, q3, q4⟩⟩
/-! ### functions -/
inductive FnS where
  | fn (n : Nat) (ac : ACode) (slots : List RS)
  | dfr (n : Nat) (aA : ACode) (ops : List AOper) (x : Opd) (aC : ACode) (slots : List RS) (l1 l2 : List Nat)
  | rcv (n : Nat) (k : Nat) (ops : List AOper) (ac : ACode) (l : List Nat)
  | fnz (n : Nat) (ac : ACode) (slots : List RS)
  | prim (c : List V → St → Option (R × St))
  | pld (n : Nat) (ac : ACode)
def FnOk (P : Program) (f : FuncId) : FnS → Prop
  | .fn n ac slots => ∀ (args : List V) (σ : Store) (Q : R → Store → Prop), args.length ≤ n → T P ac (RetC slots Q) (argEnv 0 args) σ → Ctr P f args σ Q
  | .fnz n ac slots => ∀ (args : List V) (σ : Store) (Q : R → Store → Prop), args.length ≤ n → T P ac (RetC slots Q) (argEnv 0 args) σ → Ctr P f args σ Q
  | .dfr n aA ops x aC slots l1 l2 => ∀ (args : List V) (σ : Store) (Q : R → Store → Prop), args.length ≤ n → T P (.seq l1 aA (.reg ops)) (onNormal (dfrK P x l2 aC slots Q)) (argEnv 0 args) σ → Ctr P f args σ Q
  | .rcv n k ops ac l => ∀ (args : List V) (m : Option V) (σ : Store) (Q : Store → Prop), args.length ≤ n → T P (.seq l (.reg ops) ac) (DefQ Q) (put (some k) (m.getD .inil) (argEnv 0 args)) σ → CtrD P f args m σ Q
  | .prim c => ∀ vs s r s', c vs s = some (r, s') → ∀ ρ vs' σ, RVs ρ vs vs' → SR P ρ s σ → ∀ Q : R → Store → Prop, (∀ ρ' r' σ', ρ.le ρ' → RR1 ρ' r r' → SR P ρ' s' σ' → Q r' σ') → Ctr P f vs' σ Q
  | .pld n ac => ∀ (args : List V) (σ : Store) (Q : Store → Prop), args.length ≤ n → T P ac (DefQ Q) (argEnv 0 args) σ → CtrD P f args none σ Q
abbrev Tab := FuncId → Option FnS
def TabOk (P : Program) (tab : Tab) : Prop := ∀ f fs, tab f = some fs → FnOk P f fs
abbrev Memo := FuncId → List (List V × V)
def MemoOk (P : Program) (memo : Memo) : Prop := ∀ f, ∀ m ∈ memo f, pureL m.1 = true ∧ pureV m.2 = true ∧ Pure P f m.1 m.2
def eRs (s : St) (env : Env) : List RS → Option (List V)
  | [] => some []
  | .t n :: r => ob (get n env) fun v => ob (eRs s env r) fun vs => some (v :: vs)
  | .c n g :: r => ob (get n env) fun a => ob (eLoad s g a) fun v => ob (eRs s env r) fun vs => some (v :: vs)
theorem eRs_ok {s : St} (he : RE ρ env env₀) (hs : SR P ρ s σ) : ∀ {l : List RS} {vs : List V}, eRs s env l = some vs → ∀ {K : List V → Prop}, (∀ vs', RVs ρ vs vs' → K vs') → wRs σ env₀ l K
  | [], vs, h, K, hK => by cases h; exact hK _ F2.nil
  | .t n :: r, vs, h, K, hK => by
    replace h := ob_some h; obtain ⟨v, h1, h⟩ := h
    replace h := ob_some h; obtain ⟨us, h2, h⟩ := h
    cases h
    obtain ⟨v', e1, e2⟩ := he.get h1
    simp only [wRs, e1, wv_some]
    exact eRs_ok he hs h2 fun us' hu => hK _ (F2.cons e2 hu)
  | .c n g :: r, vs, h, K, hK => by
    replace h := ob_some h; obtain ⟨a, h1, h⟩ := h
    replace h := ob_some h; obtain ⟨v, h3, h⟩ := h
    replace h := ob_some h; obtain ⟨us, h2, h⟩ := h
    cases h
    obtain ⟨v', e1, e2⟩ := he.get h1
    simp only [wRs, e1, wv_some]
    exact eLoad_ok hs h3 e2 fun w hw => eRs_ok he hs h2 fun us' hu => hK _ (F2.cons hw hu)
theorem tupV_ok {vs vs' : List V} (h : RVs ρ vs vs') : RV ρ (tupV vs) (tupV vs') := by
  match vs, vs', h with
  | [], _, h => cases h; simp only [tupV, RV]; exact ⟨[], RL_eq.2 F2.nil, rfl⟩
  | [v], _, ⟨y, ys, h1, h2, e⟩ => cases h2; subst e; exact h1
  | v :: u :: r, _, ⟨y, ys, h1, ⟨z, zs, h2, h3, e⟩, e'⟩ =>
    subst e; subst e'
    show RV ρ (.t (v :: u :: r)) (.t (y :: z :: zs))
    simp only [RV]
    exact ⟨_, RL_eq.2 (F2.cons h1 (F2.cons h2 h3)), rfl⟩
/-- a call's end -/
def endC (slots : List RS) (r : Rs) : Option (R × St) :=
  match r with
  | some (.normal, env, s) => ob (eRs s env slots) fun vs => some (.ret (tupV vs), s)
  | some (.ret, env, s) => ob (eRs s env slots) fun vs => some (.ret (tupV vs), s)
  | some (.pan v, _, s) => some (.pan v, s)
  | _ => none
/-- a deferred call at the end -/
def endD (tab : Tab) (ih : ACode → Env → St → Rs) (g : FuncId) (cap : List V) (m : Option V) (slots : List RS) (env : Env) (s : St) : Option (R × St) :=
  match tab g with
  | some (.rcv n k ops ac l) => bif Nat.ble cap.length n then
      match ih (.seq l (.reg ops) ac) (put (some k) (m.getD .inil) (argEnv 0 cap)) s with
      | some (.normal, _, s') => ob (eRs s' env slots) fun vs => some (.ret (tupV vs), s')
      | some (.ret, _, s') => ob (eRs s' env slots) fun vs => some (.ret (tupV vs), s')
      | _ => none
    else none
  | some (.pld n ac) => match m with
    | some _ => none
    | none => bif Nat.ble cap.length n then
      match ih ac (argEnv 0 cap) s with
      | some (.normal, _, s') => ob (eRs s' env slots) fun vs => some (.ret (tupV vs), s')
      | some (.ret, _, s') => ob (eRs s' env slots) fun vs => some (.ret (tupV vs), s')
      | _ => none
    else none
  | _ => none
def callT (tab : Tab) (ih : ACode → Env → St → Rs) (f : FuncId) (vs : List V) (s : St) : Option (R × St) :=
  match tab f with
  | some (.fn n ac slots) => bif Nat.ble vs.length n then endC slots (ih ac (argEnv 0 vs) s) else none
  | some (.dfr n aA ops x aC slots l1 l2) => bif Nat.ble vs.length n then
      match ih (.seq l1 aA (.reg ops)) (argEnv 0 vs) s with
      | some (.normal, env, s1) => match evx env x with
        | some (.f (.func g) [] cap) => match ih aC (prune l2 env) s1 with
          | some (.normal, env2, s2) => endD tab ih g cap none slots env2 s2
          | some (.ret, env2, s2) => endD tab ih g cap none slots env2 s2
          | some (.pan v, env2, s2) => endD tab ih g cap (some v) slots env2 s2
          | _ => none
        | _ => none
      | _ => none
    else none
  | some (.fnz n ac slots) => bif Nat.ble vs.length n then frzR (endC slots (ih ac (argEnv 0 vs) s)) else none
  | some (.prim c) => c vs s
  | _ => none
def findM (vs : List V) : List (List V × V) → Option V
  | [] => none
  | m :: r => bif beqL m.1 vs then some m.2 else findM vs r
def callFn (tab : Tab) (memo : Memo) (ih : ACode → Env → St → Rs) : CF := fun f vs s =>
  match memo f with
  | [] => callT tab ih f vs s
  | m :: r => match findM vs (m :: r) with
    | some v => some (.ret v, s)
    | none => callT tab ih f vs s
def callVF (tab : Tab) (memo : Memo) (ih : ACode → Env → St → Rs) : CV := fun x vs s =>
  match x with
  | .f (.func f) first cap => callFn tab memo ih f (first ++ vs ++ cap) s
  | .f (.yield L) [] [] => match s.t.get L with
    | some (.loop .ready env ps a b) => bif Nat.beq vs.length ps.length then
        Tr.put none depthTr s.t L fun t => match ih a (bindPs ps vs env) ⟨s.nx, t⟩ with
        | some (.normal, env1, s1) => match ih b env1 s1 with
          | some (.normal, _, s2) => Tr.put (some (.loop .ready env ps a b)) depthTr s2.t L fun t => some (.ret (.b true), ⟨s2.nx, t⟩)
          | some (.ret, _, s2) => Tr.put (some (.loop .ret env ps a b)) depthTr s2.t L fun t => some (.ret (.b false), ⟨s2.nx, t⟩)
          | some (.exit id, _, s2) => Tr.put (some (.loop (.exit id) env ps a b)) depthTr s2.t L fun t => some (.ret (.b false), ⟨s2.nx, t⟩)
          | some (.pan v, _, s2) => some (.pan v, s2)
          | none => none
        | _ => none
      else none
    | _ => none
  | _ => none
def callP (tab : Tab) (memo : Memo) (ih : ACode → Env → St → Rs) : CP := fun f vs =>
  bif pureL vs then match callFn tab memo ih f vs ⟨0, .leaf⟩ with
    | some (.ret v, s) => match frz s frzD v with
      | some u => bif pureV u then some u else none
      | none => none
    | _ => none
  else none
/-! ### code -/
def eStep (tab : Tab) (memo : Memo) (ih : ACode → Env → St → Rs) (c : ACode) (env : Env) (s : St) : Rs :=
  match c with
  | .skip => some (.normal, env, s)
  | .ret => some (.ret, env, s)
  | .exit id => some (.exit id, env, s)
  | .reg ops => eOps (callFn tab memo ih) (callVF tab memo ih) (callP tab memo ih) ops env s
  | .dreg l ops => match eDops (callFn tab memo ih) (callVF tab memo ih) (callP tab memo ih) ops env s with
    | some (.normal, env', s') => some (.normal, prune l env', s')
    | r => r
  | .seq l a b => match ih a env s with
    | some (.normal, env', s') => ih b (prune l env') s'
    | r => r
  | .cond c a b => match evx env c with
    | some (.b true) => ih a env s
    | some (.b false) => ih b env s
    | _ => none
  | .block id a => match ih a env s with
    | some (.exit id', env', s') => bif Nat.beq id' id then some (.normal, env', s') else some (.exit id', env', s')
    | r => r
  | .scope a => ih a env s
  | .loop l a => match ih a (prune l env) s with
    | some (.normal, env', s') => ih (.loop l a) env' s'
    | r => r
  | .rangef l g ps a b => match evx env g with
    | some (.f (.func gf) [] cap) => s.new (.loop .ready (prune l env) ps a b) fun i s1 =>
        match callFn tab memo ih gf (.f (.yield i) [] [] :: cap) s1 with
        | some (.ret _, s2) => match s2.t.get i with
          | some (.loop st _ _ _ _) => Tr.put none depthTr s2.t i fun t => some ((match st with | .ready => .normal | .ret => .ret | .exit id => .exit id), env, ⟨s2.nx, t⟩)
          | _ => none
        | some (.pan v, s2) => match s2.t.get i with
          | some _ => Tr.put none depthTr s2.t i fun t => some (.pan v, env, ⟨s2.nx, t⟩)
          | none => none
        | none => none
    | _ => none
def run (tab : Tab) (memo : Memo) : Nat → ACode → Env → St → Rs
  | 0, _, _, _ => none
  | n + 1, c, env, s => eStep tab memo (run tab memo n) c env s
def RunOk (P : Program) (ih : ACode → Env → St → Rs) : Prop := ∀ c env s ex env' s', ih c env s = some (ex, env', s') → ∀ ρ env₀ σ, RE ρ env env₀ → SR P ρ s σ →
  ∀ Q : AExit → Env → Store → Prop, (∀ ρ' ex₀ env₁ σ', ρ.le ρ' → REx ρ' ex ex₀ → RE ρ' env' env₁ → SR P ρ' s' σ' → Q ex₀ env₁ σ') → T P c Q env₀ σ
theorem REx.normal {ex : AExit} (h : REx ρ .normal ex) : ex = .normal := h
theorem endC_ok {slots : List RS} {ex : AExit} {env' : Env} {s1 s' : St} {r : R} (h : endC slots (some (ex, env', s1)) = some (r, s')) {Q : R → Store → Prop}
    (hQ : ∀ ρ' r' σ', ρ.le ρ' → RR1 ρ' r r' → SR P ρ' s' σ' → Q r' σ') {ρ' : Ren} {ex₀ : AExit} {env₁ : Env} {σ' : Store} (q1 : ρ.le ρ') (q2 : REx ρ' ex ex₀) (q3 : RE ρ' env' env₁) (q4 : SR P ρ' s1 σ') : RetC slots Q ex₀ env₁ σ' := by
  cases ex with
  | normal =>
    cases q2
    replace h := ob_some h; obtain ⟨vs, h1, h⟩ := h
    cases h
    exact eRs_ok q3 q4 h1 fun vs' hv => ⟨_, σ', Sub.refl _, .refl _, hQ ρ' _ σ' q1 ⟨_, tupV_ok hv, rfl⟩ q4⟩
  | ret =>
    cases q2
    replace h := ob_some h; obtain ⟨vs, h1, h⟩ := h
    cases h
    exact eRs_ok q3 q4 h1 fun vs' hv => ⟨_, σ', Sub.refl _, .refl _, hQ ρ' _ σ' q1 ⟨_, tupV_ok hv, rfl⟩ q4⟩
  | exit id => cases h
  | pan v =>
    cases h
    obtain ⟨v', h1, rfl⟩ := q2
    exact ⟨v', σ', Sub.refl _, .refl _, hQ ρ' (.pan v') σ' q1 ⟨v', h1, rfl⟩ q4⟩
theorem CtrD.mono {f : FuncId} {args : List V} {m : Option V} {σ : Store} {Q Q' : Store → Prop} (h : CtrD P f args m σ Q) (hq : ∀ σ', Q σ' → Q' σ') : CtrD P f args m σ Q' :=
  ⟨h.1, fun Λ w cs u h1 h2 h3 => CallsDIn.mono (h.2 Λ w cs u h1 h2 h3) fun e u' w' ⟨a, b, σ', c, d⟩ => ⟨a, b, σ', hq _ c, d⟩⟩
theorem endD_ok {tab : Tab} (ht : TabOk P tab) {ih : ACode → Env → St → Rs} (hi : RunOk P ih) {g : FuncId} {cap cap' : List V} {m m' : Option V} {slots : List RS} {s s' : St} {r : R} (h : endD tab ih g cap m slots env s = some (r, s'))
    (he : RE ρ env env₀) (hs : SR P ρ s σ) (hc : RVs ρ cap cap') (hm : RVo ρ m m') {Q : R → Store → Prop} (hQ : ∀ ρ' r' σ', ρ.le ρ' → RR1 ρ' r r' → SR P ρ' s' σ' → Q r' σ') :
    CtrD P g cap' m' σ fun σ' => wRs σ' env₀ slots fun vs => Done σ' (tupV vs) Q := by
  unfold endD at h
  split at h
  · rename_i n k ops ac l htab
    obtain ⟨h1, h2⟩ := bif_some h
    have hg : RV ρ (m.getD .inil) (m'.getD .inil) := by
      cases m with
      | none => cases hm; exact RV.pure _ rfl
      | some v => obtain ⟨v', h3, rfl⟩ := hm; exact h3
    have fin : ∀ {ex : AExit} {e2 : Env} {s2 : St}, ih (.seq l (.reg ops) ac) (put (some k) (m.getD .inil) (argEnv 0 cap)) s = some (ex, e2, s2) → (ex = .normal ∨ ex = .ret) → (ob (eRs s2 env slots) fun vs => some (R.ret (tupV vs), s2)) = some (r, s') →
        CtrD P g cap' m' σ fun σ' => wRs σ' env₀ slots fun vs => Done σ' (tupV vs) Q := fun {ex e2 s2} q1 q2 q3 => by
      obtain ⟨vs, q4, q5⟩ := ob_some q3
      cases q5
      refine ht g _ htab cap' m' σ _ (by rw [hc.len]; exact Nat.le_of_ble_eq_true h1) ?_
      refine hi _ _ _ _ _ _ q1 ρ _ σ ((RE.args hc).put hg (some k)) hs _ fun ρ' ex₀ e₁ σ' p1 p2 p3 p4 => ?_
      have base : wRs σ' env₀ slots fun vs => Done σ' (tupV vs) Q := eRs_ok (he.mono p1) p4 q4 fun vs' hv => ⟨_, σ', Sub.refl _, .refl _, hQ ρ' _ σ' p1 ⟨_, tupV_ok hv, rfl⟩ p4⟩
      rcases q2 with e | e
      · subst e; cases p2; exact base
      · subst e; cases p2; exact base
    split at h2
    · rename_i hr; exact fin hr (.inl rfl) h2
    · rename_i hr; exact fin hr (.inr rfl) h2
    · cases h2
  · rename_i n ac htab
    cases m with
    | some v => cases h
    | none =>
      cases hm
      obtain ⟨h1, h2⟩ := bif_some h
      have fin : ∀ {ex : AExit} {e2 : Env} {s2 : St}, ih ac (argEnv 0 cap) s = some (ex, e2, s2) → (ex = .normal ∨ ex = .ret) → (ob (eRs s2 env slots) fun vs => some (R.ret (tupV vs), s2)) = some (r, s') →
          CtrD P g cap' none σ fun σ' => wRs σ' env₀ slots fun vs => Done σ' (tupV vs) Q := fun {ex e2 s2} q1 q2 q3 => by
        obtain ⟨vs, q4, q5⟩ := ob_some q3
        cases q5
        refine ht g _ htab cap' σ _ (by rw [hc.len]; exact Nat.le_of_ble_eq_true h1) ?_
        refine hi _ _ _ _ _ _ q1 ρ _ σ (RE.args hc) hs _ fun ρ' ex₀ e₁ σ' p1 p2 p3 p4 => ?_
        have base : wRs σ' env₀ slots fun vs => Done σ' (tupV vs) Q := eRs_ok (he.mono p1) p4 q4 fun vs' hv => ⟨_, σ', Sub.refl _, .refl _, hQ ρ' _ σ' p1 ⟨_, tupV_ok hv, rfl⟩ p4⟩
        rcases q2 with e | e
        · subst e; cases p2; exact base
        · subst e; cases p2; exact base
      split at h2
      · rename_i hr; exact fin hr (.inl rfl) h2
      · rename_i hr; exact fin hr (.inr rfl) h2
      · cases h2
  · cases h
theorem callT_ok {tab : Tab} (ht : TabOk P tab) {ih : ACode → Env → St → Rs} (hi : RunOk P ih) : CallOk P (callT tab ih) := by
  intro f vs s r s' h ρ vs' σ hv hs Q hQ
  unfold callT at h
  split at h
  · rename_i n ac slots htab
    obtain ⟨h1, h2⟩ := bif_some h
    cases hr : ih ac (argEnv 0 vs) s with
    | none => rw [hr] at h2; cases h2
    | some x =>
      obtain ⟨ex, env', s1⟩ := x
      rw [hr] at h2
      refine ht f _ htab vs' σ Q (by rw [hv.len]; exact Nat.le_of_ble_eq_true h1) ?_
      exact hi _ _ _ _ _ _ hr ρ _ σ (RE.args hv) hs _ fun ρ' ex₀ e₁ σ' p1 p2 p3 p4 => endC_ok h2 hQ p1 p2 p3 p4
  · rename_i n aA ops x aC slots l1 l2 htab
    obtain ⟨h1, h2⟩ := bif_some h
    split at h2
    · rename_i env1 s1 hr1
      split at h2
      · rename_i g cap hx
        refine ht f _ htab vs' σ Q (by rw [hv.len]; exact Nat.le_of_ble_eq_true h1) ?_
        refine hi _ _ _ _ _ _ hr1 ρ _ σ (RE.args hv) hs _ fun ρ1 ex₀ e₁ σ1 p1 p2 p3 p4 => ?_
        cases p2
        obtain ⟨x', q1, fn', a', b', q2, q3, q4, rfl⟩ := evx_ok p3 hx
        simp only [RFn] at q2
        subst q2
        have q3 := RL_eq.1 q3
        cases q3
        show dfrK P x l2 aC slots Q e₁ σ1
        simp only [dfrK, q1, wv_some]
        split at h2
        · rename_i env2 s2 hr2
          refine hi _ _ _ _ _ _ hr2 ρ1 _ σ1 (p3.prune l2) p4 _ fun ρ2 ex₀ e₂ σ2 u1 u2 u3 u4 => ?_
          cases u2
          exact endD_ok ht hi h2 u3 u4 (RVs.mono u1 (RL_eq.1 q4)) rfl fun ρ3 r' σ3 w1 w2 w3 => hQ ρ3 r' σ3 ((p1.trans u1).trans w1) w2 w3
        · rename_i env2 s2 hr2
          refine hi _ _ _ _ _ _ hr2 ρ1 _ σ1 (p3.prune l2) p4 _ fun ρ2 ex₀ e₂ σ2 u1 u2 u3 u4 => ?_
          cases u2
          exact endD_ok ht hi h2 u3 u4 (RVs.mono u1 (RL_eq.1 q4)) rfl fun ρ3 r' σ3 w1 w2 w3 => hQ ρ3 r' σ3 ((p1.trans u1).trans w1) w2 w3
        · rename_i v env2 s2 hr2
          refine hi _ _ _ _ _ _ hr2 ρ1 _ σ1 (p3.prune l2) p4 _ fun ρ2 ex₀ e₂ σ2 u1 u2 u3 u4 => ?_
          obtain ⟨v', u5, rfl⟩ := u2
          exact endD_ok ht hi h2 u3 u4 (RVs.mono u1 (RL_eq.1 q4)) ⟨v', u5, rfl⟩ fun ρ3 r' σ3 w1 w2 w3 => hQ ρ3 r' σ3 ((p1.trans u1).trans w1) w2 w3
        · cases h2
      · cases h2
    · cases h2
  · rename_i n ac slots htab
    replace h := bif_some h; obtain ⟨h1, h2⟩ := h
    cases hr : ih ac (argEnv 0 vs) s with
    | none => rw [hr] at h2; cases h2
    | some x =>
      obtain ⟨ex, env', s1⟩ := x
      rw [hr] at h2
      cases he : endC slots (some (ex, env', s1)) with
      | none => rw [he] at h2; cases h2
      | some y =>
        obtain ⟨r1, s2⟩ := y
        rw [he] at h2
        have hc : Ctr P f vs' σ fun r' σ' => ∃ ρ', ρ.le ρ' ∧ RR1 ρ' r1 r' ∧ SR P ρ' s2 σ' := by
          refine ht f _ htab vs' σ _ (by rw [hv.len]; exact Nat.le_of_ble_eq_true h1) ?_
          exact hi _ _ _ _ _ _ hr ρ _ σ (RE.args hv) hs _ fun ρ' ex₀ e₁ σ' p1 p2 p3 p4 => endC_ok he (fun ρ' r' σ' a b c => ⟨ρ', a, b, c⟩) p1 p2 p3 p4
        refine hc.frz fun r' σ' ⟨ρ', q1, q2, q3⟩ => ?_
        cases r1 with
        | pan v =>
          cases h2
          exact .inr (hQ ρ' _ _ q1 q2 q3)
        | ret v =>
          obtain ⟨v', q4, rfl⟩ := q2
          obtain ⟨u, h3, h4⟩ := ob_some h2
          cases h4
          obtain ⟨σ'', g1, g2, g3⟩ := delAll_ok (l := frzI s2 frzD v) q3
          by_cases hp : pureV u = true
          · exact .inl ⟨v', u, σ'', rfl, g2, frz_gone q3 frzD v v' u h3 q4 g3, hQ ρ' _ _ q1 ⟨u, RV.pure u hp, rfl⟩ g1⟩
          · exact absurd (frz_pure s2 frzD v u h3) hp
  · rename_i c htab
    exact ht f _ htab vs s r s' h ρ vs' σ hv hs Q hQ
  · cases h
theorem findM_ok {vs : List V} : ∀ {l : List (List V × V)} {v : V}, findM vs l = some v → (vs, v) ∈ l
  | [], _, h => by cases h
  | m :: r, v, h => by
    simp only [findM] at h
    cases hb : beqL m.1 vs with
    | true =>
      rw [hb] at h
      cases h
      have := beqL_eq _ _ hb
      obtain ⟨a, b⟩ := m
      subst this
      exact .head _
    | false => rw [hb] at h; exact .tail _ (findM_ok h)
theorem callFn_ok {tab : Tab} (ht : TabOk P tab) {memo : Memo} (hm : MemoOk P memo) {ih : ACode → Env → St → Rs} (hi : RunOk P ih) : CallOk P (callFn tab memo ih) := by
  intro f vs s r s' h ρ vs' σ hv hs Q hQ
  unfold callFn at h
  split at h
  · exact callT_ok ht hi f vs s r s' h ρ vs' σ hv hs Q hQ
  · rename_i m l hml
    split at h
    · rename_i v hf
      cases h
      have hmem := findM_ok hf
      rw [← hml] at hmem
      obtain ⟨h1, h2, h3⟩ := hm f _ hmem
      rw [eqpL hv h1]
      refine (h3.use (σ := σ) (k := fun v σ' => Q (.ret v) σ') (kp := fun v σ' => Q (.pan v) σ') ?_).mono fun r σ' h => ?_
      · exact hQ ρ _ σ (.refl _) ⟨v, RV.pure v h2, rfl⟩ hs
      · cases r <;> exact h
    · exact callT_ok ht hi f vs s r s' h ρ vs' σ hv hs Q hQ
/-- an object comes back under its number -/
theorem SR.back {s : St} (hs : SR P ρ s σ) {i : Nat} {m : Nat × Nat} (hm : ρ i = some m) (hn : σ m.1 = none) {o1 : EO} {o1' : O} (ho : RO P ρ m.2 o1 o1') :
    SR P ρ ⟨s.nx, Tr.set (some o1) depthTr s.t i⟩ (Gl.upd σ m.1 o1') := by
  have hl := limD (hs.lt hm)
  have hno : s.t.get i = none := by
    cases hg : s.t.get i with
    | none => rfl
    | some o =>
      obtain ⟨o', h1, _⟩ := hs.at hg hm
      rw [hn] at h1; cases h1
  have nm : ∀ {j q m1}, s.t.get j = some q → ρ j = some m1 → m1.1 ≠ m.1 := fun {j q m1} h1 h2 e => by
    obtain ⟨o', h3, _⟩ := hs.at h1 h2
    rw [e, hn] at h3; cases h3
  refine ⟨fun j o2 h1 => ?_, fun j j' o2 o3 m1 m2 h1 h2 h3 h4 h5 => ?_, hs.nxt, hs.lim⟩
  · rw [Tr.set_get _ _ _ hl] at h1
    by_cases e : j = i
    · subst e
      rw [if_pos rfl] at h1
      cases h1
      exact ⟨m, hm, o1', upd_same _ _ _, ho⟩
    · rw [if_neg e] at h1
      obtain ⟨m1, h2, o3, h3, h4⟩ := hs.get j o2 h1
      exact ⟨m1, h2, o3, by rw [upd_ne _ _ (nm h1 h2)]; exact h3, h4⟩
  · rw [Tr.set_get _ _ _ hl] at h1 h2
    by_cases e : j = i <;> by_cases e' : j' = i
    · omega
    · exfalso
      subst e
      rw [if_neg e'] at h2
      rw [hm] at h3; cases h3
      exact nm h2 h4 h5.symm
    · exfalso
      subst e'
      rw [if_neg e] at h1
      rw [hm] at h4; cases h4
      exact nm h1 h3 h5
    · rw [if_neg e] at h1
      rw [if_neg e'] at h2
      exact hs.inj j j' o2 o3 m1 m2 h1 h2 h3 h4 h5
theorem callVF_ok {tab : Tab} (ht : TabOk P tab) {memo : Memo} (hm : MemoOk P memo) {ih : ACode → Env → St → Rs} (hi : RunOk P ih) : CallVOk P (callVF tab memo ih) := by
  intro x vs s r s' h ρ x' vs' σ hx hv hs Q hQ
  unfold callVF at h
  split at h
  · rename_i f first cap
    obtain ⟨fn', a', b', h1, h2, h3, rfl⟩ := hx
    simp only [RFn] at h1
    subst h1
    exact callFn_ok ht hm hi f _ s r s' h ρ _ σ (((RL_eq.1 h2).app hv).app (RL_eq.1 h3)) hs Q hQ
  · rename_i L
    obtain ⟨fn', a', b', ⟨m, h1, rfl⟩, h2, h3, rfl⟩ := hx
    have h2 := RL_eq.1 h2
    have h3 := RL_eq.1 h3
    cases h2
    cases h3
    split at h
    · rename_i env1 ps a b hg
      obtain ⟨o', g1, env1', g2, rfl⟩ := hs.at hg h1
      obtain ⟨h4, h5⟩ := bif_some h
      rw [Tr.put_eq] at h5
      show CtrY P m.1 vs' σ Q
      refine ctrY_of_T2 g1 (by rw [hv.len]; exact nbeq h4) ?_
      split at h5
      · rename_i e2 s1 hr1
        refine hi _ _ _ _ _ _ hr1 ρ _ _ (RE.binds hv g2) (hs.del hg h1) _ fun ρ1 ex₀ e₁ σ1 p1 p2 p3 p4 => ?_
        cases p2
        show T P b _ e₁ σ1
        have hm1 := p1 _ _ h1
        split at h5
        · rename_i e3 s2 hr2
          refine hi _ _ _ _ _ _ hr2 ρ1 _ _ p3 p4 _ fun ρ2 ex₀ e₂ σ2 u1 u2 u3 u4 hno => ?_
          cases u2
          rw [Tr.put_eq] at h5
          cases h5
          exact hQ ρ2 _ _ (p1.trans u1) ⟨_, RV.pure _ rfl, rfl⟩ (u4.back (u1 _ _ hm1) hno ⟨_, g2.mono (p1.trans u1), rfl⟩)
        · rename_i e3 s2 hr2
          refine hi _ _ _ _ _ _ hr2 ρ1 _ _ p3 p4 _ fun ρ2 ex₀ e₂ σ2 u1 u2 u3 u4 hno => ?_
          cases u2
          rw [Tr.put_eq] at h5
          cases h5
          exact hQ ρ2 _ _ (p1.trans u1) ⟨_, RV.pure _ rfl, rfl⟩ (u4.back (u1 _ _ hm1) hno ⟨_, g2.mono (p1.trans u1), rfl⟩)
        · rename_i id e3 s2 hr2
          refine hi _ _ _ _ _ _ hr2 ρ1 _ _ p3 p4 _ fun ρ2 ex₀ e₂ σ2 u1 u2 u3 u4 hno => ?_
          cases u2
          rw [Tr.put_eq] at h5
          cases h5
          exact hQ ρ2 _ _ (p1.trans u1) ⟨_, RV.pure _ rfl, rfl⟩ (u4.back (u1 _ _ hm1) hno ⟨_, g2.mono (p1.trans u1), rfl⟩)
        · rename_i v e3 s2 hr2
          refine hi _ _ _ _ _ _ hr2 ρ1 _ _ p3 p4 _ fun ρ2 ex₀ e₂ σ2 u1 u2 u3 u4 hno => ?_
          obtain ⟨v', u5, rfl⟩ := u2
          cases h5
          exact hQ ρ2 _ _ (p1.trans u1) ⟨v', u5, rfl⟩ u4
        · cases h5
      · cases h5
    · cases h
  · cases h
theorem SR.emp : SR P (fun _ => none) ⟨0, .leaf⟩ Gl.emp := ⟨fun _ _ h => (by cases h), fun _ _ _ _ _ _ h => (by cases h), fun _ _ => rfl, by show 0 ≤ limN + 1; omega⟩
theorem callP_ok {tab : Tab} (ht : TabOk P tab) {memo : Memo} (hm : MemoOk P memo) {ih : ACode → Env → St → Rs} (hi : RunOk P ih) : PureOk P (callP tab memo ih) := by
  intro f vs v h
  unfold callP at h
  obtain ⟨h1, h2⟩ := bif_some h
  split at h2
  · rename_i u s hr
    split at h2
    · rename_i w hw
      obtain ⟨h3, h4⟩ := bif_some h2
      cases h4
      refine ⟨h1, h3, ?_⟩
      refine (callFn_ok ht hm hi f vs _ _ _ hr (fun _ => none) vs Gl.emp (RL_eq.1 (RL.pure vs h1)) SR.emp (fun r σ' => ∃ ρ' u', RV ρ' u u' ∧ SR P ρ' s σ' ∧ r = .ret u') fun ρ' r' σ' _ q2 q3 => ?_).frz fun r σ' ⟨ρ', u', q1, q2, e⟩ => ?_
      · obtain ⟨u', q4, rfl⟩ := q2
        exact ⟨ρ', u', q4, q3, rfl⟩
      · subst e
        exact .inl ⟨u', v, Gl.emp, rfl, fun n o ho => (by cases ho), frz_ok q2 frzD u u' v hw q1, rfl, rfl⟩
    · cases h2
  · cases h2
theorem run_ok {tab : Tab} (ht : TabOk P tab) {memo : Memo} (hm : MemoOk P memo) : ∀ n, RunOk P (run tab memo n) := by
  intro n
  induction n using Nat.strongRecOn with
  | ind n IH =>
    cases n with
    | zero => intro c env s ex env' s' h; cases h
    | succ n =>
      have hi := IH n (Nat.lt_succ_self n)
      have hcf := callFn_ok ht hm hi
      have hcv := callVF_ok ht hm hi
      have hcp := callP_ok ht hm hi
      intro c env s ex env' s' h ρ env₀ σ he hs Q hQ
      have h : eStep tab memo (run tab memo n) c env s = some (ex, env', s') := h
      cases c with
      | skip => cases h; exact hQ ρ _ _ _ (.refl _) rfl he hs
      | ret => cases h; exact hQ ρ _ _ _ (.refl _) rfl he hs
      | exit id => cases h; exact hQ ρ _ _ _ (.refl _) rfl he hs
      | reg ops =>
        simp only [eStep] at h
        refine (eOps_ok hcf hcv hcp h he hs (K := fun env σ => Q .normal env σ) (kp := fun env v σ => Q (.pan v) env σ) (fun ρ' e₁ σ' q1 q2 q3 q4 => ?_) (fun ρ' v v' e₁ σ' q1 q2 q3 q4 q5 => ?_)).2.2
        · subst q2; exact hQ ρ' _ _ _ q1 rfl q3 q4
        · subst q2; exact hQ ρ' _ _ _ q1 ⟨v', q3, rfl⟩ q4 q5
      | dreg l ops =>
        simp only [eStep] at h
        show Tdops P ops (fun env σ => Q .normal (prune l env) σ) (fun v σ => ∀ σ', Sub σ σ' → Q (.pan v) [] σ') env₀ σ
        split at h
        · rename_i e1 s1 hr
          cases h
          exact eDops_ok hcf hcv hcp hr he hs (fun ρ' e₁ σ' q1 q2 q3 q4 => hQ ρ' _ _ _ q1 rfl (q3.prune l) q4) (fun ρ' v v' σ' q1 q2 q3 q4 q5 => by cases q2)
        · rename_i hne
          refine eDops_ok hcf hcv hcp h he hs (fun ρ' e₁ σ' q1 q2 q3 q4 => ?_) (fun ρ' v v' σ' q1 q2 q3 q4 q5 => ?_)
          · subst q2; exact absurd h (hne _ _)
          · subst q2; subst q3; exact fun σ2 hs2 => hQ ρ' _ _ _ q1 ⟨v', q4, rfl⟩ F2.nil ⟨fun i o hi => let ⟨m, a1, o', a2, a3⟩ := q5.get i o hi; ⟨m, a1, o', hs2 _ _ a2, a3⟩, q5.inj, q5.nxt, q5.lim⟩
      | seq l a b =>
        simp only [eStep] at h
        show T P a (AExit.andThen (fun env σ => T P b Q (prune l env) σ) Q) env₀ σ
        split at h
        · rename_i e1 s1 hr
          refine hi _ _ _ _ _ _ hr ρ _ σ he hs _ fun ρ1 ex₀ e₁ σ1 p1 p2 p3 p4 => ?_
          cases p2
          exact hi _ _ _ _ _ _ h ρ1 _ σ1 (p3.prune l) p4 _ fun ρ2 ex₀ e₂ σ2 u1 u2 u3 u4 => hQ ρ2 _ _ _ (p1.trans u1) u2 u3 u4
        · rename_i hne
          refine hi _ _ _ _ _ _ h ρ _ σ he hs _ fun ρ1 ex₀ e₁ σ1 p1 p2 p3 p4 => ?_
          have hf := hQ ρ1 _ _ _ p1 p2 p3 p4
          cases ex with
          | normal => exact absurd h (hne _ _)
          | ret => cases p2; exact hf
          | exit id => cases p2; exact hf
          | pan v => obtain ⟨v', u1, rfl⟩ := p2; exact hf
      | cond c a b =>
        simp only [eStep] at h
        simp only [T]
        split at h
        · rename_i hc
          obtain ⟨v', q1, q2⟩ := evx_ok he hc
          simp only [RV] at q2
          subst q2
          rw [q1]
          exact ⟨fun _ => hi _ _ _ _ _ _ h ρ _ σ he hs _ hQ, fun e => by cases e⟩
        · rename_i hc
          obtain ⟨v', q1, q2⟩ := evx_ok he hc
          simp only [RV] at q2
          subst q2
          rw [q1]
          exact ⟨fun e => (by cases e), fun _ => hi _ _ _ _ _ _ h ρ _ σ he hs _ hQ⟩
        · cases h
      | block id a =>
        simp only [eStep] at h
        show T P a (AExit.inBlock id Q) env₀ σ
        split at h
        · rename_i id' e1 s1 hr
          refine hi _ _ _ _ _ _ hr ρ _ σ he hs _ fun ρ1 ex₀ e₁ σ1 p1 p2 p3 p4 => ?_
          cases p2
          simp only [AExit.inBlock]
          cases hb : Nat.beq id' id with
          | true => rw [hb] at h; cases h; exact hQ ρ1 _ _ _ p1 rfl p3 p4
          | false => rw [hb] at h; cases h; exact hQ ρ1 _ _ _ p1 rfl p3 p4
        · rename_i hne
          refine hi _ _ _ _ _ _ h ρ _ σ he hs _ fun ρ1 ex₀ e₁ σ1 p1 p2 p3 p4 => ?_
          have hf := hQ ρ1 _ _ _ p1 p2 p3 p4
          cases ex with
          | normal => cases p2; exact hf
          | ret => cases p2; exact hf
          | exit id => exact absurd h (hne _ _ _)
          | pan v => obtain ⟨v', u1, rfl⟩ := p2; exact hf
      | scope a =>
        simp only [eStep] at h
        exact hi _ _ _ _ _ _ h ρ _ σ he hs _ hQ
      | loop l a =>
        refine ⟨fun m E τ => m ≤ n + 1 ∧ ∃ e s1 ρ1, ρ.le ρ1 ∧ RE ρ1 (prune l e) E ∧ SR P ρ1 s1 τ ∧ run tab memo m (.loop l a) e s1 = some (ex, env', s'), ⟨n + 1, Nat.le_refl _, env, s, ρ, .refl _, he.prune l, hs, h⟩, ?_⟩
        rintro m E τ ⟨hm1, e, s1, ρ1, q1, q2, q3, q4⟩
        cases m with
        | zero => cases q4
        | succ m =>
          have hi1 := IH m (by omega)
          have q4 : (match run tab memo m a (prune l e) s1 with
            | some (.normal, env', s') => run tab memo m (.loop l a) env' s'
            | r => r) = some (ex, env', s') := q4
          split at q4
          · rename_i e2 s2 hr
            refine hi1 _ _ _ _ _ _ hr ρ1 _ τ q2 q3 _ fun ρ2 ex₀ e₁ σ1 p1 p2 p3 p4 => ?_
            cases p2
            exact ⟨m, Nat.lt_succ_self m, by omega, e2, s2, ρ2, q1.trans p1, p3.prune l, p4, q4⟩
          · rename_i hne
            refine hi1 _ _ _ _ _ _ q4 ρ1 _ τ q2 q3 _ fun ρ2 ex₀ e₁ σ1 p1 p2 p3 p4 => ?_
            have hf := hQ ρ2 _ _ _ (q1.trans p1) p2 p3 p4
            cases ex with
            | normal => exact absurd q4 (hne _ _)
            | ret => cases p2; exact hf
            | exit id => cases p2; exact hf
            | pan v => obtain ⟨v', u1, rfl⟩ := p2; exact hf
      | rangef l g ps a b =>
        simp only [eStep] at h
        simp only [T]
        split at h
        · rename_i gf cap hg
          obtain ⟨x', q1, fn', a', b', q2, q3, q4, rfl⟩ := evx_ok he hg
          simp only [RFn] at q2
          subst q2
          have q3 := RL_eq.1 q3
          have q4 := RL_eq.1 q4
          cases q3
          rw [q1]
          intro L hL
          obtain ⟨h1, h2⟩ := St.new_eq h
          obtain ⟨ρ1, p1, p2, p3⟩ := hs.new h1 hL 0 (o := .loop .ready (prune l env) ps a b) (o' := .loop .ready (prune l env₀) (loopOk P ps a b)) ⟨_, he.prune l, rfl⟩
          have hfy : RV ρ1 (.f (.yield s.nx) [] []) (.f (.yield L) [] []) := by
            simp only [RV]
            exact ⟨.yield L, [], [], ⟨_, p2, rfl⟩, RL_eq.2 F2.nil, RL_eq.2 F2.nil, rfl⟩
          split at h2
          · rename_i v s2 hr
            refine hcf gf _ _ _ _ hr ρ1 _ _ (F2.cons hfy (RVs.mono p1 q4)) p3 _ fun ρ2 r' σ2 u1 u2 u3 => ?_
            obtain ⟨v', _, rfl⟩ := u2
            split at h2
            · rename_i st e9 ps9 a9 b9 hg2
              rw [Tr.put_eq] at h2
              have hm2 := u1 _ _ p2
              obtain ⟨o', w1, e8, w2, rfl⟩ := u3.at hg2 hm2
              refine ⟨st, e8, _, w1, ?_⟩
              have hd := u3.del hg2 hm2
              cases st <;> (simp only [id] at h2; cases h2; exact hQ ρ2 _ _ _ (p1.trans u1) rfl (he.mono (p1.trans u1)) hd)
            · cases h2
          · rename_i v s2 hr
            refine hcf gf _ _ _ _ hr ρ1 _ _ (F2.cons hfy (RVs.mono p1 q4)) p3 _ fun ρ2 r' σ2 u1 u2 u3 => ?_
            obtain ⟨v', u4, rfl⟩ := u2
            split at h2
            · rename_i o9 hg2
              rw [Tr.put_eq] at h2
              have hm2 := u1 _ _ p2
              have hd := u3.del hg2 hm2
              cases h2
              exact hQ ρ2 _ _ _ (p1.trans u1) ⟨v', u4, rfl⟩ (he.mono (p1.trans u1)) hd
            · cases h2
          · cases h2
        · cases h
/-- **a closed call** -/
def topRun (tab : Tab) (memo : Memo) (n : Nat) (f : FuncId) (vs : List V) (v : V) : Bool :=
  match callP tab memo (run tab memo n) f vs with
  | some u => beqV u v
  | none => false
theorem pure_of_run {tab : Tab} (ht : TabOk P tab) {memo : Memo} (hm : MemoOk P memo) {n : Nat} {f : FuncId} {vs : List V} {v : V} (h : topRun tab memo n f vs v = true) : pureL vs = true ∧ pureV v = true ∧ Pure P f vs v := by
  unfold topRun at h
  split at h
  · rename_i u hu
    have := beqV_eq _ _ h
    subst this
    exact callP_ok ht hm (run_ok ht hm n) f vs u hu
  · cases h
end Go.Gl
