/-
  EV 3: code, evaluated; it is sound.
-/
import Derived.Test.YtfbhfdaljendcaaGreatEv2
set_option linter.all false
set_option linter.unusedVariables false
set_option linter.unusedSimpArgs false
namespace Go.Gl
variable {P : Program} {ρ ρ' : Ren} {σ : Store} {env env₀ : Env}
def ob {α β : Type} (o : Option α) (k : α → Option β) : Option β := match o with | some v => k v | none => none
theorem ob_some {α β : Type} {o : Option α} {k : α → Option β} {r : β} (h : ob o k = some r) : ∃ v, o = some v ∧ k v = some r := by
  cases o with
  | none => cases h
  | some v => exact ⟨v, rfl, h⟩
def REx (ρ : Ren) : AExit → AExit → Prop
  | .pan v, x => ∃ v', RV ρ v v' ∧ x = .pan v'
  | .normal, x => x = .normal
  | .ret, x => x = .ret
  | .exit id, x => x = .exit id
def RR1 (ρ : Ren) : R → R → Prop
  | .ret v, r => ∃ v', RV ρ v v' ∧ r = .ret v'
  | .pan v, r => ∃ v', RV ρ v v' ∧ r = .pan v'
abbrev CF := FuncId → List V → St → Option (R × St)
abbrev CV := V → List V → St → Option (R × St)
abbrev CP := FuncId → List V → Option V
def CallOk (P : Program) (c : CF) : Prop := ∀ f vs s r s', c f vs s = some (r, s') → ∀ ρ vs' σ, RVs ρ vs vs' → SR P ρ s σ → ∀ Q : R → Store → Prop, (∀ ρ' r' σ', ρ.le ρ' → RR1 ρ' r r' → SR P ρ' s' σ' → Q r' σ') → Ctr P f vs' σ Q
def CallVOk (P : Program) (c : CV) : Prop := ∀ x vs s r s', c x vs s = some (r, s') → ∀ ρ x' vs' σ, RV ρ x x' → RVs ρ vs vs' → SR P ρ s σ → ∀ Q : R → Store → Prop, (∀ ρ' r' σ', ρ.le ρ' → RR1 ρ' r r' → SR P ρ' s' σ' → Q r' σ') → CtrF P x' vs' σ Q
def PureOk (P : Program) (c : CP) : Prop := ∀ f vs v, c f vs = some v → pureL vs = true ∧ pureV v = true ∧ Pure P f vs v
def ov (o : Option V) (s : St) : Option (R × St) := match o with | some v => some (.ret v, s) | none => none
theorem ov_some {o : Option V} {s s' : St} {r : R} (h : ov o s = some (r, s')) : ∃ v, o = some v ∧ r = .ret v ∧ s' = s := by
  cases o with
  | none => cases h
  | some v => cases h; exact ⟨v, rfl, rfl, rfl⟩
def os (o : Option St) : Option (R × St) := match o with | some s => some (.ret (.t []), s) | none => none
theorem os_some {o : Option St} {s' : St} {r : R} (h : os o = some (r, s')) : o = some s' ∧ r = .ret (.t []) := by
  cases o with
  | none => cases h
  | some v => cases h; exact ⟨rfl, rfl⟩
def ovs (o : Option (V × St)) : Option (R × St) := match o with | some (v, s) => some (.ret v, s) | none => none
theorem ovs_some {o : Option (V × St)} {s' : St} {r : R} (h : ovs o = some (r, s')) : ∃ v, o = some (v, s') ∧ r = .ret v := by
  cases o with
  | none => cases h
  | some v => cases h; exact ⟨_, rfl, rfl⟩
def optEvx (env : Env) : Option Opd → Option (Option V)
  | none => some none
  | some x => match evx env x with | some v => some (some v) | none => none
theorem optEvx_ok (he : RE ρ env env₀) {x : Option Opd} {v : Option V} (h : optEvx env x = some v) : ∃ v', optEv env₀ x = some v' ∧ RVo ρ v v' := by
  cases x with
  | none => cases h; exact ⟨none, rfl, rfl⟩
  | some x =>
    simp only [optEvx] at h
    split at h
    · rename_i u hu
      cases h
      obtain ⟨v', h1, h2⟩ := evx_ok he hu
      exact ⟨some v', by simp only [optEv, h1], v', h2, rfl⟩
    · cases h
def eTas (t : TypeId) (z : V) (ok : Bool) (x : V) : Option V :=
  match x with
  | .ifc t' v => bif Nat.beq t' t then some (bif ok then .t [v, .b true] else v) else (bif ok && pureV z then some (.t [z, .b false]) else none)
  | .inil => bif ok && pureV z then some (.t [z, .b false]) else none
  | _ => none
def eNilck (x : V) : Option V :=
  match x with
  | .p n off => some (.p n off)
  | .rp cs => some (.rp cs)
  | .pe n sz i off => some (.pe n sz i off)
  | .f (.func f) a b => some (.f (.func f) a b)
  | .f (.yield f) a b => some (.f (.yield f) a b)
  | _ => none
def eOp (cf : CF) (cv : CV) (cp : CP) (o : AOp) (env : Env) (s : St) : Option (R × St) :=
  match o with
  | .mv x => ov (evx env x) s
  | .mvf x => ov (evx env x) s
  | .pick c a b => ob (evx env c) fun vc => ob (evx env a) fun va => ob (evx env b) fun vb => match vc with | .b t => some (.ret (bif t then va else vb), s) | _ => none
  | .bin op x y => ob (evx env x) fun vx => ob (evx env y) fun vy => ov (eBin op vx vy) s
  | .eqb neg x y => ob (evx env x) fun vx => ob (evx env y) fun vy => match vx, vy with | .b p, .b q => some (.ret (.b (bif neg then p != q else p == q)), s) | _, _ => none
  | .not x => ob (evx env x) fun vx => match vx with | .b p => some (.ret (.b (!p)), s) | _ => none
  | .neg xor x => ob (evx env x) fun vx => match vx with | .i ka a => some (.ret (.i ka (bif xor then bits .xor ka (bif ka.signed then -1 else ka.max) a else ka.wrap (0 - a))), s) | _ => none
  | .conv ka x => ob (evx env x) fun vx => match vx with | .i _ a => some (.ret (.i ka (wrapQ ka a)), s) | _ => none
  | .box x => ob (evx env x) fun vx => ob (cellsOf vx) fun cs => s.new (.cs cs) fun i s' => some (.ret (.p i 0), s')
  | .boxf x => ob (evx env x) fun vx => ob (cellsOf vx) fun cs => some (.ret (.rp cs), s)
  | .appf sz _ x y => ob (evx env x) fun vx => ob (evx env y) fun vy => ov (eAppf s sz vx vy) s
  | .alloc z => bif pureL z then s.new (.cs z) fun i s' => some (.ret (.p i 0), s') else none
  | .build z parts => bif pureL z then ob (eFillV env z parts) fun cs => some (.ret (.a cs), s) else none
  | .bslice _ len z parts => bif pureL z then ob (eFillE env z.length (List.replicate len z) parts) fun es => some (.ret (.l es true), s) else none
  | .load agg x => ob (evx env x) fun vx => ov (eLoad s agg vx) s
  | .store sz a x => ob (evx env a) fun va => ob (evx env x) fun vx => os (eStore s sz va vx)
  | .faddr off x => ob (evx env x) fun vx => ov (eFaddr off vx) s
  | .field agg off x => ob (evx env x) fun vx => match vx with | .a cs => ov (eCut agg cs off) s | _ => none
  | .iaddr sz arr x i => ob (evx env x) fun vx => ob (evx env i) fun vi => ov (eIaddr sz arr vx vi) s
  | .index len sz agg x i => ob (evx env x) fun vx => ob (evx env i) fun vi => ov (eIndex len sz agg vx vi) s
  | .slice sz x lo hi mx => ob (evx env x) fun vx => ob (optEvx env lo) fun l => ob (optEvx env hi) fun h => ob (optEvx env mx) fun m => ovs (eSlice s sz vx l h m)
  | .len x => ob (evx env x) fun vx => ov (eLen vx) s
  | .lenm x => ob (evx env x) fun vx => ov (eLenM s vx) s
  | .sidx x i => ob (evx env x) fun vx => ob (evx env i) fun vi => ov (eSidx vx vi) s
  | .str x => ob (evx env x) fun vx => ov (eStr s vx) s
  | .append sz _ x y => ob (evx env x) fun vx => ob (evx env y) fun vy => ovs (eAppend s sz vx vy)
  | .copy sz x y => ob (evx env x) fun vx => ob (evx env y) fun vy => ovs (eCopy s sz vx vy)
  | .mmax x y => ob (evx env x) fun vx => ob (evx env y) fun vy => match vx, vy with | .i ka a, .i kb b => bif decide (ka = kb) then some (.ret (.i ka (bif ltQ a b then b else a)), s) else none | _, _ => none
  | .mmin x y => ob (evx env x) fun vx => ob (evx env y) fun vy => match vx, vy with | .i ka a, .i kb b => bif decide (ka = kb) then some (.ret (.i ka (bif ltQ b a then b else a)), s) else none | _, _ => none
  | .extract i x => ob (evx env x) fun vx => match vx with | .t vs => ov (vs[i]?) s | _ => none
  | .nilck x => ob (evx env x) fun vx => ov (eNilck vx) s
  | .mkf f first cap => ob (evxs env first) fun vf => ob (evxs env cap) fun vc => bif pureFn f then some (.ret (.f f vf vc), s) else none
  | .mkifc t x => ob (evx env x) fun vx => some (.ret (.ifc t vx), s)
  | .tas t z ok x => ob (evx env x) fun vx => ov (eTas t z ok vx) s
  | .panic x => ob (evx env x) fun vx => match vx with | .ifc t v => some (.pan (.ifc t v), s) | _ => none
  | .call f args => ob (evxs env args) fun vs => cf f vs s
  | .eqf len neg x y => ob (evx env x) fun vx => ob (evx env y) fun vy => ov (eEqf len neg vx vy) s
  | .eqn kind neg x => ob (evx env x) fun vx => ov (eEqn kind neg vx) s
  | .mkslice sz _ z x y => ob (evx env x) fun vx => ob (evx env y) fun vy => ovs (eMkslice s sz z vx vy)
  | .mkmap => s.new (.map []) fun i s' => some (.ret (.m i), s')
  | .lookup ks z ok m key => ob (evx env m) fun vm => ob (evx env key) fun vk => ov (eLookup s ks z ok vm vk) s
  | .mapset ks m key x => ob (evx env m) fun vm => ob (evx env key) fun vk => ob (evx env x) fun vx => os (eMapset s ks vm vk vx)
  | .callp f args => ob (evxs env args) fun vs => ov (cp f vs) s
  | .callv x args => ob (evx env x) fun vx => ob (evxs env args) fun vs => cv vx vs s
  | .inv tab x args => ob (evx env x) fun vx => ob (evxs env args) fun vs => match vx with | .ifc t v => ob (look t tab) fun f => cf f (v :: vs) s | _ => none
  | _ => none
theorem eTas_ok {t : TypeId} {z : V} {ok : Bool} {x x' v : V} (h : eTas t z ok x = some v) (hx : RV ρ x x') {K : V → Prop} (hK : ∀ v', RV ρ v v' → K v') :
    match (generalizing := false) x' with
      | .ifc t' v => (t' = t → K (bif ok then .t [v, .b true] else v)) ∧ (t' ≠ t → ok = true ∧ K (.t [z, .b false]))
      | .inil => ok = true ∧ K (.t [z, .b false])
      | _ => False := by
  have zz : ∀ {v}, pureV z = true → some (V.t [z, .b false]) = some v → K (.t [z, .b false]) → K v := fun _ e k => by cases e; exact k
  unfold eTas at h
  split at h
  · rename_i t' u
    obtain ⟨u', h1, rfl⟩ := hx
    refine ⟨fun e => ?_, fun e => ?_⟩
    · subst e
      rw [Nat.beq_refl] at h
      cases h
      cases ok with
      | true => exact hK _ (by simp only [cond_true, RV]; exact ⟨_, RL_eq.2 (F2.cons h1 (F2.cons (RV.pure _ rfl) F2.nil)), rfl⟩)
      | false => exact hK _ h1
    · have hb : Nat.beq t' t = false := by
        cases hb : Nat.beq t' t with
        | false => rfl
        | true => exact absurd (nbeq hb) e
      rw [hb] at h
      obtain ⟨h2, h3⟩ := bif_some h
      simp only [Bool.and_eq_true] at h2
      cases h3
      exact ⟨h2.1, hK _ (by simp only [RV]; exact ⟨_, RL_eq.2 (F2.cons (RV.pure _ h2.2) (F2.cons (RV.pure _ rfl) F2.nil)), rfl⟩)⟩
  · simp only [RV] at hx
    subst hx
    obtain ⟨h2, h3⟩ := bif_some h
    simp only [Bool.and_eq_true] at h2
    cases h3
    exact ⟨h2.1, hK _ (by simp only [RV]; exact ⟨_, RL_eq.2 (F2.cons (RV.pure _ h2.2) (F2.cons (RV.pure _ rfl) F2.nil)), rfl⟩)⟩
  · cases h
theorem eNilck_ok {x x' v : V} (h : eNilck x = some v) (hx : RV ρ x x') {K : V → Prop} (hK : ∀ v', RV ρ v v' → K v') :
    match (generalizing := false) x' with
      | .p n off => K (.p n off)
      | .rp cs => K (.rp cs)
      | .pe n sz i off => K (.pe n sz i off)
      | .f (.func f) first cap => K (.f (.func f) first cap)
      | .f (.yield l) first cap => K (.f (.yield l) first cap)
      | _ => False := by
  have hv : v = x := by unfold eNilck at h; split at h <;> cases h <;> rfl
  subst hv
  have hk := hK _ hx
  unfold eNilck at h
  split at h
  · obtain ⟨_, _, rfl⟩ := hx; exact hk
  · obtain ⟨_, _, rfl⟩ := hx; exact hk
  · obtain ⟨_, _, rfl⟩ := hx; exact hk
  · obtain ⟨fn, a, b, h1, _, _, rfl⟩ := hx
    simp only [RFn] at h1
    subst h1
    exact hk
  · obtain ⟨fn, a, b, h1, _, _, rfl⟩ := hx
    obtain ⟨m, _, rfl⟩ := h1
    exact hk
  · cases h
theorem eOp_ok {cf : CF} {cv : CV} {cp : CP} (hcf : CallOk P cf) (hcv : CallVOk P cv) (hcp : PureOk P cp) {o : AOp} {s s' : St} {r : R} (h : eOp cf cv cp o env s = some (r, s')) (he : RE ρ env env₀) (hs : SR P ρ s σ) {k kp : V → Store → Prop}
    (hk : ∀ ρ' r' σ', ρ.le ρ' → RR1 ρ' r r' → SR P ρ' s' σ' → qk k kp r' σ') : Top P o env₀ σ k kp := by
  have hv : ∀ {v : V}, r = .ret v → s' = s → ∀ v', RV ρ v v' → k v' σ := fun e1 e2 v' g => by
    subst e1; subst e2
    exact hk ρ (.ret v') σ (.refl _) ⟨v', g, rfl⟩ hs
  have hvs : ∀ {v : V}, r = .ret v → ∀ v' σ', RV ρ v v' → SR P ρ s' σ' → k v' σ' := fun e1 v' σ' g g2 => by
    subst e1
    exact hk ρ (.ret v') σ' (.refl _) ⟨v', g, rfl⟩ g2
  have hvr : ∀ {v : V}, r = .ret v → ∀ ρ' v' σ', ρ.le ρ' → RV ρ' v v' → SR P ρ' s' σ' → k v' σ' := fun e1 ρ' v' σ' g0 g g2 => by
    subst e1
    exact hk ρ' (.ret v') σ' g0 ⟨v', g, rfl⟩ g2
  have hu : ∀ {o1 : Option St}, os o1 = some (r, s') → o1 = some s' ∧ ∀ σ', SR P ρ s' σ' → k (.t []) σ' := fun h => by
    obtain ⟨h1, h2⟩ := os_some h
    subst h2
    exact ⟨h1, fun σ' h3 => hk ρ (.ret (.t [])) σ' (.refl _) ⟨_, RV.pure _ rfl, rfl⟩ h3⟩
  cases o <;> simp only [eOp] at h <;> simp only [Top]
  case mv x =>
    obtain ⟨v, h1, h2, h3⟩ := ov_some h
    obtain ⟨v', e1, e2⟩ := evx_ok he h1
    rw [e1]; exact hv h2 h3 _ e2
  case mvf x =>
    obtain ⟨v, h1, h2, h3⟩ := ov_some h
    obtain ⟨v', e1, e2⟩ := evx_ok he h1
    rw [e1]; exact ⟨v', σ, Sub.refl _, .refl _, hv h2 h3 _ e2⟩
  case pick c a b =>
    replace h := ob_some h; obtain ⟨vc, h1, h⟩ := h
    replace h := ob_some h; obtain ⟨va, h2, h⟩ := h
    replace h := ob_some h; obtain ⟨vb, h3, h⟩ := h
    obtain ⟨vc', e1, r1⟩ := evx_ok he h1
    obtain ⟨va', e2, r2⟩ := evx_ok he h2
    obtain ⟨vb', e3, r3⟩ := evx_ok he h3
    rw [e1, e2, e3]
    simp only [wv]
    split at h
    · rename_i t
      simp only [RV] at r1
      subst r1
      cases h
      have hh := hv rfl rfl (bif t then va' else vb') (by cases t; exact r3; exact r2)
      cases t <;> cases va' <;> first | exact hh | (cases vb' <;> exact hh)
    · cases h
  case bin op x y =>
    replace h := ob_some h; obtain ⟨vx, h1, h⟩ := h
    replace h := ob_some h; obtain ⟨vy, h2, h⟩ := h
    obtain ⟨v, h3, h4, h5⟩ := ov_some h
    obtain ⟨vx', e1, r1⟩ := evx_ok he h1
    obtain ⟨vy', e2, r2⟩ := evx_ok he h2
    obtain ⟨p1, p2, p3, p4⟩ := eBin_ok h3
    rw [e1, e2, RV.eqp r1 p1, RV.eqp r2 p2]
    exact p4 (fun v => k v σ) (hv h4 h5 _ (RV.pure _ p3))
  case eqb neg x y =>
    replace h := ob_some h; obtain ⟨vx, h1, h⟩ := h
    replace h := ob_some h; obtain ⟨vy, h2, h⟩ := h
    obtain ⟨vx', e1, r1⟩ := evx_ok he h1
    obtain ⟨vy', e2, r2⟩ := evx_ok he h2
    rw [e1, e2]
    split at h
    · simp only [RV] at r1 r2
      subst r1; subst r2
      cases h
      exact hv rfl rfl _ (RV.pure _ rfl)
    · cases h
  case not x =>
    replace h := ob_some h; obtain ⟨vx, h1, h⟩ := h
    obtain ⟨vx', e1, r1⟩ := evx_ok he h1
    rw [e1]
    split at h
    · simp only [RV] at r1
      subst r1
      cases h
      exact hv rfl rfl _ (RV.pure _ rfl)
    · cases h
  case neg xor x =>
    replace h := ob_some h; obtain ⟨vx, h1, h⟩ := h
    obtain ⟨vx', e1, r1⟩ := evx_ok he h1
    rw [e1]
    split at h
    · simp only [RV] at r1
      subst r1
      cases h
      exact hv rfl rfl _ (RV.pure _ rfl)
    · cases h
  case conv ka x =>
    replace h := ob_some h; obtain ⟨vx, h1, h⟩ := h
    obtain ⟨vx', e1, r1⟩ := evx_ok he h1
    rw [e1]
    split at h
    · simp only [RV] at r1
      subst r1
      cases h
      have := hv rfl rfl _ (RV.pure _ rfl)
      rw [wrapQ_eq] at this
      exact this
    · cases h
  case box x =>
    replace h := ob_some h; obtain ⟨vx, h1, h⟩ := h
    replace h := ob_some h; obtain ⟨cs, h2, h⟩ := h
    obtain ⟨vx', e1, r1⟩ := evx_ok he h1
    obtain ⟨cs', e2, r2⟩ := cellsOf_ok h2 r1
    obtain ⟨h3, h4⟩ := St.new_eq h
    cases h4
    rw [e1]
    simp only [wv, e2]
    intro n hn
    obtain ⟨ρ', q1, q2, q3⟩ := hs.new h3 hn 0 (o := .cs cs) (o' := .cs cs') ⟨_, r2, rfl⟩
    exact hvr rfl ρ' _ _ q1 (by simp only [RV]; exact ⟨_, q2, rfl⟩) q3
  case boxf x =>
    replace h := ob_some h; obtain ⟨vx, h1, h⟩ := h
    replace h := ob_some h; obtain ⟨cs, h2, h⟩ := h
    obtain ⟨vx', e1, r1⟩ := evx_ok he h1
    obtain ⟨cs', e2, r2⟩ := cellsOf_ok h2 r1
    cases h
    rw [e1]
    simp only [wv, e2]
    exact hv rfl rfl _ (by simp only [RV]; exact ⟨_, RL_eq.2 r2, rfl⟩)
  case appf sz b x y =>
    replace h := ob_some h; obtain ⟨vx, h1, h⟩ := h
    replace h := ob_some h; obtain ⟨vy, h2, h⟩ := h
    obtain ⟨v, h3, h4, h5⟩ := ov_some h
    obtain ⟨vx', e1, r1⟩ := evx_ok he h1
    obtain ⟨vy', e2, r2⟩ := evx_ok he h2
    rw [e1, e2]
    exact eAppf_ok hs h3 r1 r2 (hv h4 h5)
  case alloc z =>
    replace h := bif_some h; obtain ⟨h0, h⟩ := h
    obtain ⟨h3, h4⟩ := St.new_eq h
    cases h4
    intro n hn
    obtain ⟨ρ', q1, q2, q3⟩ := hs.new h3 hn 0 (o := .cs z) (o' := .cs z) ⟨_, RL_eq.1 (RL.pure z h0), rfl⟩
    exact hvr rfl ρ' _ _ q1 (by simp only [RV]; exact ⟨_, q2, rfl⟩) q3
  case build z parts =>
    replace h := bif_some h; obtain ⟨h0, h⟩ := h
    replace h := ob_some h; obtain ⟨cs, h1, h⟩ := h
    cases h
    obtain ⟨cs', e1, r1⟩ := eFillV_ok he h1 (RL_eq.1 (RL.pure z h0))
    rw [e1]
    exact hv rfl rfl _ (by simp only [RV]; exact ⟨_, RL_eq.2 r1, rfl⟩)
  case bslice b len z parts =>
    replace h := bif_some h; obtain ⟨h0, h⟩ := h
    replace h := ob_some h; obtain ⟨cs, h1, h⟩ := h
    cases h
    obtain ⟨cs', e1, r1⟩ := eFillE_ok he h1 (F2.rep (RL_eq.1 (RL.pure z h0)) len)
    rw [e1]
    exact hv rfl rfl _ (by simp only [RV]; exact ⟨_, RR_eq.2 r1, rfl⟩)
  case load agg x =>
    replace h := ob_some h; obtain ⟨vx, h1, h⟩ := h
    obtain ⟨v, h3, h4, h5⟩ := ov_some h
    obtain ⟨vx', e1, r1⟩ := evx_ok he h1
    rw [e1]
    exact eLoad_ok hs h3 r1 (hv h4 h5)
  case store sz a x =>
    replace h := ob_some h; obtain ⟨vx, h1, h⟩ := h
    replace h := ob_some h; obtain ⟨vy, h2, h⟩ := h
    obtain ⟨vx', e1, r1⟩ := evx_ok he h1
    obtain ⟨vy', e2, r2⟩ := evx_ok he h2
    obtain ⟨h3, h4⟩ := hu h
    rw [e1, e2]
    exact eStore_ok hs h3 r1 r2 h4
  case faddr off x =>
    replace h := ob_some h; obtain ⟨vx, h1, h⟩ := h
    obtain ⟨v, h3, h4, h5⟩ := ov_some h
    obtain ⟨vx', e1, r1⟩ := evx_ok he h1
    rw [e1]
    exact eFaddr_ok h3 r1 (hv h4 h5)
  case field agg off x =>
    replace h := ob_some h; obtain ⟨vx, h1, h⟩ := h
    obtain ⟨vx', e1, r1⟩ := evx_ok he h1
    rw [e1]
    split at h
    · obtain ⟨v, h3, h4, h5⟩ := ov_some h
      obtain ⟨c, g1, rfl⟩ := r1
      exact eCut_ok h3 (RL_eq.1 g1) (hv h4 h5)
    · cases h
  case iaddr sz arr x i =>
    replace h := ob_some h; obtain ⟨vx, h1, h⟩ := h
    replace h := ob_some h; obtain ⟨vy, h2, h⟩ := h
    obtain ⟨v, h3, h4, h5⟩ := ov_some h
    obtain ⟨vx', e1, r1⟩ := evx_ok he h1
    obtain ⟨vy', e2, r2⟩ := evx_ok he h2
    rw [e1, e2]
    exact eIaddr_ok h3 r1 r2 (hv h4 h5)
  case index len sz agg x i =>
    replace h := ob_some h; obtain ⟨vx, h1, h⟩ := h
    replace h := ob_some h; obtain ⟨vy, h2, h⟩ := h
    obtain ⟨v, h3, h4, h5⟩ := ov_some h
    obtain ⟨vx', e1, r1⟩ := evx_ok he h1
    obtain ⟨vy', e2, r2⟩ := evx_ok he h2
    rw [e1, e2]
    exact eIndex_ok h3 r1 r2 (hv h4 h5)
  case slice sz x lo hi mx =>
    replace h := ob_some h; obtain ⟨vx, h1, h⟩ := h
    replace h := ob_some h; obtain ⟨l, h2, h⟩ := h
    replace h := ob_some h; obtain ⟨hh, h3, h⟩ := h
    replace h := ob_some h; obtain ⟨m, h4, h⟩ := h
    obtain ⟨v, h5, h6⟩ := ovs_some h
    obtain ⟨vx', e1, r1⟩ := evx_ok he h1
    obtain ⟨l', e2, r2⟩ := optEvx_ok he h2
    obtain ⟨hh', e3, r3⟩ := optEvx_ok he h3
    obtain ⟨m', e4, r4⟩ := optEvx_ok he h4
    rw [e1, e2, e3, e4]
    exact eSlice_ok hs h5 r1 r2 r3 r4 (hvr h6)
  case len x =>
    replace h := ob_some h; obtain ⟨vx, h1, h⟩ := h
    obtain ⟨v, h3, h4, h5⟩ := ov_some h
    obtain ⟨vx', e1, r1⟩ := evx_ok he h1
    rw [e1]
    exact eLen_ok h3 r1 (hv h4 h5)
  case lenm x =>
    replace h := ob_some h; obtain ⟨vx, h1, h⟩ := h
    obtain ⟨v, h3, h4, h5⟩ := ov_some h
    obtain ⟨vx', e1, r1⟩ := evx_ok he h1
    rw [e1]
    exact eLenM_ok hs h3 r1 (hv h4 h5)
  case sidx x i =>
    replace h := ob_some h; obtain ⟨vx, h1, h⟩ := h
    replace h := ob_some h; obtain ⟨vi, h2, h⟩ := h
    obtain ⟨v, h3, h4, h5⟩ := ov_some h
    obtain ⟨vx', e1, r1⟩ := evx_ok he h1
    obtain ⟨vi', e2, r2⟩ := evx_ok he h2
    rw [e1, e2]
    exact eSidx_ok h3 r1 r2 (hv h4 h5)
  case str x =>
    replace h := ob_some h; obtain ⟨vx, h1, h⟩ := h
    obtain ⟨v, h3, h4, h5⟩ := ov_some h
    obtain ⟨vx', e1, r1⟩ := evx_ok he h1
    rw [e1]
    exact eStr_ok hs h3 r1 (hv h4 h5)
  case append sz b x y =>
    replace h := ob_some h; obtain ⟨vx, h1, h⟩ := h
    replace h := ob_some h; obtain ⟨vy, h2, h⟩ := h
    obtain ⟨v, h3, h4⟩ := ovs_some h
    obtain ⟨vx', e1, r1⟩ := evx_ok he h1
    obtain ⟨vy', e2, r2⟩ := evx_ok he h2
    rw [e1, e2]
    exact eAppend_ok hs h3 r1 r2 (hvr h4)
  case copy sz x y =>
    replace h := ob_some h; obtain ⟨vx, h1, h⟩ := h
    replace h := ob_some h; obtain ⟨vy, h2, h⟩ := h
    obtain ⟨v, h3, h4⟩ := ovs_some h
    obtain ⟨vx', e1, r1⟩ := evx_ok he h1
    obtain ⟨vy', e2, r2⟩ := evx_ok he h2
    rw [e1, e2]
    exact eCopy_ok hs h3 r1 r2 (hvs h4)
  case mmax x y =>
    replace h := ob_some h; obtain ⟨vx, h1, h⟩ := h
    replace h := ob_some h; obtain ⟨vy, h2, h⟩ := h
    obtain ⟨vx', e1, r1⟩ := evx_ok he h1
    obtain ⟨vy', e2, r2⟩ := evx_ok he h2
    rw [e1, e2]
    split at h
    · rename_i ka a kb b
      simp only [RV] at r1 r2
      subst r1; subst r2
      obtain ⟨h3, h4⟩ := bif_some h
      cases h4
      refine ⟨of_decide_eq_true h3, ?_⟩
      have := hv rfl rfl _ (RV.pure _ rfl)
      rw [ltQ_eq] at this
      by_cases e : a < b
      · rw [if_pos e]; rw [decide_eq_true e] at this; exact this
      · rw [if_neg e]; rw [decide_eq_false e] at this; exact this
    · cases h
  case mmin x y =>
    replace h := ob_some h; obtain ⟨vx, h1, h⟩ := h
    replace h := ob_some h; obtain ⟨vy, h2, h⟩ := h
    obtain ⟨vx', e1, r1⟩ := evx_ok he h1
    obtain ⟨vy', e2, r2⟩ := evx_ok he h2
    rw [e1, e2]
    split at h
    · rename_i ka a kb b
      simp only [RV] at r1 r2
      subst r1; subst r2
      obtain ⟨h3, h4⟩ := bif_some h
      cases h4
      refine ⟨of_decide_eq_true h3, ?_⟩
      have := hv rfl rfl _ (RV.pure _ rfl)
      rw [ltQ_eq] at this
      by_cases e : b < a
      · rw [if_pos e]; rw [decide_eq_true e] at this; exact this
      · rw [if_neg e]; rw [decide_eq_false e] at this; exact this
    · cases h
  case extract i x =>
    replace h := ob_some h; obtain ⟨vx, h1, h⟩ := h
    obtain ⟨vx', e1, r1⟩ := evx_ok he h1
    rw [e1]
    split at h
    · obtain ⟨v, h3, h4, h5⟩ := ov_some h
      obtain ⟨c, g1, rfl⟩ := r1
      obtain ⟨y, g2, g3⟩ := (RL_eq.1 g1).get h3
      simp only [wv, g2]
      exact hv h4 h5 _ g3
    · cases h
  case nilck x =>
    replace h := ob_some h; obtain ⟨vx, h1, h⟩ := h
    obtain ⟨v, h3, h4, h5⟩ := ov_some h
    obtain ⟨vx', e1, r1⟩ := evx_ok he h1
    rw [e1]
    exact eNilck_ok (K := fun v => k v σ) h3 r1 (hv h4 h5)
  case mkf f first cap =>
    replace h := ob_some h; obtain ⟨vf, h1, h⟩ := h
    replace h := ob_some h; obtain ⟨vc, h2, h⟩ := h
    obtain ⟨h3, h4⟩ := bif_some h
    cases h4
    obtain ⟨vf', e1, r1⟩ := evxs_ok he h1
    obtain ⟨vc', e2, r2⟩ := evxs_ok he h2
    rw [e1, e2]
    refine hv rfl rfl _ ?_
    simp only [RV]
    exact ⟨f, vf', vc', by cases f <;> first | rfl | (simp [pureFn] at h3), RL_eq.2 r1, RL_eq.2 r2, rfl⟩
  case mkifc t x =>
    replace h := ob_some h; obtain ⟨vx, h1, h⟩ := h
    cases h
    obtain ⟨vx', e1, r1⟩ := evx_ok he h1
    rw [e1]
    exact hv rfl rfl _ (by simp only [RV]; exact ⟨_, r1, rfl⟩)
  case tas t z ok x =>
    replace h := ob_some h; obtain ⟨vx, h1, h⟩ := h
    obtain ⟨v, h3, h4, h5⟩ := ov_some h
    obtain ⟨vx', e1, r1⟩ := evx_ok he h1
    rw [e1]
    exact eTas_ok (K := fun v => k v σ) h3 r1 (hv h4 h5)
  case panic x =>
    replace h := ob_some h; obtain ⟨vx, h1, h⟩ := h
    obtain ⟨vx', e1, r1⟩ := evx_ok he h1
    rw [e1]
    split at h
    · rename_i t v
      obtain ⟨v', g1, rfl⟩ := r1
      cases h
      exact hk ρ (.pan (.ifc t v')) σ (.refl _) ⟨_, by simp only [RV]; exact ⟨v', g1, rfl⟩, rfl⟩ hs
    · cases h
  case call f args =>
    replace h := ob_some h; obtain ⟨vs, h1, h⟩ := h
    obtain ⟨vs', e1, r1⟩ := evxs_ok he h1
    rw [e1]
    exact hcf f vs s r s' h ρ vs' σ r1 hs _ hk
  case eqf len neg x y =>
    replace h := ob_some h; obtain ⟨vx, h1, h⟩ := h
    replace h := ob_some h; obtain ⟨vy, h2, h⟩ := h
    obtain ⟨v, h3, h4, h5⟩ := ov_some h
    obtain ⟨vx', e1, r1⟩ := evx_ok he h1
    obtain ⟨vy', e2, r2⟩ := evx_ok he h2
    rw [e1, e2]
    exact eEqf_ok h3 r1 r2 (hv h4 h5)
  case eqn kind neg x =>
    replace h := ob_some h; obtain ⟨vx, h1, h⟩ := h
    obtain ⟨v, h3, h4, h5⟩ := ov_some h
    obtain ⟨vx', e1, r1⟩ := evx_ok he h1
    rw [e1]
    exact eEqn_ok h3 r1 (hv h4 h5)
  case mkslice sz b z x y =>
    replace h := ob_some h; obtain ⟨vx, h1, h⟩ := h
    replace h := ob_some h; obtain ⟨vy, h2, h⟩ := h
    obtain ⟨v, h3, h4⟩ := ovs_some h
    obtain ⟨vx', e1, r1⟩ := evx_ok he h1
    obtain ⟨vy', e2, r2⟩ := evx_ok he h2
    rw [e1, e2]
    exact eMkslice_ok hs h3 r1 r2 (hvr h4)
  case mkmap =>
    obtain ⟨h3, h4⟩ := St.new_eq h
    cases h4
    intro n hn
    obtain ⟨ρ', q1, q2, q3⟩ := hs.new h3 hn 0 (o := .map []) (o' := .map []) ⟨[], F2.nil, rfl⟩
    exact hvr rfl ρ' _ _ q1 (by simp only [RV]; exact ⟨_, q2, rfl⟩) q3
  case lookup ks z ok m key =>
    replace h := ob_some h; obtain ⟨vx, h1, h⟩ := h
    replace h := ob_some h; obtain ⟨vy, h2, h⟩ := h
    obtain ⟨v, h3, h4, h5⟩ := ov_some h
    obtain ⟨vx', e1, r1⟩ := evx_ok he h1
    obtain ⟨vy', e2, r2⟩ := evx_ok he h2
    rw [e1, e2]
    exact eLookup_ok hs h3 r1 r2 (hv h4 h5)
  case mapset ks m key x =>
    replace h := ob_some h; obtain ⟨vx, h1, h⟩ := h
    replace h := ob_some h; obtain ⟨vy, h2, h⟩ := h
    replace h := ob_some h; obtain ⟨vz, h3, h⟩ := h
    obtain ⟨vx', e1, r1⟩ := evx_ok he h1
    obtain ⟨vy', e2, r2⟩ := evx_ok he h2
    obtain ⟨vz', e3, r3⟩ := evx_ok he h3
    obtain ⟨h4, h5⟩ := hu h
    rw [e1, e2, e3]
    exact eMapset_ok hs h4 r1 r2 r3 h5
  case callp f args =>
    replace h := ob_some h; obtain ⟨vs, h1, h⟩ := h
    obtain ⟨v, h3, h4, h5⟩ := ov_some h
    obtain ⟨vs', e1, r1⟩ := evxs_ok he h1
    obtain ⟨p1, p2, p3⟩ := hcp f vs v h3
    rw [e1, eqpL r1 p1]
    exact ⟨v, p3, hv h4 h5 _ (RV.pure _ p2)⟩
  case callv x args =>
    replace h := ob_some h; obtain ⟨vx, h1, h⟩ := h
    replace h := ob_some h; obtain ⟨vs, h2, h⟩ := h
    obtain ⟨vx', e1, r1⟩ := evx_ok he h1
    obtain ⟨vs', e2, r2⟩ := evxs_ok he h2
    rw [e1, e2]
    exact hcv vx vs s r s' h ρ vx' vs' σ r1 r2 hs _ hk
  case inv tab x args =>
    replace h := ob_some h; obtain ⟨vx, h1, h⟩ := h
    replace h := ob_some h; obtain ⟨vs, h2, h⟩ := h
    obtain ⟨vx', e1, r1⟩ := evx_ok he h1
    obtain ⟨vs', e2, r2⟩ := evxs_ok he h2
    rw [e1, e2]
    split at h
    · rename_i t v
      obtain ⟨v', g1, rfl⟩ := r1
      obtain ⟨f, h3, h4⟩ := ob_some h
      simp only [wv, ws, CtrI, h3]
      exact hcf f (v :: vs) s r s' h4 ρ (v' :: vs') σ (F2.cons g1 r2) hs _ hk
    · cases h
  all_goals cases h
end Go.Gl
