/-
  GL 11c: continuations may be weakened; stores grow; a step of an operation that may be left out.
-/
import Derived.Test.YtfbhfdaljendcaaGreatGl11f
set_option linter.all false
set_option linter.unusedVariables false
set_option linter.unusedSimpArgs false
namespace Go.Gl
variable {P : Program} {Λ : Nat → Prop} {env env' : Env} {σ : Store}

theorem wv_mono {o : Option V} {k k' : V → Prop} (h : wv o k) (hm : ∀ v, k v → k' v) : wv o k' := by
  cases o with
  | none => exact h
  | some v => exact hm v h
theorem ws_mono {o : Option (List V)} {k k' : List V → Prop} (h : ws o k) (hm : ∀ v, k v → k' v) : ws o k' := by
  cases o with
  | none => exact h
  | some v => exact hm v h
theorem wo_mono {o : Option (Option V)} {k k' : Option V → Prop} (h : wo o k) (hm : ∀ v, k v → k' v) : wo o k' := by
  cases o with
  | none => exact h
  | some v => exact hm v h
theorem kStore_mono {sz : Nat} {a x : V} {k k' : Store → Prop} (h : kStore σ sz a x k) (hm : ∀ σ', k σ' → k' σ') : kStore σ sz a x k' := by
  unfold kStore at *
  split at h
  · rename_i vc hc
    obtain ⟨h1, h2, h3⟩ := h
    refine ⟨h1, h2, ?_⟩
    cases a <;> first | exact h3.elim | skip
    · simp only at *
      split at h3
      · exact ⟨h3.1, hm _ h3.2⟩
      · exact h3.elim
    · simp only at *
      split at h3
      · refine ⟨h3.1, ?_⟩
        have h4 := h3.2
        split at h4
        · exact ⟨h4.1, hm _ h4.2⟩
        · exact h4.elim
      · exact h3.elim
  · exact h.elim
theorem rowsOf_mono {sz : Nat} {y : V} {k k' : List (List V) → Prop} (h : rowsOf σ sz y k) (hm : ∀ v, k v → k' v) : rowsOf σ sz y k' := by
  unfold rowsOf at *
  cases y <;> first | exact h.elim | skip
  · exact ⟨h.1, hm _ h.2⟩
  · simp only at *
    split at h
    · exact ⟨h.1, h.2.1, hm _ h.2.2⟩
    · exact h.elim
  · simp only at *
    split at h
    · exact ⟨h.1, h.2.1, h.2.2.1, hm _ h.2.2.2⟩
    · exact h.elim
theorem kAppend_mono {sz : Nat} {x y : V} {k k' : V → Store → Prop} (h : kAppend σ sz x y k) (hm : ∀ v σ', k v σ' → k' v σ') : kAppend σ sz x y k' := by
  unfold kAppend at *
  refine rowsOf_mono h fun ys ⟨h1, h2⟩ => ⟨h1, ?_⟩
  cases x <;> first | exact h2.elim | skip
  · simp only at *
    exact ⟨h2.1, h2.2.1, fun e => hm _ _ (h2.2.2.1 e), fun e => ⟨(h2.2.2.2 e).1, fun n cap h3 h4 => hm _ _ ((h2.2.2.2 e).2 n cap h3 h4)⟩⟩
  · simp only at *
    split at h2
    · exact ⟨h2.1, h2.2.1, h2.2.2.1, h2.2.2.2.1, fun n cap h3 h4 => hm _ _ (h2.2.2.2.2 n cap h3 h4)⟩
    · exact h2.elim
theorem bnd_mono {o : Option V} {d : Int} {k k' : Int → Prop} (h : bnd o d k) (hm : ∀ v, k v → k' v) : bnd o d k' := by
  unfold bnd at *
  split at h
  · exact hm _ h
  · exact hm _ h
  · exact h.elim
theorem kSlice_mono {sz : Nat} {x : V} {a b c : Option V} {k k' : V → Store → Prop} (h : kSlice σ sz x a b c k) (hm : ∀ v σ', k v σ' → k' v σ') : kSlice σ sz x a b c k' := by
  unfold kSlice at *
  cases x <;> first | exact h.elim | skip
  · simp only at *
    refine ⟨h.1, bnd_mono h.2 fun hh h2 => bnd_mono h2 fun l h3 => ⟨h3.1, h3.2.1, h3.2.2.1, ?_⟩⟩
    have h4 := h3.2.2.2
    split at h4
    · exact hm _ _ h4
    · exact ⟨h4.1, hm _ _ h4.2⟩
    · exact h4.elim
  · simp only at *
    refine bnd_mono h fun hh h2 => bnd_mono h2 fun l h3 => ⟨h3.1, h3.2.1, h3.2.2.1, ?_⟩
    have h4 := h3.2.2.2
    split at h4
    · exact hm _ _ h4
    · refine ⟨h4.1, h4.2.1, h4.2.2.1, ?_⟩
      have h5 := h4.2.2.2
      split at h5
      · exact ⟨h5.1, h5.2.1, h5.2.2.1, h5.2.2.2.elim (fun h => .inl (hm _ _ h)) fun h => .inr (hm _ _ h)⟩
      · exact h5.elim
    · exact h4.elim
  · simp only at *
    exact bnd_mono h fun hh h2 => bnd_mono h2 fun l h3 => ⟨h3.1, h3.2.1, h3.2.2.1, h3.2.2.2.1, h3.2.2.2.2.1, hm _ _ h3.2.2.2.2.2⟩

theorem kCpy_mono {sz : Nat} {ys : List (List V)} {n off len : Nat} {k k' : V → Store → Prop} (h : kCpy σ sz ys n off len k) (hm : ∀ v σ', k v σ' → k' v σ') : kCpy σ sz ys n off len k' := by
  unfold kCpy at *
  split at h
  · exact ⟨h.1, h.2.1, hm _ _ h.2.2⟩
  · exact h.elim
theorem kCopy_mono {sz : Nat} {x y : V} {k k' : V → Store → Prop} (h : kCopy σ sz x y k) (hm : ∀ v σ', k v σ' → k' v σ') : kCopy σ sz x y k' := by
  refine rowsOf_mono h fun ys h => ⟨h.1, ?_⟩
  have h := h.2
  split at h
  · exact kCpy_mono h hm
  · exact ⟨h.1, kCpy_mono h.2 hm⟩
  · exact h.elim
theorem Top_mono {o : AOp} {k k' kp kp' : V → Store → Prop} (h : Top P o env σ k kp) (hm : ∀ v σ', k v σ' → k' v σ') (hp : ∀ v σ', kp v σ' → kp' v σ') : Top P o env σ k' kp' := by
  by_cases hs : still o = true
  · obtain ⟨v, h1, h2⟩ := det_still hs h
    exact h2 σ k' kp' (.inr fun _ _ h => h) (hm _ _ h1)
  · cases o <;> first | (exact absurd rfl hs) | skip
    all_goals simp only [Top] at *
    case box x =>
      refine wv_mono h fun v h => ?_
      split at h
      · exact fun n hn => hm _ _ (h n hn)
      · exact h.elim
    case alloc z => exact fun n hn => hm _ _ (h n hn)
    case mvf x => exact wv_mono h fun v ⟨vf, σ2, h1, h2, h3⟩ => ⟨vf, σ2, h1, h2, hm _ _ h3⟩
    case mkmap => exact fun n hn => hm _ _ (h n hn)
    case mapset ks x y z =>
      refine wv_mono h fun vm h => wv_mono h fun vk h => wv_mono h fun vx h => ?_
      unfold kMapset at *
      obtain ⟨h0, h⟩ := h
      cases vm <;> first | exact h.elim | skip
      simp only at *
      split at h
      · exact ⟨h0, h.1, hm _ _ h.2⟩
      · exact h.elim
    case eqn q n x =>
      refine wv_mono h fun vx h => ?_
      unfold kEqn at *
      split at h <;> first | exact h.elim | exact hm _ _ h | exact ⟨fun e t => hm _ _ (h.1 e t), fun e => hm _ _ (h.2 e)⟩
    case mkslice a b c x y =>
      refine wv_mono h fun vx h => wv_mono h fun vy h => ?_
      unfold kMkslice at *
      split at h
      · exact ⟨h.1, h.2.1, h.2.2.1, fun id hn => hm _ _ (h.2.2.2 id hn)⟩
      · exact h.elim
    case store sz a x => exact wv_mono h fun va h => wv_mono h fun vx h => kStore_mono h fun σ' h => hm _ _ h
    case slice sz x a b c => exact wv_mono h fun vx h => wo_mono h fun l h => wo_mono h fun hh h => wo_mono h fun m h => kSlice_mono h hm
    case append sz b x y => exact wv_mono h fun vx h => wv_mono h fun vy h => kAppend_mono h hm
    case copy sz x y => exact wv_mono h fun vx h => wv_mono h fun vy h => kCopy_mono h hm
    case inv tab x as => exact wv_mono h fun vx h => ws_mono h fun vs h => h.mono fun r σ' h => by cases r <;> first | exact hm _ _ h | exact hp _ _ h
    case panic x =>
      refine wv_mono h fun vx h => ?_
      split at h
      · exact hp _ _ h
      · exact h.elim
    case call f as => exact ws_mono h fun vs h => h.mono fun r σ' h => by cases r <;> first | exact hm _ _ h | exact hp _ _ h
    case callv x as =>
      exact wv_mono h fun vx h => ws_mono h fun vs h => h.mono fun r σ' h => by cases r <;> first | exact hm _ _ h | exact hp _ _ h

/-! what leaves the store's objects alone -/
theorem sub_upd {n : Nat} {o : O} (hn : σ n = none) : Sub σ (upd σ n o) := fun m p hp => by
  unfold upd
  split
  · rename_i e
    subst e
    rw [hn] at hp
    cases hp
  · exact hp
def calm (o : AOp) : Bool := match kd o with | .H => false | _ => true
theorem kAppend_nil {sz : Nat} {y : V} {k : V → Store → Prop} : kAppend σ sz (.l [] true) y k = rowsOf σ sz y fun ys => (∀ e ∈ ys, ∀ v ∈ e, oneV v = true) ∧ ys.length ≤ maxL ∧ (ys = [] → k (.l [] true) σ) ∧
      (ys ≠ [] → ∀ n cap, σ n = none → ys.length ≤ cap → k (.sl n ys.length cap) (upd σ n (.arr sz ys cap))) := by
  simp [kAppend]
theorem still_slice {s : Nat} {x : Opd} {a b c : Option Opd} (h : calm (.slice s x a b c) = true) : still (.slice s x a b c) = true := by
  cases c with
  | none => rfl
  | some c => cases h
theorem kd_append {a b : Nat} {x y : Opd} (h : kd (.append a b x y) ≠ .H) : x = .c (.l [] true) := by
  simp only [kd] at h
  split at h
  · rfl
  · exact absurd rfl h
theorem Top_sub {o : AOp} (hc : calm o = true) {k kp : V → Store → Prop} (h : Top P o env σ k kp) : Top P o env σ (fun v σ' => k v σ' ∧ Sub σ σ') kp := by
  by_cases hs : still o = true
  · obtain ⟨v, h1, h2⟩ := det_still hs h
    exact h2 σ _ kp (.inr fun _ _ h => h) ⟨h1, fun _ _ h => h⟩
  · cases o <;> first | (exact absurd rfl hs) | (cases hc; done) | skip
    all_goals simp only [Top] at *
    case slice s x a b c => exact absurd (still_slice hc) hs
    case box x =>
      refine wv_mono h fun v h => ?_
      split at h
      · exact fun n hn => ⟨h n hn, sub_upd hn⟩
      · exact h.elim
    case alloc z => exact fun n hn => ⟨h n hn, sub_upd hn⟩
    case append sz b x y =>
      have hx : x = .c (.l [] true) := kd_append (b := b) (a := sz) (y := y) (by intro e; simp [calm, e] at hc)
      subst hx
      change wv (ev env y) _ at h
      change wv (ev env y) _
      refine wv_mono h fun vy h => ?_
      rw [kAppend_nil] at *
      exact rowsOf_mono h fun ys h => ⟨h.1, h.2.1, fun e => ⟨h.2.2.1 e, fun _ _ h => h⟩, fun e n cap h3 h4 => ⟨h.2.2.2 e n cap h3 h4, sub_upd h3⟩⟩

theorem upd_comm {n m : Nat} (h : n ≠ m) (a b : O) : upd (upd σ n a) m b = upd (upd σ m b) n a := by
  funext k
  unfold upd
  by_cases h1 : k = m
  · have h2 : k ≠ n := fun e => h (e.symm.trans h1)
    rw [if_pos h1, if_neg h2, if_pos h1]
  · rw [if_neg h1, if_neg h1]
theorem upd_at {n m : Nat} (h : n ≠ m) {a : O} : upd σ n a m = σ m := by
  unfold upd
  rw [if_neg (fun e => h e.symm)]
theorem upd_is {n : Nat} {a : O} : upd σ n a n = some a := by simp [upd]
theorem rowsOf_sub {σ' : Store} (hs : Sub σ σ') {sz : Nat} {y : V} {k : List (List V) → Prop} (h : rowsOf σ sz y k) : rowsOf σ' sz y k := by
  unfold rowsOf at *
  cases y <;> first | exact h.elim | exact h | skip
  · rename_i m len cap
    simp only at *
    cases hm : σ m with
    | none => rw [hm] at h; exact h.elim
    | some o => rw [hm] at h; rw [hs m o hm]; exact h
  · rename_i m s off len
    simp only at *
    cases hm : σ m with
    | none => rw [hm] at h; exact h.elim
    | some o => rw [hm] at h; rw [hs m o hm]; exact h
/-- one object more does not matter -/
theorem Top_more {o : AOp} (hc : calm o = true) {k kp : V → Store → Prop} (h : Top P o env σ k kp) {m : Nat} {z : O} (hm : σ m = none) :
    Top P o env (upd σ m z) (fun v σ2 => ∃ σ1, k v σ1 ∧ σ1 m = none ∧ σ2 = upd σ1 m z) kp := by
  by_cases hs : still o = true
  · obtain ⟨v, h1, h2⟩ := det_still hs h
    exact h2 _ _ kp (.inr (sub_upd hm)) ⟨σ, h1, hm, rfl⟩
  · have hne : ∀ n, upd σ m z n = none → σ n = none ∧ n ≠ m := fun n hn => by
      have : n ≠ m := fun e => by rw [e, upd_is] at hn; cases hn
      exact ⟨by rwa [upd_at this.symm] at hn, this⟩
    cases o <;> first | (exact absurd rfl hs) | (cases hc; done) | skip
    all_goals simp only [Top] at *
    case slice s x a b c => exact absurd (still_slice hc) hs
    case box x =>
      refine wv_mono h fun v h => ?_
      split at h
      · exact fun n hn => ⟨_, h n (hne n hn).1, by rw [upd_at (hne n hn).2]; exact hm, upd_comm (hne n hn).2.symm _ _⟩
      · exact h.elim
    case alloc z' => exact fun n hn => ⟨_, h n (hne n hn).1, by rw [upd_at (hne n hn).2]; exact hm, upd_comm (hne n hn).2.symm _ _⟩
    case append sz b x y =>
      have hx : x = .c (.l [] true) := kd_append (b := b) (a := sz) (y := y) (by intro e; simp [calm, e] at hc)
      subst hx
      change wv (ev env y) _ at h
      change wv (ev env y) _
      refine wv_mono h fun vy h => ?_
      rw [kAppend_nil] at *
      refine rowsOf_mono (rowsOf_sub (sub_upd hm) h) fun ys h => ⟨h.1, h.2.1, fun e => ⟨σ, h.2.2.1 e, hm, rfl⟩, fun e n cap h3 h4 => ?_⟩
      exact ⟨_, h.2.2.2 e n cap (hne n h3).1 h4, by rw [upd_at (hne n h3).2]; exact hm, upd_comm (hne n h3).2.symm _ _⟩

def isCall : AOp → Bool | .call _ _ => true | _ => false
theorem Top_call {o : AOp} (hc : isCall o = true) {k kp : V → Store → Prop} (hU : ∀ v σ m z, σ m = none → kp v σ → kp v (upd σ m z)) (h : Top P o env σ k kp) {m : Nat} {z : O} (hm : σ m = none) :
    Top P o env (upd σ m z) (fun v σ2 => ∃ σ1, k v σ1 ∧ σ1 m = none ∧ σ2 = upd σ1 m z) kp := by
  cases o <;> first | (cases hc; done) | skip
  rename_i f args
  simp only [Top] at *
  refine ws_mono h fun vs h => ?_
  have hr : restr (upd σ m z) (fun n => n ≠ m) = σ := by
    funext n
    by_cases hn : n = m
    · subst hn; rw [restr_out (fun h => h rfl), hm]
    · rw [restr_in hn]; simp [upd, hn]
  have h' : Ctr P f vs (restr (upd σ m z) fun n => n ≠ m) (qk k kp) := by rw [hr]; exact h
  refine Ctr.mono (Ctr.frame (fun n => n ≠ m) h') fun r σ' ⟨σ1, hq, hfr, he⟩ => ?_
  have h1 : σ1 m = none := hfr m (fun h => h rfl) (by rw [upd_is]; simp)
  have h2 : σ' = upd σ1 m z := by
    rw [he]
    funext n
    simp only [join]
    by_cases hn : n = m
    · subst hn
      rw [h1]
      simp only
      rw [restr_in (fun h => h rfl), upd_is, upd_is]
    · rw [restr_out (fun h => h hn)]
      cases hs : σ1 n with
      | none => simp [upd, hn, hs]
      | some o => simp [upd, hn, hs]
  cases r with
  | ret v => exact ⟨σ1, hq, h1, h2⟩
  | pan v => rw [h2]; exact hU _ _ _ _ h1 hq
/-! operations with guards -/
structure AOper where
  dst : Option Nat
  op : AOp
  guard : Option (Nat × Bool)
  deriving Inhabited
def put (d : Option Nat) (v : V) (env : Env) : Env := match d with | some d => (d, v) :: env | none => env
def Sop (P : Program) (o : AOper) (env : Env) (σ : Store) (k kp : V → Store → Prop) : Prop :=
  match o.guard with
  | none => Top P o.op env σ k kp
  | some (g, b) => match get g env with
    | some (.b t) => (t = b → Top P o.op env σ k kp) ∧ (t = !b → k (.t []) σ)
    | some (.t []) => k (.t []) σ
    | _ => False
def looks (o : AOper) : List Nat := reads o.op ++ (match o.guard with | some (g, _) => [g] | none => [])
theorem Sop_agree {o : AOper} {k kp : V → Store → Prop} (h : ∀ s ∈ looks o, get s env' = get s env) : Sop P o env' σ k kp = Sop P o env σ k kp := by
  unfold Sop
  unfold looks at h
  cases hg : o.guard with
  | none => exact Top_agree fun s hs => h s (List.mem_append_left _ hs)
  | some p =>
    obtain ⟨g, b⟩ := p
    simp only
    rw [h g (by rw [hg]; simp), Top_agree fun s hs => h s (List.mem_append_left _ hs)]
theorem Sop_mono {o : AOper} {k k' kp kp' : V → Store → Prop} (h : Sop P o env σ k kp) (hm : ∀ v σ', k v σ' → k' v σ') (hp : ∀ v σ', kp v σ' → kp' v σ') : Sop P o env σ k' kp' := by
  unfold Sop at *
  split at h
  · exact Top_mono h hm hp
  · split at h
    · exact ⟨fun e => Top_mono (h.1 e) hm hp, fun e => hm _ _ (h.2 e)⟩
    · exact hm _ _ h
    · exact h.elim
theorem Sop_still {o : AOper} (hs : still o.op = true) {k kp : V → Store → Prop} (h : Sop P o env σ k kp) :
    ∃ v, k v σ ∧ ∀ σ' (k' kp' : V → Store → Prop), (kd o.op = .P ∨ Sub σ σ') → k' v σ' → Sop P o env σ' k' kp' := by
  unfold Sop at *
  split at h
  · obtain ⟨v, h1, h2⟩ := det_still hs h
    exact ⟨v, h1, fun σ' k' kp' hσ hk => h2 σ' k' kp' hσ hk⟩
  · rename_i g b hg
    split at h
    · rename_i t ht
      skip
      by_cases htb : t = b
      · obtain ⟨v, h1, h2⟩ := det_still hs (h.1 htb)
        refine ⟨v, h1, fun σ' k' kp' hσ hk => ?_⟩
        exact ⟨fun _ => h2 σ' k' kp' hσ hk, fun e => absurd (htb.symm.trans e) (by cases b <;> simp)⟩
      · refine ⟨.t [], h.2 (by cases t <;> cases b <;> simp_all), fun σ' k' kp' hσ hk => ?_⟩
        exact ⟨fun e => absurd e htb, fun _ => hk⟩
    · exact ⟨.t [], h, fun σ' k' kp' hσ hk => hk⟩
    · exact h.elim
theorem Sop_sub {o : AOper} (hc : calm o.op = true) {k kp : V → Store → Prop} (h : Sop P o env σ k kp) : Sop P o env σ (fun v σ' => k v σ' ∧ Sub σ σ') kp := by
  unfold Sop at *
  split at h
  · exact Top_sub hc h
  · split at h
    · exact ⟨fun e => Top_sub hc (h.1 e), fun e => ⟨h.2 e, fun _ _ h => h⟩⟩
    · exact ⟨h, fun _ _ h => h⟩
    · exact h.elim
theorem Sop_more {o : AOper} (hc : calm o.op = true) {k kp : V → Store → Prop} (h : Sop P o env σ k kp) {m : Nat} {z : O} (hm : σ m = none) :
    Sop P o env (upd σ m z) (fun v σ2 => ∃ σ1, k v σ1 ∧ σ1 m = none ∧ σ2 = upd σ1 m z) kp := by
  unfold Sop at *
  split at h
  · exact Top_more hc h hm
  · split at h
    · exact ⟨fun e => Top_more hc (h.1 e) hm, fun e => ⟨σ, h.2 e, hm, rfl⟩⟩
    · exact ⟨σ, h, hm, rfl⟩
    · exact h.elim
def moves (o : AOp) : Bool := calm o || isCall o
theorem Sop_moves {o : AOper} (hc : moves o.op = true) {k kp : V → Store → Prop} (hU : ∀ v σ m z, σ m = none → kp v σ → kp v (upd σ m z)) (h : Sop P o env σ k kp) {m : Nat} {z : O} (hm : σ m = none) :
    Sop P o env (upd σ m z) (fun v σ2 => ∃ σ1, k v σ1 ∧ σ1 m = none ∧ σ2 = upd σ1 m z) kp := by
  cases hc' : calm o.op with
  | true => exact Sop_more hc' h hm
  | false =>
    have hc2 : isCall o.op = true := by simpa [moves, hc'] using hc
    unfold Sop at *
    split at h
    · exact Top_call hc2 hU h hm
    · split at h
      · exact ⟨fun e => Top_call hc2 hU (h.1 e) hm, fun e => ⟨σ, h.2 e, hm, rfl⟩⟩
      · exact ⟨σ, h, hm, rfl⟩
      · exact h.elim
end Go.Gl
