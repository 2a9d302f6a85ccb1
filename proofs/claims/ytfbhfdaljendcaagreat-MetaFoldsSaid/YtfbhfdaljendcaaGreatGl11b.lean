/-
  GL 11b: kinds of operations, and in which order they may be taken: values that are determined, stores that are left alone.
-/
import Derived.Test.YtfbhfdaljendcaaGreatGl11a
set_option linter.all false
set_option linter.unusedVariables false
set_option linter.unusedSimpArgs false
namespace Go.Gl
variable {P : Program} {Λ : Nat → Prop} {env env' : Env} {σ : Store}

def DetK (F : (V → Prop) → Prop) : Prop := ∀ k, F k → ∃ v, k v ∧ ∀ k' : V → Prop, k' v → F k'
theorem DetK.one (v : V) : DetK fun k => k v := fun _ h => ⟨v, h, fun _ h => h⟩
theorem DetK.no : DetK fun _ => False := fun _ h => h.elim
theorem DetK.and {p : Prop} {F : (V → Prop) → Prop} (h : DetK F) : DetK fun k => p ∧ F k := fun k ⟨hp, hF⟩ => let ⟨v, h1, h2⟩ := h k hF; ⟨v, h1, fun k' hk => ⟨hp, h2 k' hk⟩⟩
theorem DetK.wv {o : Option V} {F : V → (V → Prop) → Prop} (h : ∀ v, DetK (F v)) : DetK fun k => wv o fun v => F v k := by
  cases o with
  | none => exact DetK.no
  | some v => exact h v
theorem DetK.ws {o : Option (List V)} {F : List V → (V → Prop) → Prop} (h : ∀ v, DetK (F v)) : DetK fun k => ws o fun v => F v k := by
  cases o with
  | none => exact DetK.no
  | some v => exact h v
theorem DetK.wr {o : Option (List (List V))} {F : List (List V) → (V → Prop) → Prop} (h : ∀ v, DetK (F v)) : DetK fun k => wr o fun v => F v k := by
  cases o with
  | none => exact DetK.no
  | some v => exact h v
theorem DetK.wo {o : Option (Option V)} {F : Option V → (V → Prop) → Prop} (h : ∀ v, DetK (F v)) : DetK fun k => wo o fun v => F v k := by
  cases o with
  | none => exact DetK.no
  | some v => exact h v
theorem det_kBin (op : BinOp) (x y : V) : DetK (kBin op x y) := by
  unfold kBin
  cases x <;> cases y <;> first | exact DetK.no | skip
  cases op <;> simp only <;> first | exact (DetK.one _).and | exact (DetK.one _).and.and
theorem det_cut (agg : Option Nat) (cs : List V) (off : Nat) : DetK (cut agg cs off) := by
  unfold cut
  cases agg with
  | none => cases cs[off]? with
    | none => exact DetK.no
    | some v => exact DetK.one _
  | some n => exact (DetK.one _).and
theorem det_kLoad (σ : Store) (agg : Option Nat) (x : V) : DetK (kLoad σ agg x) := by
  unfold kLoad loadP loadE
  cases x <;> first | exact DetK.no | skip
  case p n off =>
    simp only
    cases σ n with
    | none => exact DetK.no
    | some o => cases o <;> first | exact DetK.no | exact det_cut _ _ _
  case rp cs => exact det_cut _ _ _
  case pe n sz i off =>
    simp only
    cases σ n with
    | none => exact DetK.no
    | some o =>
      cases o <;> first | exact DetK.no | skip
      simp only
      refine DetK.and ?_
      rename_i es _
      cases es[i]? with
      | none => exact DetK.no
      | some e => exact det_cut _ _ _
theorem kLoad_sub {σ σ' : Store} (hs : Sub σ σ') {agg : Option Nat} {x : V} {k : V → Prop} (h : kLoad σ agg x k) : kLoad σ' agg x k := by
  unfold kLoad loadP loadE at *
  cases x <;> first | exact h | skip
  case p n off =>
    simp only at *
    cases hn : σ n with
    | none => rw [hn] at h; exact h.elim
    | some o => rw [hs n o hn]; rw [hn] at h; exact h
  case pe n sz i off =>
    simp only at *
    cases hn : σ n with
    | none => rw [hn] at h; exact h.elim
    | some o => rw [hs n o hn]; rw [hn] at h; exact h
theorem det_kFaddr (off : Nat) (x : V) : DetK (kFaddr off x) := by
  unfold kFaddr
  cases x <;> first | exact DetK.no | exact DetK.one _
theorem det_kIaddr (sz : Nat) (arr : Option Nat) (x i : V) : DetK (kIaddr sz arr x i) := by
  unfold kIaddr
  cases i <;> first | exact DetK.no | skip
  cases arr <;> cases x <;> first | exact DetK.no | exact (DetK.one _).and.and | exact (DetK.one _).and.and.and | skip
  intro k ⟨h0, e, h1, h2, h3⟩
  exact ⟨_, h3, fun k' hk => ⟨h0, e, h1, h2, hk⟩⟩
theorem det_kIndex (len sz : Nat) (agg : Option Nat) (x i : V) : DetK (kIndex len sz agg x i) := by
  unfold kIndex
  cases x <;> first | exact DetK.no | skip
  cases i <;> first | exact DetK.no | skip
  exact (det_cut _ _ _).and.and
theorem det_kSidx (x i : V) : DetK (kSidx x i) := by
  unfold kSidx
  cases x <;> first | exact DetK.no | skip
  cases i <;> first | exact DetK.no | skip
  refine DetK.and ?_
  rename_i b _ j
  cases b.data.toList[j.toNat]? with
  | none => exact DetK.no
  | some c => exact DetK.one _
theorem det_kLen (x : V) : DetK (kLen x) := by
  unfold kLen
  cases x <;> first | exact DetK.no | exact DetK.one _ | exact (DetK.one _).and
theorem det_kLenM (σ : Store) (x : V) : DetK (kLenM σ x) := by
  unfold kLenM
  cases x <;> first | exact DetK.no | exact DetK.one _ | skip
  case m n =>
    simp only
    cases σ n with
    | none => exact DetK.no
    | some o => cases o <;> first | exact DetK.no | exact (DetK.one _).and
theorem kLenM_sub {σ σ' : Store} (hs : Sub σ σ') {x : V} {k : V → Prop} (h : kLenM σ x k) : kLenM σ' x k := by
  unfold kLenM at *
  cases x <;> first | exact h | skip
  case m n =>
    simp only at *
    cases hn : σ n with
    | none => rw [hn] at h; exact h.elim
    | some o => rw [hs n o hn]; rw [hn] at h; exact h

theorem det_bnd {o : Option V} {d : Int} {k : Int → Prop} (h : bnd o d k) : ∃ v, k v ∧ ∀ k' : Int → Prop, k' v → bnd o d k' := by
  unfold bnd at *
  split at h
  · exact ⟨_, h, fun _ h => h⟩
  · exact ⟨_, h, fun _ h => h⟩
  · exact h.elim
theorem det_kSlice {sz : Nat} {x : V} {a b : Option V} {k : V → Store → Prop} (h : kSlice σ sz x a b none k) : ∃ v, k v σ ∧ ∀ σ' (k' : V → Store → Prop), k' v σ' → kSlice σ' sz x a b none k' := by
  unfold kSlice at *
  cases x <;> first | exact h.elim | skip
  · simp only at *
    obtain ⟨h0, h⟩ := h
    obtain ⟨hh, h, g1⟩ := det_bnd h
    obtain ⟨l, h, g2⟩ := det_bnd h
    exact ⟨_, h.2.2.2, fun σ' k' hk => ⟨h0, g1 _ (g2 _ ⟨h.1, h.2.1, h.2.2.1, hk⟩)⟩⟩
  · simp only at *
    obtain ⟨hh, h, g1⟩ := det_bnd h
    obtain ⟨l, h, g2⟩ := det_bnd h
    exact ⟨_, h.2.2.2, fun σ' k' hk => g1 _ (g2 _ ⟨h.1, h.2.1, h.2.2.1, hk⟩)⟩
  · simp only at *
    obtain ⟨hh, h, g1⟩ := det_bnd h
    obtain ⟨l, h, g2⟩ := det_bnd h
    exact ⟨_, h.2.2.2.2.2, fun σ' k' hk => g1 _ (g2 _ ⟨h.1, h.2.1, h.2.2.1, h.2.2.2.1, trivial, hk⟩)⟩

theorem rowsOf_two {sz : Nat} {y : V} {k : List (List V) → Prop} (h : rowsOf σ sz y k) : ∃ ys, k ys ∧ ∀ σ' (k' : List (List V) → Prop), Sub σ σ' → k' ys → rowsOf σ' sz y k' := by
  unfold rowsOf at *
  cases y <;> first | exact h.elim | skip
  · exact ⟨_, h.2, fun _ _ _ hk => ⟨h.1, hk⟩⟩
  · rename_i m len cap
    simp only at *
    cases hm : σ m with
    | none => rw [hm] at h; exact h.elim
    | some o =>
      rw [hm] at h
      cases o <;> first | exact h.elim | skip
      exact ⟨_, h.2.2, fun σ' k' hs hk => by rw [hs m _ hm]; exact ⟨h.1, h.2.1, hk⟩⟩
  · rename_i m s off len
    simp only at *
    cases hm : σ m with
    | none => rw [hm] at h; exact h.elim
    | some o =>
      rw [hm] at h
      cases o <;> first | exact h.elim | skip
      exact ⟨_, h.2.2.2, fun σ' k' hs hk => by rw [hs m _ hm]; exact ⟨h.1, h.2.1, h.2.2.1, hk⟩⟩
theorem kStr_two {x : V} {k : V → Prop} (h : kStr σ x k) : ∃ v, k v ∧ ∀ σ' (k' : V → Prop), Sub σ σ' → k' v → kStr σ' x k' := by
  obtain ⟨ys, h1, h2⟩ := rowsOf_two h
  cases hn : numsOf ys with
  | none => rw [hn] at h1; exact h1.elim
  | some ns =>
    rw [hn] at h1
    exact ⟨_, h1, fun σ' k' hs hk => h2 σ' _ hs (by rw [hn]; exact hk)⟩
theorem det_kAppf {sz : Nat} {x y : V} {k : V → Prop} (h : kAppf σ sz x y k) : ∃ v, k v ∧ ∀ σ' (k' : V → Prop), Sub σ σ' → k' v → kAppf σ' sz x y k' := by
  unfold kAppf at *
  obtain ⟨ys, ⟨h1, h2⟩, h3⟩ := rowsOf_two h
  cases x <;> first | exact h2.elim | skip
  exact ⟨_, h2.2.2.2, fun σ' k' hs hk => h3 σ' _ hs ⟨h1, h2.1, h2.2.1, h2.2.2.1, hk⟩⟩

theorem det_kLookup {ks : KS} {z : V} {ok : Bool} {vm vk : V} {k : V → Prop} (h : kLookup σ ks z ok vm vk k) : ∃ v, k v ∧ ∀ σ' (k' : V → Prop), Sub σ σ' → k' v → kLookup σ' ks z ok vm vk k' := by
  unfold kLookup at *
  obtain ⟨h0, h⟩ := h
  cases vm <;> first | exact h.elim | skip
  · rename_i n
    simp only at *
    cases hn : σ n with
    | none => rw [hn] at h; exact h.elim
    | some o =>
      rw [hn] at h
      cases o <;> first | exact h.elim | skip
      exact ⟨_, h.2, fun σ' k' hs hk => ⟨h0, by rw [hs n _ hn]; exact ⟨h.1, hk⟩⟩⟩
  · exact ⟨_, h, fun σ' k' hs hk => ⟨h0, hk⟩⟩

/-! kinds: P: a value out of values; N: a value out of the store; A: a new object; Z: a new object of zeros; H: anything -/
inductive Kd where
  | P | N | A | Z | H
  deriving DecidableEq, Repr
def kd : AOp → Kd
  | .load _ _ => .N
  | .lenm _ => .N
  | .str _ => .N
  | .appf _ _ _ _ => .N
  | .box _ => .A
  | .append _ _ x _ => match x with | .c (.l [] true) => .A | _ => .H
  | .alloc _ => .Z
  | .slice _ _ _ _ mx => match mx with | none => .N | some _ => .H
  | .store _ _ _ | .copy _ _ _ | .mapset _ _ _ _ | .panic _ | .call _ _ | .callv _ _ | .callvp _ _ | .inv _ _ _ | .mkmap | .mkslice _ _ _ _ _ | .eqn _ _ _ | .mvf _ => .H
  | .lookup _ _ _ _ _ => .N
  | _ => .P

theorem det_P {o : AOp} (hk : kd o = .P) : ∃ F : (V → Prop) → Prop, DetK F ∧ ∀ σ (k kp : V → Store → Prop), Top P o env σ k kp = F (fun v => k v σ) := by
  cases o <;> first | (simp [kd] at hk; done) | skip
  case mv x => exact ⟨fun k => wv (ev env x) k, DetK.wv fun v => DetK.one v, fun _ _ _ => rfl⟩
  case pick c a b =>
    refine ⟨fun k => wv (ev env c) fun vc => wv (ev env a) fun va => wv (ev env b) fun vb => match vc with | .b t => (match va, vb with | .b x, .b y => k (.b (bif t then x else y)) | _, _ => k (bif t then va else vb)) | _ => False, ?_, fun _ _ _ => rfl⟩
    refine DetK.wv fun vc => DetK.wv fun va => DetK.wv fun vb => ?_
    cases vc <;> first | exact DetK.no | skip
    cases va <;> first | exact DetK.one _ | skip
    cases vb <;> exact DetK.one _
  case bin op x y => exact ⟨fun k => wv (ev env x) fun vx => wv (ev env y) fun vy => kBin op vx vy k, DetK.wv fun _ => DetK.wv fun _ => det_kBin _ _ _, fun _ _ _ => rfl⟩
  case eqb n x y =>
    refine ⟨fun k => wv (ev env x) fun vx => wv (ev env y) fun vy => match vx, vy with | .b p, .b q => k (.b (bif n then p != q else p == q)) | _, _ => False, ?_, fun _ _ _ => rfl⟩
    refine DetK.wv fun vx => DetK.wv fun vy => ?_
    cases vx <;> cases vy <;> first | exact DetK.no | exact DetK.one _
  case eqf q n x y =>
    refine ⟨fun k => wv (ev env x) fun vx => wv (ev env y) fun vy => kEqf q n vx vy k, DetK.wv fun vx => DetK.wv fun vy => ?_, fun _ _ _ => rfl⟩
    unfold kEqf
    cases vx <;> first | exact DetK.no | skip
    cases vy <;> first | exact DetK.no | skip
    simp only
    split <;> first | exact DetK.no | exact DetK.one _
  case not x =>
    refine ⟨fun k => wv (ev env x) fun vx => match vx with | .b p => k (.b (!p)) | _ => False, DetK.wv fun vx => ?_, fun _ _ _ => rfl⟩
    cases vx <;> first | exact DetK.no | exact DetK.one _
  case neg xor x =>
    refine ⟨fun k => wv (ev env x) fun vx => match vx with | .i ka a => k (.i ka (bif xor then bits .xor ka (bif ka.signed then -1 else ka.max) a else ka.wrap (0 - a))) | _ => False, DetK.wv fun vx => ?_, fun _ _ _ => rfl⟩
    cases vx <;> first | exact DetK.no | exact DetK.one _
  case conv ka x =>
    refine ⟨fun k => wv (ev env x) fun vx => match vx with | .i _ a => k (.i ka (ka.wrap a)) | _ => False, DetK.wv fun vx => ?_, fun _ _ _ => rfl⟩
    cases vx <;> first | exact DetK.no | exact DetK.one _
  case boxf x =>
    refine ⟨fun k => wv (ev env x) fun vx => match cellsOf vx with | some cs => k (.rp cs) | none => False, DetK.wv fun vx => ?_, fun _ _ _ => rfl⟩
    cases cellsOf vx <;> first | exact DetK.no | exact DetK.one _
  case build z ps => exact ⟨fun k => ws (fillV env z ps) fun cs => k (.a cs), DetK.ws fun _ => DetK.one _, fun _ _ _ => rfl⟩
  case bslice sz len z ps => exact ⟨fun k => wr (fillE env z.length (List.replicate len z) ps) fun es => k (.l es true), DetK.wr fun _ => DetK.one _, fun _ _ _ => rfl⟩
  case faddr off x => exact ⟨fun k => wv (ev env x) fun vx => kFaddr off vx k, DetK.wv fun _ => det_kFaddr _ _, fun _ _ _ => rfl⟩
  case field agg off x =>
    refine ⟨fun k => wv (ev env x) fun vx => match vx with | .a cs => cut agg cs off k | _ => False, DetK.wv fun vx => ?_, fun _ _ _ => rfl⟩
    cases vx <;> first | exact DetK.no | exact det_cut _ _ _
  case iaddr sz arr x i => exact ⟨fun k => wv (ev env x) fun vx => wv (ev env i) fun vi => kIaddr sz arr vx vi k, DetK.wv fun _ => DetK.wv fun _ => det_kIaddr _ _ _ _, fun _ _ _ => rfl⟩
  case sidx x i => exact ⟨fun k => wv (ev env x) fun vx => wv (ev env i) fun vi => kSidx vx vi k, DetK.wv fun _ => DetK.wv fun _ => det_kSidx _ _, fun _ _ _ => rfl⟩
  case index len sz agg x i => exact ⟨fun k => wv (ev env x) fun vx => wv (ev env i) fun vi => kIndex len sz agg vx vi k, DetK.wv fun _ => DetK.wv fun _ => det_kIndex _ _ _ _ _, fun _ _ _ => rfl⟩
  case len x => exact ⟨fun k => wv (ev env x) fun vx => kLen vx k, DetK.wv fun _ => det_kLen _, fun _ _ _ => rfl⟩
  case mmax x y =>
    refine ⟨fun k => wv (ev env x) fun vx => wv (ev env y) fun vy => match vx, vy with | .i ka a, .i kb b => ka = kb ∧ k (.i ka (if b > a then b else a)) | _, _ => False, ?_, fun _ _ _ => rfl⟩
    refine DetK.wv fun vx => DetK.wv fun vy => ?_
    cases vx <;> cases vy <;> first | exact DetK.no | exact (DetK.one _).and
  case mmin x y =>
    refine ⟨fun k => wv (ev env x) fun vx => wv (ev env y) fun vy => match vx, vy with | .i ka a, .i kb b => ka = kb ∧ k (.i ka (if b < a then b else a)) | _, _ => False, ?_, fun _ _ _ => rfl⟩
    refine DetK.wv fun vx => DetK.wv fun vy => ?_
    cases vx <;> cases vy <;> first | exact DetK.no | exact (DetK.one _).and
  case extract i x =>
    refine ⟨fun k => wv (ev env x) fun vx => match vx with | .t vs => (match vs[i]? with | some v => k v | none => False) | _ => False, DetK.wv fun vx => ?_, fun _ _ _ => rfl⟩
    cases vx <;> first | exact DetK.no | skip
    rename_i vs
    simp only
    cases vs[i]? <;> first | exact DetK.no | exact DetK.one _
  case nilck x =>
    refine ⟨fun k => wv (ev env x) fun vx => match vx with
      | .p n off => k (.p n off)
      | .rp cs => k (.rp cs)
      | .pe n sz i off => k (.pe n sz i off)
      | .f (.func f) first cap => k (.f (.func f) first cap)
      | .f (.yield l) first cap => k (.f (.yield l) first cap)
      | _ => False, DetK.wv fun vx => ?_, fun _ _ _ => rfl⟩
    cases vx <;> first | exact DetK.no | exact DetK.one _ | skip
    rename_i f a b
    cases f <;> first | exact DetK.no | exact DetK.one _
  case mkf f a b => exact ⟨fun k => ws (evs env a) fun vf => ws (evs env b) fun vc => k (.f f vf vc), DetK.ws fun _ => DetK.ws fun _ => DetK.one _, fun _ _ _ => rfl⟩
  case mkifc t x => exact ⟨fun k => wv (ev env x) fun vx => k (.ifc t vx), DetK.wv fun _ => DetK.one _, fun _ _ _ => rfl⟩
  case tas t z ok x =>
    refine ⟨fun k => wv (ev env x) fun vx => match vx with
      | .ifc t' v => (t' = t → k (bif ok then .t [v, .b true] else v)) ∧ (t' ≠ t → ok = true ∧ k (.t [z, .b false]))
      | .inil => ok = true ∧ k (.t [z, .b false])
      | _ => False, DetK.wv fun vx => ?_, fun _ _ _ => rfl⟩
    cases vx <;> first | exact DetK.no | exact (DetK.one _).and | skip
    rename_i t' v
    simp only
    by_cases ht : t' = t
    · simpa [ht] using DetK.one _
    · simpa [ht] using (DetK.one (.t [z, .b false])).and
  case callp f as =>
    refine ⟨fun k => ws (evs env as) fun vs => ∃ v, Ctr P f vs (fun _ => none) (fun r σ' => r = .ret v ∧ σ' = fun _ => none) ∧ k v, DetK.ws fun vs => ?_, fun _ _ _ => rfl⟩
    intro k ⟨v, h1, h2⟩
    exact ⟨v, h2, fun k' hk => ⟨v, h1, hk⟩⟩
  case slice s x a b c =>
    exfalso
    simp only [kd] at hk
    split at hk <;> cases hk
  case append a b x y =>
    exfalso
    simp only [kd] at hk
    split at hk <;> cases hk
  all_goals exact ⟨fun _ => False, DetK.no, fun _ _ _ => rfl⟩

def still (o : AOp) : Bool := match kd o with | .P => true | .N => true | _ => false
/-- a value that is determined -/
theorem det_still {o : AOp} (hs : still o = true) {k kp : V → Store → Prop} (h : Top P o env σ k kp) :
    ∃ v, k v σ ∧ ∀ σ' (k' kp' : V → Store → Prop), (kd o = .P ∨ Sub σ σ') → k' v σ' → Top P o env σ' k' kp' := by
  unfold still at hs
  cases hk : kd o <;> rw [hk] at hs <;> first | (cases hs; done) | skip
  · obtain ⟨F, h1, h2⟩ := det_P (P := P) (env := env) hk
    rw [h2] at h
    obtain ⟨v, h3, h4⟩ := h1 _ h
    exact ⟨v, h3, fun σ' k' kp' _ hv => by rw [h2]; exact h4 _ hv⟩
  · cases o <;> first | (simp [kd] at hk; done) | skip
    case load agg x =>
      simp only [Top] at *
      cases hx : ev env x with
      | none => rw [hx] at h; exact h.elim
      | some vx =>
        rw [hx] at h
        obtain ⟨v, h3, h4⟩ := det_kLoad σ agg vx _ h
        refine ⟨v, h3, fun σ' k' kp' hs hv => kLoad_sub (hs.resolve_left (by simp)) (h4 _ hv)⟩
    case lenm x =>
      simp only [Top] at *
      cases hx : ev env x with
      | none => rw [hx] at h; exact h.elim
      | some vx =>
        rw [hx] at h
        try simp only [wv_some] at h ⊢
        obtain ⟨v, h3, h4⟩ := det_kLenM σ vx _ h
        refine ⟨v, h3, fun σ' k' kp' hs hv => kLenM_sub (hs.resolve_left (by simp)) (h4 _ hv)⟩
    case str x =>
      simp only [Top] at *
      cases hx : ev env x with
      | none => rw [hx] at h; exact h.elim
      | some vx =>
        rw [hx] at h
        try simp only [wv_some] at h ⊢
        obtain ⟨v, h3, h4⟩ := kStr_two h
        exact ⟨v, h3, fun σ' k' kp' hs hv => h4 _ _ (hs.resolve_left (by simp)) hv⟩
    case lookup ks z ok x y =>
      simp only [Top] at *
      cases hx : ev env x with
      | none => rw [hx] at h; exact h.elim
      | some vx =>
        rw [hx] at h
        try simp only [wv_some] at h ⊢
        cases hy : ev env y with
        | none => rw [hy] at h; exact h.elim
        | some vy =>
          rw [hy] at h
          try simp only [wv_some] at h ⊢
          obtain ⟨v, h1, h2⟩ := det_kLookup h
          exact ⟨v, h1, fun σ' k' kp' hs hk' => h2 σ' _ (hs.resolve_left (by simp)) hk'⟩
    case appf a b x y =>
      simp only [Top] at *
      cases hx : ev env x with
      | none => rw [hx] at h; exact h.elim
      | some vx =>
        rw [hx] at h
        try simp only [wv_some] at h ⊢
        cases hy : ev env y with
        | none => rw [hy] at h; exact h.elim
        | some vy =>
          rw [hy] at h
          try simp only [wv_some] at h ⊢
          obtain ⟨v, h1, h2⟩ := det_kAppf h
          exact ⟨v, h1, fun σ' k' kp' hs hk' => h2 σ' _ (hs.resolve_left (by simp)) hk'⟩
    case slice s x a b c =>
      cases c with
      | some c => simp [kd] at hk
      | none =>
        simp only [Top] at *
        cases hx : ev env x with
        | none => rw [hx] at h; exact h.elim
        | some vx =>
          rw [hx] at h
          try simp only [wv_some] at h ⊢
          cases ha : optEv env a with
          | none => rw [ha] at h; exact h.elim
          | some va =>
            rw [ha] at h
            try simp only [wo_some] at h ⊢
            cases hb : optEv env b with
            | none => rw [hb] at h; exact h.elim
            | some vb =>
              rw [hb] at h
              simp only [wo_some, optEv] at h ⊢
              obtain ⟨v, h1, h2⟩ := det_kSlice h
              exact ⟨v, h1, fun σ' k' kp' _ hk' => h2 σ' k' hk'⟩
    case append a b x y =>
      exfalso
      simp only [kd] at hk
      split at hk <;> cases hk
end Go.Gl
