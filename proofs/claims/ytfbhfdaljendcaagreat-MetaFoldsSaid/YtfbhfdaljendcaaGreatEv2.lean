/-
  EV 2: one operation, evaluated.
-/
import Derived.Test.YtfbhfdaljendcaaGreatEv1
set_option linter.all false
set_option linter.unusedVariables false
set_option linter.unusedSimpArgs false
namespace Go.Gl
variable {P : Program} {ρ ρ' : Ren} {σ : Store} {env env₀ : Env}
structure St where
  nx : Nat
  t : Tr EO
def RK (ρ : Ren) (a b : V × V) : Prop := RV ρ a.1 b.1 ∧ RV ρ a.2 b.2
def RB (ρ : Ren) (a b : Nat × V) : Prop := b.1 = a.1 ∧ RV ρ a.2 b.2
abbrev RE (ρ : Ren) : Env → Env → Prop := F2 (RB ρ)
abbrev RVs (ρ : Ren) : List V → List V → Prop := F2 (RV ρ)
abbrev RRs (ρ : Ren) : List (List V) → List (List V) → Prop := F2 (F2 (RV ρ))
def RO (P : Program) (ρ : Ren) (cap : Nat) : EO → O → Prop
  | .cs vs, o => ∃ vs', RVs ρ vs vs' ∧ o = .cs vs'
  | .arr sz es, o => ∃ es', RRs ρ es es' ∧ o = .arr sz es' cap
  | .map kvs, o => ∃ kvs', F2 (RK ρ) kvs kvs' ∧ o = .map kvs'
  | .loop st env ps a b, o => ∃ env', RE ρ env env' ∧ o = .loop st env' (loopOk P ps a b)
def limN : Nat := 1000000000
structure SR (P : Program) (ρ : Ren) (s : St) (σ : Store) : Prop where
  get : ∀ i o, s.t.get i = some o → ∃ m, ρ i = some m ∧ ∃ o', σ m.1 = some o' ∧ RO P ρ m.2 o o'
  inj : ∀ i j o o' m m', s.t.get i = some o → s.t.get j = some o' → ρ i = some m → ρ j = some m' → m.1 = m'.1 → i = j
  nxt : ∀ i, s.nx ≤ i → ρ i = none
  lim : s.nx ≤ limN + 1
theorem RVs.mono (h : ρ.le ρ') {a b : List V} (k : RVs ρ a b) : RVs ρ' a b := F2.mono (fun _ _ => RV.mono h _ _) k
theorem RRs.mono (h : ρ.le ρ') {a b : List (List V)} (k : RRs ρ a b) : RRs ρ' a b := F2.mono (fun _ _ => RVs.mono h) k
theorem RE.mono (h : ρ.le ρ') {a b : Env} (k : RE ρ a b) : RE ρ' a b := F2.mono (fun _ _ k => ⟨k.1, RV.mono h _ _ k.2⟩) k
theorem RO.mono (h : ρ.le ρ') {c : Nat} {a : EO} {b : O} (k : RO P ρ c a b) : RO P ρ' c a b := by
  cases a with
  | cs vs => obtain ⟨v, h1, h2⟩ := k; exact ⟨v, h1.mono h, h2⟩
  | arr sz es => obtain ⟨v, h1, h2⟩ := k; exact ⟨v, h1.mono h, h2⟩
  | map kvs => obtain ⟨v, h1, h2⟩ := k; exact ⟨v, F2.mono (fun _ _ k => ⟨RV.mono h _ _ k.1, RV.mono h _ _ k.2⟩) h1, h2⟩
  | loop st env ps a b => obtain ⟨v, h1, h2⟩ := k; exact ⟨v, h1.mono h, h2⟩
theorem limD {k : Nat} (h : k ≤ limN) : k + 1 < 2 ^ depthTr := by simp only [limN, depthTr] at *; omega
theorem SR.lt {s : St} (hs : SR P ρ s σ) {i : Nat} {m : Nat × Nat} (h : ρ i = some m) : i ≤ limN := by
  have h1 := hs.nxt i
  have h2 := hs.lim
  rcases Nat.lt_or_ge i s.nx with h3 | h3
  · omega
  · rw [h1 h3] at h; cases h
theorem SR.new {s : St} (hs : SR P ρ s σ) (hl : s.nx ≤ limN) {n : Nat} (hn : σ n = none) (cap : Nat) {o : EO} {o' : O} (ho : RO P ρ cap o o') :
    ∃ ρ', ρ.le ρ' ∧ ρ' s.nx = some (n, cap) ∧ SR P ρ' ⟨s.nx + 1, Tr.set (some o) depthTr s.t s.nx⟩ (upd σ n o') := by
  have hle : ρ.le (fun i => if i = s.nx then some (n, cap) else ρ i) := fun i m h => by
    have : i ≠ s.nx := fun e => by rw [hs.nxt i (by omega)] at h; cases h
    simp [this, h]
  refine ⟨_, hle, by simp, ⟨fun i o1 h1 => ?_, fun i j o1 o2 m m' h1 h2 h3 h4 h5 => ?_, fun i hi => ?_, by show s.nx + 1 ≤ _; omega⟩⟩
  · rw [Tr.set_get _ _ _ (limD hl)] at h1
    by_cases e : i = s.nx
    · rw [if_pos e] at h1
      cases h1
      exact ⟨(n, cap), by simp [e], o', upd_same _ _ _, ho.mono hle⟩
    · rw [if_neg e] at h1
      obtain ⟨m, h2, o2, h3, h4⟩ := hs.get i o1 h1
      refine ⟨m, by simp [e, h2], o2, ?_, h4.mono hle⟩
      rw [upd_ne _ _ (fun e' => by rw [e', hn] at h3; cases h3)]
      exact h3
  · rw [Tr.set_get _ _ _ (limD hl)] at h1 h2
    by_cases e : i = s.nx <;> by_cases e' : j = s.nx
    · omega
    · exfalso
      rw [if_neg e'] at h2
      simp only [e, if_true, Option.some.injEq] at h3
      simp only [e', if_false] at h4
      obtain ⟨m2, h6, o3, h7, _⟩ := hs.get j o2 h2
      rw [h6] at h4; cases h4
      rw [← h5, ← h3, hn] at h7
      cases h7
    · exfalso
      rw [if_neg e] at h1
      simp only [e', if_true, Option.some.injEq] at h4
      simp only [e, if_false] at h3
      obtain ⟨m2, h6, o3, h7, _⟩ := hs.get i o1 h1
      rw [h6] at h3; cases h3
      rw [h5, ← h4, hn] at h7
      cases h7
    · rw [if_neg e] at h1
      rw [if_neg e'] at h2
      simp only [e, if_false] at h3
      simp only [e', if_false] at h4
      exact hs.inj i j o1 o2 m m' h1 h2 h3 h4 h5
  · have hi' : s.nx + 1 ≤ i := hi
    have : i ≠ s.nx := by omega
    simp only [this, if_false]
    exact hs.nxt i (by omega)
theorem SR.upd {s : St} (hs : SR P ρ s σ) {i : Nat} {m : Nat × Nat} {o : EO} (hi : s.t.get i = some o) (hm : ρ i = some m) {o1 : EO} {o1' : O} (ho : RO P ρ m.2 o1 o1') :
    SR P ρ ⟨s.nx, Tr.set (some o1) depthTr s.t i⟩ (Gl.upd σ m.1 o1') := by
  have hl := limD (hs.lt hm)
  refine ⟨fun j o2 h1 => ?_, fun j j' o2 o3 m1 m2 h1 h2 h3 h4 h5 => ?_, hs.nxt, hs.lim⟩
  · rw [Tr.set_get _ _ _ hl] at h1
    by_cases e : j = i
    · subst e
      rw [if_pos rfl] at h1
      cases h1
      exact ⟨m, hm, o1', upd_same _ _ _, ho⟩
    · rw [if_neg e] at h1
      obtain ⟨m1, h2, o3, h3, h4⟩ := hs.get j o2 h1
      refine ⟨m1, h2, o3, ?_, h4⟩
      rw [upd_ne _ _ (fun e' => e (hs.inj j i o2 o m1 m h1 hi h2 hm e'))]
      exact h3
  · rw [Tr.set_get _ _ _ hl] at h1 h2
    have g1 : ∃ q, s.t.get j = some q := by
      by_cases e : j = i
      · exact ⟨o, e ▸ hi⟩
      · rw [if_neg e] at h1; exact ⟨_, h1⟩
    have g2 : ∃ q, s.t.get j' = some q := by
      by_cases e : j' = i
      · exact ⟨o, e ▸ hi⟩
      · rw [if_neg e] at h2; exact ⟨_, h2⟩
    obtain ⟨q1, g1⟩ := g1
    obtain ⟨q2, g2⟩ := g2
    exact hs.inj j j' q1 q2 m1 m2 g1 g2 h3 h4 h5
theorem SR.del {s : St} (hs : SR P ρ s σ) {i : Nat} {m : Nat × Nat} {o : EO} (hi : s.t.get i = some o) (hm : ρ i = some m) :
    SR P ρ ⟨s.nx, Tr.set none depthTr s.t i⟩ (Gl.del σ m.1) := by
  have hl := limD (hs.lt hm)
  have sub : ∀ j q, (Tr.set none depthTr s.t i).get j = some q → j ≠ i ∧ s.t.get j = some q := fun j q h => by
    rw [Tr.set_get _ _ _ hl] at h
    by_cases e : j = i
    · rw [if_pos e] at h; cases h
    · rw [if_neg e] at h; exact ⟨e, h⟩
  refine ⟨fun j o2 h1 => ?_, fun j j' o2 o3 m1 m2 h1 h2 h3 h4 h5 => ?_, hs.nxt, hs.lim⟩
  · obtain ⟨e, h1⟩ := sub j o2 h1
    obtain ⟨m1, h2, o3, h3, h4⟩ := hs.get j o2 h1
    refine ⟨m1, h2, o3, ?_, h4⟩
    have : m1.1 ≠ m.1 := fun e' => e (hs.inj j i o2 o m1 m h1 hi h2 hm e')
    simp [Gl.del, this, h3]
  · exact hs.inj j j' o2 o3 m1 m2 (sub _ _ h1).2 (sub _ _ h2).2 h3 h4 h5
theorem SR.at {s : St} (hs : SR P ρ s σ) {i : Nat} {m : Nat × Nat} {o : EO} (hi : s.t.get i = some o) (hm : ρ i = some m) : ∃ o', σ m.1 = some o' ∧ RO P ρ m.2 o o' := by
  obtain ⟨m', h1, h2⟩ := hs.get i o hi
  rw [hm] at h1; cases h1
  exact h2
/-! ### operands -/
theorem RE.get : ∀ {env env₀ : Env}, RE ρ env env₀ → ∀ {k : Nat} {v : V}, Gl.get k env = some v → ∃ v', Gl.get k env₀ = some v' ∧ RV ρ v v'
  | (j, u) :: r, _, ⟨y, ys, h1, h2, e⟩, k, v, h => by
    subst e
    obtain ⟨j', u'⟩ := y
    have e1 : j' = j := h1.1
    subst e1
    simp only [Gl.get] at h ⊢
    cases hb : Nat.beq j' k with
    | true => rw [hb] at h; simp only [cond_true] at h ⊢; cases h; exact ⟨u', rfl, h1.2⟩
    | false => rw [hb] at h; simp only [cond_false] at h ⊢; exact RE.get h2 h
theorem RE.getN : ∀ {env env₀ : Env}, RE ρ env env₀ → ∀ {k : Nat}, Gl.get k env = none → Gl.get k env₀ = none
  | [], _, h, k, _ => by cases h; rfl
  | (j, u) :: r, _, ⟨y, ys, h1, h2, e⟩, k, h => by
    subst e
    obtain ⟨j', u'⟩ := y
    have e1 : j' = j := h1.1
    subst e1
    simp only [Gl.get] at h ⊢
    cases hb : Nat.beq j' k with
    | true => rw [hb] at h; simp only [cond_true] at h; cases h
    | false => rw [hb] at h; simp only [cond_false] at h ⊢; exact RE.getN h2 h
def evx (env : Env) : Opd → Option V
  | .t n => get n env
  | .c v => bif pureV v then some v else none
theorem evx_ok (he : RE ρ env env₀) {x : Opd} {v : V} (h : evx env x = some v) : ∃ v', ev env₀ x = some v' ∧ RV ρ v v' := by
  cases x with
  | t n => exact he.get h
  | c u =>
    simp only [evx] at h
    cases hb : pureV u with
    | true => rw [hb] at h; cases h; exact ⟨_, rfl, RV.pure _ hb⟩
    | false => rw [hb] at h; cases h
def evxs (env : Env) : List Opd → Option (List V)
  | [] => some []
  | x :: r => match evx env x with
    | some v => match evxs env r with
      | some vs => some (v :: vs)
      | none => none
    | none => none
theorem evxs_ok (he : RE ρ env env₀) : ∀ {l : List Opd} {vs : List V}, evxs env l = some vs → ∃ vs', evs env₀ l = some vs' ∧ RVs ρ vs vs'
  | [], _, h => by cases h; exact ⟨[], rfl, rfl⟩
  | x :: r, vs, h => by
    simp only [evxs] at h
    split at h
    · rename_i v hv
      split at h
      · rename_i us hu
        cases h
        obtain ⟨v', h1, h2⟩ := evx_ok he hv
        obtain ⟨vs', h3, h4⟩ := evxs_ok he hu
        exact ⟨v' :: vs', by simp only [evs, h1, h3], F2.cons h2 h4⟩
      · cases h
    · cases h
/-! ### numbers -/
def wrapQ (k : IntKind) (n : Int) : Int :=
  match k, n with
  | .i64, .ofNat m => bif Nat.ble m 9223372036854775807 then .ofNat m else IntKind.i64.wrap (.ofNat m)
  | .u64, .ofNat m => bif Nat.ble m 18446744073709551615 then .ofNat m else IntKind.u64.wrap (.ofNat m)
  | k, n => k.wrap n
theorem wrap_u64 {n : Int} (h1 : 0 ≤ n) (h2 : n ≤ 18446744073709551615) : IntKind.u64.wrap n = n := by
  have e : IntKind.u64.wrap n = n % 18446744073709551616 := by simp [IntKind.wrap, IntKind.bits, IntKind.signed]
  rw [e]; omega
theorem ofNat_eq (m : Nat) : Int.ofNat m = (m : Int) := rfl
theorem wrapQ_eq (k : IntKind) (n : Int) : wrapQ k n = k.wrap n := by
  unfold wrapQ
  split
  · rename_i m
    cases h : Nat.ble m 9223372036854775807 with
    | true =>
      have h' : m ≤ 9223372036854775807 := by rw [Nat.ble_eq] at h; exact h
      rw [cond_true, ofNat_eq]
      exact (wrap64 (by omega) (by omega)).symm
    | false => rfl
  · rename_i m
    cases h : Nat.ble m 18446744073709551615 with
    | true =>
      have h' : m ≤ 18446744073709551615 := by rw [Nat.ble_eq] at h; exact h
      rw [cond_true, ofNat_eq]
      exact (wrap_u64 (by omega) (by omega)).symm
    | false => rfl
  · rfl
def ltQ (a b : Int) : Bool :=
  match a, b with
  | .ofNat m, .ofNat n => Nat.ble (m + 1) n
  | .negSucc _, .ofNat _ => true
  | .ofNat _, .negSucc _ => false
  | .negSucc m, .negSucc n => Nat.ble (n + 1) m
theorem ltQ_eq (a b : Int) : ltQ a b = decide (a < b) := by
  cases a <;> cases b <;> simp only [ltQ]
  · rename_i m n
    rw [Bool.eq_iff_iff, Nat.ble_eq, decide_eq_true_eq]; simp; omega
  · rename_i m n
    symm; rw [decide_eq_false_iff_not]; simp; omega
  · rename_i m n
    symm; rw [decide_eq_true_eq]; simp; omega
  · rename_i m n
    rw [Bool.eq_iff_iff, Nat.ble_eq, decide_eq_true_eq]; omega
def leQ (a b : Int) : Bool := !ltQ b a
theorem leQ_eq (a b : Int) : leQ a b = decide (a ≤ b) := by
  rw [leQ, ltQ_eq, Bool.eq_iff_iff]; simp
def eqQ (a b : Int) : Bool :=
  match a, b with
  | .ofNat m, .ofNat n => Nat.beq m n
  | .negSucc m, .negSucc n => Nat.beq m n
  | _, _ => false
theorem eqQ_eq (a b : Int) : eqQ a b = (a == b) := by
  cases a <;> cases b <;> simp only [eqQ]
  · rename_i m n
    rw [Bool.eq_iff_iff, Nat.beq_eq, beq_iff_eq]
    exact ⟨fun e => by rw [e], fun e => by cases e; rfl⟩
  · rename_i m n
    rw [Bool.eq_iff_iff, beq_iff_eq]
    exact ⟨fun e => (by cases e), fun e => by cases e⟩
  · rename_i m n
    rw [Bool.eq_iff_iff, beq_iff_eq]
    exact ⟨fun e => (by cases e), fun e => by cases e⟩
  · rename_i m n
    rw [Bool.eq_iff_iff, Nat.beq_eq, beq_iff_eq]
    exact ⟨fun e => by rw [e], fun e => by cases e; rfl⟩
theorem leq_of {a b : Int} (h : leQ a b = true) : a ≤ b := by rw [leQ_eq] at h; exact of_decide_eq_true h
theorem ltq_of {a b : Int} (h : ltQ a b = true) : a < b := by rw [ltQ_eq] at h; exact of_decide_eq_true h
def bitsQ (op : BinOp) (k : IntKind) (x y : Int) : Int :=
  match k, x, y with
  | .u64, .ofNat a, .ofNat b => bif Nat.ble a 18446744073709551615 && Nat.ble b 18446744073709551615 then
      match op with
      | .and => .ofNat (Nat.land a b)
      | .or => .ofNat (Nat.lor a b)
      | op => bits op .u64 (.ofNat a) (.ofNat b)
    else bits op .u64 (.ofNat a) (.ofNat b)
  | k, x, y => bits op k x y
theorem bitsQ_eq (op : BinOp) (k : IntKind) (x y : Int) : bitsQ op k x y = bits op k x y := by
  unfold bitsQ
  split
  · rename_i a b
    cases h : Nat.ble a 18446744073709551615 && Nat.ble b 18446744073709551615 with
    | false => rfl
    | true =>
      simp only [Bool.and_eq_true] at h
      have h1 := Nat.le_of_ble_eq_true h.1
      have h2 := Nat.le_of_ble_eq_true h.2
      have e1 : (BitVec.ofInt 64 (Int.ofNat a)).toNat = a := by
        rw [show Int.ofNat a = (a : Int) from rfl, BitVec.ofInt_natCast, BitVec.toNat_ofNat]; omega
      have e2 : (BitVec.ofInt 64 (Int.ofNat b)).toNat = b := by
        rw [show Int.ofNat b = (b : Int) from rfl, BitVec.ofInt_natCast, BitVec.toNat_ofNat]; omega
      simp only [cond_true]
      split
      · have e3 : bits .and .u64 (Int.ofNat a) (Int.ofNat b) = IntKind.u64.wrap (((BitVec.ofInt 64 (Int.ofNat a)) &&& (BitVec.ofInt 64 (Int.ofNat b))).toNat : Int) := rfl
        rw [e3, BitVec.toNat_and, e1, e2]
        have : a &&& b < 2 ^ 64 := Nat.and_lt_two_pow _ (by omega)
        rw [wrap_u64 (by omega) (by omega)]
        rfl
      · have e3 : bits .or .u64 (Int.ofNat a) (Int.ofNat b) = IntKind.u64.wrap (((BitVec.ofInt 64 (Int.ofNat a)) ||| (BitVec.ofInt 64 (Int.ofNat b))).toNat : Int) := rfl
        rw [e3, BitVec.toNat_or, e1, e2]
        have : a ||| b < 2 ^ 64 := Nat.or_lt_two_pow (by omega) (by omega)
        rw [wrap_u64 (by omega) (by omega)]
        rfl
      · rfl
  · rfl
def eBin (op : BinOp) (x y : V) : Option V :=
  match x, y with
  | .i ka a, .i kb b =>
    match op with
    | .add => bif decide (ka = kb) then some (.i ka (wrapQ ka (a + b))) else none
    | .sub => bif decide (ka = kb) then some (.i ka (wrapQ ka (a - b))) else none
    | .mul => bif decide (ka = kb) then some (.i ka (wrapQ ka (a * b))) else none
    | .quo => bif decide (ka = kb) && !eqQ b 0 then some (.i ka (wrapQ ka (a.tdiv b))) else none
    | .rem => bif decide (ka = kb) && !eqQ b 0 then some (.i ka (a.tmod b)) else none
    | .eql => bif decide (ka = kb) then some (.b (eqQ a b)) else none
    | .neq => bif decide (ka = kb) then some (.b (!eqQ a b)) else none
    | .lss => bif decide (ka = kb) then some (.b (ltQ a b)) else none
    | .leq => bif decide (ka = kb) then some (.b (leQ a b)) else none
    | .gtr => bif decide (ka = kb) then some (.b (ltQ b a)) else none
    | .geq => bif decide (ka = kb) then some (.b (leQ b a)) else none
    | .shl => bif leQ 0 b then some (.i ka (wrapQ ka (a * 2 ^ (min b.toNat ka.bits)))) else none
    | .shr => bif leQ 0 b then some (.i ka (a.fdiv (2 ^ (min b.toNat ka.bits)))) else none
    | op => bif decide (ka = kb) then some (.i ka (bitsQ op ka a b)) else none
  | _, _ => none
theorem bif_some {α : Type} {c : Bool} {x : Option α} {v : α} (h : (bif c then x else none) = some v) : c = true ∧ x = some v := by
  cases c with
  | true => exact ⟨rfl, h⟩
  | false => cases h
theorem eBin_ok {op : BinOp} {x y v : V} (h : eBin op x y = some v) : pureV x = true ∧ pureV y = true ∧ pureV v = true ∧ ∀ K : V → Prop, K v → kBin op x y K := by
  unfold eBin at h
  split at h
  · rename_i ka a kb b
    refine ⟨rfl, rfl, ?_⟩
    cases op <;> simp only at h <;> obtain ⟨h1, h2⟩ := bif_some h <;> cases h2 <;> refine ⟨rfl, fun K hK => ?_⟩ <;>
      (try simp only [Bool.and_eq_true, decide_eq_true_eq, Bool.not_eq_true', eqQ_eq, beq_eq_false_iff_ne] at h1) <;>
      (try simp only [wrapQ_eq, ltQ_eq, leQ_eq, eqQ_eq, bitsQ_eq] at hK) <;> simp only [kBin]
    all_goals first
      | exact ⟨h1, hK⟩
      | exact ⟨h1.1, h1.2, hK⟩
      | exact ⟨leq_of h1, hK⟩
  · cases h
/-! ### cells -/
theorem cellsOf_ok {v v' : V} {cs : List V} (h : cellsOf v = some cs) (hv : RV ρ v v') : ∃ cs', cellsOf v' = some cs' ∧ RVs ρ cs cs' := by
  cases v with
  | a cs0 =>
    cases h
    obtain ⟨c, h1, rfl⟩ := hv
    exact ⟨c, rfl, RL_eq.1 h1⟩
  | t _ => cases h
  | any => cases h
  | _ =>
    cases h
    have : cellsOf v' = some [v'] := by
      simp only [RV] at hv
      first
        | (rw [hv]; rfl)
        | (obtain ⟨_, _, hv⟩ := hv; rw [hv]; rfl)
        | (obtain ⟨_, _, _, _, _, _, hv⟩ := hv; rw [hv]; rfl)
    exact ⟨[v'], this, F2.cons hv F2.nil⟩
theorem oneV_ok {v v' : V} (hv : RV ρ v v') : oneV v' = oneV v := by
  cases v <;> simp only [RV] at hv <;> first
    | (rw [hv]; done)
    | (obtain ⟨_, _, hv⟩ := hv; rw [hv]; rfl)
    | (obtain ⟨_, _, _, _, _, _, hv⟩ := hv; rw [hv]; rfl)
theorem all_one {vs vs' : List V} (h : vs.all oneV = true) (hv : RVs ρ vs vs') : vs'.all oneV = true := by
  rw [List.all_eq_true] at *
  intro v hm
  obtain ⟨u, hu, hr⟩ := F2.mem hv hm
  rw [oneV_ok hr]
  exact h u hu
theorem all_ones {vs vs' : List (List V)} (h : (vs.all fun e => e.all oneV) = true) (hv : RRs ρ vs vs') : ∀ e ∈ vs', ∀ v ∈ e, oneV v = true := by
  rw [List.all_eq_true] at h
  intro e he
  obtain ⟨u, hu, hr⟩ := F2.mem hv he
  have := all_one (h u hu) hr
  rwa [List.all_eq_true] at this
theorem all_len {sz : Nat} {vs vs' : List (List V)} (h : (vs.all fun e => Nat.beq e.length sz) = true) (hv : RRs ρ vs vs') : ∀ e ∈ vs', e.length = sz := by
  rw [List.all_eq_true] at h
  intro e he
  obtain ⟨u, hu, hr⟩ := F2.mem hv he
  rw [hr.len]
  exact nbeq (h u hu)
theorem putAt_ok : ∀ {vc vc' : List V} {cs cs' : List V} {off : Nat}, RVs ρ cs cs' → RVs ρ vc vc' → RVs ρ (putAt cs off vc) (putAt cs' off vc')
  | [], _, _, _, _, h, h' => by cases h'; exact h
  | _ :: _, _, _, _, off, h, ⟨y, ys, h1, h2, e⟩ => by
    subst e
    simp only [putAt]
    exact putAt_ok (h.set off h1) h2
def eCut (agg : Option Nat) (cs : List V) (off : Nat) : Option V :=
  match agg with
  | none => cs[off]?
  | some n => bif Nat.ble (off + n) cs.length then some (.a ((cs.drop off).take n)) else none
theorem eCut_ok {agg : Option Nat} {cs cs' : List V} {off : Nat} {v : V} (h : eCut agg cs off = some v) (hc : RVs ρ cs cs') {K : V → Prop} (hK : ∀ v', RV ρ v v' → K v') : cut agg cs' off K := by
  cases agg with
  | none =>
    obtain ⟨y, h1, h2⟩ := hc.get h
    simp only [cut, h1]
    exact hK _ h2
  | some n =>
    obtain ⟨h1, h2⟩ := bif_some h
    cases h2
    refine ⟨by rw [hc.len]; exact Nat.le_of_ble_eq_true h1, hK _ ?_⟩
    simp only [RV]
    exact ⟨_, RL_eq.2 ((hc.drop off).take n), rfl⟩
def eLoad (s : St) (agg : Option Nat) (x : V) : Option V :=
  match x with
  | .rp cs => eCut agg cs 0
  | .p n off => match s.t.get n with
    | some (.cs vs) => eCut agg vs off
    | _ => none
  | .pe n sz i off => match s.t.get n with
    | some (.arr sz' es) => bif Nat.beq sz sz' then (match es[i]? with | some e => eCut agg e off | none => none) else none
    | _ => none
  | _ => none
theorem eLoad_ok {s : St} (hs : SR P ρ s σ) {agg : Option Nat} {x x' v : V} (h : eLoad s agg x = some v) (hx : RV ρ x x') {K : V → Prop} (hK : ∀ v', RV ρ v v' → K v') : kLoad σ agg x' K := by
  unfold eLoad at h
  split at h
  · obtain ⟨c, h1, rfl⟩ := hx
    exact eCut_ok h (RL_eq.1 h1) hK
  · obtain ⟨m, h1, rfl⟩ := hx
    split at h
    · rename_i vs hg
      obtain ⟨o', h2, vs', h3, rfl⟩ := hs.at hg h1
      simp only [kLoad, loadP, h2]
      exact eCut_ok h h3 hK
    · cases h
  · obtain ⟨m, h1, rfl⟩ := hx
    split at h
    · rename_i es hg
      obtain ⟨o', h2, es', h3, rfl⟩ := hs.at hg h1
      obtain ⟨h4, h5⟩ := bif_some h
      split at h5
      · rename_i e he
        obtain ⟨e', h6, h7⟩ := h3.get he
        simp only [kLoad, loadE, h2, h6]
        exact ⟨nbeq h4, eCut_ok h5 h7 hK⟩
      · cases h5
    · cases h
  · cases h
def eStore (s : St) (sz : Nat) (a x : V) : Option St :=
  match cellsOf x with
  | some vc => bif Nat.beq vc.length sz && vc.all oneV then
      match a with
      | .p n off => match s.t.get n with
        | some (.cs vs) => bif Nat.ble (off + sz) vs.length then Tr.put (some (.cs (putAt vs off vc))) depthTr s.t n fun t => some ⟨s.nx, t⟩ else none
        | _ => none
      | .pe n s' i off => match s.t.get n with
        | some (.arr s1 es) => bif Nat.beq s' s1 && Nat.ble (off + sz) s' then
            (match es[i]? with | some e => Tr.put (some (.arr s1 (es.set i (putAt e off vc)))) depthTr s.t n fun t => some ⟨s.nx, t⟩ | none => none) else none
        | _ => none
      | _ => none
    else none
  | none => none
theorem eStore_ok {s s' : St} (hs : SR P ρ s σ) {sz : Nat} {a a' x x' : V} (h : eStore s sz a x = some s') (ha : RV ρ a a') (hx : RV ρ x x') {K : Store → Prop} (hK : ∀ σ', SR P ρ s' σ' → K σ') : kStore σ sz a' x' K := by
  unfold eStore at h
  split at h
  · rename_i vc hvc
    obtain ⟨vc', e1, e2⟩ := cellsOf_ok hvc hx
    obtain ⟨h1, h2⟩ := bif_some h
    simp only [Bool.and_eq_true] at h1
    simp only [kStore, e1]
    refine ⟨by rw [e2.len]; exact nbeq h1.1, all_one h1.2 e2, ?_⟩
    split at h2
    · obtain ⟨m, g1, rfl⟩ := ha
      split at h2
      · rename_i vs hg
        obtain ⟨o', g2, vs', g3, rfl⟩ := hs.at hg g1
        obtain ⟨h3, h4⟩ := bif_some h2
        rw [Tr.put_eq] at h4
        cases h4
        simp only [g2]
        exact ⟨by rw [g3.len]; exact Nat.le_of_ble_eq_true h3, hK _ (hs.upd hg g1 ⟨_, putAt_ok g3 e2, rfl⟩)⟩
      · cases h2
    · obtain ⟨m, g1, rfl⟩ := ha
      split at h2
      · rename_i es hg
        obtain ⟨o', g2, vs', g3, rfl⟩ := hs.at hg g1
        obtain ⟨h3, h4⟩ := bif_some h2
        simp only [Bool.and_eq_true] at h3
        split at h4
        · rename_i e he
          rw [Tr.put_eq] at h4
          cases h4
          obtain ⟨e', g4, g5⟩ := g3.get he
          simp only [g2, g4]
          have e := nbeq h3.1
          subst e
          exact ⟨rfl, Nat.le_of_ble_eq_true h3.2, hK _ (hs.upd hg g1 ⟨_, g3.set _ (putAt_ok g5 e2), rfl⟩)⟩
        · cases h4
      · cases h2
    · cases h2
  · cases h
def eFaddr (off : Nat) (x : V) : Option V :=
  match x with
  | .rp cs => some (.rp (cs.drop off))
  | .p n o => some (.p n (o + off))
  | .pe n sz i o => some (.pe n sz i (o + off))
  | _ => none
theorem eFaddr_ok {off : Nat} {x x' v : V} (h : eFaddr off x = some v) (hx : RV ρ x x') {K : V → Prop} (hK : ∀ v', RV ρ v v' → K v') : kFaddr off x' K := by
  unfold eFaddr at h
  split at h
  · obtain ⟨c, h1, rfl⟩ := hx
    cases h
    exact hK _ (by simp only [RV]; exact ⟨_, RL_eq.2 ((RL_eq.1 h1).drop off), rfl⟩)
  · obtain ⟨m, h1, rfl⟩ := hx
    cases h
    exact hK _ (by simp only [RV]; exact ⟨m, h1, rfl⟩)
  · obtain ⟨m, h1, rfl⟩ := hx
    cases h
    exact hK _ (by simp only [RV]; exact ⟨m, h1, rfl⟩)
  · cases h
def eIaddr (sz : Nat) (arr : Option Nat) (x i : V) : Option V :=
  match i with
  | .i _ j => bif leQ 0 j then
      match arr, x with
      | none, .l es _ => match es[j.toNat]? with | some e => bif Nat.beq e.length sz then some (.rp e) else none | none => none
      | none, .sl n len _ => bif ltQ j len then some (.pe n sz j.toNat 0) else none
      | none, .sv n s off len => bif Nat.beq s sz && ltQ j len then some (.pe n sz (off + j.toNat) 0) else none
      | some m, .rp cs => bif ltQ j m then some (.rp (cs.drop (j.toNat * sz))) else none
      | some m, .p n o => bif ltQ j m then some (.p n (o + j.toNat * sz)) else none
      | some m, .pe n s q o => bif ltQ j m then some (.pe n s q (o + j.toNat * sz)) else none
      | _, _ => none
    else none
  | _ => none
theorem eIaddr_ok {sz : Nat} {arr : Option Nat} {x x' i i' v : V} (h : eIaddr sz arr x i = some v) (hx : RV ρ x x') (hi : RV ρ i i') {K : V → Prop} (hK : ∀ v', RV ρ v v' → K v') : kIaddr sz arr x' i' K := by
  unfold eIaddr at h
  split at h
  · rename_i kj j
    simp only [RV] at hi
    subst hi
    obtain ⟨h0, h⟩ := bif_some h
    have h0 := leq_of h0
    split at h
    · obtain ⟨es', h1, rfl⟩ := hx
      split at h
      · rename_i e he
        obtain ⟨h2, h3⟩ := bif_some h
        cases h3
        obtain ⟨e', h4, h5⟩ := (RR_eq.1 h1).get he
        exact ⟨h0, e', h4, by rw [h5.len]; exact nbeq h2, hK _ (by simp only [RV]; exact ⟨e', RL_eq.2 h5, rfl⟩)⟩
      · cases h
    · obtain ⟨m, h1, rfl⟩ := hx
      obtain ⟨h2, h3⟩ := bif_some h
      cases h3
      exact ⟨h0, ltq_of h2, hK _ (by simp only [RV]; exact ⟨m, h1, rfl⟩)⟩
    · obtain ⟨m, h1, rfl⟩ := hx
      obtain ⟨h2, h3⟩ := bif_some h
      simp only [Bool.and_eq_true] at h2
      cases h3
      exact ⟨nbeq h2.1, h0, ltq_of h2.2, hK _ (by simp only [RV]; exact ⟨m, h1, rfl⟩)⟩
    · obtain ⟨c, h1, rfl⟩ := hx
      obtain ⟨h2, h3⟩ := bif_some h
      cases h3
      exact ⟨h0, ltq_of h2, hK _ (by simp only [RV]; exact ⟨_, RL_eq.2 ((RL_eq.1 h1).drop _), rfl⟩)⟩
    · obtain ⟨m, h1, rfl⟩ := hx
      obtain ⟨h2, h3⟩ := bif_some h
      cases h3
      exact ⟨h0, ltq_of h2, hK _ (by simp only [RV]; exact ⟨m, h1, rfl⟩)⟩
    · obtain ⟨m, h1, rfl⟩ := hx
      obtain ⟨h2, h3⟩ := bif_some h
      cases h3
      exact ⟨h0, ltq_of h2, hK _ (by simp only [RV]; exact ⟨m, h1, rfl⟩)⟩
    · cases h
  · cases h
def eIndex (len sz : Nat) (agg : Option Nat) (x i : V) : Option V :=
  match x, i with
  | .a cs, .i _ j => bif leQ 0 j && ltQ j len then eCut agg cs (j.toNat * sz) else none
  | _, _ => none
theorem eIndex_ok {len sz : Nat} {agg : Option Nat} {x x' i i' v : V} (h : eIndex len sz agg x i = some v) (hx : RV ρ x x') (hi : RV ρ i i') {K : V → Prop} (hK : ∀ v', RV ρ v v' → K v') : kIndex len sz agg x' i' K := by
  unfold eIndex at h
  split at h
  · simp only [RV] at hi
    subst hi
    obtain ⟨c, h1, rfl⟩ := hx
    obtain ⟨h2, h3⟩ := bif_some h
    simp only [Bool.and_eq_true] at h2
    exact ⟨leq_of h2.1, ltq_of h2.2, eCut_ok h3 (RL_eq.1 h1) hK⟩
  · cases h
def eSidx (x i : V) : Option V :=
  match x, i with
  | .s b, .i _ j => bif leQ 0 j then (match b.data.toList[j.toNat]? with | some c => some (.i .u8 (.ofNat c.toNat)) | none => none) else none
  | _, _ => none
theorem eSidx_ok {x x' i i' v : V} (h : eSidx x i = some v) (hx : RV ρ x x') (hi : RV ρ i i') {K : V → Prop} (hK : ∀ v', RV ρ v v' → K v') : kSidx x' i' K := by
  unfold eSidx at h
  split at h
  · simp only [RV] at hi hx
    subst hi; subst hx
    obtain ⟨h2, h3⟩ := bif_some h
    refine ⟨leq_of h2, ?_⟩
    split at h3
    · rename_i c hc
      cases h3
      rw [hc]
      exact hK _ (by simp only [RV]; rfl)
    · cases h3
  · cases h
def eLen (x : V) : Option V :=
  match x with
  | .l es _ => some (.i .i64 (.ofNat es.length))
  | .sl _ len _ => bif Nat.ble len maxL then some (.i .i64 (.ofNat len)) else none
  | .sv _ _ _ len => bif Nat.ble len maxL then some (.i .i64 (.ofNat len)) else none
  | _ => none
theorem eLen_ok {x x' v : V} (h : eLen x = some v) (hx : RV ρ x x') {K : V → Prop} (hK : ∀ v', RV ρ v v' → K v') : kLen x' K := by
  unfold eLen at h
  split at h
  · obtain ⟨es', h1, rfl⟩ := hx
    cases h
    have := (RR_eq.1 h1).len
    exact hK _ (by simp only [RV]; rw [this]; rfl)
  · obtain ⟨m, h1, rfl⟩ := hx
    obtain ⟨h2, h3⟩ := bif_some h
    cases h3
    exact ⟨Nat.le_of_ble_eq_true h2, hK _ (by simp only [RV]; rfl)⟩
  · obtain ⟨m, h1, rfl⟩ := hx
    obtain ⟨h2, h3⟩ := bif_some h
    cases h3
    exact ⟨Nat.le_of_ble_eq_true h2, hK _ (by simp only [RV]; rfl)⟩
  · cases h
def eLenM (s : St) (x : V) : Option V :=
  match x with
  | .m n => match s.t.get n with
    | some (.map kvs) => bif Nat.ble kvs.length maxL then some (.i .i64 (.ofNat kvs.length)) else none
    | _ => none
  | .mn => some (.i .i64 0)
  | _ => none
theorem eLenM_ok {s : St} (hs : SR P ρ s σ) {x x' v : V} (h : eLenM s x = some v) (hx : RV ρ x x') {K : V → Prop} (hK : ∀ v', RV ρ v v' → K v') : kLenM σ x' K := by
  unfold eLenM at h
  split at h
  · obtain ⟨m, h1, rfl⟩ := hx
    split at h
    · rename_i kvs hg
      obtain ⟨h2, h3⟩ := bif_some h
      cases h3
      obtain ⟨o', g2, kvs', g3, rfl⟩ := hs.at hg h1
      simp only [kLenM, g2]
      have := g3.len
      exact ⟨by rw [this]; exact Nat.le_of_ble_eq_true h2, hK _ (by simp only [RV]; rw [this]; rfl)⟩
    · cases h
  · cases h
    simp only [RV] at hx
    subst hx
    exact hK _ (by simp only [RV])
  · cases h
def eRows (s : St) (sz : Nat) (y : V) : Option (List (List V)) :=
  match y with
  | .l ys _ => bif ys.all (fun e => Nat.beq e.length sz) then some ys else none
  | .sl m len _ => match s.t.get m with
    | some (.arr s' ys) => bif Nat.beq s' sz && Nat.ble len ys.length then some (ys.take len) else none
    | _ => none
  | .sv m s1 off len => match s.t.get m with
    | some (.arr s' ys) => bif Nat.beq s1 sz && (Nat.beq s' sz && Nat.ble (off + len) ys.length) then some ((ys.drop off).take len) else none
    | _ => none
  | _ => none
theorem eRows_ok {s : St} (hs : SR P ρ s σ) {sz : Nat} {y y' : V} {ys : List (List V)} (h : eRows s sz y = some ys) (hy : RV ρ y y') {K : List (List V) → Prop} (hK : ∀ ys', RRs ρ ys ys' → K ys') : rowsOf σ sz y' K := by
  unfold eRows at h
  split at h
  · obtain ⟨es', h1, rfl⟩ := hy
    obtain ⟨h2, h3⟩ := bif_some h
    cases h3
    exact ⟨all_len h2 (RR_eq.1 h1), hK _ (RR_eq.1 h1)⟩
  · obtain ⟨m, h1, rfl⟩ := hy
    split at h
    · rename_i es hg
      obtain ⟨o', g2, es', g3, rfl⟩ := hs.at hg h1
      obtain ⟨h2, h3⟩ := bif_some h
      simp only [Bool.and_eq_true] at h2
      cases h3
      simp only [rowsOf, g2]
      exact ⟨nbeq h2.1, by rw [g3.len]; exact Nat.le_of_ble_eq_true h2.2, hK _ (g3.take _)⟩
    · cases h
  · obtain ⟨m, h1, rfl⟩ := hy
    split at h
    · rename_i es hg
      obtain ⟨o', g2, es', g3, rfl⟩ := hs.at hg h1
      obtain ⟨h2, h3⟩ := bif_some h
      simp only [Bool.and_eq_true] at h2
      cases h3
      simp only [rowsOf, g2]
      exact ⟨nbeq h2.1, nbeq h2.2.1, by rw [g3.len]; exact Nat.le_of_ble_eq_true h2.2.2, hK _ ((g3.drop _).take _)⟩
    · cases h
  · cases h
def St.new {β : Type} (s : St) (o : EO) (K : Nat → St → Option β) : Option β :=
  match s.nx with
  | 0 => Tr.put (some o) depthTr s.t 0 fun t => K 0 ⟨1, t⟩
  | n + 1 => bif Nat.ble (n + 1) limN then Tr.put (some o) depthTr s.t (n + 1) fun t => K (n + 1) ⟨n + 2, t⟩ else none
theorem St.new_eq {β : Type} {s : St} {o : EO} {K : Nat → St → Option β} {x : β} (h : s.new o K = some x) : s.nx ≤ limN ∧ K s.nx ⟨s.nx + 1, Tr.set (some o) depthTr s.t s.nx⟩ = some x := by
  obtain ⟨n, t⟩ := s
  cases n with
  | zero => simp only [St.new] at h; rw [Tr.put_eq] at h; exact ⟨by simp [limN], h⟩
  | succ n =>
    simp only [St.new] at h
    obtain ⟨h1, h2⟩ := bif_some h
    rw [Tr.put_eq] at h2
    exact ⟨Nat.le_of_ble_eq_true h1, h2⟩
theorem numsOf_ok : ∀ {ys ys' : List (List V)} {ns : List Int}, numsOf ys = some ns → RRs ρ ys ys' → numsOf ys' = some ns
  | [], ys', ns, h, hr => by obtain rfl : ys' = [] := hr; exact h
  | e :: r, ys', ns, h, hr => by
    unfold numsOf at h
    split at h
    · cases ‹_ = []›
    · rename_i n r' he
      cases he
      obtain ⟨e', r'', h1, h2, rfl⟩ := hr
      obtain ⟨v', l', h3, h4, rfl⟩ := h1
      obtain rfl : l' = [] := h4
      simp only [RV] at h3
      subst h3
      split at h
      · rename_i l hl
        cases h
        simp only [numsOf, numsOf_ok hl h2]
      · cases h
    · cases h
def eStr (s : St) (x : V) : Option V :=
  match eRows s 1 x with
  | some ys => match numsOf ys with
    | some ns => some (.s ⟨(ns.map fun n => UInt8.ofNat n.toNat).toArray⟩)
    | none => none
  | none => none
theorem eStr_ok {s : St} (hs : SR P ρ s σ) {x x' v : V} (h : eStr s x = some v) (hx : RV ρ x x') {K : V → Prop} (hK : ∀ v', RV ρ v v' → K v') : kStr σ x' K := by
  unfold eStr at h
  split at h
  · rename_i ys hys
    split at h
    · rename_i ns hn
      cases h
      refine eRows_ok hs hys hx fun ys' hr => ?_
      rw [numsOf_ok hn hr]
      exact hK _ (by simp only [RV])
    · cases h
  · cases h
def eAppend (s : St) (sz : Nat) (x y : V) : Option (V × St) :=
  match eRows s sz y with
  | some ys => bif ys.all (fun e => e.all oneV) then
      match x with
      | .l es full => bif es.all (fun e => Nat.beq e.length sz) && Nat.ble (es.length + ys.length) maxL then
          match ys with
          | [] => some (.l es full, s)
          | z :: zs => bif full then s.new (.arr sz (es ++ z :: zs)) fun i s' => some (.sl i (es.length + (z :: zs).length) 0, s') else none
        else none
      | .sl n len _ => match s.t.get n with
        | some (.arr s1 es) => bif Nat.beq s1 sz && (Nat.beq len es.length && Nat.ble (es.length + ys.length) maxL) then
            Tr.put none depthTr s.t n fun t => St.new ⟨s.nx, t⟩ (.arr sz (es ++ ys)) fun i s' => some (.sl i (es.length + ys.length) 0, s') else none
        | _ => none
      | _ => none
    else none
  | none => none
theorem eAppend_ok {s s' : St} (hs : SR P ρ s σ) {sz : Nat} {x x' y y' v : V} (h : eAppend s sz x y = some (v, s')) (hx : RV ρ x x') (hy : RV ρ y y') {K : V → Store → Prop}
    (hK : ∀ ρ' v' σ', ρ.le ρ' → RV ρ' v v' → SR P ρ' s' σ' → K v' σ') : kAppend σ sz x' y' K := by
  unfold eAppend at h
  split at h
  · rename_i ys hys
    obtain ⟨h1, h2⟩ := bif_some h
    refine eRows_ok hs hys hy fun ys' hr => ⟨all_ones h1 hr, ?_⟩
    split at h2
    · rename_i es full
      obtain ⟨es', g1, rfl⟩ := hx
      have g1 := RR_eq.1 g1
      obtain ⟨h3, h4⟩ := bif_some h2
      simp only [Bool.and_eq_true] at h3
      refine ⟨all_len h3.1 g1, by rw [g1.len, hr.len]; exact Nat.le_of_ble_eq_true h3.2, fun e => ?_, fun e => ?_⟩
      · split at h4
        · cases h4
          exact hK ρ _ _ (.refl _) (by simp only [RV]; exact ⟨es', RR_eq.2 g1, rfl⟩) hs
        · subst e
          have := hr.len
          simp at this
      · split at h4
        · cases hr
          exact absurd rfl e
        · rename_i z zs
          obtain ⟨h5, h6⟩ := bif_some h4
          obtain ⟨h7, h8⟩ := St.new_eq h6
          cases h8
          refine ⟨h5, fun n cap hn hc => ?_⟩
          obtain ⟨ρ', q1, q2, q3⟩ := hs.new h7 hn cap (o := .arr sz (es ++ z :: zs)) (o' := .arr sz (es' ++ ys') cap) ⟨_, g1.app hr, rfl⟩
          exact hK ρ' _ _ q1 (by simp only [RV]; exact ⟨_, q2, by rw [g1.len, hr.len]⟩) q3
    · rename_i n len
      obtain ⟨m, g1, rfl⟩ := hx
      split at h2
      · rename_i s1 es hg
        obtain ⟨o', g2, es', g3, rfl⟩ := hs.at hg g1
        obtain ⟨h3, h4⟩ := bif_some h2
        simp only [Bool.and_eq_true] at h3
        rw [Tr.put_eq] at h4
        obtain ⟨h5, h6⟩ := St.new_eq h4
        cases h6
        have e1 := nbeq h3.1
        subst e1
        simp only [g2]
        refine ⟨trivial, trivial, by rw [g3.len]; exact nbeq h3.2.1, by rw [g3.len, hr.len]; exact Nat.le_of_ble_eq_true h3.2.2, fun n' cap' hn hc => ?_⟩
        obtain ⟨ρ', q1, q2, q3⟩ := (hs.del hg g1).new h5 hn cap' (o := .arr s1 (es ++ ys)) (o' := .arr s1 (es' ++ ys') cap') ⟨_, g3.app hr, rfl⟩
        exact hK ρ' _ _ q1 (by simp only [RV]; exact ⟨_, q2, by rw [g3.len, hr.len]⟩) q3
      · cases h2
    · cases h2
  · cases h
def eAppf (s : St) (sz : Nat) (x y : V) : Option V :=
  match eRows s sz y with
  | some ys => bif ys.all (fun e => e.all oneV) then
      match x with
      | .l es full => bif es.all (fun e => Nat.beq e.length sz) && (Nat.ble (es.length + ys.length) maxL && (full || ys.isEmpty)) then some (.l (es ++ ys) false) else none
      | _ => none
    else none
  | none => none
theorem eAppf_ok {s : St} (hs : SR P ρ s σ) {sz : Nat} {x x' y y' v : V} (h : eAppf s sz x y = some v) (hx : RV ρ x x') (hy : RV ρ y y') {K : V → Prop} (hK : ∀ v', RV ρ v v' → K v') : kAppf σ sz x' y' K := by
  unfold eAppf at h
  split at h
  · rename_i ys hys
    obtain ⟨h1, h2⟩ := bif_some h
    refine eRows_ok hs hys hy fun ys' hr => ⟨all_ones h1 hr, ?_⟩
    split at h2
    · rename_i es full
      obtain ⟨es', g1, rfl⟩ := hx
      have g1 := RR_eq.1 g1
      obtain ⟨h3, h4⟩ := bif_some h2
      simp only [Bool.and_eq_true, Bool.or_eq_true] at h3
      cases h4
      refine ⟨all_len h3.1 g1, by rw [g1.len, hr.len]; exact Nat.le_of_ble_eq_true h3.2.1, fun e => ?_, hK _ (by simp only [RV]; exact ⟨_, RR_eq.2 (g1.app hr), rfl⟩)⟩
      rcases h3.2.2 with h | h
      · exact h
      · have : ys = [] := by simpa using h
        subst this
        cases hr
        exact absurd rfl e
    · cases h2
  · cases h
def eCpy (s : St) (sz : Nat) (ys : List (List V)) (n off len : Nat) : Option (V × St) :=
  match s.t.get n with
  | some (.arr s1 es) => bif Nat.beq s1 sz && Nat.ble (off + len) es.length then
      Tr.put (some (.arr s1 (es.take off ++ (ys.take (min ys.length len) ++ es.drop (off + min ys.length len))))) depthTr s.t n fun t => some (.i .i64 (.ofNat (min ys.length len)), ⟨s.nx, t⟩) else none
  | _ => none
theorem eCpy_ok {s s' : St} (hs : SR P ρ s σ) {sz n off len : Nat} {ys ys' : List (List V)} (hr : RRs ρ ys ys') {m : Nat × Nat} (hm : ρ n = some m) {v : V} (h : eCpy s sz ys n off len = some (v, s')) {K : V → Store → Prop}
    (hK : ∀ v' σ', RV ρ v v' → SR P ρ s' σ' → K v' σ') : kCpy σ sz ys' m.1 off len K := by
  unfold eCpy at h
  split at h
  · rename_i s1 es hg
    obtain ⟨o', g2, es', g3, rfl⟩ := hs.at hg hm
    obtain ⟨h3, h4⟩ := bif_some h
    simp only [Bool.and_eq_true] at h3
    rw [Tr.put_eq] at h4
    cases h4
    simp only [kCpy, g2]
    refine ⟨nbeq h3.1, by rw [g3.len]; exact Nat.le_of_ble_eq_true h3.2, ?_⟩
    rw [hr.len]
    exact hK _ _ (by simp only [RV]; rfl) (hs.upd hg hm ⟨_, ((g3.take off).app ((hr.take _).app (g3.drop _))), rfl⟩)
  · cases h
def eCopy (s : St) (sz : Nat) (x y : V) : Option (V × St) :=
  match eRows s sz y with
  | some ys => bif ys.all (fun e => e.all oneV) then
      match x with
      | .sl n len _ => eCpy s sz ys n 0 len
      | .sv n s1 off len => bif Nat.beq s1 sz then eCpy s sz ys n off len else none
      | _ => none
    else none
  | none => none
theorem eCopy_ok {s s' : St} (hs : SR P ρ s σ) {sz : Nat} {x x' y y' v : V} (h : eCopy s sz x y = some (v, s')) (hx : RV ρ x x') (hy : RV ρ y y') {K : V → Store → Prop}
    (hK : ∀ v' σ', RV ρ v v' → SR P ρ s' σ' → K v' σ') : kCopy σ sz x' y' K := by
  unfold eCopy at h
  split at h
  · rename_i ys hys
    obtain ⟨h1, h2⟩ := bif_some h
    refine eRows_ok hs hys hy fun ys' hr => ⟨all_ones h1 hr, ?_⟩
    split at h2
    · obtain ⟨m, g1, rfl⟩ := hx
      exact eCpy_ok hs hr g1 h2 hK
    · obtain ⟨m, g1, rfl⟩ := hx
      obtain ⟨h3, h4⟩ := bif_some h2
      exact ⟨nbeq h3, eCpy_ok hs hr g1 h4 hK⟩
    · cases h2
  · cases h
def eBnd (o : Option V) (d : Int) : Option Int :=
  match o with
  | none => some d
  | some (.i _ n) => some n
  | _ => none
def RVo (ρ : Ren) : Option V → Option V → Prop
  | none, o => o = none
  | some v, o => ∃ v', RV ρ v v' ∧ o = some v'
theorem eBnd_ok {o o' : Option V} {d n : Int} (h : eBnd o d = some n) (ho : RVo ρ o o') {K : Int → Prop} (hK : K n) : bnd o' d K := by
  unfold eBnd at h
  split at h
  · cases h; cases ho; exact hK
  · obtain ⟨v', h1, rfl⟩ := ho
    simp only [RV] at h1
    subst h1
    cases h
    exact hK
  · cases h
def eSlice (s : St) (sz : Nat) (x : V) (lo hi mx : Option V) : Option (V × St) :=
  match x with
  | .l es full => match eBnd hi (.ofNat es.length), eBnd lo 0 with
    | some h, some l => bif es.all (fun e => Nat.beq e.length sz) && (leQ 0 l && (leQ l h && leQ h (.ofNat es.length))) then
        match mx with
        | none => some (.l ((es.take h.toNat).drop l.toNat) (full && eqQ h (.ofNat es.length)), s)
        | some (.i _ m) => bif eqQ m h then some (.l ((es.take h.toNat).drop l.toNat) true, s) else none
        | _ => none
      else none
    | _, _ => none
  | .sl n len _ => match eBnd hi (.ofNat len), eBnd lo 0 with
    | some h, some l => bif leQ 0 l && (leQ l h && leQ h (.ofNat len)) then
        match mx with
        | none => some (.sv n sz l.toNat (h - l).toNat, s)
        | some (.i _ m) => match s.t.get n with
          | some (.arr s1 es) => bif eqQ m h && (eqQ h (.ofNat len) && (eqQ l 0 && (Nat.beq s1 sz && Nat.beq len es.length))) then Tr.put none depthTr s.t n fun t => St.new ⟨s.nx, t⟩ (.arr s1 es) fun i s' => some (.sl i len 0, s') else none
          | _ => none
        | _ => none
      else none
    | _, _ => none
  | .sv n s1 off len => match eBnd hi (.ofNat len), eBnd lo 0, mx with
    | some h, some l, none => bif Nat.beq s1 sz && (leQ 0 l && (leQ l h && leQ h (.ofNat len))) then some (.sv n sz (off + l.toNat) (h - l).toNat, s) else none
    | _, _, _ => none
  | _ => none
theorem eqq_of {a b : Int} (h : eqQ a b = true) : a = b := by rw [eqQ_eq] at h; simpa using h
theorem eSlice_ok {s s' : St} (hs : SR P ρ s σ) {sz : Nat} {x x' v : V} {lo hi mx lo' hi' mx' : Option V} (h : eSlice s sz x lo hi mx = some (v, s')) (hx : RV ρ x x') (h1 : RVo ρ lo lo') (h2 : RVo ρ hi hi') (h3 : RVo ρ mx mx') {K : V → Store → Prop}
    (hK : ∀ ρ' v' σ', ρ.le ρ' → RV ρ' v v' → SR P ρ' s' σ' → K v' σ') : kSlice σ sz x' lo' hi' mx' K := by
  unfold eSlice at h
  split at h
  · rename_i es full
    obtain ⟨es', g1, rfl⟩ := hx
    have g1 := RR_eq.1 g1
    split at h
    · rename_i hh ll e1 e2
      obtain ⟨h4, h5⟩ := bif_some h
      simp only [Bool.and_eq_true] at h4
      refine ⟨all_len h4.1 g1, ?_⟩
      rw [g1.len]
      refine eBnd_ok e1 h2 ?_
      refine eBnd_ok e2 h1 ?_
      refine ⟨leq_of h4.2.1, leq_of h4.2.2.1, leq_of h4.2.2.2, ?_⟩
      split at h5
      · cases h3
        cases h5
        refine hK ρ _ _ (.refl _) ?_ hs
        simp only [RV]
        refine ⟨_, RR_eq.2 ((g1.take _).drop _), ?_⟩
        congr 1
        rw [eqQ_eq]
        congr 1
      · obtain ⟨v', q1, rfl⟩ := h3
        simp only [RV] at q1
        subst q1
        obtain ⟨h6, h7⟩ := bif_some h5
        cases h7
        exact ⟨eqq_of h6, hK ρ _ _ (.refl _) (by simp only [RV]; exact ⟨_, RR_eq.2 ((g1.take _).drop _), rfl⟩) hs⟩
      · cases h5
    · cases h
  · rename_i n len
    obtain ⟨m, g1, rfl⟩ := hx
    split at h
    · rename_i hh ll e1 e2
      obtain ⟨h4, h5⟩ := bif_some h
      simp only [Bool.and_eq_true] at h4
      simp only [kSlice]
      refine eBnd_ok e1 h2 ?_
      refine eBnd_ok e2 h1 ?_
      refine ⟨leq_of h4.1, leq_of h4.2.1, leq_of h4.2.2, ?_⟩
      split at h5
      · cases h3
        cases h5
        exact hK ρ _ _ (.refl _) (by simp only [RV]; exact ⟨m, g1, rfl⟩) hs
      · obtain ⟨v', q1, rfl⟩ := h3
        simp only [RV] at q1
        subst q1
        split at h5
        · rename_i s1 es hg
          obtain ⟨o', g2, es', g3, rfl⟩ := hs.at hg g1
          obtain ⟨h6, h7⟩ := bif_some h5
          simp only [Bool.and_eq_true] at h6
          rw [Tr.put_eq] at h7
          obtain ⟨h8, h9⟩ := St.new_eq h7
          cases h9
          simp only [g2]
          have h10 := nbeq h6.2.2.2.2
          refine ⟨eqq_of h6.1, eqq_of h6.2.1, eqq_of h6.2.2.1, nbeq h6.2.2.2.1, trivial, by rw [g3.len]; exact h10, .inr ?_⟩
          obtain ⟨ρ', q1, q2, q3⟩ := (hs.del hg g1).new h8 (del_same σ m.1) n (o := .arr s1 es) (o' := .arr s1 es' n) ⟨es', g3, rfl⟩
          have e : Gl.upd (Gl.del σ m.1) m.1 (.arr s1 es' n) = Gl.upd σ m.1 (.arr s1 es' n) := by
            funext k
            by_cases hk : k = m.1
            · simp [Gl.upd, hk]
            · simp [Gl.upd, Gl.del, hk]
          rw [e] at q3
          exact hK ρ' _ _ q1 (by simp only [RV]; exact ⟨_, q2, rfl⟩) q3
        · cases h5
      · cases h5
    · cases h
  · obtain ⟨m, g1, rfl⟩ := hx
    split at h
    · rename_i hh ll e1 e2
      cases h3
      obtain ⟨h4, h5⟩ := bif_some h
      simp only [Bool.and_eq_true] at h4
      cases h5
      simp only [kSlice]
      refine eBnd_ok e1 h2 ?_
      refine eBnd_ok e2 h1 ?_
      exact ⟨leq_of h4.2.1, leq_of h4.2.2.1, leq_of h4.2.2.2, nbeq h4.1, trivial, hK ρ _ _ (.refl _) (by simp only [RV]; exact ⟨m, g1, rfl⟩) hs⟩
    · cases h
  · cases h
theorem eqCells_pure : ∀ {cs ds : List V} {t : Bool}, eqCells cs ds = some t → pureL cs = true ∧ pureL ds = true
  | [], [], _, _ => ⟨rfl, rfl⟩
  | x :: xs, y :: ys, t, h => by
    cases x <;> cases y <;> simp only [eqCells] at h <;> first | cases h | skip
    split at h
    · obtain ⟨a, h1, _⟩ := opt_map_some h
      obtain ⟨h2, h3⟩ := eqCells_pure h1
      exact ⟨by simp [pureL, pureV, h2], by simp [pureL, pureV, h3]⟩
    · cases h
  | [], _ :: _, _, h => by simp [eqCells] at h
  | x :: xs, [], _, h => by cases x <;> simp [eqCells] at h
theorem eqpL {cs cs' : List V} (h : RVs ρ cs cs') (hp : pureL cs = true) : cs' = cs := RL.fn cs _ _ (RL_eq.2 h) (RL.pure cs hp)
def eEqf (len : Nat) (neg : Bool) (x y : V) : Option V :=
  match x, y with
  | .a cs, .a ds => bif Nat.beq cs.length len then (match eqCells cs ds with | some t => some (.b (bif neg then !t else t)) | none => none) else none
  | _, _ => none
theorem eEqf_ok {len : Nat} {neg : Bool} {x x' y y' v : V} (h : eEqf len neg x y = some v) (hx : RV ρ x x') (hy : RV ρ y y') {K : V → Prop} (hK : ∀ v', RV ρ v v' → K v') : kEqf len neg x' y' K := by
  unfold eEqf at h
  split at h
  · rename_i cs ds
    obtain ⟨cs', g1, rfl⟩ := hx
    obtain ⟨ds', g2, rfl⟩ := hy
    obtain ⟨h1, h2⟩ := bif_some h
    split at h2
    · rename_i t ht
      cases h2
      obtain ⟨p1, p2⟩ := eqCells_pure ht
      have e1 := eqpL (RL_eq.1 g1) p1
      have e2 := eqpL (RL_eq.1 g2) p2
      subst e1; subst e2
      simp only [kEqf, h1, ht]
      exact hK _ (by simp only [RV])
    · cases h2
  · cases h
def eEqn (kind : Nat) (neg : Bool) (x : V) : Option V :=
  match kind, x with
  | 0, .pn => some (.b (!neg))
  | 0, .rp _ => some (.b neg)
  | 0, .p _ _ => some (.b neg)
  | 0, .pe _ _ _ _ => some (.b neg)
  | 1, .sl _ _ _ => some (.b neg)
  | 1, .l (_ :: _) _ => some (.b neg)
  | 2, .inil => some (.b (!neg))
  | 2, .ifc _ _ => some (.b neg)
  | 3, .mn => some (.b (!neg))
  | 3, .m _ => some (.b neg)
  | 4, .fnil => some (.b (!neg))
  | 4, .f _ _ _ => some (.b neg)
  | _, _ => none
theorem eEqn_ok {kind : Nat} {neg : Bool} {x x' v : V} (h : eEqn kind neg x = some v) (hx : RV ρ x x') {K : V → Prop} (hK : ∀ v', RV ρ v v' → K v') : kEqn kind neg x' K := by
  unfold eEqn at h
  split at h
  · simp only [RV] at hx; subst hx; cases h; exact hK _ (by simp only [RV])
  · obtain ⟨_, _, rfl⟩ := hx; cases h; exact hK _ (by simp only [RV])
  · obtain ⟨_, _, rfl⟩ := hx; cases h; exact hK _ (by simp only [RV])
  · obtain ⟨_, _, rfl⟩ := hx; cases h; exact hK _ (by simp only [RV])
  · obtain ⟨_, _, rfl⟩ := hx; cases h; exact hK _ (by simp only [RV])
  · obtain ⟨es', g1, rfl⟩ := hx
    cases h
    obtain ⟨y, ys, _, _, rfl⟩ := RR_eq.1 g1
    exact ⟨fun e => (by cases e), fun _ => hK _ (by simp only [RV])⟩
  · simp only [RV] at hx; subst hx; cases h; exact hK _ (by simp only [RV])
  · obtain ⟨_, _, rfl⟩ := hx; cases h; exact hK _ (by simp only [RV])
  · simp only [RV] at hx; subst hx; cases h; exact hK _ (by simp only [RV])
  · obtain ⟨_, _, rfl⟩ := hx; cases h; exact hK _ (by simp only [RV])
  · simp only [RV] at hx; subst hx; cases h; exact hK _ (by simp only [RV])
  · obtain ⟨_, _, _, _, _, _, rfl⟩ := hx; cases h; exact hK _ (by simp only [RV])
  · cases h
def eMkslice (s : St) (sz : Nat) (z : List V) (x y : V) : Option (V × St) :=
  match x, y with
  | .i _ n, .i _ m => bif leQ 0 n && (leQ n m && (Nat.ble m.toNat maxL && pureL z)) then s.new (.arr sz (List.replicate n.toNat z)) fun i s' => some (.sl i n.toNat 0, s') else none
  | _, _ => none
theorem eMkslice_ok {s s' : St} (hs : SR P ρ s σ) {sz : Nat} {z : List V} {x x' y y' v : V} (h : eMkslice s sz z x y = some (v, s')) (hx : RV ρ x x') (hy : RV ρ y y') {K : V → Store → Prop}
    (hK : ∀ ρ' v' σ', ρ.le ρ' → RV ρ' v v' → SR P ρ' s' σ' → K v' σ') : kMkslice σ sz z x' y' K := by
  unfold eMkslice at h
  split at h
  · rename_i k1 n k2 m
    simp only [RV] at hx hy
    subst hx; subst hy
    obtain ⟨h1, h2⟩ := bif_some h
    simp only [Bool.and_eq_true] at h1
    obtain ⟨h3, h4⟩ := St.new_eq h2
    cases h4
    have h5 := leq_of h1.1
    have h7 := leq_of h1.2.1
    have h6 : m.toNat ≤ maxL := Nat.le_of_ble_eq_true h1.2.2.1
    refine ⟨h5, h7, by omega, fun id hid => ?_⟩
    obtain ⟨ρ', q1, q2, q3⟩ := hs.new h3 hid m.toNat (o := .arr sz (List.replicate n.toNat z)) (o' := .arr sz (List.replicate n.toNat z) m.toNat) ⟨_, F2.rep (RL_eq.1 (RL.pure z h1.2.2.2)) _, rfl⟩
    exact hK ρ' _ _ q1 (by simp only [RV]; exact ⟨_, q2, rfl⟩) q3
  · cases h
theorem kindsB_pure : ∀ {l : List IntKind} {cs : List V}, kindsB l cs = true → pureL cs = true
  | [], [], _ => rfl
  | q :: l, x :: cs, h => by
    cases x <;> simp only [kindsB] at h <;> first | cases h | skip
    simp only [Bool.and_eq_true] at h
    simp [pureL, pureV, kindsB_pure h.2]
  | [], _ :: _, h => by simp [kindsB] at h
  | _ :: _, [], h => by simp [kindsB] at h
theorem keyOk_pure {ks : KS} {v : V} (h : keyOkV ks v = true) : pureV v = true := by
  unfold keyOkV at h
  split at h
  · rfl
  · exact kindsB_pure h
  · rfl
  · cases h
theorem kvFind_ok {ks : KS} {key : V} : ∀ {kvs kvs' : List (V × V)}, (kvs.all fun kv => keyOkV ks kv.1) = true → F2 (RK ρ) kvs kvs' → RVo ρ (kvFind key kvs) (kvFind key kvs')
  | [], _, _, h => by cases h; rfl
  | (k, v) :: r, _, ha, ⟨y, ys, h1, h2, e⟩ => by
    subst e
    obtain ⟨k', v'⟩ := y
    simp only [List.all_cons, Bool.and_eq_true] at ha
    have e1 : k' = k := RV.eqp h1.1 (keyOk_pure ha.1)
    subst e1
    simp only [kvFind]
    cases eqKey key k' with
    | true => exact ⟨v', h1.2, rfl⟩
    | false => exact kvFind_ok ha.2 h2
theorem kvPut_ok {ks : KS} {key x x' : V} (hp : pureV key = true) (hx : RV ρ x x') : ∀ {kvs kvs' : List (V × V)}, (kvs.all fun kv => keyOkV ks kv.1) = true → F2 (RK ρ) kvs kvs' → F2 (RK ρ) (kvPut key x kvs) (kvPut key x' kvs')
  | [], _, _, h => by cases h; exact F2.cons ⟨RV.pure key hp, hx⟩ F2.nil
  | (k, v) :: r, _, ha, ⟨y, ys, h1, h2, e⟩ => by
    subst e
    obtain ⟨k', v'⟩ := y
    simp only [List.all_cons, Bool.and_eq_true] at ha
    have e1 : k' = k := RV.eqp h1.1 (keyOk_pure ha.1)
    subst e1
    simp only [kvPut]
    cases eqKey key k' with
    | true => exact F2.cons ⟨RV.pure key hp, hx⟩ h2
    | false => exact F2.cons h1 (kvPut_ok hp hx ha.2 h2)
theorem keys_ok {ks : KS} {kvs kvs' : List (V × V)} (ha : (kvs.all fun kv => keyOkV ks kv.1) = true) (h : F2 (RK ρ) kvs kvs') : ∀ kv ∈ kvs', keyOkV ks kv.1 = true := fun kv hm => by
  obtain ⟨u, hu, hr⟩ := F2.mem h hm
  rw [List.all_eq_true] at ha
  have h1 := ha u hu
  rw [RV.eqp hr.1 (keyOk_pure h1)]
  exact h1
def eLookup (s : St) (ks : KS) (z : V) (ok : Bool) (vm vk : V) : Option V :=
  bif keyOkV ks vk && pureV z then
    match vm with
    | .m n => match s.t.get n with
      | some (.map kvs) => bif kvs.all (fun kv => keyOkV ks kv.1) then some (found z ok (kvFind vk kvs)) else none
      | _ => none
    | .mn => some (found z ok none)
    | _ => none
  else none
theorem found_ok {z : V} {ok : Bool} (hz : pureV z = true) {o o' : Option V} (h : RVo ρ o o') : RV ρ (found z ok o) (found z ok o') := by
  cases o with
  | none =>
    cases h
    cases ok with
    | true => simp only [found, cond_true, RV]; exact ⟨_, RL_eq.2 (F2.cons (RV.pure z hz) (F2.cons (RV.pure _ rfl) F2.nil)), rfl⟩
    | false => exact RV.pure z hz
  | some v =>
    obtain ⟨v', h1, rfl⟩ := h
    cases ok with
    | true => simp only [found, cond_true, RV]; exact ⟨_, RL_eq.2 (F2.cons h1 (F2.cons (RV.pure _ rfl) F2.nil)), rfl⟩
    | false => exact h1
theorem eLookup_ok {s : St} (hs : SR P ρ s σ) {ks : KS} {z : V} {ok : Bool} {vm vm' vk vk' v : V} (h : eLookup s ks z ok vm vk = some v) (hm : RV ρ vm vm') (hk : RV ρ vk vk') {K : V → Prop} (hK : ∀ v', RV ρ v v' → K v') : kLookup σ ks z ok vm' vk' K := by
  unfold eLookup at h
  obtain ⟨h1, h2⟩ := bif_some h
  simp only [Bool.and_eq_true] at h1
  have e := RV.eqp hk (keyOk_pure h1.1)
  subst e
  refine ⟨h1.1, ?_⟩
  split at h2
  · obtain ⟨m, g1, rfl⟩ := hm
    split at h2
    · rename_i kvs hg
      obtain ⟨o', g2, kvs', g3, rfl⟩ := hs.at hg g1
      obtain ⟨h3, h4⟩ := bif_some h2
      cases h4
      simp only [g2]
      exact ⟨keys_ok h3 g3, hK _ (found_ok h1.2 (kvFind_ok h3 g3))⟩
    · cases h2
  · simp only [RV] at hm
    subst hm
    cases h2
    exact hK _ (found_ok h1.2 rfl)
  · cases h2
def eMapset (s : St) (ks : KS) (vm vk vv : V) : Option St :=
  bif keyOkV ks vk then
    match vm with
    | .m n => match s.t.get n with
      | some (.map kvs) => bif kvs.all (fun kv => keyOkV ks kv.1) then Tr.put (some (.map (kvPut vk vv kvs))) depthTr s.t n fun t => some ⟨s.nx, t⟩ else none
      | _ => none
    | _ => none
  else none
theorem eMapset_ok {s s' : St} (hs : SR P ρ s σ) {ks : KS} {vm vm' vk vk' vv vv' : V} (h : eMapset s ks vm vk vv = some s') (hm : RV ρ vm vm') (hk : RV ρ vk vk') (hv : RV ρ vv vv') {K : Store → Prop} (hK : ∀ σ', SR P ρ s' σ' → K σ') :
    kMapset σ ks vm' vk' vv' K := by
  unfold eMapset at h
  obtain ⟨h1, h2⟩ := bif_some h
  have e := RV.eqp hk (keyOk_pure h1)
  subst e
  refine ⟨h1, ?_⟩
  split at h2
  · obtain ⟨m, g1, rfl⟩ := hm
    split at h2
    · rename_i kvs hg
      obtain ⟨o', g2, kvs', g3, rfl⟩ := hs.at hg g1
      obtain ⟨h3, h4⟩ := bif_some h2
      rw [Tr.put_eq] at h4
      cases h4
      simp only [g2]
      exact ⟨keys_ok h3 g3, hK _ (hs.upd hg g1 ⟨_, kvPut_ok (keyOk_pure h1) hv h3 g3, rfl⟩)⟩
    · cases h2
  · cases h2
def eFillV (env : Env) : List V → List (Nat × Nat × Opd) → Option (List V)
  | cs, [] => some cs
  | cs, (off, sz, x) :: r =>
    match evx env x with
    | some v => match cellsOf v with
      | some vc => bif Nat.beq vc.length sz && Nat.ble (off + sz) cs.length then eFillV env (putAt cs off vc) r else none
      | none => none
    | none => none
theorem eFillV_ok (he : RE ρ env env₀) : ∀ {ps : List (Nat × Nat × Opd)} {cs cs' cs1 : List V}, eFillV env cs ps = some cs1 → RVs ρ cs cs' → ∃ cs1', fillV env₀ cs' ps = some cs1' ∧ RVs ρ cs1 cs1'
  | [], _, cs', _, h, hc => by cases h; exact ⟨cs', rfl, hc⟩
  | (off, sz, x) :: r, cs, cs', cs1, h, hc => by
    simp only [eFillV] at h
    split at h
    · rename_i v hv
      split at h
      · rename_i vc hvc
        obtain ⟨h1, h2⟩ := bif_some h
        obtain ⟨v', e1, e2⟩ := evx_ok he hv
        obtain ⟨vc', e3, e4⟩ := cellsOf_ok hvc e2
        obtain ⟨c, e5, e6⟩ := eFillV_ok he h2 (putAt_ok hc e4)
        refine ⟨c, ?_, e6⟩
        simp only [fillV, e1, e3]
        rw [e4.len, hc.len, h1]
        exact e5
      · cases h
    · cases h
def eFillE (env : Env) (sz : Nat) : List (List V) → List (Nat × Opd) → Option (List (List V))
  | es, [] => some es
  | es, (i, x) :: r =>
    match evx env x with
    | some v => match cellsOf v with
      | some vc => bif Nat.beq vc.length sz && Nat.blt i es.length then eFillE env sz (es.set i vc) r else none
      | none => none
    | none => none
theorem eFillE_ok (he : RE ρ env env₀) {sz : Nat} : ∀ {ps : List (Nat × Opd)} {cs cs' cs1 : List (List V)}, eFillE env sz cs ps = some cs1 → RRs ρ cs cs' → ∃ cs1', fillE env₀ sz cs' ps = some cs1' ∧ RRs ρ cs1 cs1'
  | [], _, cs', _, h, hc => by cases h; exact ⟨cs', rfl, hc⟩
  | (i, x) :: r, cs, cs', cs1, h, hc => by
    simp only [eFillE] at h
    split at h
    · rename_i v hv
      split at h
      · rename_i vc hvc
        obtain ⟨h1, h2⟩ := bif_some h
        obtain ⟨v', e1, e2⟩ := evx_ok he hv
        obtain ⟨vc', e3, e4⟩ := cellsOf_ok hvc e2
        obtain ⟨c, e5, e6⟩ := eFillE_ok he h2 (hc.set i e4)
        refine ⟨c, ?_, e6⟩
        simp only [fillE, e1, e3]
        rw [e4.len, hc.len, h1]
        exact e5
      · cases h
    · cases h
end Go.Gl
