/-
  EV 6: the evaluator by recursors, so that the kernel takes few steps; it is the same function. (printed by wip/gen/ev6.py)
-/
import Derived.Test.YtfbhfdaljendcaaGreatEv5
set_option linter.all false
set_option linter.unusedVariables false
set_option linter.unusedSimpArgs false
namespace Go.Gl
variable {P : Program}
/-- an environment, with the slots that can be seen -/
structure EnvM where
  M : Nat
  E : Env
abbrev RsM := Option (AExit × EnvM × St)
theorem ob_ob {α β γ : Type} (o : Option α) (f : α → Option β) (g : β → Option γ) : ob (ob o f) g = ob o fun a => ob (f a) g := by cases o <;> rfl
theorem bif_ob {α β : Type} (c : Bool) (x : Option α) (g : α → Option β) : ob (bif c then x else none) g = bif c then ob x g else none := by cases c <;> rfl
/-! ### lists -/
noncomputable def getK (env : Env) (n : Nat) (K : V → RsM) : RsM := @List.rec (Nat × V) (fun _ => Nat → (V → RsM) → RsM) (fun _ _ => none) (fun p _ ih n K => @Bool.rec (fun _ => RsM) (ih n K) (K p.2) (Nat.beq p.1 n)) env n K
theorem getK_eq (env : Env) (n : Nat) (K : V → RsM) : getK env n K = ob (get n env) K := by
  induction env with
  | nil => rfl
  | cons p r ih =>
    obtain ⟨j, v⟩ := p
    show @Bool.rec (fun _ => RsM) (getK r n K) (K v) (Nat.beq j n) = ob (bif Nat.beq j n then some v else get n r) K
    cases Nat.beq j n
    · exact ih
    · rfl
noncomputable def nthK {α : Type} (cs : List α) (i : Nat) (K : α → RsM) : RsM := @List.rec α (fun _ => Nat → (α → RsM) → RsM) (fun _ _ => none) (fun v _ ih i K => @Nat.rec (fun _ => RsM) (K v) (fun j _ => ih j K) i) cs i K
theorem nthK_eq {α : Type} (cs : List α) : ∀ (i : Nat) (K : α → RsM), nthK cs i K = ob cs[i]? K := by
  induction cs with
  | nil => intro i K; rfl
  | cons v r ih =>
    intro i K
    cases i with
    | zero => rfl
    | succ j => exact ih j K
noncomputable def lenQ {α : Type} (cs : List α) : Nat := @List.rec α (fun _ => Nat) 0 (fun _ _ ih => Nat.succ ih) cs
theorem lenQ_eq {α : Type} (cs : List α) : lenQ cs = cs.length := by
  induction cs with
  | nil => rfl
  | cons v r ih => show Nat.succ (lenQ r) = _; rw [ih]; rfl
noncomputable def dropQ {α : Type} (cs : List α) (n : Nat) : List α := @Nat.rec (fun _ => List α → List α) (fun cs => cs) (fun _ ih cs => @List.rec α (fun _ => (List α → List α) → List α) (fun _ => []) (fun _ r _ ih => ih r) cs ih) n cs
theorem dropQ_eq {α : Type} : ∀ (n : Nat) (cs : List α), dropQ cs n = cs.drop n
  | 0, cs => rfl
  | n + 1, [] => rfl
  | n + 1, v :: r => dropQ_eq n r
noncomputable def takeQ {α : Type} (cs : List α) (n : Nat) : List α := @List.rec α (fun _ => Nat → List α) (fun _ => []) (fun v _ ih n => @Nat.rec (fun _ => List α) [] (fun j _ => v :: ih j) n) cs n
theorem takeQ_eq {α : Type} (cs : List α) : ∀ n : Nat, takeQ cs n = cs.take n := by
  induction cs with
  | nil => intro n; cases n <;> rfl
  | cons v r ih =>
    intro n
    cases n with
    | zero => rfl
    | succ j => show v :: takeQ r j = _; rw [ih]; rfl
noncomputable def setQ {α : Type} (cs : List α) (n : Nat) (x : α) : List α := @List.rec α (fun _ => Nat → α → List α) (fun _ _ => []) (fun v r ih n x => @Nat.rec (fun _ => List α) (x :: r) (fun j _ => v :: ih j x) n) cs n x
theorem setQ_eq {α : Type} (cs : List α) (x : α) : ∀ n : Nat, setQ cs n x = cs.set n x := by
  induction cs with
  | nil => intro n; rfl
  | cons v r ih =>
    intro n
    cases n with
    | zero => rfl
    | succ j => show v :: setQ r j x = _; rw [ih]; rfl
noncomputable def appQ {α : Type} (cs ds : List α) : List α := @List.rec α (fun _ => List α → List α) (fun ds => ds) (fun v _ ih ds => v :: ih ds) cs ds
theorem appQ_eq {α : Type} (cs ds : List α) : appQ cs ds = cs ++ ds := by
  induction cs with
  | nil => rfl
  | cons v r ih => show v :: appQ r ds = _; rw [ih]; rfl
noncomputable def allQ {α : Type} (f : α → Bool) (cs : List α) : Bool := @List.rec α (fun _ => (α → Bool) → Bool) (fun _ => true) (fun v _ ih f => @Bool.rec (fun _ => Bool) false (ih f) (f v)) cs f
theorem allQ_eq {α : Type} (f : α → Bool) (cs : List α) : allQ f cs = cs.all f := by
  induction cs with
  | nil => rfl
  | cons v r ih =>
    show @Bool.rec (fun _ => Bool) false (allQ f r) (f v) = _
    rw [List.all_cons, ih]
    cases f v <;> rfl

noncomputable def constK (v : V) (K : V → RsM) : RsM := @V.rec (fun _ => V → (V → RsM) → RsM) (fun _ => Unit) (fun _ => Unit) (fun _ v K => K v) (fun _ _ v K => K v) (fun _ v K => K v) (fun  v K => K v) (fun _ _ v K => @Bool.rec (fun _ => RsM) none (K v) (pureV v)) (fun _ _ v K => @Bool.rec (fun _ => RsM) none (K v) (pureV v)) (fun _ _ _ v K => @Bool.rec (fun _ => RsM) none (K v) (pureV v)) (fun _ _ _ v K => @Bool.rec (fun _ => RsM) none (K v) (pureV v)) (fun _ _ _ _ v K => @Bool.rec (fun _ => RsM) none (K v) (pureV v)) (fun _ _ _ _ v K => @Bool.rec (fun _ => RsM) none (K v) (pureV v)) (fun _ v K => @Bool.rec (fun _ => RsM) none (K v) (pureV v)) (fun  v K => K v) (fun _ _ _ _ _ v K => @Bool.rec (fun _ => RsM) none (K v) (pureV v)) (fun  v K => K v) (fun _ _ _ v K => @Bool.rec (fun _ => RsM) none (K v) (pureV v)) (fun  v K => K v) (fun _ _ v K => @Bool.rec (fun _ => RsM) none (K v) (pureV v)) (fun _ _ v K => @Bool.rec (fun _ => RsM) none (K v) (pureV v)) (fun  v K => @Bool.rec (fun _ => RsM) none (K v) (pureV v)) () (fun _ _ _ _ => ()) () (fun _ _ _ _ => ()) v v K
theorem bool_rec_bif {α : Type} (c : Bool) (x y : α) : @Bool.rec (fun _ => α) y x c = bif c then x else y := by cases c <;> rfl
theorem constK_eq (v : V) (K : V → RsM) : constK v K = ob (bif pureV v then some v else none) K := by
  rw [bif_ob]
  cases v <;> first | rfl | exact bool_rec_bif _ _ _
noncomputable def vis (M n : Nat) : Bool := Nat.beq (Nat.land (Nat.shiftRight M n) 1) 1
noncomputable def getE (e : EnvM) (n : Nat) : Option V := bif vis e.1 n then get n e.2 else none
/-- both show the same -/
def EqE (e : EnvM) (env : Env) : Prop := ∀ n, getE e n = get n env
noncomputable def evK (x : Opd) (e : EnvM) (K : V → RsM) : RsM := @Opd.rec (fun _ => EnvM → (V → RsM) → RsM) (fun n e K => @Bool.rec (fun _ => RsM) none (getK e.2 n K) (vis e.1 n)) (fun v _ K => constK v K) x e K
theorem evK_eq {e : EnvM} {env : Env} (he : EqE e env) (x : Opd) (K : V → RsM) : evK x e K = ob (evx env x) K := by
  cases x with
  | t n =>
    show @Bool.rec (fun _ => RsM) none (getK e.2 n K) (vis e.1 n) = ob (get n env) K
    rw [← he n, getE, bool_rec_bif, bif_ob, getK_eq]
  | c v => exact constK_eq v K
noncomputable def evsK (l : List Opd) (env : EnvM) (K : List V → RsM) : RsM := @List.rec Opd (fun _ => EnvM → (List V → RsM) → RsM) (fun _ K => K []) (fun x _ ih env K => evK x env fun v => ih env fun vs => K (v :: vs)) l env K
theorem evsK_eq {e : EnvM} {env : Env} (he : EqE e env) : ∀ (l : List Opd) (K : List V → RsM), evsK l e K = ob (evxs env l) K
  | [], K => rfl
  | x :: r, K => by
    show (evK x e fun v => evsK r e fun vs => K (v :: vs)) = _
    rw [evK_eq he]
    simp only [evxs]
    cases evx env x with
    | none => rfl
    | some v =>
      simp only [ob]
      rw [evsK_eq he r]
      cases evxs env r <;> rfl
noncomputable def oevK (x : Option Opd) (e : EnvM) (K : Option V → RsM) : RsM := @Option.rec Opd (fun _ => EnvM → (Option V → RsM) → RsM) (fun _ K => K none) (fun x e K => evK x e fun v => K (some v)) x e K
theorem oevK_eq {e : EnvM} {env : Env} (he : EqE e env) (x : Option Opd) (K : Option V → RsM) : oevK x e K = ob (optEvx env x) K := by
  cases x with
  | none => rfl
  | some x =>
    show (evK x e fun v => K (some v)) = _
    rw [evK_eq he]
    simp only [optEvx]
    cases evx env x <;> rfl
/-! ### numbers -/
def ikn (k : IntKind) : Nat := match k with | .i8 => 0 | .i16 => 1 | .i32 => 2 | .i64 => 3 | .u8 => 4 | .u16 => 5 | .u32 => 6 | .u64 => 7
noncomputable def iknQ (k : IntKind) : Nat := @IntKind.rec (fun _ => Nat) 0 1 2 3 4 5 6 7 k
noncomputable def eqIK (a b : IntKind) : Bool := Nat.beq (iknQ a) (iknQ b)
theorem eqIK_eq (a b : IntKind) : eqIK a b = decide (a = b) := by cases a <;> cases b <;> rfl
noncomputable def addI (a b : Int) : Int := @Int.rec (fun _ => Int → Int) (fun m b => @Int.rec (fun _ => Nat → Int) (fun n m => Int.ofNat (Nat.add m n)) (fun n m => Int.ofNat m + Int.negSucc n) b m) (fun m b => Int.negSucc m + b) a b
theorem addI_eq (a b : Int) : addI a b = a + b := by cases a <;> cases b <;> rfl
noncomputable def subI (a b : Int) : Int := @Int.rec (fun _ => Int → Int) (fun m b => @Int.rec (fun _ => Nat → Int) (fun n m => @Bool.rec (fun _ => Int) (Int.negSucc (Nat.sub n (Nat.succ m))) (Int.ofNat (Nat.sub m n)) (Nat.ble n m)) (fun n m => Int.ofNat m - Int.negSucc n) b m) (fun m b => Int.negSucc m - b) a b
theorem subI_eq (a b : Int) : subI a b = a - b := by
  cases a with
  | negSucc m => rfl
  | ofNat m =>
    cases b with
    | negSucc n => rfl
    | ofNat n =>
      show @Bool.rec (fun _ => Int) (Int.negSucc (n - (m + 1))) (Int.ofNat (m - n)) (Nat.ble n m) = _
      cases h : Nat.ble n m with
      | true =>
        have := Nat.le_of_ble_eq_true h
        show Int.ofNat (m - n) = (m : Int) - (n : Int)
        simp only [Int.ofNat_eq_natCast]
        omega
      | false =>
        have : ¬ n ≤ m := fun h' => by rw [Nat.ble_eq_true_of_le h'] at h; cases h
        show Int.negSucc (n - (m + 1)) = (m : Int) - (n : Int)
        omega
noncomputable def ltI (a b : Int) : Bool := @Int.rec (fun _ => Int → Bool) (fun m b => @Int.rec (fun _ => Nat → Bool) (fun n m => Nat.ble (Nat.succ m) n) (fun _ _ => false) b m) (fun m b => @Int.rec (fun _ => Nat → Bool) (fun _ _ => true) (fun n m => Nat.ble (Nat.succ n) m) b m) a b
theorem ltI_eq (a b : Int) : ltI a b = ltQ a b := by cases a <;> cases b <;> rfl
noncomputable def eqI (a b : Int) : Bool := @Int.rec (fun _ => Int → Bool) (fun m b => @Int.rec (fun _ => Nat → Bool) (fun n m => Nat.beq m n) (fun _ _ => false) b m) (fun m b => @Int.rec (fun _ => Nat → Bool) (fun _ _ => false) (fun n m => Nat.beq m n) b m) a b
theorem eqI_eq (a b : Int) : eqI a b = eqQ a b := by cases a <;> cases b <;> rfl
noncomputable def notQ (b : Bool) : Bool := @Bool.rec (fun _ => Bool) true false b
theorem notQ_eq (b : Bool) : notQ b = !b := by cases b <;> rfl
noncomputable def toN (a : Int) : Nat := @Int.rec (fun _ => Nat) (fun n => n) (fun _ => 0) a
theorem toN_eq (a : Int) : toN a = a.toNat := by cases a <;> rfl
noncomputable def wrapI (k : IntKind) (n : Int) : Int := @IntKind.rec (fun _ => Int → Int) (fun n => IntKind.i8.wrap n) (fun n => IntKind.i16.wrap n) (fun n => IntKind.i32.wrap n)
  (fun n => @Int.rec (fun _ => Int) (fun m => @Bool.rec (fun _ => Int) (IntKind.i64.wrap (Int.ofNat m)) (Int.ofNat m) (Nat.ble m 9223372036854775807)) (fun m => @Bool.rec (fun _ => Int) (IntKind.i64.wrap (Int.negSucc m)) (Int.negSucc m) (Nat.ble m 9223372036854775807)) n)
  (fun n => IntKind.u8.wrap n) (fun n => IntKind.u16.wrap n) (fun n => IntKind.u32.wrap n)
  (fun n => @Int.rec (fun _ => Int) (fun m => @Bool.rec (fun _ => Int) (IntKind.u64.wrap (Int.ofNat m)) (Int.ofNat m) (Nat.ble m 18446744073709551615)) (fun m => IntKind.u64.wrap (Int.negSucc m)) n) k n
theorem wrapI_eq (k : IntKind) (n : Int) : wrapI k n = k.wrap n := by
  cases k <;> try rfl
  · cases n with
    | ofNat m =>
      have := wrapQ_eq .i64 (.ofNat m)
      simp only [wrapQ] at this
      rw [← this]
      show @Bool.rec (fun _ => Int) _ _ _ = _
      cases Nat.ble m 9223372036854775807 <;> rfl
    | negSucc m =>
      show @Bool.rec (fun _ => Int) (IntKind.i64.wrap (Int.negSucc m)) (Int.negSucc m) (Nat.ble m 9223372036854775807) = _
      cases h : Nat.ble m 9223372036854775807 with
      | false => rfl
      | true =>
        have := Nat.le_of_ble_eq_true h
        show Int.negSucc m = _
        exact (wrap64 (by omega) (by omega)).symm
  · cases n with
    | ofNat m =>
      have := wrapQ_eq .u64 (.ofNat m)
      simp only [wrapQ] at this
      rw [← this]
      show @Bool.rec (fun _ => Int) _ _ _ = _
      cases Nat.ble m 18446744073709551615 <;> rfl
    | negSucc m => rfl
noncomputable def shrI (k : IntKind) (a b : Int) : Int := @Int.rec (fun _ => Int → IntKind → Int) (fun m b _ => Int.ofNat (Nat.shiftRight m (Nat.min (toN b) k.bits))) (fun m b k => (Int.negSucc m).fdiv (2 ^ (min b.toNat k.bits))) a b k
theorem shrI_eq (k : IntKind) (a b : Int) : shrI k a b = a.fdiv (2 ^ (min b.toNat k.bits)) := by
  cases a with
  | negSucc m => rfl
  | ofNat m =>
    show Int.ofNat (m >>> (min (toN b) k.bits)) = _
    rw [toN_eq, Nat.shiftRight_eq_div_pow]
    have : (2 : Int) ^ (min b.toNat k.bits) = ((2 ^ (min b.toNat k.bits) : Nat) : Int) := by simp
    rw [this]
    exact (Int.ofNat_fdiv _ _)
noncomputable def shlI (k : IntKind) (a b : Int) : Int := @Int.rec (fun _ => Int → IntKind → Int) (fun m b _ => Int.ofNat (Nat.shiftLeft m (Nat.min (toN b) k.bits))) (fun m b k => (Int.negSucc m) * (2 ^ (min b.toNat k.bits))) a b k
theorem shlI_eq (k : IntKind) (a b : Int) : shlI k a b = a * (2 ^ (min b.toNat k.bits)) := by
  cases a with
  | negSucc m => rfl
  | ofNat m =>
    show Int.ofNat (m <<< (min (toN b) k.bits)) = _
    rw [toN_eq, Nat.shiftLeft_eq]
    simp
noncomputable def asI (v : V) (K : IntKind → Int → RsM) : RsM := @V.rec (fun _ => (IntKind → Int → RsM) → RsM) (fun _ => Unit) (fun _ => Unit) (fun _ K => none) (fun k n K => K k n) (fun _ K => none) (fun  K => none) (fun _ _ K => none) (fun _ _ K => none) (fun _ _ _ K => none) (fun _ _ _ K => none) (fun _ _ _ _ K => none) (fun _ _ _ _ K => none) (fun _ K => none) (fun  K => none) (fun _ _ _ _ _ K => none) (fun  K => none) (fun _ _ _ K => none) (fun  K => none) (fun _ _ K => none) (fun _ _ K => none) (fun  K => none) () (fun _ _ _ _ => ()) () (fun _ _ _ _ => ()) v K
def isI : V → Option (IntKind × Int) | .i k n => some (k, n) | _ => none
theorem asI_eq (v : V) (K : IntKind → Int → RsM) : asI v K = ob (isI v) fun p => K p.1 p.2 := by cases v <;> rfl
noncomputable def binK (op : BinOp) (vx vy : V) (K : V → RsM) : RsM := asI vx fun ka a => asI vy fun kb b => @BinOp.rec (fun _ => IntKind → Int → IntKind → Int → (V → RsM) → RsM) (fun ka a kb b K => @Bool.rec (fun _ => RsM) none (K (.i ka (wrapI ka (addI a b)))) (eqIK ka kb)) (fun ka a kb b K => @Bool.rec (fun _ => RsM) none (K (.i ka (wrapI ka (subI a b)))) (eqIK ka kb)) (fun ka a kb b K => ob (eBin .mul (.i ka a) (.i kb b)) K) (fun ka a kb b K => ob (eBin .quo (.i ka a) (.i kb b)) K) (fun ka a kb b K => ob (eBin .rem (.i ka a) (.i kb b)) K) (fun ka a kb b K => @Bool.rec (fun _ => RsM) none (K (.i ka (bitsQ .and ka a b))) (eqIK ka kb)) (fun ka a kb b K => @Bool.rec (fun _ => RsM) none (K (.i ka (bitsQ .or ka a b))) (eqIK ka kb)) (fun ka a kb b K => @Bool.rec (fun _ => RsM) none (K (.i ka (bitsQ .xor ka a b))) (eqIK ka kb)) (fun ka a kb b K => @Bool.rec (fun _ => RsM) none (K (.i ka (wrapI ka (shlI ka a b)))) (notQ (ltI b 0))) (fun ka a kb b K => @Bool.rec (fun _ => RsM) none (K (.i ka (shrI ka a b))) (notQ (ltI b 0))) (fun ka a kb b K => @Bool.rec (fun _ => RsM) none (K (.i ka (bitsQ .andNot ka a b))) (eqIK ka kb)) (fun ka a kb b K => @Bool.rec (fun _ => RsM) none (K (.b (eqI a b))) (eqIK ka kb)) (fun ka a kb b K => @Bool.rec (fun _ => RsM) none (K (.b (notQ (eqI a b)))) (eqIK ka kb)) (fun ka a kb b K => @Bool.rec (fun _ => RsM) none (K (.b (ltI a b))) (eqIK ka kb)) (fun ka a kb b K => @Bool.rec (fun _ => RsM) none (K (.b (notQ (ltI b a)))) (eqIK ka kb)) (fun ka a kb b K => @Bool.rec (fun _ => RsM) none (K (.b (ltI b a))) (eqIK ka kb)) (fun ka a kb b K => @Bool.rec (fun _ => RsM) none (K (.b (notQ (ltI a b)))) (eqIK ka kb)) op ka a kb b K
theorem binK_eq (op : BinOp) (vx vy : V) (K : V → RsM) : binK op vx vy K = ob (eBin op vx vy) K := by
  unfold binK
  rw [asI_eq]
  cases vx <;> first | rfl | skip
  rename_i ka a
  simp only [isI, ob]
  rw [asI_eq]
  cases vy <;> first | (cases op <;> rfl) | skip
  rename_i kb b
  simp only [isI, ob]
  cases op <;> first | rfl | skip
  all_goals
    simp only [eBin]
    simp only [bool_rec_bif, eqIK_eq, wrapI_eq, addI_eq, subI_eq, eqI_eq, ltI_eq, notQ_eq, shlI_eq, shrI_eq, wrapQ_eq, leQ, ob]
    first
      | (cases decide (ka = kb) <;> rfl)
      | (cases ltQ b 0 <;> rfl)
/-! ### stores -/
noncomputable def getT {α : Type} (t : Tr α) (k : Nat) : Option α := @Tr.rec α (fun _ => Nat → Option α) (fun _ => none) (fun o _ _ ihl ihr k => @Nat.rec (fun _ => Option α) o (fun j _ => @Bool.rec (fun _ => Option α) (ihr (Nat.div j 2)) (ihl (Nat.div j 2)) (Nat.beq (Nat.mod j 2) 0)) k) t k
theorem getT_eq {α : Type} (t : Tr α) : ∀ k : Nat, getT t k = t.get k := by
  induction t with
  | leaf => intro k; rfl
  | node o l r ihl ihr =>
    intro k
    cases k with
    | zero => rfl
    | succ j =>
      show @Bool.rec (fun _ => Option α) (getT r (j / 2)) (getT l (j / 2)) (Nat.beq (j % 2) 0) = bif Nat.beq (j % 2) 0 then l.get (j / 2) else r.get (j / 2)
      rw [ihl, ihr]
      cases Nat.beq (j % 2) 0 <;> rfl
noncomputable def putT {α β : Type} (x : Option α) (d : Nat) (t : Tr α) (k : Nat) (K : Tr α → β) : β :=
  @Nat.rec (fun _ => Tr α → Nat → (Tr α → β) → β) (fun t _ K => K t)
    (fun _ ih t k K => @Tr.rec α (fun _ => Nat → (Tr α → β) → β)
      (fun k K => @Nat.rec (fun _ => β) (K (.node x .leaf .leaf)) (fun j _ => @Bool.rec (fun _ => β) (ih .leaf (Nat.div j 2) fun r => K (.node none .leaf r)) (ih .leaf (Nat.div j 2) fun l => K (.node none l .leaf)) (Nat.beq (Nat.mod j 2) 0)) k)
      (fun o l r _ _ k K => @Nat.rec (fun _ => β) (K (.node x l r)) (fun j _ => @Bool.rec (fun _ => β) (ih r (Nat.div j 2) fun r => K (.node o l r)) (ih l (Nat.div j 2) fun l => K (.node o l r)) (Nat.beq (Nat.mod j 2) 0)) k) t k K) d t k K
theorem putT_eq {α β : Type} (x : Option α) : ∀ (d : Nat) (t : Tr α) (k : Nat) (K : Tr α → β), putT x d t k K = Tr.put x d t k K
  | 0, t, k, K => rfl
  | d + 1, .leaf, 0, K => rfl
  | d + 1, .node _ _ _, 0, K => rfl
  | d + 1, .leaf, j + 1, K => by
    show @Bool.rec (fun _ => β) (putT x d .leaf (j / 2) fun r => K (.node none .leaf r)) (putT x d .leaf (j / 2) fun l => K (.node none l .leaf)) (Nat.beq (j % 2) 0) = bif Nat.beq (j % 2) 0 then _ else _
    rw [putT_eq x d, putT_eq x d, bool_rec_bif]
  | d + 1, .node o l r, j + 1, K => by
    show @Bool.rec (fun _ => β) (putT x d r (j / 2) fun r => K (.node o l r)) (putT x d l (j / 2) fun l => K (.node o l r)) (Nat.beq (j % 2) 0) = bif Nat.beq (j % 2) 0 then _ else _
    rw [putT_eq x d, putT_eq x d, bool_rec_bif]
noncomputable def newK (s : St) (o : EO) (K : Nat → St → RsM) : RsM := @Nat.rec (fun _ => RsM) (putT (some o) depthTr s.t 0 fun t => K 0 ⟨1, t⟩) (fun n _ => @Bool.rec (fun _ => RsM) none (putT (some o) depthTr s.t (Nat.succ n) fun t => K (Nat.succ n) ⟨Nat.succ (Nat.succ n), t⟩) (Nat.ble (Nat.succ n) limN)) s.nx
theorem newK_eq {γ : Type} (s : St) (o : EO) (f : Nat → St → Option γ) (K : γ → RsM) : ob (s.new o f) K = newK s o fun i s' => ob (f i s') K := by
  obtain ⟨n, t⟩ := s
  cases n with
  | zero =>
    unfold newK
    simp only [St.new]
    rw [putT_eq, Tr.put_eq, Tr.put_eq]
    rfl
  | succ n =>
    unfold newK
    simp only [St.new]
    rw [putT_eq, Tr.put_eq, Tr.put_eq, bool_rec_bif, bif_ob]
noncomputable def objCs (o : EO) (K : List V → RsM) : RsM := @EO.rec (fun _ => (List V → RsM) → RsM) (fun vs K => K vs) (fun _ _ _ => none) (fun _ _ => none) (fun _ _ _ _ _ _ => none) o K
noncomputable def objArr (o : EO) (K : Nat → List (List V) → RsM) : RsM := @EO.rec (fun _ => (Nat → List (List V) → RsM) → RsM) (fun _ _ => none) (fun sz es K => K sz es) (fun _ _ => none) (fun _ _ _ _ _ _ => none) o K
def isCs : EO → Option (List V) | .cs vs => some vs | _ => none
def isArr : EO → Option (Nat × List (List V)) | .arr sz es => some (sz, es) | _ => none
noncomputable def obQ {α : Type} (o : Option α) (K : α → RsM) : RsM := @Option.rec α (fun _ => (α → RsM) → RsM) (fun _ => none) (fun a K => K a) o K
theorem obQ_eq {α : Type} (o : Option α) (K : α → RsM) : obQ o K = ob o K := by cases o <;> rfl
noncomputable def getCs (s : St) (n : Nat) (K : List V → RsM) : RsM := obQ (getT s.t n) fun o => objCs o K
noncomputable def getArr (s : St) (n : Nat) (K : Nat → List (List V) → RsM) : RsM := obQ (getT s.t n) fun o => objArr o K
theorem getCs_eq (s : St) (n : Nat) (K : List V → RsM) : getCs s n K = match s.t.get n with | some (.cs vs) => K vs | _ => none := by
  unfold getCs
  rw [obQ_eq, getT_eq]
  cases s.t.get n with
  | none => rfl
  | some o => cases o <;> rfl
theorem getArr_eq (s : St) (n : Nat) (K : Nat → List (List V) → RsM) : getArr s n K = match s.t.get n with | some (.arr sz es) => K sz es | _ => none := by
  unfold getArr
  rw [obQ_eq, getT_eq]
  cases s.t.get n with
  | none => rfl
  | some o => cases o <;> rfl
noncomputable def cutK (agg : Option Nat) (cs : List V) (off : Nat) (K : V → RsM) : RsM := @Option.rec Nat (fun _ => List V → Nat → (V → RsM) → RsM) (fun cs off K => nthK cs off K)
  (fun n cs off K => @Bool.rec (fun _ => RsM) (@Bool.rec (fun _ => RsM) none (K (.a (takeQ (dropQ cs off) n))) (Nat.ble (Nat.add off n) (lenQ cs))) (K (.a cs)) (@Bool.rec (fun _ => Bool) false (Nat.beq n (lenQ cs)) (Nat.beq off 0))) agg cs off K
theorem cutK_eq (agg : Option Nat) (cs : List V) (off : Nat) (K : V → RsM) : cutK agg cs off K = ob (eCut agg cs off) K := by
  cases agg with
  | none => exact nthK_eq cs off K
  | some n =>
    show @Bool.rec (fun _ => RsM) (@Bool.rec (fun _ => RsM) none (K (.a (takeQ (dropQ cs off) n))) (Nat.ble (off + n) (lenQ cs))) (K (.a cs)) (@Bool.rec (fun _ => Bool) false (Nat.beq n (lenQ cs)) (Nat.beq off 0)) = _
    simp only [eCut]
    rw [takeQ_eq, dropQ_eq, lenQ_eq, bif_ob]
    cases h1 : Nat.beq off 0 with
    | false => exact bool_rec_bif _ _ _
    | true =>
      cases h2 : Nat.beq n cs.length with
      | false => exact bool_rec_bif _ _ _
      | true =>
        have := nbeq h1
        subst this
        have := nbeq h2
        subst this
        show K (.a cs) = _
        rw [Nat.ble_eq_true_of_le (by omega)]
        simp [ob]
noncomputable def loadK (s : St) (agg : Option Nat) (x : V) (K : V → RsM) : RsM := @V.rec (fun _ => St → Option Nat → (V → RsM) → RsM) (fun _ => Unit) (fun _ => Unit) (fun _ s agg K => none) (fun _ _ s agg K => none) (fun _ s agg K => none) (fun  s agg K => none) (fun n off s agg K => getCs s n fun vs => cutK agg vs off K) (fun cs _ s agg K => cutK agg cs 0 K) (fun _ _ _ s agg K => none) (fun _ _ _ s agg K => none) (fun _ _ _ _ s agg K => none) (fun n sz i off s agg K => getArr s n fun sz1 es => @Bool.rec (fun _ => RsM) none (nthK es i fun e => cutK agg e off K) (Nat.beq sz sz1)) (fun _ s agg K => none) (fun  s agg K => none) (fun _ _ _ _ _ s agg K => none) (fun  s agg K => none) (fun _ _ _ s agg K => none) (fun  s agg K => none) (fun _ _ s agg K => none) (fun _ _ s agg K => none) (fun  s agg K => none) () (fun _ _ _ _ => ()) () (fun _ _ _ _ => ()) x s agg K
theorem loadK_eq (s : St) (agg : Option Nat) (x : V) (K : V → RsM) : loadK s agg x K = ob (eLoad s agg x) K := by
  cases x <;> first | rfl | skip
  · rename_i n off
    refine (getCs_eq _ _ _).trans ?_
    simp only [eLoad]
    cases s.t.get n with
    | none => rfl
    | some o => cases o <;> first | rfl | exact cutK_eq _ _ _ _
  · exact cutK_eq _ _ _ _
  · rename_i n sz i off
    refine (getArr_eq _ _ _).trans ?_
    simp only [eLoad]
    cases s.t.get n with
    | none => rfl
    | some o =>
      cases o <;> first | rfl | skip
      rename_i sz1 es
      simp only
      rw [bool_rec_bif, bif_ob, nthK_eq]
      congr 1
      cases es[i]? with
      | none => rfl
      | some e => exact cutK_eq _ _ _ _
noncomputable def cellsK (v : V) (K : List V → RsM) : RsM := @V.rec (fun _ => V → (List V → RsM) → RsM) (fun _ => Unit) (fun _ => Unit) (fun _ v K => K [v]) (fun _ _ v K => K [v]) (fun _ v K => K [v]) (fun  v K => K [v]) (fun _ _ v K => K [v]) (fun _ _ v K => K [v]) (fun _ _ _ v K => K [v]) (fun _ _ _ v K => K [v]) (fun _ _ _ _ v K => K [v]) (fun _ _ _ _ v K => K [v]) (fun _ v K => K [v]) (fun  v K => K [v]) (fun _ _ _ _ _ v K => K [v]) (fun  v K => K [v]) (fun _ _ _ v K => K [v]) (fun  v K => K [v]) (fun cs _ v K => K cs) (fun _ _ v K => none) (fun  v K => none) () (fun _ _ _ _ => ()) () (fun _ _ _ _ => ()) v v K
theorem cellsK_eq (v : V) (K : List V → RsM) : cellsK v K = ob (cellsOf v) K := by cases v <;> rfl
noncomputable def oneQ (v : V) : Bool := @V.rec (fun _ => Bool) (fun _ => Unit) (fun _ => Unit) (fun _  => true) (fun _ _  => true) (fun _  => true) (true) (fun _ _  => true) (fun _ _  => true) (fun _ _ _  => true) (fun _ _ _  => true) (fun _ _ _ _  => true) (fun _ _ _ _  => true) (fun _  => true) (true) (fun _ _ _ _ _  => true) (true) (fun _ _ _  => true) (true) (fun _ _  => false) (fun _ _  => false) (false) () (fun _ _ _ _ => ()) () (fun _ _ _ _ => ()) v
theorem oneQ_eq : oneQ = oneV := funext fun v => by cases v <;> rfl
noncomputable def putQ (cs : List V) (o : Nat) (vc : List V) : List V := @List.rec V (fun _ => List V → Nat → List V) (fun cs _ => cs) (fun v _ ih cs o => ih (setQ cs o v) (Nat.succ o)) vc cs o
theorem putQ_eq : ∀ (vc cs : List V) (o : Nat), putQ cs o vc = putAt cs o vc
  | [], _, _ => rfl
  | v :: r, cs, o => by
    show putQ (setQ cs o v) (o + 1) r = _
    rw [putQ_eq r, setQ_eq]
    rfl
/-- the cells of a whole object, at once -/
noncomputable def putW (cs : List V) (o : Nat) (vc : List V) : List V := @Bool.rec (fun _ => List V) (putQ cs o vc) vc (@Bool.rec (fun _ => Bool) false (Nat.beq (lenQ vc) (lenQ cs)) (Nat.beq o 0))
theorem putAt_all : ∀ (vc pre cs : List V), vc.length = cs.length → putAt (pre ++ cs) pre.length vc = pre ++ vc := by
  intro vc
  induction vc with
  | nil => intro pre cs hl; cases cs with
    | nil => rfl
    | cons _ _ => cases hl
  | cons x vc ih =>
    intro pre cs hl
    cases cs with
    | nil => cases hl
    | cons y cs =>
      simp only [putAt]
      rw [List.set_append_right _ _ (Nat.le_refl _), Nat.sub_self, List.set_cons_zero]
      have := ih (pre ++ [x]) cs (by simpa using hl)
      simp only [List.length_append, List.length_cons, List.length_nil, Nat.zero_add, List.append_assoc, List.singleton_append] at this
      exact this
theorem putW_eq (cs : List V) (o : Nat) (vc : List V) : putW cs o vc = putAt cs o vc := by
  unfold putW
  cases h1 : Nat.beq o 0 with
  | false => exact putQ_eq vc cs o
  | true =>
    rw [lenQ_eq, lenQ_eq]
    cases h2 : Nat.beq vc.length cs.length with
    | false => exact putQ_eq vc cs o
    | true =>
      have := nbeq h1
      subst this
      exact (putAt_all vc [] cs (nbeq h2)).symm
noncomputable def storeC (s : St) (sz : Nat) (a : V) (vc : List V) (K : St → RsM) : RsM := @V.rec (fun _ => St → Nat → List V → (St → RsM) → RsM) (fun _ => Unit) (fun _ => Unit) (fun _ s sz vc K => none) (fun _ _ s sz vc K => none) (fun _ s sz vc K => none) (fun  s sz vc K => none) (fun n off s sz vc K => getCs s n fun vs => @Bool.rec (fun _ => RsM) none (putT (some (.cs (putW vs off vc))) depthTr s.t n fun t => K ⟨s.nx, t⟩) (Nat.ble (Nat.add off sz) (lenQ vs))) (fun _ _ s sz vc K => none) (fun _ _ _ s sz vc K => none) (fun _ _ _ s sz vc K => none) (fun _ _ _ _ s sz vc K => none) (fun n s' i off s sz vc K => getArr s n fun s1 es => @Bool.rec (fun _ => RsM) none (@Bool.rec (fun _ => RsM) none (nthK es i fun e => putT (some (.arr s1 (setQ es i (putW e off vc)))) depthTr s.t n fun t => K ⟨s.nx, t⟩) (Nat.ble (Nat.add off sz) s')) (Nat.beq s' s1)) (fun _ s sz vc K => none) (fun  s sz vc K => none) (fun _ _ _ _ _ s sz vc K => none) (fun  s sz vc K => none) (fun _ _ _ s sz vc K => none) (fun  s sz vc K => none) (fun _ _ s sz vc K => none) (fun _ _ s sz vc K => none) (fun  s sz vc K => none) () (fun _ _ _ _ => ()) () (fun _ _ _ _ => ()) a s sz vc K
noncomputable def storeK (s : St) (sz : Nat) (a x : V) (K : St → RsM) : RsM := cellsK x fun vc => @Bool.rec (fun _ => RsM) none (@Bool.rec (fun _ => RsM) none (storeC s sz a vc K) (allQ oneQ vc)) (Nat.beq (lenQ vc) sz)
theorem storeK_eq (s : St) (sz : Nat) (a x : V) (K : St → RsM) : storeK s sz a x K = ob (eStore s sz a x) K := by
  unfold storeK eStore
  rw [cellsK_eq]
  cases cellsOf x with
  | none => rfl
  | some vc =>
    simp only [ob, lenQ_eq, allQ_eq, oneQ_eq]
    cases Nat.beq vc.length sz with
    | false => rfl
    | true =>
      cases vc.all oneV with
      | false => rfl
      | true =>
        simp only [Bool.and_true, cond_true]
        show storeC s sz a vc K = _
        cases a <;> first | rfl | skip
        · rename_i n off
          refine (getCs_eq _ _ _).trans ?_
          simp only
          cases s.t.get n with
          | none => rfl
          | some o =>
            cases o <;> first | rfl | skip
            rename_i vs
            simp only
            rw [putT_eq, Tr.put_eq, putW_eq, lenQ_eq, bool_rec_bif, Tr.put_eq]
            show (bif Nat.ble (off + sz) vs.length then _ else none) = _
            cases Nat.ble (off + sz) vs.length <;> rfl
        · rename_i n s' i off
          refine (getArr_eq _ _ _).trans ?_
          simp only
          cases s.t.get n with
          | none => rfl
          | some o =>
            cases o <;> first | rfl | skip
            rename_i s1 es
            simp only
            rw [bool_rec_bif, bool_rec_bif, nthK_eq]
            show (bif Nat.beq s' s1 then (bif Nat.ble (off + sz) s' then _ else none) else none) = _
            cases Nat.beq s' s1 <;> cases Nat.ble (off + sz) s' <;> try rfl
            simp only [cond_true, Bool.and_true]
            cases es[i]? with
            | none => rfl
            | some e =>
              simp only [ob]
              rw [putT_eq, Tr.put_eq, putW_eq, setQ_eq, Tr.put_eq]
noncomputable def faddrK (off : Nat) (x : V) (K : V → RsM) : RsM := @V.rec (fun _ => Nat → (V → RsM) → RsM) (fun _ => Unit) (fun _ => Unit) (fun _ off K => none) (fun _ _ off K => none) (fun _ off K => none) (fun  off K => none) (fun n o off K => K (.p n (Nat.add o off))) (fun cs _ off K => K (.rp (dropQ cs off))) (fun _ _ _ off K => none) (fun _ _ _ off K => none) (fun _ _ _ _ off K => none) (fun n sz i o off K => K (.pe n sz i (Nat.add o off))) (fun _ off K => none) (fun  off K => none) (fun _ _ _ _ _ off K => none) (fun  off K => none) (fun _ _ _ off K => none) (fun  off K => none) (fun _ _ off K => none) (fun _ _ off K => none) (fun  off K => none) () (fun _ _ _ _ => ()) () (fun _ _ _ _ => ()) x off K
theorem faddrK_eq (off : Nat) (x : V) (K : V → RsM) : faddrK off x K = ob (eFaddr off x) K := by
  cases x <;> first | rfl | skip
  show K (.rp (dropQ _ off)) = _
  rw [dropQ_eq]
  rfl
noncomputable def iaddr0 (sz : Nat) (x : V) (j : Int) (K : V → RsM) : RsM := @V.rec (fun _ => Nat → Int → (V → RsM) → RsM) (fun _ => Unit) (fun _ => Unit) (fun _ sz j K => none) (fun _ _ sz j K => none) (fun _ sz j K => none) (fun  sz j K => none) (fun _ _ sz j K => none) (fun _ _ sz j K => none) (fun es _ _ sz j K => nthK es (toN j) fun e => @Bool.rec (fun _ => RsM) none (K (.rp e)) (Nat.beq (lenQ e) sz)) (fun n len _ sz j K => @Bool.rec (fun _ => RsM) none (K (.pe n sz (toN j) 0)) (ltI j (Int.ofNat len))) (fun n s off len sz j K => @Bool.rec (fun _ => RsM) none (@Bool.rec (fun _ => RsM) none (K (.pe n sz (Nat.add off (toN j)) 0)) (ltI j (Int.ofNat len))) (Nat.beq s sz)) (fun _ _ _ _ sz j K => none) (fun _ sz j K => none) (fun  sz j K => none) (fun _ _ _ _ _ sz j K => none) (fun  sz j K => none) (fun _ _ _ sz j K => none) (fun  sz j K => none) (fun _ _ sz j K => none) (fun _ _ sz j K => none) (fun  sz j K => none) () (fun _ _ _ _ => ()) () (fun _ _ _ _ => ()) x sz j K
noncomputable def iaddrK (sz : Nat) (arr : Option Nat) (x i : V) (K : V → RsM) : RsM := @Option.rec Nat (fun _ => Nat → V → V → (V → RsM) → RsM) (fun sz x i K => asI i fun _ j => @Bool.rec (fun _ => RsM) (iaddr0 sz x j K) none (ltI j 0)) (fun m sz x i K => ob (eIaddr sz (some m) x i) K) arr sz x i K
theorem iaddrK_eq (sz : Nat) (arr : Option Nat) (x i : V) (K : V → RsM) : iaddrK sz arr x i K = ob (eIaddr sz arr x i) K := by
  cases arr with
  | some m => rfl
  | none =>
    refine (asI_eq _ _).trans ?_
    cases i <;> first | rfl | skip
    rename_i k j
    simp only [isI, ob, eIaddr, leQ, ltI_eq]
    cases ltQ j 0 with
    | true => rfl
    | false =>
      show iaddr0 sz x j K = _
      cases x <;> first | rfl | skip
      · rename_i es full
        show nthK es (toN j) _ = _
        rw [nthK_eq, toN_eq]
        simp only [Bool.not_false, cond_true]
        cases es[j.toNat]? with
        | none => rfl
        | some e =>
          simp only [ob, lenQ_eq]
          cases Nat.beq e.length sz <;> rfl
      · rename_i n len cap
        show @Bool.rec (fun _ => RsM) none (K (.pe n sz (toN j) 0)) (ltI j (Int.ofNat len)) = _
        rw [toN_eq, ltI_eq]
        simp only [Bool.not_false, cond_true]
        have : ltQ j (Int.ofNat len) = ltQ j (len : Int) := rfl
        rw [this]
        cases ltQ j (len : Int) <;> rfl
      · rename_i n s off len
        show @Bool.rec (fun _ => RsM) none (@Bool.rec (fun _ => RsM) none (K (.pe n sz (off + toN j) 0)) (ltI j (Int.ofNat len))) (Nat.beq s sz) = _
        rw [toN_eq, ltI_eq]
        simp only [Bool.not_false, cond_true]
        have : ltQ j (Int.ofNat len) = ltQ j (len : Int) := rfl
        rw [this]
        cases Nat.beq s sz <;> cases ltQ j (len : Int) <;> rfl
noncomputable def lenK (x : V) (K : V → RsM) : RsM := @V.rec (fun _ => (V → RsM) → RsM) (fun _ => Unit) (fun _ => Unit) (fun _ K => none) (fun _ _ K => none) (fun _ K => none) (fun  K => none) (fun _ _ K => none) (fun _ _ K => none) (fun es _ _ K => K (.i .i64 (Int.ofNat (lenQ es)))) (fun _ len _ K => @Bool.rec (fun _ => RsM) none (K (.i .i64 (Int.ofNat len))) (Nat.ble len maxL)) (fun _ _ _ len K => @Bool.rec (fun _ => RsM) none (K (.i .i64 (Int.ofNat len))) (Nat.ble len maxL)) (fun _ _ _ _ K => none) (fun _ K => none) (fun  K => none) (fun _ _ _ _ _ K => none) (fun  K => none) (fun _ _ _ K => none) (fun  K => none) (fun _ _ K => none) (fun _ _ K => none) (fun  K => none) () (fun _ _ _ _ => ()) () (fun _ _ _ _ => ()) x K
theorem lenK_eq (x : V) (K : V → RsM) : lenK x K = ob (eLen x) K := by
  cases x <;> first | rfl | skip
  · show K (.i .i64 (Int.ofNat (lenQ _))) = _
    rw [lenQ_eq]
    rfl
  · show @Bool.rec (fun _ => RsM) none _ (Nat.ble _ maxL) = _
    rw [bool_rec_bif]
    simp only [eLen]
    rw [bif_ob]
    rfl
  · show @Bool.rec (fun _ => RsM) none _ (Nat.ble _ maxL) = _
    rw [bool_rec_bif]
    simp only [eLen]
    rw [bif_ob]
    rfl
noncomputable def nilckK (x : V) (K : V → RsM) : RsM := @V.rec (fun _ => V → (V → RsM) → RsM) (fun _ => Unit) (fun _ => Unit) (fun _ x K => none) (fun _ _ x K => none) (fun _ x K => none) (fun  x K => none) (fun _ _ x K => K x) (fun _ _ x K => K x) (fun _ _ _ x K => none) (fun _ _ _ x K => none) (fun _ _ _ _ x K => none) (fun _ _ _ _ x K => K x) (fun _ x K => none) (fun  x K => none) (fun _ _ _ _ _ x K => ob (eNilck x) K) (fun  x K => none) (fun _ _ _ x K => none) (fun  x K => none) (fun _ _ x K => none) (fun _ _ x K => none) (fun  x K => none) () (fun _ _ _ _ => ()) () (fun _ _ _ _ => ()) x x K
theorem nilckK_eq (x : V) (K : V → RsM) : nilckK x K = ob (eNilck x) K := by cases x <;> rfl
noncomputable def asT (v : V) (K : List V → RsM) : RsM := @V.rec (fun _ => (List V → RsM) → RsM) (fun _ => Unit) (fun _ => Unit) (fun _ K => none) (fun _ _ K => none) (fun _ K => none) (fun  K => none) (fun _ _ K => none) (fun _ _ K => none) (fun _ _ _ K => none) (fun _ _ _ K => none) (fun _ _ _ _ K => none) (fun _ _ _ _ K => none) (fun _ K => none) (fun  K => none) (fun _ _ _ _ _ K => none) (fun  K => none) (fun _ _ _ K => none) (fun  K => none) (fun _ _ K => none) (fun vs _ K => K vs) (fun  K => none) () (fun _ _ _ _ => ()) () (fun _ _ _ _ => ()) v K
noncomputable def asB (v : V) (K : Bool → RsM) : RsM := @V.rec (fun _ => (Bool → RsM) → RsM) (fun _ => Unit) (fun _ => Unit) (fun x K => K x) (fun _ _ K => none) (fun _ K => none) (fun  K => none) (fun _ _ K => none) (fun _ _ K => none) (fun _ _ _ K => none) (fun _ _ _ K => none) (fun _ _ _ _ K => none) (fun _ _ _ _ K => none) (fun _ K => none) (fun  K => none) (fun _ _ _ _ _ K => none) (fun  K => none) (fun _ _ _ K => none) (fun  K => none) (fun _ _ K => none) (fun _ _ K => none) (fun  K => none) () (fun _ _ _ _ => ()) () (fun _ _ _ _ => ()) v K
noncomputable def asA (v : V) (K : List V → RsM) : RsM := @V.rec (fun _ => (List V → RsM) → RsM) (fun _ => Unit) (fun _ => Unit) (fun _ K => none) (fun _ _ K => none) (fun _ K => none) (fun  K => none) (fun _ _ K => none) (fun _ _ K => none) (fun _ _ _ K => none) (fun _ _ _ K => none) (fun _ _ _ _ K => none) (fun _ _ _ _ K => none) (fun _ K => none) (fun  K => none) (fun _ _ _ _ _ K => none) (fun  K => none) (fun _ _ _ K => none) (fun  K => none) (fun cs _ K => K cs) (fun _ _ K => none) (fun  K => none) () (fun _ _ _ _ => ()) () (fun _ _ _ _ => ()) v K
noncomputable def frcK (v : V) (K : V → RsM) : RsM := @V.rec (fun _ => V → (V → RsM) → RsM) (fun _ => Unit) (fun _ => Unit) (fun x v K => @Bool.rec (fun _ => RsM) (K (.b false)) (K (.b true)) x) (fun k n v K => @Int.rec (fun _ => RsM) (fun m => @Nat.rec (fun _ => RsM) (K (.i k (Int.ofNat 0))) (fun j _ => K (.i k (Int.ofNat (Nat.succ j)))) m) (fun m => @Nat.rec (fun _ => RsM) (K (.i k (Int.negSucc 0))) (fun j _ => K (.i k (Int.negSucc (Nat.succ j)))) m) n) (fun _ v K => K v) (fun  v K => K v) (fun _ _ v K => K v) (fun _ _ v K => K v) (fun _ _ _ v K => K v) (fun _ _ _ v K => K v) (fun _ _ _ _ v K => K v) (fun _ _ _ _ v K => K v) (fun _ v K => K v) (fun  v K => K v) (fun _ _ _ _ _ v K => K v) (fun  v K => K v) (fun _ _ _ v K => K v) (fun  v K => K v) (fun _ _ v K => K v) (fun _ _ v K => K v) (fun  v K => K v) () (fun _ _ _ _ => ()) () (fun _ _ _ _ => ()) v v K
theorem frcK_eq (v : V) (K : V → RsM) : frcK v K = K v := by
  cases v <;> first | rfl | skip
  · rename_i x; cases x <;> rfl
  · rename_i k n
    cases n with
    | ofNat m => cases m <;> rfl
    | negSucc m => cases m <;> rfl
/-! ### operations -/
def fin (o : Option (R × St)) (k kp : V → St → RsM) : RsM := match o with
  | some (.ret v, s) => k v s
  | some (.pan v, s) => kp v s
  | none => none
noncomputable def finQ (o : Option (R × St)) (k kp : V → St → RsM) : RsM := @Option.rec (R × St) (fun _ => (V → St → RsM) → (V → St → RsM) → RsM) (fun _ _ => none) (fun p k kp => @R.rec (fun _ => St → (V → St → RsM) → (V → St → RsM) → RsM) (fun v s k _ => k v s) (fun v s _ kp => kp v s) p.1 p.2 k kp) o k kp
theorem finQ_eq (o : Option (R × St)) (k kp : V → St → RsM) : finQ o k kp = fin o k kp := by
  cases o with
  | none => rfl
  | some p =>
    obtain ⟨r, s⟩ := p
    cases r <;> rfl
theorem fin_ov (o : Option V) (s : St) (k kp : V → St → RsM) : fin (ov o s) k kp = ob o fun v => k v s := by cases o <;> rfl
theorem fin_os (o : Option St) (k kp : V → St → RsM) : fin (os o) k kp = ob o fun s => k (.t []) s := by cases o <;> rfl
theorem fin_ob {α : Type} (o : Option α) (f : α → Option (R × St)) (k kp : V → St → RsM) : fin (ob o f) k kp = ob o fun a => fin (f a) k kp := by cases o <;> rfl
abbrev OK := CF → CV → CP → EnvM → St → (V → St → RsM) → (V → St → RsM) → RsM
noncomputable def fillVK (e : EnvM) (ps : List (Nat × Nat × Opd)) (cs : List V) (K : List V → RsM) : RsM := @List.rec (Nat × Nat × Opd) (fun _ => List V → (List V → RsM) → RsM) (fun cs K => K cs)
  (fun p _ ih cs K => evK p.2.2 e fun v => cellsK v fun vc => @Bool.rec (fun _ => RsM) none (@Bool.rec (fun _ => RsM) none (ih (putQ cs p.1 vc) K) (Nat.ble (Nat.add p.1 p.2.1) (lenQ cs))) (Nat.beq (lenQ vc) p.2.1)) ps cs K
theorem fillVK_eq {e : EnvM} {env : Env} (he : EqE e env) : ∀ (ps : List (Nat × Nat × Opd)) (cs : List V) (K : List V → RsM), fillVK e ps cs K = ob (eFillV env cs ps) K
  | [], cs, K => rfl
  | (off, sz, x) :: r, cs, K => by
    show (evK x e fun v => cellsK v fun vc => @Bool.rec (fun _ => RsM) none (@Bool.rec (fun _ => RsM) none (fillVK e r (putQ cs off vc) K) (Nat.ble (off + sz) (lenQ cs))) (Nat.beq (lenQ vc) sz)) = _
    rw [evK_eq he]
    simp only [eFillV]
    cases evx env x with
    | none => rfl
    | some v =>
      simp only [ob]
      rw [cellsK_eq]
      cases cellsOf v with
      | none => rfl
      | some vc =>
        simp only [ob, lenQ_eq, putQ_eq]
        cases Nat.beq vc.length sz with
        | false => rfl
        | true =>
          cases Nat.ble (off + sz) cs.length with
          | false => rfl
          | true => exact fillVK_eq he r _ K
noncomputable def fillEK (e : EnvM) (sz : Nat) (ps : List (Nat × Opd)) (es : List (List V)) (K : List (List V) → RsM) : RsM := @List.rec (Nat × Opd) (fun _ => List (List V) → (List (List V) → RsM) → RsM) (fun es K => K es)
  (fun p _ ih es K => evK p.2 e fun v => cellsK v fun vc => @Bool.rec (fun _ => RsM) none (@Bool.rec (fun _ => RsM) none (ih (setQ es p.1 vc) K) (Nat.ble (Nat.succ p.1) (lenQ es))) (Nat.beq (lenQ vc) sz)) ps es K
theorem fillEK_eq {e : EnvM} {env : Env} (he : EqE e env) (sz : Nat) : ∀ (ps : List (Nat × Opd)) (es : List (List V)) (K : List (List V) → RsM), fillEK e sz ps es K = ob (eFillE env sz es ps) K
  | [], es, K => rfl
  | (i, x) :: r, es, K => by
    show (evK x e fun v => cellsK v fun vc => @Bool.rec (fun _ => RsM) none (@Bool.rec (fun _ => RsM) none (fillEK e sz r (setQ es i vc) K) (Nat.ble (Nat.succ i) (lenQ es))) (Nat.beq (lenQ vc) sz)) = _
    rw [evK_eq he]
    simp only [eFillE]
    cases evx env x with
    | none => rfl
    | some v =>
      simp only [ob]
      rw [cellsK_eq]
      cases cellsOf v with
      | none => rfl
      | some vc =>
        simp only [ob, lenQ_eq, setQ_eq, Nat.blt, Nat.succ_eq_add_one]
        cases Nat.beq vc.length sz with
        | false => rfl
        | true =>
          cases Nat.ble (i + 1) es.length with
          | false => rfl
          | true => exact fillEK_eq he sz r _ K
noncomputable def opK (o : AOp) : OK := @AOp.rec (fun _ => OK)
  (fun x cf cv cp env s kk kp => evK x env fun v => kk v s)
  (fun x cf cv cp env s kk kp => evK x env fun v => kk v s)
  (fun c a b cf cv cp env s kk kp => evK c env fun vc => evK a env fun va => evK b env fun vb => asB vc fun t => @Bool.rec (fun _ => RsM) (kk vb s) (kk va s) t)
  (fun op x y cf cv cp env s kk kp => evK x env fun vx => evK y env fun vy => binK op vx vy fun v => kk v s)
  (fun neg x y cf cv cp env s kk kp => evK x env fun vx => evK y env fun vy => finQ (match vx, vy with | .b p, .b q => some (.ret (.b (bif neg then p != q else p == q)), s) | _, _ => none) kk kp)
  (fun len neg x y cf cv cp env s kk kp => evK x env fun vx => evK y env fun vy => finQ (ov (eEqf len neg vx vy) s) kk kp)
  (fun kind neg x cf cv cp env s kk kp => evK x env fun vx => finQ (ov (eEqn kind neg vx) s) kk kp)
  (fun x cf cv cp env s kk kp => evK x env fun vx => asB vx fun p => kk (.b (notQ p)) s)
  (fun xor x cf cv cp env s kk kp => evK x env fun vx => finQ (match vx with | .i ka a => some (.ret (.i ka (bif xor then bits .xor ka (bif ka.signed then -1 else ka.max) a else ka.wrap (0 - a))), s) | _ => none) kk kp)
  (fun k x cf cv cp env s kk kp => evK x env fun vx => finQ (match vx with | .i _ a => some (.ret (.i k (wrapQ k a)), s) | _ => none) kk kp)
  (fun x cf cv cp env s kk kp => evK x env fun vx => cellsK vx fun cs => newK s (.cs cs) fun i s => kk (.p i 0) s)
  (fun x cf cv cp env s kk kp => evK x env fun vx => cellsK vx fun cs => kk (.rp cs) s)
  (fun sz bytes x y cf cv cp env s kk kp => evK x env fun vx => evK y env fun vy => finQ (ov (eAppf s sz vx vy) s) kk kp)
  (fun zero cf cv cp env s kk kp => finQ (bif pureL zero then s.new (.cs zero) fun i s => some (.ret (.p i 0), s) else none) kk kp)
  (fun zero parts cf cv cp env s kk kp => @Bool.rec (fun _ => RsM) none (fillVK env parts zero fun cs => kk (.a cs) s) (pureL zero))
  (fun sz len zero parts cf cv cp env s kk kp => @Bool.rec (fun _ => RsM) none (fillEK env (lenQ zero) parts (List.replicate len zero) fun es => kk (.l es true) s) (pureL zero))
  (fun agg x cf cv cp env s kk kp => evK x env fun vx => loadK s agg vx fun v => kk v s)
  (fun sz a x cf cv cp env s kk kp => evK a env fun va => evK x env fun vx => storeK s sz va vx fun s => kk (.t []) s)
  (fun off x cf cv cp env s kk kp => evK x env fun vx => faddrK off vx fun v => kk v s)
  (fun agg off x cf cv cp env s kk kp => evK x env fun vx => asA vx fun cs => cutK agg cs off fun v => kk v s)
  (fun sz arr x i cf cv cp env s kk kp => evK x env fun vx => evK i env fun vi => iaddrK sz arr vx vi fun v => kk v s)
  (fun len sz agg x i cf cv cp env s kk kp => evK x env fun vx => evK i env fun vi => finQ (ov (eIndex len sz agg vx vi) s) kk kp)
  (fun sz x lo hi mx cf cv cp env s kk kp => evK x env fun vx => oevK lo env fun l => oevK hi env fun h => oevK mx env fun m => finQ (ovs (eSlice s sz vx l h m)) kk kp)
  (fun x cf cv cp env s kk kp => evK x env fun vx => lenK vx fun v => kk v s)
  (fun x cf cv cp env s kk kp => evK x env fun vx => finQ (ov (eLenM s vx) s) kk kp)
  (fun x cf cv cp env s kk kp => evK x env fun vx => finQ (ov (eStr s vx) s) kk kp)
  (fun x i cf cv cp env s kk kp => evK x env fun vx => evK i env fun vi => finQ (ov (eSidx vx vi) s) kk kp)
  (fun sz bytes x y cf cv cp env s kk kp => evK x env fun vx => evK y env fun vy => finQ (ovs (eAppend s sz vx vy)) kk kp)
  (fun sz x y cf cv cp env s kk kp => evK x env fun vx => evK y env fun vy => finQ (ovs (eCopy s sz vx vy)) kk kp)
  (fun x y cf cv cp env s kk kp => evK x env fun vx => evK y env fun vy => finQ (match vx, vy with | .i ka a, .i kb b => bif decide (ka = kb) then some (.ret (.i ka (bif ltQ a b then b else a)), s) else none | _, _ => none) kk kp)
  (fun x y cf cv cp env s kk kp => evK x env fun vx => evK y env fun vy => finQ (match vx, vy with | .i ka a, .i kb b => bif decide (ka = kb) then some (.ret (.i ka (bif ltQ b a then b else a)), s) else none | _, _ => none) kk kp)
  (fun i x cf cv cp env s kk kp => evK x env fun vx => asT vx fun vs => nthK vs i fun v => kk v s)
  (fun x cf cv cp env s kk kp => evK x env fun vx => nilckK vx fun v => kk v s)
  (fun f first cap cf cv cp env s kk kp => evsK first env fun vf => evsK cap env fun vc => @Bool.rec (fun _ => RsM) none (kk (.f f vf vc) s) (pureFn f))
  (fun  cf cv cp env s kk kp => finQ (s.new (.map []) fun i s => some (.ret (.m i), s)) kk kp)
  (fun sz bytes zero len cap cf cv cp env s kk kp => evK len env fun vx => evK cap env fun vy => finQ (ovs (eMkslice s sz zero vx vy)) kk kp)
  (fun ks zero ok m k cf cv cp env s kk kp => evK m env fun vm => evK k env fun vk => finQ (ov (eLookup s ks zero ok vm vk) s) kk kp)
  (fun ks m k v cf cv cp env s kk kp => evK m env fun vm => evK k env fun vk => evK v env fun vx => finQ (os (eMapset s ks vm vk vx)) kk kp)
  (fun t x cf cv cp env s kk kp => evK x env fun vx => kk (.ifc t vx) s)
  (fun t zero ok x cf cv cp env s kk kp => evK x env fun vx => finQ (ov (eTas t zero ok vx) s) kk kp)
  (fun x cf cv cp env s kk kp => evK x env fun vx => finQ (match vx with | .ifc t v => some (.pan (.ifc t v), s) | _ => none) kk kp)
  (fun f args cf cv cp env s kk kp => evsK args env fun vs => finQ (cf f vs s) kk kp)
  (fun f args cf cv cp env s kk kp => evsK args env fun vs => finQ (ov (cp f vs) s) kk kp)
  (fun x args cf cv cp env s kk kp => evK x env fun vx => evsK args env fun vs => finQ (cv vx vs s) kk kp)
  (fun x args cf cv cp env s kk kp => none)
  (fun tab x args cf cv cp env s kk kp => evK x env fun vx => evsK args env fun vs => finQ (match vx with | .ifc t v => ob (look t tab) fun f => cf f (v :: vs) s | _ => none) kk kp) o
theorem pick_eq {vc va vb : V} {s : St} {kk kp : V → St → RsM} : asB vc (fun t => @Bool.rec (fun _ => RsM) (kk vb s) (kk va s) t) = fin (match vc with | .b t => some (.ret (bif t then va else vb), s) | _ => none) kk kp := by
  cases vc <;> first | rfl | skip
  rename_i t
  cases t <;> rfl
theorem not_eq {vx : V} {s : St} {kk kp : V → St → RsM} : asB vx (fun p => kk (.b (notQ p)) s) = fin (match vx with | .b p => some (.ret (.b (!p)), s) | _ => none) kk kp := by
  cases vx <;> first | rfl | skip
  rename_i t
  cases t <;> rfl
theorem fin_bif {c : Bool} {x : Option (R × St)} {kk kp : V → St → RsM} : fin (bif c then x else none) kk kp = bif c then fin x kk kp else none := by cases c <;> rfl
theorem opK_eq {e : EnvM} {env : Env} (he : EqE e env) (o : AOp) (cf : CF) (cv : CV) (cp : CP) (s : St) (kk kp : V → St → RsM) : opK o cf cv cp e s kk kp = fin (eOp cf cv cp o env s) kk kp := by
  cases o with
  | mv x =>
    show (evK x e fun v => kk v s) = _
    simp only [evK_eq he, eOp, fin_ov]
  | mvf x =>
    show (evK x e fun v => kk v s) = _
    simp only [evK_eq he, eOp, fin_ov]
  | pick c a b =>
    show (evK c e fun vc => evK a e fun va => evK b e fun vb => asB vc fun t => @Bool.rec (fun _ => RsM) (kk vb s) (kk va s) t) = _
    simp only [evK_eq he, eOp, fin_ob, pick_eq (kp := kp)]
    rfl
  | bin op x y =>
    show (evK x e fun vx => evK y e fun vy => binK op vx vy fun v => kk v s) = _
    simp only [evK_eq he, eOp, fin_ob, fin_ov, binK_eq]
  | eqb neg x y =>
    show (evK x e fun vx => evK y e fun vy => finQ (match vx, vy with | .b p, .b q => some (.ret (.b (bif neg then p != q else p == q)), s) | _, _ => none) kk kp) = _
    simp only [evK_eq he, evsK_eq he, oevK_eq he, eOp, fin_ob, finQ_eq]
    try rfl
  | eqf len neg x y =>
    show (evK x e fun vx => evK y e fun vy => finQ (ov (eEqf len neg vx vy) s) kk kp) = _
    simp only [evK_eq he, evsK_eq he, oevK_eq he, eOp, fin_ob, finQ_eq]
    try rfl
  | eqn kind neg x =>
    show (evK x e fun vx => finQ (ov (eEqn kind neg vx) s) kk kp) = _
    simp only [evK_eq he, evsK_eq he, oevK_eq he, eOp, fin_ob, finQ_eq]
    try rfl
  | not x =>
    show (evK x e fun vx => asB vx fun p => kk (.b (notQ p)) s) = _
    simp only [evK_eq he, eOp, fin_ob, not_eq (kp := kp)]
    rfl
  | neg xor x =>
    show (evK x e fun vx => finQ (match vx with | .i ka a => some (.ret (.i ka (bif xor then bits .xor ka (bif ka.signed then -1 else ka.max) a else ka.wrap (0 - a))), s) | _ => none) kk kp) = _
    simp only [evK_eq he, evsK_eq he, oevK_eq he, eOp, fin_ob, finQ_eq]
    try rfl
  | conv k x =>
    show (evK x e fun vx => finQ (match vx with | .i _ a => some (.ret (.i k (wrapQ k a)), s) | _ => none) kk kp) = _
    simp only [evK_eq he, evsK_eq he, oevK_eq he, eOp, fin_ob, finQ_eq]
    try rfl
  | box x =>
    show (evK x e fun vx => cellsK vx fun cs => newK s (.cs cs) fun i s => kk (.p i 0) s) = _
    simp only [evK_eq he, eOp, fin_ob, cellsK_eq]
    congr 1
    funext vx
    congr 1
    funext cs
    have : ∀ o : Option (R × St), fin o kk kp = ob o fun p => fin (some p) kk kp := fun o => by cases o <;> rfl
    rw [this, newK_eq]
    rfl
  | boxf x =>
    show (evK x e fun vx => cellsK vx fun cs => kk (.rp cs) s) = _
    simp only [evK_eq he, eOp, fin_ob, cellsK_eq]
    rfl
  | appf sz bytes x y =>
    show (evK x e fun vx => evK y e fun vy => finQ (ov (eAppf s sz vx vy) s) kk kp) = _
    simp only [evK_eq he, evsK_eq he, oevK_eq he, eOp, fin_ob, finQ_eq]
    try rfl
  | alloc zero =>
    show (finQ (bif pureL zero then s.new (.cs zero) fun i s => some (.ret (.p i 0), s) else none) kk kp) = _
    simp only [finQ_eq, eOp]
  | build zero parts =>
    show (@Bool.rec (fun _ => RsM) none (fillVK e parts zero fun cs => kk (.a cs) s) (pureL zero)) = _
    simp only [eOp, fin_bif, fin_ob, fillVK_eq he, bool_rec_bif]
    rfl
  | bslice sz len zero parts =>
    show (@Bool.rec (fun _ => RsM) none (fillEK e (lenQ zero) parts (List.replicate len zero) fun es => kk (.l es true) s) (pureL zero)) = _
    simp only [eOp, fin_bif, fin_ob, fillEK_eq he, bool_rec_bif, lenQ_eq]
    rfl
  | load agg x =>
    show (evK x e fun vx => loadK s agg vx fun v => kk v s) = _
    simp only [evK_eq he, eOp, fin_ob, fin_ov, loadK_eq]
  | store sz a x =>
    show (evK a e fun va => evK x e fun vx => storeK s sz va vx fun s => kk (.t []) s) = _
    simp only [evK_eq he, eOp, fin_ob, fin_os, storeK_eq]
  | faddr off x =>
    show (evK x e fun vx => faddrK off vx fun v => kk v s) = _
    simp only [evK_eq he, eOp, fin_ob, fin_ov, faddrK_eq]
  | field agg off x =>
    show (evK x e fun vx => asA vx fun cs => cutK agg cs off fun v => kk v s) = _
    simp only [evK_eq he, eOp, fin_ob]
    congr 1
    funext vx
    cases vx <;> first | rfl | skip
    show cutK agg _ off _ = _
    rw [cutK_eq, fin_ov]
  | iaddr sz arr x i =>
    show (evK x e fun vx => evK i e fun vi => iaddrK sz arr vx vi fun v => kk v s) = _
    simp only [evK_eq he, eOp, fin_ob, fin_ov, iaddrK_eq]
  | index len sz agg x i =>
    show (evK x e fun vx => evK i e fun vi => finQ (ov (eIndex len sz agg vx vi) s) kk kp) = _
    simp only [evK_eq he, evsK_eq he, oevK_eq he, eOp, fin_ob, finQ_eq]
    try rfl
  | slice sz x lo hi mx =>
    show (evK x e fun vx => oevK lo e fun l => oevK hi e fun h => oevK mx e fun m => finQ (ovs (eSlice s sz vx l h m)) kk kp) = _
    simp only [evK_eq he, evsK_eq he, oevK_eq he, eOp, fin_ob, finQ_eq]
    try rfl
  | len x =>
    show (evK x e fun vx => lenK vx fun v => kk v s) = _
    simp only [evK_eq he, eOp, fin_ob, fin_ov, lenK_eq]
  | lenm x =>
    show (evK x e fun vx => finQ (ov (eLenM s vx) s) kk kp) = _
    simp only [evK_eq he, evsK_eq he, oevK_eq he, eOp, fin_ob, finQ_eq]
    try rfl
  | str x =>
    show (evK x e fun vx => finQ (ov (eStr s vx) s) kk kp) = _
    simp only [evK_eq he, evsK_eq he, oevK_eq he, eOp, fin_ob, finQ_eq]
    try rfl
  | sidx x i =>
    show (evK x e fun vx => evK i e fun vi => finQ (ov (eSidx vx vi) s) kk kp) = _
    simp only [evK_eq he, evsK_eq he, oevK_eq he, eOp, fin_ob, finQ_eq]
    try rfl
  | append sz bytes x y =>
    show (evK x e fun vx => evK y e fun vy => finQ (ovs (eAppend s sz vx vy)) kk kp) = _
    simp only [evK_eq he, evsK_eq he, oevK_eq he, eOp, fin_ob, finQ_eq]
    try rfl
  | copy sz x y =>
    show (evK x e fun vx => evK y e fun vy => finQ (ovs (eCopy s sz vx vy)) kk kp) = _
    simp only [evK_eq he, evsK_eq he, oevK_eq he, eOp, fin_ob, finQ_eq]
    try rfl
  | mmax x y =>
    show (evK x e fun vx => evK y e fun vy => finQ (match vx, vy with | .i ka a, .i kb b => bif decide (ka = kb) then some (.ret (.i ka (bif ltQ a b then b else a)), s) else none | _, _ => none) kk kp) = _
    simp only [evK_eq he, evsK_eq he, oevK_eq he, eOp, fin_ob, finQ_eq]
    try rfl
  | mmin x y =>
    show (evK x e fun vx => evK y e fun vy => finQ (match vx, vy with | .i ka a, .i kb b => bif decide (ka = kb) then some (.ret (.i ka (bif ltQ b a then b else a)), s) else none | _, _ => none) kk kp) = _
    simp only [evK_eq he, evsK_eq he, oevK_eq he, eOp, fin_ob, finQ_eq]
    try rfl
  | extract i x =>
    show (evK x e fun vx => asT vx fun vs => nthK vs i fun v => kk v s) = _
    simp only [evK_eq he, eOp, fin_ob]
    congr 1
    funext vx
    cases vx <;> first | rfl | skip
    show nthK _ i _ = _
    rw [nthK_eq, fin_ov]
  | nilck x =>
    show (evK x e fun vx => nilckK vx fun v => kk v s) = _
    simp only [evK_eq he, eOp, fin_ob, fin_ov, nilckK_eq]
  | mkf f first cap =>
    show (evsK first e fun vf => evsK cap e fun vc => @Bool.rec (fun _ => RsM) none (kk (.f f vf vc) s) (pureFn f)) = _
    simp only [evsK_eq he, eOp, fin_bif, fin_ob, bool_rec_bif]
    rfl
  | mkmap =>
    show (finQ (s.new (.map []) fun i s => some (.ret (.m i), s)) kk kp) = _
    simp only [finQ_eq, eOp]
  | mkslice sz bytes zero len cap =>
    show (evK len e fun vx => evK cap e fun vy => finQ (ovs (eMkslice s sz zero vx vy)) kk kp) = _
    simp only [evK_eq he, evsK_eq he, oevK_eq he, eOp, fin_ob, finQ_eq]
    try rfl
  | lookup ks zero ok m k =>
    show (evK m e fun vm => evK k e fun vk => finQ (ov (eLookup s ks zero ok vm vk) s) kk kp) = _
    simp only [evK_eq he, evsK_eq he, oevK_eq he, eOp, fin_ob, finQ_eq]
    try rfl
  | mapset ks m k v =>
    show (evK m e fun vm => evK k e fun vk => evK v e fun vx => finQ (os (eMapset s ks vm vk vx)) kk kp) = _
    simp only [evK_eq he, evsK_eq he, oevK_eq he, eOp, fin_ob, finQ_eq]
    try rfl
  | mkifc t x =>
    show (evK x e fun vx => kk (.ifc t vx) s) = _
    simp only [evK_eq he, eOp, fin_ob]
    rfl
  | tas t zero ok x =>
    show (evK x e fun vx => finQ (ov (eTas t zero ok vx) s) kk kp) = _
    simp only [evK_eq he, evsK_eq he, oevK_eq he, eOp, fin_ob, finQ_eq]
    try rfl
  | panic x =>
    show (evK x e fun vx => finQ (match vx with | .ifc t v => some (.pan (.ifc t v), s) | _ => none) kk kp) = _
    simp only [evK_eq he, evsK_eq he, oevK_eq he, eOp, fin_ob, finQ_eq]
    try rfl
  | call f args =>
    show (evsK args e fun vs => finQ (cf f vs s) kk kp) = _
    simp only [evK_eq he, evsK_eq he, oevK_eq he, eOp, fin_ob, finQ_eq]
    try rfl
  | callp f args =>
    show (evsK args e fun vs => finQ (ov (cp f vs) s) kk kp) = _
    simp only [evK_eq he, evsK_eq he, oevK_eq he, eOp, fin_ob, finQ_eq]
    try rfl
  | callv x args =>
    show (evK x e fun vx => evsK args e fun vs => finQ (cv vx vs s) kk kp) = _
    simp only [evK_eq he, evsK_eq he, oevK_eq he, eOp, fin_ob, finQ_eq]
    try rfl
  | callvp x args =>
    rfl
  | inv tab x args =>
    show (evK x e fun vx => evsK args e fun vs => finQ (match vx with | .ifc t v => ob (look t tab) fun f => cf f (v :: vs) s | _ => none) kk kp) = _
    simp only [evK_eq he, evsK_eq he, oevK_eq he, eOp, fin_ob, finQ_eq]
    try rfl
/-- an operation, with its guard -/
noncomputable def grdB (g : Bool) (t : Bool) (y : RsM) (n : RsM) : RsM := @Bool.rec (fun _ => RsM) (@Bool.rec (fun _ => RsM) y n g) (@Bool.rec (fun _ => RsM) n y g) t
theorem grdB_eq (g t : Bool) (y n : RsM) : grdB g t y n = bif t == g then y else n := by cases g <;> cases t <;> rfl
noncomputable def grdV (v : V) (g : Bool) (y : RsM) (n : RsM) : RsM := @V.rec (fun _ => Bool → RsM → RsM → RsM) (fun _ => Unit) (fun _ => Unit) (fun t g y n => grdB g t y n) (fun _ _ g y n => none) (fun _ g y n => none) (fun  g y n => none) (fun _ _ g y n => none) (fun _ _ g y n => none) (fun _ _ _ g y n => none) (fun _ _ _ g y n => none) (fun _ _ _ _ g y n => none) (fun _ _ _ _ g y n => none) (fun _ g y n => none) (fun  g y n => none) (fun _ _ _ _ _ g y n => none) (fun  g y n => none) (fun _ _ _ g y n => none) (fun  g y n => none) (fun _ _ g y n => none) (fun vs _ g y n => @List.rec V (fun _ => RsM → RsM) (fun n => n) (fun _ _ _ _ => none) vs n) (fun  g y n => none) () (fun _ _ _ _ => ()) () (fun _ _ _ _ => ()) v g y n
noncomputable def grdK (g : Nat × Bool) (o : AOp) : OK := fun cf cv cp e s kk kp => evK (.t g.1) e fun v => grdV v g.2 (opK o cf cv cp e s kk kp) (kk (.t []) s)
noncomputable def sopK (g : Option (Nat × Bool)) (o : AOp) : OK := @Option.rec (Nat × Bool) (fun _ => AOp → OK) (fun o => opK o) (fun g o => grdK g o) g o
theorem sopK_eq {e : EnvM} {env : Env} (he : EqE e env) (d : Option Nat) (g : Option (Nat × Bool)) (o : AOp) (cf : CF) (cv : CV) (cp : CP) (s : St) (kk kp : V → St → RsM) : sopK g o cf cv cp e s kk kp = fin (eSop cf cv cp ⟨d, o, g⟩ env s) kk kp := by
  cases g with
  | none => exact opK_eq he o cf cv cp s kk kp
  | some g =>
    obtain ⟨g, b⟩ := g
    show (evK (.t g) e fun v => grdV v b (opK o cf cv cp e s kk kp) (kk (.t []) s)) = _
    rw [evK_eq he, opK_eq he]
    simp only [eSop, evx]
    cases get g env with
    | none => rfl
    | some v =>
      simp only [ob]
      cases v <;> first | rfl | skip
      · rename_i t
        show grdB b t _ _ = _
        rw [grdB_eq]
        simp only
        cases t == b <;> rfl
      · rename_i vs
        cases vs <;> rfl
noncomputable def pushK (d : Option Nat) (v : V) (e : EnvM) : EnvM := @Option.rec Nat (fun _ => V → EnvM → EnvM) (fun _ e => e) (fun d v e => ⟨Nat.lor e.1 (Nat.shiftLeft 1 d), (d, v) :: e.2⟩) d v e
theorem vis_eq (M n : Nat) : vis M n = M.testBit n := by
  have h1 : (M >>> n) &&& 1 = (M >>> n) % 2 := Nat.and_one_is_mod _
  have h2 : vis M n = Nat.beq ((M >>> n) &&& 1) 1 := rfl
  rw [h2, h1, Nat.testBit_eq_decide_div_mod_eq, Nat.shiftRight_eq_div_pow]
  cases h : decide (M / 2 ^ n % 2 = 1) with
  | true => rw [of_decide_eq_true h]; rfl
  | false =>
    have := of_decide_eq_false h
    cases hb : Nat.beq (M / 2 ^ n % 2) 1 with
    | false => rfl
    | true => exact absurd (Nat.eq_of_beq_eq_true hb) this
theorem vis_push (M d n : Nat) : vis (Nat.lor M (Nat.shiftLeft 1 d)) n = (vis M n || Nat.beq d n) := by
  rw [vis_eq, vis_eq]
  show (M ||| 1 <<< d).testBit n = _
  rw [Nat.testBit_or, Nat.one_shiftLeft, Nat.testBit_two_pow]
  congr 1
  cases hb : Nat.beq d n with
  | true => simp [Nat.eq_of_beq_eq_true hb]
  | false => simpa using Nat.ne_of_beq_eq_false hb
theorem EqE.push {e : EnvM} {env : Env} (he : EqE e env) (d : Option Nat) (v : V) : EqE (pushK d v e) (put d v env) := by
  cases d with
  | none => exact he
  | some d =>
    intro n
    show (bif vis (Nat.lor e.1 (Nat.shiftLeft 1 d)) n then (bif Nat.beq d n then some v else get n e.2) else none) = bif Nat.beq d n then some v else get n env
    rw [vis_push, ← he n, getE]
    cases Nat.beq d n <;> cases vis e.1 n <;> rfl
noncomputable def opsK (ops : List AOper) (cf : CF) (cv : CV) (cp : CP) (env : EnvM) (s : St) : RsM := @List.rec AOper (fun _ => CF → CV → CP → EnvM → St → RsM) (fun _ _ _ env s => some (.normal, env, s))
  (fun o _ ih cf cv cp env s => sopK o.3 o.2 cf cv cp env s (fun v s => frcK v fun v => ih cf cv cp (pushK o.1 v env) s) (fun v s => some (.pan v, env, s))) ops cf cv cp env s
/-- the same end -/
def SimR : RsM → Rs → Prop
  | some (x, e, s), some (x', env, s') => x = x' ∧ s = s' ∧ EqE e env
  | none, none => True
  | _, _ => False
theorem opsK_eq (cf : CF) (cv : CV) (cp : CP) : ∀ (ops : List AOper) {e : EnvM} {env : Env} (s : St), EqE e env → SimR (opsK ops cf cv cp e s) (eOps cf cv cp ops env s)
  | [], e, env, s, he => ⟨rfl, rfl, he⟩
  | o :: r, e, env, s, he => by
    show SimR (sopK o.3 o.2 cf cv cp e s (fun v s => frcK v fun v => opsK r cf cv cp (pushK o.1 v e) s) (fun v s => some (.pan v, e, s))) _
    rw [sopK_eq he o.1]
    show SimR (fin (eSop cf cv cp o env s) _ _) _
    simp only [eOps]
    cases eSop cf cv cp o env s with
    | none => trivial
    | some p =>
      obtain ⟨x, s'⟩ := p
      cases x with
      | pan v => exact ⟨rfl, rfl, he⟩
      | ret v =>
        show SimR (frcK v fun v => opsK r cf cv cp (pushK o.1 v e) s') (forceV v _)
        rw [frcK_eq, forceV_eq]
        exact opsK_eq cf cv cp r s' (he.push o.1 v)
noncomputable def reK (re : List AOper) (cf : CF) (cv : CV) (cp : CP) (e : EnvM) (s : St) (K : RsM) : RsM := @List.rec AOper (fun _ => CF → CV → CP → EnvM → St → RsM → RsM) (fun _ _ _ _ _ K => K)
  (fun o _ ih cf cv cp e s K => sopK o.3 o.2 cf cv cp e s (fun u _ => @Option.rec Nat (fun _ => RsM) (ih cf cv cp e s K) (fun d => evK (.t d) e fun w => @Bool.rec (fun _ => RsM) none (ih cf cv cp e s K) (beqV u w)) o.1) (fun _ _ => none)) re cf cv cp e s K
theorem reK_eq (cf : CF) (cv : CV) (cp : CP) {e : EnvM} {env : Env} (he : EqE e env) (s : St) (K : RsM) : ∀ re : List AOper, reK re cf cv cp e s K = bif eRe cf cv cp re env s then K else none
  | [] => rfl
  | o :: r => by
    show sopK o.3 o.2 cf cv cp e s (fun u _ => @Option.rec Nat (fun _ => RsM) (reK r cf cv cp e s K) (fun d => evK (.t d) e fun w => @Bool.rec (fun _ => RsM) none (reK r cf cv cp e s K) (beqV u w)) o.1) (fun _ _ => none) = _
    rw [sopK_eq he o.1, reK_eq cf cv cp he s K r]
    have h' : eRe cf cv cp (o :: r) env s = ((match eSop cf cv cp o env s with
      | some (.ret u, _) => match o.dst with
        | none => true
        | some d => match get d env with | some w => beqV u w | none => false
      | _ => false) && eRe cf cv cp r env s) := rfl
    rw [h']
    show fin (eSop cf cv cp o env s) _ _ = _
    cases eSop cf cv cp o env s with
    | none => rfl
    | some p =>
      obtain ⟨x, s'⟩ := p
      cases x with
      | pan v => rfl
      | ret u =>
        obtain ⟨d, op, g⟩ := o
        cases d with
        | none => simp only [fin, Bool.true_and]
        | some d =>
          simp only [fin]
          rw [evK_eq he]
          simp only [evx]
          cases get d env with
          | none => rfl
          | some w =>
            simp only [ob]
            cases beqV u w <;> simp
noncomputable def dopsK (ops : List DOper) (cf : CF) (cv : CV) (cp : CP) (e : EnvM) (s : St) : RsM := @List.rec DOper (fun _ => CF → CV → CP → EnvM → St → RsM) (fun _ _ _ e s => some (.normal, e, s))
  (fun d _ ih cf cv cp e s => sopK d.2.3 d.2.2 cf cv cp e s (fun v s => frcK v fun v => (fun e => reK d.4 cf cv cp e s (ih cf cv cp e s)) (pushK d.2.1 v e)) (fun v s => some (.pan v, ⟨0, []⟩, s))) ops cf cv cp e s
theorem EqE.nil {M : Nat} : EqE ⟨M, []⟩ [] := fun n => by
  show (bif vis M n then none else none) = none
  cases vis M n <;> rfl
theorem dopsK_eq (cf : CF) (cv : CV) (cp : CP) : ∀ (ops : List DOper) {e : EnvM} {env : Env} (s : St), EqE e env → SimR (dopsK ops cf cv cp e s) (eDops cf cv cp ops env s)
  | [], e, env, s, he => ⟨rfl, rfl, he⟩
  | d :: r, e, env, s, he => by
    show SimR (sopK d.2.3 d.2.2 cf cv cp e s (fun v s => frcK v fun v => (fun e => reK d.4 cf cv cp e s (dopsK r cf cv cp e s)) (pushK d.2.1 v e)) (fun v s => some (.pan v, ⟨0, []⟩, s))) _
    rw [sopK_eq he d.2.1]
    show SimR (fin (eSop cf cv cp d.o env s) _ _) _
    simp only [eDops]
    cases eSop cf cv cp d.o env s with
    | none => trivial
    | some p =>
      obtain ⟨x, s'⟩ := p
      cases x with
      | pan v => exact ⟨rfl, rfl, EqE.nil⟩
      | ret v =>
        show SimR (frcK v fun v => reK d.4 cf cv cp (pushK d.2.1 v e) s' (dopsK r cf cv cp (pushK d.2.1 v e) s')) (forceV v _)
        rw [frcK_eq, forceV_eq, reK_eq cf cv cp (he.push d.2.1 v)]
        show SimR (bif eRe cf cv cp d.re (put d.o.dst v env) s' then _ else none) (bif eRe cf cv cp d.re (put d.o.dst v env) s' then _ else none)
        cases eRe cf cv cp d.re (put d.o.dst v env) s' with
        | false => trivial
        | true => exact dopsK_eq cf cv cp r s' (he.push d.2.1 v)
/-! ### frames -/
noncomputable def maskQ (l : List Nat) : Nat := @List.rec Nat (fun _ => Nat) 0 (fun n _ ih => Nat.lor ih (Nat.shiftLeft 1 n)) l
noncomputable def pruneM (l : List Nat) (e : EnvM) : EnvM := ⟨Nat.land e.1 (maskQ l), e.2⟩
theorem vis_mask : ∀ (l : List Nat) (n : Nat), vis (maskQ l) n = l.any fun k => Nat.beq k n
  | [], n => by rw [vis_eq]; exact Nat.zero_testBit n
  | k :: r, n => by
    show vis (Nat.lor (maskQ r) (Nat.shiftLeft 1 k)) n = _
    rw [vis_push, vis_mask r n, List.any_cons, Bool.or_comm]
theorem get_of_prune : ∀ (l : List Nat) (env : Env) (n : Nat), get n (prune l env) = bif l.any (fun k => Nat.beq k n) then get n env else none
  | [], env, n => rfl
  | k :: r, env, n => by
    have ih := get_of_prune r env n
    simp only [prune, List.any_cons]
    cases hk : Nat.beq k n with
    | true =>
      have := Nat.eq_of_beq_eq_true hk
      subst this
      cases hg : get k env with
      | none =>
        simp only
        rw [ih, hg]
        cases (r.any fun j => Nat.beq j k) <;> rfl
      | some v => simp [get, hk]
    | false =>
      simp only [Bool.false_or]
      cases hg : get k env with
      | none => exact ih
      | some v =>
        simp only [get, hk, cond_false]
        exact ih
theorem EqE.prune {e : EnvM} {env : Env} (he : EqE e env) (l : List Nat) : EqE (pruneM l e) (Gl.prune l env) := fun n => by
  show (bif vis (Nat.land e.1 (maskQ l)) n then get n e.2 else none) = _
  have : vis (Nat.land e.1 (maskQ l)) n = (vis e.1 n && vis (maskQ l) n) := by
    rw [vis_eq, vis_eq, vis_eq]
    exact Nat.testBit_and _ _ _
  rw [this, get_of_prune, ← he n, getE, vis_mask]
  cases vis e.1 n <;> cases (l.any fun k => Nat.beq k n) <;> rfl
/-- a frame of its own -/
noncomputable def matK (l : List Nat) (e : EnvM) (K : Env → RsM) : RsM := @List.rec Nat (fun _ => EnvM → (Env → RsM) → RsM) (fun _ K => K [])
  (fun n _ ih e K => @Bool.rec (fun _ => RsM) (ih e K) (@List.rec (Nat × V) (fun _ => Nat → RsM → (V → RsM) → RsM) (fun _ x _ => x) (fun p _ ih n x K => @Bool.rec (fun _ => RsM) (ih n x K) (K p.2) (Nat.beq p.1 n)) e.2 n (ih e K) (fun v => ih e fun r => K ((n, v) :: r))) (vis e.1 n)) l e K
theorem scan_eq (env : Env) (n : Nat) (x : RsM) (K : V → RsM) : @List.rec (Nat × V) (fun _ => Nat → RsM → (V → RsM) → RsM) (fun _ x _ => x) (fun p _ ih n x K => @Bool.rec (fun _ => RsM) (ih n x K) (K p.2) (Nat.beq p.1 n)) env n x K = match get n env with | some v => K v | none => x := by
  induction env with
  | nil => rfl
  | cons p r ih =>
    obtain ⟨j, v⟩ := p
    show @Bool.rec (fun _ => RsM) _ (K v) (Nat.beq j n) = match (bif Nat.beq j n then some v else get n r) with | some v => K v | none => x
    cases Nat.beq j n
    · exact ih
    · rfl
theorem matK_eq {e : EnvM} {env : Env} (he : EqE e env) : ∀ (l : List Nat) (K : Env → RsM), matK l e K = K (Gl.prune l env)
  | [], K => rfl
  | n :: r, K => by
    show @Bool.rec (fun _ => RsM) (matK r e K) (@List.rec (Nat × V) (fun _ => Nat → RsM → (V → RsM) → RsM) (fun _ x _ => x) (fun p _ ih n x K => @Bool.rec (fun _ => RsM) (ih n x K) (K p.2) (Nat.beq p.1 n)) e.2 n (matK r e K) (fun v => matK r e fun r => K ((n, v) :: r))) (vis e.1 n) = _
    rw [scan_eq, matK_eq he r]
    simp only [matK_eq he r, Gl.prune]
    rw [← he n, getE]
    cases vis e.1 n with
    | false => rfl
    | true =>
      simp only [cond_true]
      cases get n e.2 <;> rfl
noncomputable def maskE (env : Env) : Nat := @List.rec (Nat × V) (fun _ => Nat) 0 (fun p _ ih => Nat.lor ih (Nat.shiftLeft 1 p.1)) env
theorem vis_maskE : ∀ (env : Env) (n : Nat), vis (maskE env) n = (get n env).isSome
  | [], n => by rw [vis_eq]; exact Nat.zero_testBit n
  | (k, v) :: r, n => by
    show vis (Nat.lor (maskE r) (Nat.shiftLeft 1 k)) n = _
    rw [vis_push, vis_maskE r n]
    simp only [get]
    cases Nat.beq k n <;> simp
theorem EqE.of (env : Env) : EqE ⟨maskE env, env⟩ env := fun n => by
  show (bif vis (maskE env) n then get n env else none) = _
  rw [vis_maskE]
  cases get n env <;> rfl
/-! ### code -/
abbrev IH := ACode → EnvM → St → RsM
noncomputable def thenK (r : RsM) (K : EnvM → St → RsM) : RsM := @Option.rec (AExit × EnvM × St) (fun _ => (EnvM → St → RsM) → RsM) (fun _ => none) (fun p K => @AExit.rec (fun _ => EnvM → St → (AExit × EnvM × St) → (EnvM → St → RsM) → RsM) (fun env s _ K => K env s) (fun _ _ _ p _ => some p) (fun _ _ p _ => some p) (fun _ _ _ p _ => some p) p.1 p.2.1 p.2.2 p K) r K
def nextR (r : Rs) (K' : Env → St → Rs) : Rs := match r with | some (.normal, env, s) => K' env s | r => r
theorem thenK_sim {r : RsM} {r' : Rs} (h : SimR r r') {K : EnvM → St → RsM} {K' : Env → St → Rs} (hK : ∀ e env s, EqE e env → SimR (K e s) (K' env s)) : SimR (thenK r K) (nextR r' K') := by
  cases r with
  | none => cases r' with | none => trivial | some p => exact h.elim
  | some p =>
    cases r' with
    | none => exact h.elim
    | some p' =>
      obtain ⟨x, e, s⟩ := p
      obtain ⟨x', env, s'⟩ := p'
      obtain ⟨rfl, rfl, he⟩ := h
      cases x with
      | normal => exact hK e env s he
      | exit id => exact ⟨rfl, rfl, he⟩
      | ret => exact ⟨rfl, rfl, he⟩
      | pan v => exact ⟨rfl, rfl, he⟩
noncomputable def eRsM (s : St) (e : EnvM) : List RS → Option (List V)
  | [] => some []
  | .t n :: r => ob (getE e n) fun v => ob (eRsM s e r) fun vs => some (v :: vs)
  | .c n g :: r => ob (getE e n) fun a => ob (eLoad s g a) fun v => ob (eRsM s e r) fun vs => some (v :: vs)
noncomputable def endCM (slots : List RS) (r : RsM) : Option (R × St) :=
  match r with
  | some (.normal, env, s) => ob (eRsM s env slots) fun vs => some (.ret (tupV vs), s)
  | some (.ret, env, s) => ob (eRsM s env slots) fun vs => some (.ret (tupV vs), s)
  | some (.pan v, _, s) => some (.pan v, s)
  | _ => none
noncomputable def endDM (tab : Tab) (ih : IH) (g : FuncId) (cap : List V) (m : Option V) (slots : List RS) (env : EnvM) (s : St) : Option (R × St) :=
  match tab g with
  | some (.rcv n k ops ac l) => bif Nat.ble cap.length n then
      match ih (.seq l (.reg ops) ac) ⟨maskE (put (some k) (m.getD .inil) (argEnv 0 cap)), put (some k) (m.getD .inil) (argEnv 0 cap)⟩ s with
      | some (.normal, _, s') => ob (eRsM s' env slots) fun vs => some (.ret (tupV vs), s')
      | some (.ret, _, s') => ob (eRsM s' env slots) fun vs => some (.ret (tupV vs), s')
      | _ => none
    else none
  | some (.pld n ac) => match m with
    | some _ => none
    | none => bif Nat.ble cap.length n then
      match ih ac ⟨maskE (argEnv 0 cap), argEnv 0 cap⟩ s with
      | some (.normal, _, s') => ob (eRsM s' env slots) fun vs => some (.ret (tupV vs), s')
      | some (.ret, _, s') => ob (eRsM s' env slots) fun vs => some (.ret (tupV vs), s')
      | _ => none
    else none
  | _ => none
noncomputable def callTM (tab : Tab) (ih : IH) (f : FuncId) (vs : List V) (s : St) : Option (R × St) :=
  match tab f with
  | some (.fn n ac slots) => bif Nat.ble vs.length n then endCM slots (ih ac ⟨maskE (argEnv 0 vs), argEnv 0 vs⟩ s) else none
  | some (.dfr n aA ops x aC slots l1 l2) => bif Nat.ble vs.length n then
      match ih (.seq l1 aA (.reg ops)) ⟨maskE (argEnv 0 vs), argEnv 0 vs⟩ s with
      | some (.normal, env, s1) => match (match x with | .t n => getE env n | .c v => bif pureV v then some v else none) with
        | some (.f (.func g) [] cap) => match ih aC (pruneM l2 env) s1 with
          | some (.normal, env2, s2) => endDM tab ih g cap none slots env2 s2
          | some (.ret, env2, s2) => endDM tab ih g cap none slots env2 s2
          | some (.pan v, env2, s2) => endDM tab ih g cap (some v) slots env2 s2
          | _ => none
        | _ => none
      | _ => none
    else none
  | some (.fnz n ac slots) => bif Nat.ble vs.length n then frzR (endCM slots (ih ac ⟨maskE (argEnv 0 vs), argEnv 0 vs⟩ s)) else none
  | some (.prim c) => c vs s
  | _ => none
noncomputable def callFnM (tab : Tab) (memo : Memo) (ih : IH) : CF := fun f vs s =>
  match memo f with
  | [] => callTM tab ih f vs s
  | m :: r => match findM vs (m :: r) with
    | some v => some (.ret v, s)
    | none => callTM tab ih f vs s
noncomputable def callVFM (tab : Tab) (memo : Memo) (ih : IH) : CV := fun x vs s =>
  match x with
  | .f (.func f) first cap => callFnM tab memo ih f (first ++ vs ++ cap) s
  | .f (.yield L) [] [] => match s.t.get L with
    | some (.loop .ready env ps a b) => bif Nat.beq vs.length ps.length then
        Tr.put none depthTr s.t L fun t => match ih a ⟨maskE (bindPs ps vs env), bindPs ps vs env⟩ ⟨s.nx, t⟩ with
        | some (.normal, env1, s1) => match ih b env1 s1 with
          | some (.normal, _, s2) => Tr.put (some (.loop .ready env ps a b)) depthTr s2.t L fun t => some (.ret (.b true), ⟨s2.nx, t⟩)
          | some (.ret, _, s2) => Tr.put (some (.loop .ret env ps a b)) depthTr s2.t L fun t => some (.ret (.b false), ⟨s2.nx, t⟩)
          | some (.exit id, _, s2) => Tr.put (some (.loop (.exit id) env ps a b)) depthTr s2.t L fun t => some (.ret (.b false), ⟨s2.nx, t⟩)
          | some (.pan v, _, s2) => some (.pan v, s2)
          | none => none
        | _ => none
      else none
    | _ => none
  | _ => none
noncomputable def callPM (tab : Tab) (memo : Memo) (ih : IH) : CP := fun f vs =>
  bif pureL vs then match callFnM tab memo ih f vs ⟨0, .leaf⟩ with
    | some (.ret v, s) => match frz s frzD v with
      | some u => bif pureV u then some u else none
      | none => none
    | _ => none
  else none
abbrev SK := Tab → Memo → IH → EnvM → St → RsM
noncomputable def stepK (c : ACode) : SK := @ACode.rec (fun _ => SK)
  (fun _ _ _ env s => some (.normal, env, s))
  (fun ops tab memo ih env s => opsK ops (callFnM tab memo ih) (callVFM tab memo ih) (callPM tab memo ih) env s)
  (fun l ops tab memo ih env s => thenK (dopsK ops (callFnM tab memo ih) (callVFM tab memo ih) (callPM tab memo ih) env s) fun env s => some (.normal, pruneM l env, s))
  (fun l a b _ _ _ _ ih env s => thenK (ih a env s) fun env s => ih b (pruneM l env) s)
  (fun c a b _ _ _ _ ih env s => evK c env fun v => asB v fun t => @Bool.rec (fun _ => RsM) (ih b env s) (ih a env s) t)
  (fun id a _ tab memo ih env s => match ih a env s with
    | some (.exit id', env', s') => bif Nat.beq id' id then some (.normal, env', s') else some (.exit id', env', s')
    | r => r)
  (fun l a _ _ _ ih env s => matK l env fun E => thenK (ih a ⟨maskE E, E⟩ s) fun env s => ih (.loop l a) env s)
  (fun id _ _ _ env s => some (.exit id, env, s))
  (fun _ _ _ env s => some (.ret, env, s))
  (fun a _ _ _ ih env s => ih a env s)
  (fun l g ps a b _ _ tab memo ih env s => evK g env fun v => match v with
    | .f (.func gf) [] cap => matK l env fun E => s.new (.loop .ready E ps a b) fun i s1 =>
        match callFnM tab memo ih gf (.f (.yield i) [] [] :: cap) s1 with
        | some (.ret _, s2) => match s2.t.get i with
          | some (.loop st _ _ _ _) => Tr.put none depthTr s2.t i fun t => some ((match st with | .ready => .normal | .ret => .ret | .exit id => .exit id), env, ⟨s2.nx, t⟩)
          | _ => none
        | some (.pan v, s2) => match s2.t.get i with
          | some _ => Tr.put none depthTr s2.t i fun t => some (.pan v, env, ⟨s2.nx, t⟩)
          | none => none
        | none => none
    | _ => none) c
noncomputable def runK (tab : Tab) (memo : Memo) (n : Nat) : IH := @Nat.rec (fun _ => IH) (fun _ _ _ => none) (fun _ ih c env s => stepK c tab memo ih env s) n
/-! it is the same -/
def SimI (ihm : IH) (ih : ACode → Env → St → Rs) : Prop := ∀ c {e env} s, EqE e env → SimR (ihm c e s) (ih c env s)
theorem eRsM_eq {s : St} {e : EnvM} {env : Env} (he : EqE e env) : ∀ l : List RS, eRsM s e l = eRs s env l
  | [] => rfl
  | .t n :: r => by simp only [eRsM, eRs, he n, eRsM_eq he r]
  | .c n g :: r => by simp only [eRsM, eRs, he n, eRsM_eq he r]
theorem endCM_eq {slots : List RS} {r : RsM} {r' : Rs} (h : SimR r r') : endCM slots r = endC slots r' := by
  cases r with
  | none => cases r' with | none => rfl | some p => exact h.elim
  | some p =>
    cases r' with
    | none => exact h.elim
    | some p' =>
      obtain ⟨x, e, s⟩ := p
      obtain ⟨x', env, s'⟩ := p'
      obtain ⟨rfl, rfl, he⟩ := h
      cases x <;> first | rfl | simp only [endCM, endC, eRsM_eq he]
theorem endDM_eq {tab : Tab} {ihm : IH} {ih : ACode → Env → St → Rs} (hi : SimI ihm ih) {g : FuncId} {cap : List V} {m : Option V} {slots : List RS} {e : EnvM} {env : Env} (he : EqE e env) (s : St) : endDM tab ihm g cap m slots e s = endD tab ih g cap m slots env s := by
  unfold endDM endD
  cases tab g with
  | none => rfl
  | some fs =>
    cases fs <;> first | rfl | skip
    · rename_i n k ops ac l
      simp only
      have := hi (.seq l (.reg ops) ac) s (EqE.of (put (some k) (m.getD .inil) (argEnv 0 cap)))
      revert this
      cases ihm (.seq l (.reg ops) ac) _ s with
      | none => cases ih (.seq l (.reg ops) ac) _ s with | none => intro _; rfl | some p => intro h; exact h.elim
      | some p =>
        cases ih (.seq l (.reg ops) ac) _ s with
        | none => intro h; exact h.elim
        | some p' =>
          obtain ⟨x, e1, s1⟩ := p
          obtain ⟨x', env1, s1'⟩ := p'
          rintro ⟨rfl, rfl, he1⟩
          cases x <;> simp only [eRsM_eq he]
    · rename_i n ac
      cases m with
      | some v => rfl
      | none =>
        simp only
        have := hi ac s (EqE.of (argEnv 0 cap))
        revert this
        cases ihm ac _ s with
        | none => cases ih ac _ s with | none => intro _; rfl | some p => intro h; exact h.elim
        | some p =>
          cases ih ac _ s with
          | none => intro h; exact h.elim
          | some p' =>
            obtain ⟨x, e1, s1⟩ := p
            obtain ⟨x', env1, s1'⟩ := p'
            rintro ⟨rfl, rfl, he1⟩
            cases x <;> simp only [eRsM_eq he]
theorem callTM_eq {tab : Tab} {ihm : IH} {ih : ACode → Env → St → Rs} (hi : SimI ihm ih) (f : FuncId) (vs : List V) (s : St) : callTM tab ihm f vs s = callT tab ih f vs s := by
  unfold callTM callT
  cases tab f with
  | none => rfl
  | some fs =>
    cases fs with
    | rcv n k ops ac l => rfl
    | prim c => rfl
    | pld n ac => rfl
    | fn n ac slots => simp only; rw [endCM_eq (hi ac s (EqE.of (argEnv 0 vs)))]
    | fnz n ac slots => simp only; rw [endCM_eq (hi ac s (EqE.of (argEnv 0 vs)))]
    | dfr n aA ops x aC slots l1 l2 =>
      simp only
      have := hi (.seq l1 aA (.reg ops)) s (EqE.of (argEnv 0 vs))
      revert this
      cases ihm (.seq l1 aA (.reg ops)) _ s with
      | none => cases ih (.seq l1 aA (.reg ops)) _ s with | none => intro _; rfl | some p => intro h; exact h.elim
      | some p =>
        cases ih (.seq l1 aA (.reg ops)) _ s with
        | none => intro h; exact h.elim
        | some p' =>
          obtain ⟨x1, e1, s1⟩ := p
          obtain ⟨x1', env1, s1'⟩ := p'
          rintro ⟨rfl, rfl, he1⟩
          cases x1 <;> first | rfl | skip
          simp only
          have hx : (match x with | .t n => getE e1 n | .c v => bif pureV v then some v else none) = evx env1 x := by cases x <;> first | exact he1 _ | rfl
          rw [hx]
          cases evx env1 x with
          | none => rfl
          | some v =>
            cases v <;> first | rfl | skip
            rename_i fn first cap
            cases fn <;> first | rfl | skip
            cases first <;> first | rfl | skip
            simp only
            have := hi aC s1 (he1.prune l2)
            revert this
            cases ihm aC (pruneM l2 e1) s1 with
            | none => cases ih aC (Gl.prune l2 env1) s1 with | none => intro _; rfl | some p => intro h; exact h.elim
            | some p =>
              cases ih aC (Gl.prune l2 env1) s1 with
              | none => intro h; exact h.elim
              | some p' =>
                obtain ⟨x2, e2, s2⟩ := p
                obtain ⟨x2', env2, s2'⟩ := p'
                rintro ⟨rfl, rfl, he2⟩
                cases x2 <;> simp only [endDM_eq hi he2]
theorem callFnM_eq {tab : Tab} {memo : Memo} {ihm : IH} {ih : ACode → Env → St → Rs} (hi : SimI ihm ih) : callFnM tab memo ihm = callFn tab memo ih := by
  funext f vs s
  unfold callFnM callFn
  simp only [callTM_eq hi]
  rfl
theorem callVFM_eq {tab : Tab} {memo : Memo} {ihm : IH} {ih : ACode → Env → St → Rs} (hi : SimI ihm ih) : callVFM tab memo ihm = callVF tab memo ih := by
  funext x vs s
  unfold callVFM callVF
  rw [callFnM_eq hi]
  cases x <;> first | rfl | skip
  rename_i fn first cap
  cases fn <;> first | rfl | skip
  cases first <;> first | rfl | skip
  cases cap <;> first | rfl | skip
  rename_i L
  simp only
  cases s.t.get L with
  | none => rfl
  | some o =>
    cases o <;> first | rfl | skip
    rename_i st env ps a b
    cases st <;> first | rfl | skip
    simp only
    congr 2
    funext t
    have := hi a ⟨s.nx, t⟩ (EqE.of (bindPs ps vs env))
    revert this
    cases ihm a _ ⟨s.nx, t⟩ with
    | none => cases ih a _ ⟨s.nx, t⟩ with | none => intro _; rfl | some p => intro h; exact h.elim
    | some p =>
      cases ih a _ ⟨s.nx, t⟩ with
      | none => intro h; exact h.elim
      | some p' =>
        obtain ⟨x1, e1, s1⟩ := p
        obtain ⟨x1', env1, s1'⟩ := p'
        rintro ⟨rfl, rfl, he1⟩
        cases x1 <;> first | rfl | skip
        simp only
        have := hi b s1 he1
        revert this
        cases ihm b e1 s1 with
        | none => cases ih b env1 s1 with | none => intro _; rfl | some p => intro h; exact h.elim
        | some p =>
          cases ih b env1 s1 with
          | none => intro h; exact h.elim
          | some p' =>
            obtain ⟨x2, e2, s2⟩ := p
            obtain ⟨x2', env2, s2'⟩ := p'
            rintro ⟨rfl, rfl, he2⟩
            cases x2 <;> rfl
theorem callPM_eq {tab : Tab} {memo : Memo} {ihm : IH} {ih : ACode → Env → St → Rs} (hi : SimI ihm ih) : callPM tab memo ihm = callP tab memo ih := by
  funext f vs
  unfold callPM callP
  rw [callFnM_eq hi]
  rfl
theorem stepK_eq {tab : Tab} {memo : Memo} {ihm : IH} {ih : ACode → Env → St → Rs} (hi : SimI ihm ih) (c : ACode) {e : EnvM} {env : Env} (s : St) (he : EqE e env) : SimR (stepK c tab memo ihm e s) (eStep tab memo ih c env s) := by
  cases c with
  | skip => exact ⟨rfl, rfl, he⟩
  | ret => exact ⟨rfl, rfl, he⟩
  | exit id => exact ⟨rfl, rfl, he⟩
  | scope a => exact hi a s he
  | reg ops =>
    show SimR (opsK ops (callFnM tab memo ihm) (callVFM tab memo ihm) (callPM tab memo ihm) e s) _
    rw [callFnM_eq hi, callVFM_eq hi, callPM_eq hi]
    exact opsK_eq _ _ _ ops s he
  | dreg l ops =>
    show SimR (thenK (dopsK ops (callFnM tab memo ihm) (callVFM tab memo ihm) (callPM tab memo ihm) e s) fun env s => some (.normal, pruneM l env, s)) _
    rw [callFnM_eq hi, callVFM_eq hi, callPM_eq hi]
    exact thenK_sim (K' := fun env s => some (.normal, Gl.prune l env, s)) (dopsK_eq _ _ _ ops s he) fun _ _ s he => ⟨rfl, rfl, he.prune l⟩
  | seq l a b => exact thenK_sim (K' := fun env s => ih b (Gl.prune l env) s) (hi a s he) fun _ _ s he => hi b s (he.prune l)
  | cond c a b =>
    show SimR (evK c e fun v => asB v fun t => @Bool.rec (fun _ => RsM) (ihm b e s) (ihm a e s) t) _
    rw [evK_eq he]
    simp only [eStep]
    cases evx env c with
    | none => trivial
    | some v =>
      cases v <;> first | trivial | skip
      rename_i t
      cases t
      · exact hi b s he
      · exact hi a s he
  | block id a =>
    have := hi a s he
    show SimR (match ihm a e s with | some (.exit id', env', s') => bif Nat.beq id' id then some (.normal, env', s') else some (.exit id', env', s') | r => r) (match ih a env s with | some (.exit id', env', s') => bif Nat.beq id' id then some (.normal, env', s') else some (.exit id', env', s') | r => r)
    revert this
    cases ihm a e s with
    | none => cases ih a env s with | none => intro _; trivial | some p => intro h; exact h.elim
    | some p =>
      cases ih a env s with
      | none => intro h; exact h.elim
      | some p' =>
        obtain ⟨x1, e1, s1⟩ := p
        obtain ⟨x1', env1, s1'⟩ := p'
        rintro ⟨rfl, rfl, he1⟩
        cases x1 with
        | exit id' =>
          simp only
          cases Nat.beq id' id <;> exact ⟨rfl, rfl, he1⟩
        | normal => exact ⟨rfl, rfl, he1⟩
        | ret => exact ⟨rfl, rfl, he1⟩
        | pan v => exact ⟨rfl, rfl, he1⟩
  | loop l a =>
    show SimR (matK l e fun E => thenK (ihm a ⟨maskE E, E⟩ s) fun env s => ihm (.loop l a) env s) _
    rw [matK_eq he]
    exact thenK_sim (K' := fun env s => ih (.loop l a) env s) (hi a s (EqE.of _)) fun _ _ s he => hi (.loop l a) s he
  | rangef l g ps a b =>
    show SimR (evK g e fun v => match v with
    | .f (.func gf) [] cap => matK l e fun E => s.new (.loop .ready E ps a b) fun i s1 =>
        match callFnM tab memo ihm gf (.f (.yield i) [] [] :: cap) s1 with
        | some (.ret _, s2) => match s2.t.get i with
          | some (.loop st _ _ _ _) => Tr.put none depthTr s2.t i fun t => some ((match st with | .ready => .normal | .ret => .ret | .exit id => .exit id), e, ⟨s2.nx, t⟩)
          | _ => none
        | some (.pan v, s2) => match s2.t.get i with
          | some _ => Tr.put none depthTr s2.t i fun t => some (.pan v, e, ⟨s2.nx, t⟩)
          | none => none
        | none => none
    | _ => none) _
    rw [evK_eq he, callFnM_eq hi]
    simp only [eStep]
    cases evx env g with
    | none => trivial
    | some v =>
      cases v <;> first | trivial | skip
      rename_i fn first cap
      cases fn <;> first | trivial | skip
      cases first <;> first | trivial | skip
      rename_i gf
      simp only [ob]
      rw [matK_eq he]
      have hnew : ∀ {β γ : Type} (o : EO) (f : Nat → St → Option β) (g : Nat → St → Option γ) (Rl : Option β → Option γ → Prop), Rl none none → (∀ i s, Rl (f i s) (g i s)) → Rl (s.new o f) (s.new o g) := fun {β γ} o f g Rl h0 h1 => by
        obtain ⟨n, t⟩ := s
        cases n with
        | zero => simp only [St.new]; rw [Tr.put_eq, Tr.put_eq]; exact h1 _ _
        | succ n =>
          simp only [St.new]
          rw [Tr.put_eq, Tr.put_eq]
          cases Nat.ble (n + 1) limN
          · exact h0
          · exact h1 _ _
      refine hnew _ _ _ SimR trivial fun i s1 => ?_
      cases callFn tab memo ih gf (.f (.yield i) [] [] :: cap) s1 with
      | none => trivial
      | some p =>
        obtain ⟨x, s2⟩ := p
        cases x with
        | ret v =>
          simp only
          cases s2.t.get i with
          | none => trivial
          | some o =>
            cases o <;> first | trivial | skip
            simp only
            rw [Tr.put_eq, Tr.put_eq]
            exact ⟨rfl, rfl, he⟩
        | pan v =>
          simp only
          cases s2.t.get i with
          | none => trivial
          | some o =>
            simp only
            rw [Tr.put_eq, Tr.put_eq]
            exact ⟨rfl, rfl, he⟩
theorem runK_eq (tab : Tab) (memo : Memo) : ∀ n : Nat, SimI (runK tab memo n) (run tab memo n)
  | 0 => fun _ _ _ _ _ => trivial
  | n + 1 => fun c _ _ s he => stepK_eq (runK_eq tab memo n) c s he
noncomputable def topK (tab : Tab) (memo : Memo) (n : Nat) (f : FuncId) (vs : List V) (v : V) : Bool :=
  match callPM tab memo (runK tab memo n) f vs with
  | some u => beqV u v
  | none => false
theorem pure_of_K {tab : Tab} (ht : TabOk P tab) {memo : Memo} (hm : MemoOk P memo) {n : Nat} {f : FuncId} {vs : List V} {v : V} (h : topK tab memo n f vs v = true) : pureL vs = true ∧ pureV v = true ∧ Pure P f vs v := by
  unfold topK at h
  rw [callPM_eq (runK_eq tab memo n)] at h
  exact pure_of_run ht hm h
noncomputable def tabK (t : Tr FnS) : Tab := fun f => getT t f
theorem tabK_ok {t : Tr FnS} (h : AllTr (fun i => FnOk P i) id t) : TabOk P (tabK t) := fun f fs e => h f fs ((getT_eq t f).symm.trans e)
/-- one more known call -/
noncomputable def addM (m : Memo) (f : FuncId) (a : List V) (v : V) : Memo := fun g => @Bool.rec (fun _ => List (List V × V)) (m g) ((a, v) :: m g) (Nat.beq f g)
theorem addM_ok {m : Memo} (h : MemoOk P m) {f : FuncId} {a : List V} {v : V} (h1 : pureL a = true ∧ pureV v = true ∧ Pure P f a v) : MemoOk P (addM m f a v) := fun g e he => by
  unfold addM at he
  cases hb : Nat.beq f g with
  | false => rw [hb] at he; exact h g e he
  | true =>
    rw [hb] at he
    have := nbeq hb
    subst this
    rcases List.mem_cons.1 he with rfl | he
    · exact h1
    · exact h f e he
end Go.Gl
