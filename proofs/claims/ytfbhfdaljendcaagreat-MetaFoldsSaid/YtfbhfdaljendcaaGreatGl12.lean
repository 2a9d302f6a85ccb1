/-
  GL 12: resolved code, what has to be shown of it (T), and that it is enough.
-/
import Derived.Test.YtfbhfdaljendcaaGreatGl11e
import Derived.Scope
import Derived.OrdersIn
import Derived.RangeFuncWrites
import Derived.RangeFuncNested
set_option linter.all false
set_option linter.unusedVariables false
set_option linter.unusedSimpArgs false
namespace Go.Gl

inductive ACode where
  | skip
  | reg (ops : List AOper)
  | dreg (l : List Nat) (ops : List DOper)
  | seq (l : List Nat) (a b : ACode)
  | cond (c : Opd) (a b : ACode)
  | block (id : Nat) (a : ACode)
  | loop (l : List Nat) (a : ACode)
  | exit (id : Nat)
  | ret
  | scope (a : ACode)
  | rangef (l : List Nat) (g : Opd) (ps : List Nat) (a b : ACode)
  deriving Inhabited

inductive AExit where
  | normal
  | exit (id : Nat)
  | ret
  | pan (v : V)

def prune : List Nat → Env → Env
  | [], _ => []
  | s :: r, env => match get s env with
    | some v => (s, v) :: prune r env
    | none => prune r env

/-- the operations of a region, in the order of the text -/
def Tops (P : Program) : List AOper → (Env → Store → Prop) → (Env → V → Store → Prop) → Env → Store → Prop
  | [], K, _, env, σ => K env σ
  | o :: r, K, kp, env, σ => Sop P o env σ (fun v σ' => Tops P r K kp (put o.dst v env) σ') (kp env)

def AExit.andThen (next : Env → Store → Prop) (Q : AExit → Env → Store → Prop) : AExit → Env → Store → Prop
  | .normal, env, σ => next env σ
  | .exit id, env, σ => Q (.exit id) env σ
  | .ret, env, σ => Q .ret env σ
  | .pan v, env, σ => Q (.pan v) env σ
def AExit.inBlock (id : Nat) (Q : AExit → Env → Store → Prop) : AExit → Env → Store → Prop
  | .normal, env, σ => Q .normal env σ
  | .exit id', env, σ => bif Nat.beq id' id then Q .normal env σ else Q (.exit id') env σ
  | .ret, env, σ => Q .ret env σ
  | .pan v, env, σ => Q (.pan v) env σ

/-- the code without what is known about slots -/
def erase : ACode → ACode
  | .dreg _ ops => .dreg [] ops
  | .seq _ a b => .seq [] (erase a) (erase b)
  | .cond c a b => .cond c (erase a) (erase b)
  | .block id a => .block id (erase a)
  | .loop _ a => .loop [] (erase a)
  | .scope a => .scope (erase a)
  | .rangef _ g ps a b => .rangef [] g ps (erase a) (erase b)
  | c => c

/-! ### resolving -/
def rOper (P : Program) (N : Nat) (ops : Array Oper) (o : Oper) : Option AOper :=
  match rOpY P o.op, o.guard with
  | some ao, none => if (∀ d, o.dst = some d → d < N) then some ⟨o.dst, ao, none⟩ else none
  | some ao, some (j, b) => match (ops[j]?).bind (·.dst) with
    | some d => if (∀ d, o.dst = some d → d < N) then some ⟨o.dst, ao, some (d, b)⟩ else none
    | none => none
  | none, _ => none
def rOpers (P : Program) (N : Nat) (ops : Array Oper) : List Oper → Option (List AOper)
  | [] => some []
  | o :: r => match rOper P N ops o, rOpers P N ops r with
    | some x, some xs => some (x :: xs)
    | _, _ => none

/-! a region that draws -/
def direct (ops : Array Oper) (i : Nat) : List Nat := match ops[i]? with | some o => (o.after.toList.filter (Region.binds .any)).map (·.on) | none => []
def purify (pu : List FuncId) (fz : List Nat) (ao : AOper) : AOper := match ao.op with
  | .call f as => bif pu.contains f then { ao with op := .callp f as } else ao
  | .box x => bif (match ao.dst with | some d => fz.contains d | none => false) then { ao with op := .boxf x } else ao
  | .mv x => bif (match ao.dst with | some d => fz.contains d | none => false) then { ao with op := .mvf x } else ao
  | .append sz b x y => bif (match ao.dst with | some d => fz.contains d | none => false) then { ao with op := .appf sz b x y } else ao
  | _ => ao
def apartB (x y : AOper) : Bool :=
  (match x.dst with | some d => !(looks y).contains d && y.dst != some d | none => true) && (match y.dst with | some d => !(looks x).contains d | none => true)
def freshB (y x : AOper) : Bool := match y.dst with | some d => !(slots x).contains d | none => true
def isAlloc : AOp → Bool | .alloc _ => true | _ => false
def okB (x y : DOper) : Bool := x.rei.isEmpty && apartB x.o y.o && ((still x.o.op && calm y.o.op) || kd x.o.op == .P ||
  (still x.o.op && y.rei.contains x.i && (match x.o.dst with | some d => !(looks x.o).contains d | none => true)) || (moves x.o.op && y.rei.isEmpty && y.o.guard.isNone && isAlloc y.o.op))
def pairB (ops : Array Oper) (clo : List (List Nat)) (x y : DOper) : Bool :=
  !Nat.beq x.i y.i && !(direct ops x.i).contains y.i && (kd x.o.op != .N || freshB y.o x.o) && ((clo.getD y.i []).contains x.i || okB x y)
def pwB (ops : Array Oper) (clo : List (List Nat)) : List DOper → Bool
  | [] => true
  | x :: r => r.all (pairB ops clo x) && pwB ops clo r
def cloB (ops : Array Oper) (clo : List (List Nat)) : Bool := (List.range ops.size).all fun i => (clo.getD i []).all fun x => (direct ops i).contains x || (direct ops i).any fun j => Nat.blt j i && (clo.getD j []).contains x
def chkD (ops : Array Oper) (clo : List (List Nat)) (C : List DOper) : Bool :=
  Nat.beq C.length ops.size && (List.range ops.size).all (fun j => C.any fun d => Nat.beq d.i j) && C.all (fun d => Nat.blt d.i ops.size && !(direct ops d.i).contains d.i && (direct ops d.i).all (fun e => Nat.blt e ops.size)) &&
  cloB ops clo && pwB ops clo C
def closures (ops : Array Oper) : Nat → List (List Nat)
  | 0 => []
  | n + 1 => let r := closures ops n; r ++ [((direct ops n) ++ (direct ops n).flatMap fun j => r.getD j []).eraseDups]
def rank (o : AOp) : Nat := match kd o with | .P => 0 | .N => 0 | .A => 1 | .Z => 2 | .H => 3
def rank2 (o : AOp) : Nat := match kd o with | .P => 0 | .N => 0 | .A => 1 | .Z => 3 | .H => 2
def nextOp (rank : AOp → Nat) (ops : Array Oper) (as : List AOper) (left done : List Nat) : Option Nat :=
  let rs := left.filter fun i => (direct ops i).all done.contains
  let of := fun r => rs.find? fun i => match as[i]? with | some ao => Nat.ble (rank ao.op) r | none => false
  match of 0 with | some i => some i | none => match of 1 with | some i => some i | none => match of 2 with | some i => some i | none => of 3
def greedy (rank : AOp → Nat) (ops : Array Oper) (as : List AOper) : Nat → List Nat → List Nat → List Nat
  | 0, _, done => done.reverse
  | n + 1, left, done => match nextOp rank ops as left done with
    | some i => greedy rank ops as n (left.filter fun j => !Nat.beq j i) (i :: done)
    | none => done.reverse
def reiOf (clo : List (List Nat)) (as : List AOper) (before : List Nat) (i : Nat) : List Nat :=
  match as[i]? with
  | some ao => match kd ao.op with
    | .H => before.filter fun j => !(clo.getD i []).contains j && (match as[j]? with | some x => kd x.op == .N | none => false)
    | _ => []
  | none => []
def mkD (clo : List (List Nat)) (as : List AOper) : List Nat → List Nat → List DOper
  | _, [] => []
  | before, i :: r => match as[i]? with
    | some ao => ⟨i, ao, reiOf clo as before i, (reiOf clo as before i).filterMap fun j => as[j]?⟩ :: mkD clo as (i :: before) r
    | none => mkD clo as (i :: before) r
def resD (ops : Array Oper) (as : List AOper) : Option (List DOper) :=
  let clo := closures ops ops.size
  let C := mkD clo as [] (greedy rank ops as ops.size (List.range ops.size) [])
  bif chkD ops clo C then some C else
  let C := mkD clo as [] (greedy rank2 ops as ops.size (List.range ops.size) [])
  bif chkD ops clo C then some C else none

def res (P : Program) (N : Nat) (pu : List FuncId) (fz : List Nat) : Code → Option ACode
  | .skip => some .skip
  | .label _ => some .skip
  | .ret => some .ret
  | .exit id => some (.exit id)
  | .seq a b => match res P N pu fz a, res P N pu fz b with | some a, some b => some (.seq [] a b) | _, _ => none
  | .cond c a b => match rOpd c, res P N pu fz a, res P N pu fz b with | some c, some a, some b => some (.cond c a b) | _, _, _ => none
  | .block id a => (res P N pu fz a).map (.block id)
  | .loop a => (res P N pu fz a).map (.loop [])
  | .scope a => (res P N pu fz a).map .scope
  | .rangeFunc g ps a b => match rOpd g, res P N pu fz a, res P N pu fz b with
    | some g, some a, some b => if ps.toList.all (fun p => Nat.blt p N) then some (.rangef [] g ps.toList a b) else none
    | _, _, _ => none
  | .region _ ops draw => match rOpers P N ops ops.toList with
    | none => none
    | some as => bif draw then (bif P.follows .mixedOrders then (resD ops (as.map (purify pu fz))).map (.dreg []) else none) else some (.reg (as.map (purify pu fz)))
  | _ => none

/-- what is known of the record of a loop over a function -/
def loopOk (P : Program) (ps : List Nat) (a b : ACode) : FuncId → Array Tmp → Code → Code → Nat → Prop := fun fn ps' as bd N =>
  (∃ g, P.funcs[fn]? = some g) ∧ ps'.toList = ps ∧ (∀ p ∈ ps, p < N) ∧ ∃ pu fz, res P N pu fz as = some (erase a) ∧ res P N pu fz bd = some (erase b)
/-- how a loop over a function ends -/
def RangeQ (L : Nat) (Q : AExit → Env → Store → Prop) (env : Env) : R → Store → Prop
  | .ret _, σ => ∃ st env1 ok, σ L = some (.loop st env1 ok) ∧ match st with
    | .ready => Q .normal env (del σ L)
    | .ret => Q .ret env (del σ L)
    | .exit id => Q (.exit id) env (del σ L)
  | .pan v, σ => Q (.pan v) env (del σ L)
/-- **what has to be shown** -/
def T (P : Program) : ACode → (AExit → Env → Store → Prop) → Env → Store → Prop
  | .skip, Q, env, σ => Q .normal env σ
  | .ret, Q, env, σ => Q .ret env σ
  | .exit id, Q, env, σ => Q (.exit id) env σ
  | .reg ops, Q, env, σ => Tops P ops (fun env σ => Q .normal env σ) (fun env v σ => Q (.pan v) env σ) env σ
  | .dreg l ops, Q, env, σ => Tdops P ops (fun env σ => Q .normal (prune l env) σ) (fun v σ => ∀ σ', Sub σ σ' → Q (.pan v) [] σ') env σ
  | .seq l a b, Q, env, σ => T P a (AExit.andThen (fun env σ => T P b Q (prune l env) σ) Q) env σ
  | .cond c a b, Q, env, σ => match ev env c with
    | some (.b t) => (t = true → T P a Q env σ) ∧ (t = false → T P b Q env σ)
    | _ => False
  | .block id a, Q, env, σ => T P a (AExit.inBlock id Q) env σ
  | .scope a, Q, env, σ => T P a Q env σ
  | .loop l a, Q, env, σ => ∃ I : Nat → Env → Store → Prop, (∃ n, I n (prune l env) σ) ∧
      ∀ n env σ, I n env σ → T P a (AExit.andThen (fun env σ => ∃ m, m < n ∧ I m (prune l env) σ) Q) env σ
  | .rangef l g ps a b, Q, env, σ => match ev env g with
    | some (.f (.func gf) [] cap) => ∀ L, σ L = none → Ctr P gf (.f (.yield L) [] [] :: cap) (upd σ L (.loop .ready (prune l env) (loopOk P ps a b))) (RangeQ L Q env)
    | _ => False
/-! ### it is enough -/
theorem get_put_same (d : Nat) (v : V) (env : Env) : get d (put (some d) v env) = some v := by simp [put, get]
theorem ERel.put {H : Nat → Nat → Option Value} {env : Env} {a : Act} (h : ERel H env a.tmps) {N : Nat} (hN : a.tmps.size = N) {d : Option Nat} (hd : ∀ x, d = some x → x < N) {v : V} {c : Value} (hv : VRel H v c) :
    ERel H (Gl.put d v env) (a.put d c).tmps := by
  cases d with
  | none => exact h
  | some d =>
    intro j u hu
    simp only [Gl.put, get] at hu
    cases hb : Nat.beq d j with
    | true =>
      rw [hb] at hu
      simp only [cond_true] at hu
      cases hu
      have : d = j := Nat.eq_of_beq_eq_true hb
      subst this
      refine ⟨c, ?_, hv⟩
      simp only [Act.put]
      rw [Array.getElem?_setIfInBounds_self_of_lt (by rw [hN]; exact hd d rfl)]
    | false =>
      rw [hb] at hu
      simp only [cond_false] at hu
      have : d ≠ j := Nat.ne_of_beq_eq_false hb
      obtain ⟨c', h1, h2⟩ := h j u hu
      refine ⟨c', ?_, h2⟩
      simp only [Act.put]
      rw [Array.getElem?_setIfInBounds_ne this]
      exact h1
theorem get_prune : ∀ (keep : List Nat) (env : Env) (k : Nat) (v : V), get k (prune keep env) = some v → get k env = some v
  | [], _, _, _, h => by cases h
  | s :: r, env, k, v, h => by
    simp only [prune] at h
    split at h
    · rename_i u hu
      simp only [get] at h
      cases hb : Nat.beq s k with
      | true =>
        rw [hb] at h
        simp only [cond_true] at h
        cases h
        have : s = k := Nat.eq_of_beq_eq_true hb
        subst this
        exact hu
      | false =>
        rw [hb] at h
        simp only [cond_false] at h
        exact get_prune r env k v h
    · exact get_prune r env k v h
theorem ERel.prune {H : Nat → Nat → Option Value} {env : Env} {tmps : Array Value} (h : ERel H env tmps) (keep : List Nat) : ERel H (Gl.prune keep env) tmps :=
  fun k v hv => h k v (get_prune keep env k v hv)
theorem put_size (a : Act) (d : Option Nat) (c : Value) : (a.put d c).tmps.size = a.tmps.size := by
  cases d <;> simp [Act.put]
theorem put_defers (a : Act) (d : Option Nat) (c : Value) : (a.put d c).defers = a.defers := by
  cases d <;> rfl

theorem mem_prune {k : Nat} {v : V} : ∀ {keep : List Nat} {env : Env}, (k, v) ∈ prune keep env → get k env = some v
  | [], _, h => by cases h
  | s :: r, env, h => by
    simp only [prune] at h
    split at h
    · rename_i u hu
      rcases List.mem_cons.1 h with e | h
      · cases e; exact hu
      · exact mem_prune h
    · exact mem_prune h
def XRel (H : Nat → Nat → Option Value) : AExit → Exit → Prop
  | .normal, e => e = .normal
  | .exit id, e => e = .exit id
  | .ret, e => e = .ret
  | .pan v, e => ∃ c, e = .panic [{ v := c, recovered := false }] ∧ VRel H v c

def APost (Λ : Nat → Prop) (σ₀ : Store) (w₀ : World) (N : Nat) (ds : List Deferred) (Q : AExit → Env → Store → Prop) (e : Exit) (a : Act) (w : World) : Prop :=
  ∃ ex env σ, Q ex env σ ∧ XRel (Hh Λ σ w) ex e ∧ ERel (Hh Λ σ w) env a.tmps ∧ Rel Λ σ w ∧ Adv Λ σ₀ w₀ σ w ∧ a.tmps.size = N ∧ a.defers = ds

/-- the fence that lets everything by -/
def wide (r : Option Nat) : Fence := { Fence.wide with round := r }
theorem roundIn_wideR {r : Option Nat} {n : Nat} {P : Program} {l : Nat} {f : FuncId} {tmps : Array Value} {assign body : Code} {w : World} {R : Ending → World → Prop} (h : RoundIn Fence.wide 0 P l f tmps assign body w R) : RoundIn (wide r) n P l f tmps assign body w R :=
  ⟨trivial, fun c cs _ => h.2 c cs (room_wide _)⟩
theorem callsIn_wideR {r : Option Nat} {n : Nat} {P : Program} {f : FuncId} {args : Array Value} {w : World} {R : Ending → World → Prop} (h : Calls P f args w R) : CallsIn (wide r) n P f args w R :=
  callsIn_wide (n := n) |>.2 h

variable {P : Program} {Λ : Nat → Prop} {N n : Nat} {ds : List Deferred} {r : Option Nat} {pu : List FuncId} {fz : List Nat}

theorem uponIn_of_good {σ : Store} {w : World} {k kp : V → Store → Prop} {o : Oper} {a : Act} {next : Act → World → Prop} {Q : Exit → Act → World → Prop} {res : Result Next} (h : Good P Λ σ w k kp res)
    (hn : ∀ v σ' c w', k v σ' → VRel (Hh Λ σ' w') v c → Rel Λ σ' w' → Adv Λ σ w σ' w' → next (a.put o.dst c) w')
    (hp : ∀ v σ' c w', kp v σ' → VRel (Hh Λ σ' w') v c → Rel Λ σ' w' → Adv Λ σ w σ' w' → Q (.panic [{ v := c, recovered := false }]) a w') :
    o.uponIn (wide r) n P a next Q res := by
  cases res with
  | ok x w' =>
    cases x <;> try exact h.elim
    case value c =>
      obtain ⟨v, σ', h1, h2, h3, h4⟩ := h
      exact hn v σ' c w' h1 h2 h3 h4
    case skip =>
      obtain ⟨σ', h1, h3, h4⟩ := h
      exact hn (.t []) σ' undef w' h1 ⟨#[], rfl, rfl, trivial⟩ h3 h4
    case enter f args =>
      refine ⟨fun hd => by simp [wide, Fence.wide] at hd, callsIn_wideR ?_⟩
      refine Calls.mono h fun e w'' hq => ?_
      obtain ⟨rr, σ', h1, h2, h3, h4⟩ := hq
      cases rr with
      | ret v => obtain ⟨c, rfl, hv⟩ := h2; exact hn v σ' c w'' h1 hv h3 h4
      | pan v => obtain ⟨c, rfl, hv⟩ := h2; exact hp v σ' c w'' h1 hv h3 h4
    case round l f tmps assign body =>
      refine ⟨fun hd => by simp [wide, Fence.wide] at hd, roundIn_wideR ?_⟩
      refine RoundIn.mono h fun e w'' hq => ?_
      obtain ⟨rr, σ', h1, h2, h3, h4⟩ := hq
      cases rr with
      | ret v => obtain ⟨c, rfl, hv⟩ := h2; exact hn v σ' c w'' h1 hv h3 h4
      | pan v => obtain ⟨c, rfl, hv⟩ := h2; exact hp v σ' c w'' h1 hv h3 h4
  | halt x w' =>
    cases x <;> try exact h.elim
    obtain ⟨v, σ', h1, h2, h3, h4⟩ := h
    exact hp v σ' _ w' h1 h2 h3 h4

theorem rOper_dst {ops : Array Oper} {o : Oper} {ao : AOper} (h : rOper P N ops o = some ao) : ao.dst = o.dst ∧ (∀ d, o.dst = some d → d < N) ∧ rOpY P o.op = some ao.op ∧
    ((o.guard = none ∧ ao.guard = none) ∨ ∃ j b d, o.guard = some (j, b) ∧ (ops[j]?).bind (·.dst) = some d ∧ ao.guard = some (d, b)) := by
  unfold rOper at h
  split at h
  · rename_i x h1 h2
    split at h
    · rename_i hd
      cases h
      exact ⟨rfl, hd, h1, .inl ⟨h2, rfl⟩⟩
    · cases h
  · rename_i x j b h1 h2
    split at h
    · rename_i d hj
      split at h
      · rename_i hd
        cases h
        exact ⟨rfl, hd, h1, .inr ⟨j, b, d, h2, hj, rfl⟩⟩
      · cases h
    · cases h
  · cases h
theorem rOp_defer {o : Op} {ao : AOp} (h : rOpY P o = some ao) : ∀ c, o ≠ .defer c := by
  rintro c rfl
  cases h

theorem Top_callp {f : FuncId} {as : List Opd} {env : Env} {σ : Store} {k kp : V → Store → Prop} (h : Top P (.callp f as) env σ k kp) : Top P (.call f as) env σ k kp := by
  simp only [Top] at *
  exact ws_mono h fun vs ⟨v, h1, h2⟩ => Pure.use h1 h2
theorem purify_dst (ao : AOper) : (purify pu fz ao).dst = ao.dst := by
  unfold purify
  split
  · cases pu.contains _ <;> rfl
  · cases (match ao.dst with | some d => fz.contains d | none => false) <;> rfl
  · cases (match ao.dst with | some d => fz.contains d | none => false) <;> rfl
  · cases (match ao.dst with | some d => fz.contains d | none => false) <;> rfl
  · rfl
theorem Sop_op {ao : AOper} {o' : AOp} {env : Env} {σ : Store} {k k' kp : V → Store → Prop} (hT : Top P o' env σ k kp → Top P ao.op env σ k' kp) (hk : k (.t []) σ → k' (.t []) σ) (h : Sop P { ao with op := o' } env σ k kp) : Sop P ao env σ k' kp := by
  unfold Sop at *
  simp only at h
  split at h
  · exact hT h
  · split at h
    · exact ⟨fun e => hT (h.1 e), fun e => hk (h.2 e)⟩
    · exact hk h
    · exact h.elim
theorem Sop_purify {ao : AOper} {env : Env} {σ : Store} {k kp : V → Store → Prop} (h : Sop P (purify pu fz ao) env σ k kp) : Sop P ao env σ (fun v σ1 => ∃ vf σ2, Sub σ2 σ1 ∧ Frz σ1 σ2 v vf ∧ k vf σ2) kp := by
  have triv : ∀ {v σ}, k v σ → ∃ vf σ2, Sub σ2 σ ∧ Frz σ σ2 v vf ∧ k vf σ2 := fun {v σ} h => ⟨v, σ, fun _ _ h => h, .refl v, h⟩
  unfold purify at h
  split at h
  · rename_i f as he
    cases hb : pu.contains f with
    | false => rw [hb] at h; exact Sop_mono h (fun _ _ h => triv h) fun _ _ h => h
    | true =>
      rw [hb] at h
      exact Sop_op (fun h => by rw [he]; exact Top_mono (Top_callp h) (fun _ _ h => triv h) fun _ _ h => h) triv h
  · rename_i x he
    cases hb : (match ao.dst with | some d => fz.contains d | none => false) with
    | false => rw [hb] at h; exact Sop_mono h (fun _ _ h => triv h) fun _ _ h => h
    | true =>
      rw [hb] at h
      exact Sop_op (fun h => by rw [he]; exact frz_box h) triv h
  · rename_i x he
    cases hb : (match ao.dst with | some d => fz.contains d | none => false) with
    | false => rw [hb] at h; exact Sop_mono h (fun _ _ h => triv h) fun _ _ h => h
    | true =>
      rw [hb] at h
      exact Sop_op (fun h => by rw [he]; exact h) triv h
  · rename_i sz b x y he
    cases hb : (match ao.dst with | some d => fz.contains d | none => false) with
    | false => rw [hb] at h; exact Sop_mono h (fun _ _ h => triv h) fun _ _ h => h
    | true =>
      rw [hb] at h
      exact Sop_op (fun h => by rw [he]; exact frz_append h) triv h
  · exact Sop_mono h (fun _ _ h => triv h) fun _ _ h => h

/-- one operation, wanted or not -/
theorem oper_sound {ops : Array Oper} {o : Oper} {ao : AOper} (ho : rOper P N ops o = some ao) {env : Env} {σ : Store} {a : Act} {w : World} (he : ERel (Hh Λ σ w) env a.tmps) (hR : Rel Λ σ w) (hN : a.tmps.size = N)
    {K : Env → Store → Prop} {kp : V → Store → Prop}
    (h : Sop P ao env σ (fun v σ' => ∃ vf σ2, Sub σ2 σ' ∧ Frz σ' σ2 v vf ∧ K (put ao.dst vf env) σ2) kp)
    {next : Act → World → Prop} {Q : Exit → Act → World → Prop}
    (hn : ∀ env' σ' c w', K env' σ' → ERel (Hh Λ σ' w') env' (a.put o.dst c).tmps → Rel Λ σ' w' → Adv Λ σ w σ' w' → next (a.put o.dst c) w')
    (hp : ∀ v σ' c w', kp v σ' → VRel (Hh Λ σ' w') v c → Rel Λ σ' w' → Adv Λ σ w σ' w' → Q (.panic [{ v := c, recovered := false }]) a w') :
    if Region.wanted o (yielded ops a.tmps) then o.wpIn (wide r) n P a w next Q else (∀ f, o.about P w a.eval = some f → (wide r).fn f) ∧ next (a.put o.dst undef) w := by
  obtain ⟨h1, h2, h3, h4⟩ := rOper_dst ho
  unfold Sop at h
  have hrun : Top P ao.op env σ (fun v σ' => ∃ vf σ2, Sub σ2 σ' ∧ Frz σ' σ2 v vf ∧ K (put ao.dst vf env) σ2) kp → o.wpIn (wide r) n P a w next Q := fun ht => by
    refine ⟨fun _ _ => trivial, ?_⟩
    rw [Oper.semAt_eq _ _ _ (rOp_defer h3)]
    refine uponIn_of_good (rOpY_sound h3 ht he hR) (fun v σ' c w' hk hv hr ha => ?_) hp
    obtain ⟨vf, σ2, hs, hf, hk⟩ := hk
    exact hn _ σ2 c w' hk (by rw [h1]; exact ((he.mono ha.hle).mono (Hh_less fun n hn => hs.none hn)).put hN h2 (hf.rel hr hs hv)) (hr.drop hs) (ha.trans (Adv.drop w' hs))
  rcases h4 with ⟨h5, h6⟩ | ⟨j, b, d, h5, h6, h7⟩
  · rw [h6] at h
    have : Region.wanted o (yielded ops a.tmps) = true := by simp [Region.wanted, h5]
    rw [if_pos this]
    exact hrun h
  · rw [h7] at h
    simp only at h
    split at h
    · rename_i t hg
      obtain ⟨c, hc, hv⟩ := he d _ hg
      simp only [VRel] at hv
      subst hv
      have hy : yielded ops a.tmps j = some t := by
        unfold yielded
        rw [h6]
        simp [hc]
      by_cases htb : t = b
      · have : Region.wanted o (yielded ops a.tmps) = true := by simp [Region.wanted, h5, hy, htb]
        rw [if_pos this]
        exact hrun (h.1 htb)
      · have : ¬ Region.wanted o (yielded ops a.tmps) = true := by simp [Region.wanted, h5, hy, htb]
        rw [if_neg this]
        have htn : t = !b := by cases t <;> cases b <;> simp_all
        obtain ⟨vf, σ2, hs, hf, hk⟩ := h.2 htn
        refine ⟨fun _ _ => trivial, hn _ σ2 undef w hk ?_ (hR.drop hs) (Adv.drop w hs)⟩
        rw [h1]
        exact (he.mono (Hh_less fun n hn => hs.none hn)).put hN h2 (hf.rel hR hs ⟨#[], rfl, rfl, trivial⟩)
    · rename_i hg
      obtain ⟨c, hc, hv⟩ := he d _ hg
      simp only [VRel] at hv
      obtain ⟨c', rfl, hc', _⟩ := hv
      have hy : yielded ops a.tmps j = none := by
        unfold yielded
        rw [h6]
        simp [hc]
      have : ¬ Region.wanted o (yielded ops a.tmps) = true := by simp [Region.wanted, h5, hy]
      rw [if_neg this]
      obtain ⟨vf, σ2, hs, hf, hk⟩ := h
      refine ⟨fun _ _ => trivial, hn _ σ2 undef w hk ?_ (hR.drop hs) (Adv.drop w hs)⟩
      rw [h1]
      exact (he.mono (Hh_less fun n hn => hs.none hn)).put hN h2 (hf.rel hR hs ⟨#[], rfl, rfl, trivial⟩)
    · exact h.elim

theorem rOpers_get {ops : Array Oper} : ∀ {l : List Oper} {as : List AOper}, rOpers P N ops l = some as → l.length = as.length ∧ ∀ (i : Nat) (o : Oper), l[i]? = some o → ∃ ao, as[i]? = some ao ∧ rOper P N ops o = some ao
  | [], as, h => by cases h; simp
  | o :: l, as, h => by
    simp only [rOpers] at h
    split at h
    · rename_i x xs h1 h2
      cases h
      obtain ⟨h3, h4⟩ := rOpers_get h2
      refine ⟨by simp [h3], fun i q hq => ?_⟩
      cases i with
      | zero => simp at hq; subst hq; exact ⟨x, rfl, h1⟩
      | succ i => exact h4 i q (by simpa using hq)
    · cases h

theorem tops_sound {ops : Array Oper} {K : Env → Store → Prop} {kp : Env → V → Store → Prop} {Q : AExit → Env → Store → Prop} {σ₀ : Store} {w₀ : World}
    (hK : ∀ env σ, K env σ → Q .normal env σ) (hkp : ∀ env v σ, kp env v σ → Q (.pan v) env σ) : ∀ (as : List AOper) (j : Nat), (∀ (i : Nat) (o : Oper), ops[j + i]? = some o → ∃ ao, as[i]? = some ao ∧ rOper P N ops o = some ao) → ops.size = j + as.length →
    ∀ (env : Env) (σ : Store) (a : Act) (w : World), Tops P (as.map (purify pu fz)) K kp env σ → ERel (Hh Λ σ w) env a.tmps → Rel Λ σ w → Adv Λ σ₀ w₀ σ w → a.tmps.size = N → a.defers = ds →
    wpOpsIn (wide r) n P ops (APost Λ σ₀ w₀ N ds Q) (List.range' j as.length) a w
  | [], j, _, _, env, σ, a, w, h, he, hR, hA, hN, hd => by
    simp only [List.length_nil, List.range'_zero, wpOpsIn]
    exact ⟨.normal, env, σ, hK _ _ h, rfl, he, hR, hA, hN, hd⟩
  | ao :: as, j, hget, hsz, env, σ, a, w, h, he, hR, hA, hN, hd => by
    simp only [List.length_cons, List.range'_succ, wpOpsIn]
    have hlt : j < ops.size := by simp at hsz; omega
    have hj : ops[j]? = some ops[j] := Array.getElem?_eq_getElem hlt
    obtain ⟨ao', h1, h2⟩ := hget 0 ops[j] (by simp [hj])
    simp at h1
    subst h1
    simp only [hj]
    refine oper_sound (K := Tops P (as.map (purify pu fz)) K kp) (kp := kp env) h2 he hR hN (by
        simp only [List.map_cons, Tops] at h
        have := Sop_purify h
        rwa [purify_dst] at this) (fun env' σ' c w' hk he' hR' hA' => ?_) (fun v σ' c w' hk hv hR' hA' => ?_)
    · exact tops_sound hK hkp as (j + 1) (fun i o ho => by
        obtain ⟨x, hx, hy⟩ := hget (i + 1) o (by rw [← ho]; congr 1; omega)
        exact ⟨x, by simpa using hx, hy⟩) (by simp at hsz; omega) env' σ' _ w' hk he' hR' (hA.trans hA') (by rw [put_size]; exact hN) (by rw [put_defers]; exact hd)
    · exact ⟨.pan v, env, σ', hkp _ _ _ hk, ⟨c, rfl, hv⟩, he.mono hA'.hle, hR', hA.trans hA', hN, hd⟩

theorem APost.trans {σ₀ σ₁ : Store} {w₀ w₁ : World} {Q : AExit → Env → Store → Prop} {e : Exit} {a : Act} {w : World} (hA : Adv Λ σ₀ w₀ σ₁ w₁) (h : APost Λ σ₁ w₁ N ds Q e a w) : APost Λ σ₀ w₀ N ds Q e a w := by
  obtain ⟨ex, env, σ, h1, h2, h3, h4, h5, h6⟩ := h
  exact ⟨ex, env, σ, h1, h2, h3, h4, hA.trans h5, h6⟩

theorem wpIn_scope {F : Fence} {c : Code} {Q : Exit → Act → World → Prop} {a : Act} {w : World} (h : c.wpIn F n P (Exit.noGoto Q) a w) : (Code.scope c).wpIn F n P Q a w := by
  intro b k cs hro hb hr
  have s1 : step P (lone (b.atR a (.code (.scope c) :: k)) cs w) = .next (lone (b.atR a (.code c :: .inScope c :: k)) cs w) := step_lone_go (by simp [stepG, stepG.exec, Frame.atR])
  have s2 : ∀ a w, step P (lone (b.atR a (.inScope c :: k)) cs w) = .next (lone (b.atR a k) cs w) := fun a w => step_lone_go (by simp [stepG, stepG.exec, Frame.atR])
  have h0 : (lone (b.atR a (.code (.scope c) :: k)) cs w).fenced P F := fenced_calm hb hr rfl
  obtain ⟨e, a₁, w₁, hq, harr⟩ := h b (.inScope c :: k) cs hro hb hr
  cases e with
  | normal => exact ⟨.normal, a₁, w₁, hq, .head h0 s1 (StepsIn.trans harr (.one (fenced_calm hb hr rfl) (s2 _ _)))⟩
  | exit id =>
    have hx : exitTo id (.inScope c :: k) = exitTo id k := by simp [exitTo]
    exact ⟨_, a₁, w₁, hq, fun k' hk => .head h0 s1 (harr.1 k' (by rw [hx]; exact hk)), fun hr' hk => let ⟨k₁, h1, h2⟩ := harr.2 hr' (by rw [hx]; exact hk); ⟨k₁, h1, .head h0 s1 h2⟩⟩
  | goto l => exact hq.elim
  | ret => exact ⟨_, a₁, w₁, hq, .of_steps (.one h0 s1) harr⟩
  | panic ch => exact ⟨_, a₁, w₁, hq, .of_steps (.one h0 s1) harr⟩
  | outgrown => exact ⟨_, a₁, w₁, hq, .of_steps (.one h0 s1) harr⟩

theorem xrel_normal {H : Nat → Nat → Option Value} {ex : AExit} (h : XRel H ex .normal) : ex = .normal := by
  cases ex with
  | normal => rfl
  | exit id => cases h
  | ret => cases h
  | pan v => obtain ⟨_, h, _⟩ := h; cases h

theorem exists_min {p : Nat → Prop} (h : ∃ m, p m) : ∃ m, p m ∧ ∀ k, p k → m ≤ k := by
  obtain ⟨n, hn⟩ := h
  induction n using Nat.strongRecOn with
  | _ n ih =>
    by_cases hex : ∃ k, k < n ∧ p k
    · obtain ⟨k, h1, h2⟩ := hex
      exact ih k h1 h2
    · exact ⟨n, hn, fun k hk => Nat.le_of_not_lt fun hlt => hex ⟨k, hlt, hk⟩⟩
/-! ### drawn orders -/
theorem mem_ready {ops : Array Oper} {listed : Array Bool} (hs : listed.size = ops.size) {i : Nat} :
    i ∈ Region.ready .any ops listed ↔ i < ops.size ∧ listed[i]? = some false ∧ ∀ e ∈ direct ops i, listed[e]? = some true := by
  unfold Region.ready
  rw [List.mem_filter, List.mem_range]
  constructor
  · rintro ⟨h1, h2⟩
    simp only [Bool.and_eq_true, Bool.not_eq_true'] at h2
    obtain ⟨h2, h3⟩ := h2
    have hl : i < listed.size := by omega
    refine ⟨h1, ?_, fun e he => ?_⟩
    · rw [Array.getElem?_eq_getElem hl]
      rw [Array.getD_eq_getD_getElem?, Array.getElem?_eq_getElem hl] at h2
      simpa using h2
    · unfold direct at he
      rw [Array.getElem?_eq_getElem h1] at he h3
      simp only [Option.map_some, Option.getD_some] at h3
      simp only [List.mem_map, List.mem_filter] at he
      obtain ⟨g, ⟨hg1, hg2⟩, rfl⟩ := he
      rw [Array.all_eq_true_iff_forall_mem] at h3
      have := h3 g (by simpa using hg1)
      rw [hg2] at this
      simp only [Bool.not_true, Bool.false_or] at this
      rw [Array.getD_eq_getD_getElem?] at this
      cases hx : listed[g.on]? with
      | none => rw [hx] at this; cases this
      | some b => rw [hx] at this; simp only [Option.getD_some] at this; rw [this]
  · rintro ⟨h1, h2, h3⟩
    refine ⟨h1, ?_⟩
    rw [Array.getD_eq_getD_getElem?, h2, Array.getElem?_eq_getElem h1]
    simp only [Option.getD_some, Bool.not_false, Bool.true_and, Option.map_some]
    rw [Array.all_eq_true_iff_forall_mem]
    intro g hg
    cases hb : Region.binds .any g with
    | false => rfl
    | true =>
      simp only [Bool.not_true, Bool.false_or]
      rw [Array.getD_eq_getD_getElem?, h3 g.on (by
        unfold direct
        rw [Array.getElem?_eq_getElem h1]
        simp only [List.mem_map, List.mem_filter]
        exact ⟨g, ⟨by simpa using hg, hb⟩, rfl⟩)]
      rfl

theorem apartB_spec {x y : AOper} (h : apartB x y = true) : Apart x y := by
  unfold apartB at h
  simp only [Bool.and_eq_true] at h
  refine ⟨fun d hd => ?_, fun d hd => ?_⟩
  · have h1 := h.1
    rw [hd] at h1
    simp only [Bool.and_eq_true, Bool.not_eq_true', bne_iff_ne, ne_eq] at h1
    exact ⟨fun hm => by have := h1.1; rw [List.contains_eq_mem] at this; simp [hm] at this, h1.2⟩
  · have h2 := h.2
    rw [hd] at h2
    simp only [Bool.not_eq_true'] at h2
    exact fun hm => by rw [List.contains_eq_mem] at h2; simp [hm] at h2
theorem freshB_spec {x y : AOper} (h : freshB y x = true) : fresh y x := by
  intro d hd
  unfold freshB at h
  rw [hd] at h
  simp only [Bool.not_eq_true'] at h
  exact fun hm => by rw [List.contains_eq_mem] at h; simp [hm] at h
theorem pwB_spec {ops : Array Oper} {clo : List (List Nat)} : ∀ {C : List DOper}, pwB ops clo C = true → C.Pairwise fun x y => pairB ops clo x y = true
  | [], _ => .nil
  | x :: r, h => by
    simp only [pwB, Bool.and_eq_true, List.all_eq_true] at h
    exact .cons h.1 (pwB_spec h.2)
theorem mem_mkD {clo : List (List Nat)} {as : List AOper} : ∀ {l before : List Nat} {d : DOper}, d ∈ mkD clo as before l → as[d.i]? = some d.o ∧ d.re = d.rei.filterMap fun j => as[j]?
  | [], _, _, h => by cases h
  | i :: r, before, d, h => by
    simp only [mkD] at h
    split at h
    · rename_i ao hao
      rcases List.mem_cons.1 h with rfl | h
      · exact ⟨hao, rfl⟩
      · exact mem_mkD h
    · exact mem_mkD h
theorem okB_spec {as : List AOper} {x y : DOper} (hx : as[x.i]? = some x.o) (hxr : x.re = x.rei.filterMap fun j => as[j]?) (hyr : y.re = y.rei.filterMap fun j => as[j]?) (h : okB x y = true) : okD x y := by
  unfold okB at h
  simp only [Bool.and_eq_true, Bool.or_eq_true, beq_iff_eq] at h
  obtain ⟨⟨h1, h2⟩, h3⟩ := h
  refine ⟨by rw [hxr, List.isEmpty_iff.1 h1]; rfl, apartB_spec h2, ?_⟩
  rcases h3 with ((h3 | h3) | h3) | h3
  · exact .inl h3
  · exact .inr (.inl h3)
  · refine .inr (.inr (.inl ⟨h3.1.1, ?_, fun d hd => ?_⟩))
    · rw [hyr, List.mem_filterMap]
      exact ⟨x.i, by have := h3.1.2; rw [List.contains_eq_mem] at this; simpa using this, hx⟩
    · have := h3.2
      rw [hd] at this
      simp only [Bool.not_eq_true'] at this
      exact fun hm => by rw [List.contains_eq_mem] at this; simp [hm] at this
  · refine .inr (.inr (.inr ⟨h3.1.1.1, by rw [hyr, List.isEmpty_iff.1 h3.1.1.2]; rfl, by simpa using h3.1.2, ?_⟩))
    have := h3.2
    unfold isAlloc at this
    split at this
    · rename_i z hz; exact ⟨z, hz⟩
    · cases this
theorem clo_listed {ops : Array Oper} {clo : List (List Nat)} (hclo : cloB ops clo = true) {listed : Array Bool}
    (hdc : ∀ j, j < ops.size → listed[j]? = some true → ∀ e ∈ direct ops j, listed[e]? = some true) :
    ∀ (i : Nat), i < ops.size → (∀ e ∈ direct ops i, listed[e]? = some true) → ∀ x ∈ clo.getD i [], listed[x]? = some true := by
  intro i
  induction i using Nat.strongRecOn with
  | _ i ih =>
    intro hi hd x hx
    unfold cloB at hclo
    rw [List.all_eq_true] at hclo
    have h1 := hclo i (List.mem_range.2 hi)
    rw [List.all_eq_true] at h1
    have h2 := h1 x hx
    simp only [Bool.or_eq_true, List.any_eq_true, Bool.and_eq_true] at h2
    rcases h2 with h2 | ⟨j, hj, hlt, hm⟩
    · exact hd x (by rw [List.contains_eq_mem] at h2; simpa using h2)
    · have hji : j < i := by rw [Nat.blt_eq] at hlt; exact hlt
      have hl := hd j hj
      exact ih j hji (by omega) (hdc j (by omega) hl) x (by rw [List.contains_eq_mem] at hm; simpa using hm)

theorem any_sound {ops : Array Oper} {as : List AOper} {clo : List (List Nat)} {C : List DOper} (hclo : cloB ops clo = true) (hpw : C.Pairwise fun x y => pairB ops clo x y = true)
    (hC : ∀ d ∈ C, d.i < ops.size ∧ d.i ∉ direct ops d.i ∧ (∀ e ∈ direct ops d.i, e < ops.size) ∧ (as.map (purify pu fz))[d.i]? = some d.o ∧ d.re = d.rei.filterMap fun j => (as.map (purify pu fz))[j]?)
    (has : ∀ (i : Nat) (o : Oper), ops[i]? = some o → ∃ ao, as[i]? = some ao ∧ rOper P N ops o = some ao)
    {K : Env → Store → Prop} {kp : V → Store → Prop} {Q : AExit → Env → Store → Prop} {σ₀ : Store} {w₀ : World} (hgeq : ∀ env env' σ, Geq env env' → K env σ → K env' σ)
    (hK : ∀ env σ, K env σ → ∃ l, Q .normal (prune l env) σ) (hkp : ∀ v σ, kp v σ → Q (.pan v) [] σ) (hU : ∀ v σ m z, σ m = none → kp v σ → kp v (upd σ m z)) : ∀ (fuel : Nat) (l : List DOper) (listed : Array Bool) (env : Env) (σ : Store) (a : Act) (w : World),
    l.length = fuel → l.Sublist C → listed.size = ops.size → (∀ j, j < ops.size → (listed[j]? = some false ↔ ∃ d ∈ l, d.i = j)) →
    (∀ j, j < ops.size → listed[j]? = some true → ∀ e ∈ direct ops j, listed[e]? = some true) →
    Tdops P l K kp env σ → ERel (Hh Λ σ w) env a.tmps → Rel Λ σ w → Adv Λ σ₀ w₀ σ w → a.tmps.size = N → a.defers = ds → wpAnyIn (wide r) n P .any ops (APost Λ σ₀ w₀ N ds Q) fuel listed a w
  | 0, l, listed, env, σ, a, w, hl, hsub, hsz, hun, hdc, h, he, hR, hA, hN, hd => by
    have : l = [] := List.length_eq_zero_iff.1 hl
    subst this
    simp only [wpAnyIn]
    obtain ⟨l, hq⟩ := hK _ _ h
    refine ⟨?_, .normal, _, σ, hq, rfl, he.prune l, hR, hA, hN, hd⟩
    refine List.eq_nil_iff_forall_not_mem.2 fun i hi => ?_
    obtain ⟨h1, h2, _⟩ := (mem_ready hsz).1 hi
    obtain ⟨d, hd, _⟩ := (hun i h1).1 h2
    cases hd
  | fuel + 1, l, listed, env, σ, a, w, hl, hsub, hsz, hun, hdc, h, he, hR, hA, hN, hd => by
    have hval : ∀ j, j < ops.size → listed[j]? = some true ∨ listed[j]? = some false := fun j hj => by
      rw [Array.getElem?_eq_getElem (by omega)]
      cases listed[j]'(by omega) <;> simp
    have hpl := hpw.sublist hsub
    simp only [wpAnyIn]
    refine ⟨fun hr => ?_, fun i hi => ?_⟩
    · exfalso
      cases l with
      | nil => cases hl
      | cons hd' t =>
        have hCh := hC hd' (hsub.subset (.head _))
        have : hd'.i ∈ Region.ready .any ops listed := by
          refine (mem_ready hsz).2 ⟨hCh.1, (hun _ hCh.1).2 ⟨hd', .head _, rfl⟩, fun e he' => ?_⟩
          have hes := hCh.2.2.1 e he'
          rcases hval e hes with h1 | h1
          · exact h1
          · obtain ⟨d, hd1, rfl⟩ := (hun e hes).1 h1
            rcases List.mem_cons.1 hd1 with rfl | hd1
            · exact absurd he' hCh.2.1
            · have hp := (List.pairwise_cons.1 hpl).1 d hd1
              unfold pairB at hp
              simp only [Bool.and_eq_true] at hp
              have := hp.1.1.2
              rw [List.contains_eq_mem] at this
              simp [he'] at this
        rw [hr] at this
        cases this
    · obtain ⟨hi1, hi2, hi3⟩ := (mem_ready hsz).1 hi
      obtain ⟨d, hdl, rfl⟩ := (hun i hi1).1 hi2
      obtain ⟨xs, ys, rfl⟩ := List.append_of_mem hdl
      have hCd := hC d (hsub.subset hdl)
      have hpx := List.pairwise_append.1 hpl
      have hxd : ∀ x ∈ xs, pairB ops clo x d = true := fun x hx => hpx.2.2 x hx d (.head _)
      have hdy : ∀ y ∈ ys, pairB ops clo d y = true := fun y hy => (List.pairwise_cons.1 hpx.2.1).1 y hy
      have hok : ∀ x ∈ xs, okD x d := fun x hx => by
        have hCx := hC x (hsub.subset (List.mem_append_left _ hx))
        have hp := hxd x hx
        unfold pairB at hp
        simp only [Bool.and_eq_true, Bool.or_eq_true] at hp
        rcases hp.2 with h1 | h1
        · exfalso
          have h2 := clo_listed hclo hdc d.i hi1 hi3 x.i (by rw [List.contains_eq_mem] at h1; simpa using h1)
          have h3 := (hun x.i hCx.1).2 ⟨x, List.mem_append_left _ hx, rfl⟩
          rw [h2] at h3
          cases h3
        · exact okB_spec hCx.2.2.2.1 hCx.2.2.2.2 hCd.2.2.2.2 h1
      have hfr : xs.Pairwise fun x y => kd x.o.op = .N → fresh y.o x.o := hpx.1.imp fun {x y} hp hN => by
        unfold pairB at hp
        simp only [Bool.and_eq_true, Bool.or_eq_true] at hp
        rcases hp.1.2 with h1 | h1
        · rw [hN] at h1; simp at h1
        · exact freshB_spec h1
      have hb := bubble hU hgeq hok hfr h
      have hops : ops[d.i]? = some ops[d.i] := Array.getElem?_eq_getElem hi1
      obtain ⟨ao, hao, hro⟩ := has d.i _ hops
      have hdo : d.o = purify pu fz ao := by
        have := hCd.2.2.2.1
        rw [List.getElem?_map, hao] at this
        simpa using this.symm
      unfold wpOpIn
      simp only [hops]
      rw [hdo] at hb
      refine oper_sound (K := Tdops P (xs ++ ys) K kp) (kp := kp) hro he hR hN ?_ (fun env' σ' c w' hk he' hR' hA' => ?_) (fun v σ' c w' hk hv hR' hA' => ?_)
      · refine Sop_mono (Sop_purify hb) (fun v σ' ⟨vf, σ2, h1, h2, hh⟩ => ⟨vf, σ2, h1, h2, ?_⟩) fun _ _ h => h
        have := hh.2
        rwa [purify_dst] at this
      · refine any_sound hclo hpw hC has hgeq hK hkp hU fuel (xs ++ ys) _ env' σ' _ w' ?_ ?_ ?_ ?_ ?_ hk he' hR' (hA.trans hA') (by rw [put_size]; exact hN) (by rw [put_defers]; exact hd)
        · simp only [List.length_append, List.length_cons] at hl ⊢
          omega
        · exact ((List.Sublist.refl xs).append (List.sublist_cons_self d ys)).trans hsub
        · simpa using hsz
        · intro j hj
          by_cases hjd : d.i = j
          · subst hjd
            rw [Array.getElem?_setIfInBounds_self_of_lt (by omega)]
            constructor
            · intro h; cases h
            · rintro ⟨x, hx, hxi⟩
              exfalso
              rcases List.mem_append.1 hx with hx | hx
              · have := hxd x hx
                unfold pairB at this
                simp only [Bool.and_eq_true] at this
                have := this.1.1.1
                rw [hxi] at this
                simp at this
              · have := hdy x hx
                unfold pairB at this
                simp only [Bool.and_eq_true] at this
                have := this.1.1.1
                rw [hxi] at this
                simp at this
          · rw [Array.getElem?_setIfInBounds_ne hjd, hun j hj]
            constructor
            · rintro ⟨x, hx, rfl⟩
              rcases List.mem_append.1 hx with hx | hx
              · exact ⟨x, List.mem_append_left _ hx, rfl⟩
              · rcases List.mem_cons.1 hx with rfl | hx
                · exact absurd rfl hjd
                · exact ⟨x, List.mem_append_right _ hx, rfl⟩
            · rintro ⟨x, hx, rfl⟩
              rcases List.mem_append.1 hx with hx | hx
              · exact ⟨x, List.mem_append_left _ hx, rfl⟩
              · exact ⟨x, List.mem_append_right _ (.tail _ hx), rfl⟩
        · intro j hj hlj e hej
          have hle : listed[e]? = some true := by
            by_cases hjd : d.i = j
            · subst hjd; exact hi3 e hej
            · rw [Array.getElem?_setIfInBounds_ne hjd] at hlj
              exact hdc j hj hlj e hej
          by_cases hed : d.i = e
          · subst hed
            rw [Array.getElem?_setIfInBounds_self_of_lt (by omega)]
          · rw [Array.getElem?_setIfInBounds_ne hed]
            exact hle
      · exact ⟨.pan v, [], σ', hkp _ _ hk, ⟨c, rfl, hv⟩, fun _ _ hg => (by cases hg), hR', hA.trans hA', hN, hd⟩

theorem prune_geq {env env' : Env} (h : Geq env env') : ∀ l : List Nat, prune l env = prune l env'
  | [] => rfl
  | s :: r => by simp only [prune, h s, prune_geq h r]
theorem resD_spec {ops : Array Oper} {as : List AOper} {C : List DOper} (h : resD ops as = some C) : ∃ order, mkD (closures ops ops.size) as [] order = C ∧ chkD ops (closures ops ops.size) C = true := by
  simp only [resD] at h
  cases h1 : chkD ops (closures ops ops.size) (mkD (closures ops ops.size) as [] (greedy rank ops as ops.size (List.range ops.size) [])) with
  | true =>
    rw [h1] at h
    cases h
    exact ⟨_, rfl, h1⟩
  | false =>
    rw [h1] at h
    simp only [cond_false] at h
    cases h2 : chkD ops (closures ops ops.size) (mkD (closures ops ops.size) as [] (greedy rank2 ops as ops.size (List.range ops.size) [])) with
    | true =>
      rw [h2] at h
      cases h
      exact ⟨_, rfl, h2⟩
    | false => rw [h2] at h; cases h
theorem dreg_sound {ops : Array Oper} {as : List AOper} {C : List DOper} {id : Nat} (hm : P.follows .mixedOrders = true) (h1 : rOpers P N ops ops.toList = some as) (h2 : resD ops (as.map (purify pu fz)) = some C) {l : List Nat}
    {Q : AExit → Env → Store → Prop} {env : Env} {σ : Store} {a : Act} {w : World} (h : Tdops P C (fun env σ => Q .normal (prune l env) σ) (fun v σ => ∀ σ', Sub σ σ' → Q (.pan v) [] σ') env σ)
    (he : ERel (Hh Λ σ w) env a.tmps) (hR : Rel Λ σ w) (hN : a.tmps.size = N) (hd : a.defers = ds) : (Code.region id ops true).wpIn (wide r) n P (APost Λ σ w N ds Q) a w := by
  obtain ⟨h3, h4⟩ := rOpers_get h1
  obtain ⟨order, hC, hb⟩ := resD_spec h2
  · unfold chkD at hb
    simp only [Bool.and_eq_true] at hb
    obtain ⟨⟨⟨⟨b1, b2⟩, b3⟩, b4⟩, b5⟩ := hb
    have b1 : C.length = ops.size := Nat.eq_of_beq_eq_true b1
    rw [List.all_eq_true] at b2 b3
    refine wpIn_region_any hm ?_
    refine any_sound (pu := pu) (fz := fz) (as := as) (σ₀ := σ) (w₀ := w) b4 (pwB_spec b5) (fun d hd' => ?_) (fun i o ho => h4 i o (by simpa using ho)) (K := fun env σ => Q .normal (prune l env) σ) (kp := fun v σ => ∀ σ', Sub σ σ' → Q (.pan v) [] σ')
      (fun env env' σ hg hq => by rw [← prune_geq hg]; exact hq) (fun env σ hq => ⟨l, hq⟩) (fun _ σ h => h σ fun _ _ h => h) (fun _ _ _ _ hm h σ' hs => h σ' fun _ _ hh => hs _ _ (sub_upd hm _ _ hh)) ops.size C _ env σ a _ b1 (.refl _) (by simp) (fun j hj => ?_) (fun j hj hlj => ?_) h he ⟨hR.own, hR.lock⟩ ⟨fun _ _ _ => rfl, Nat.le_refl _, rfl, rfl, rfl, fun _ h _ => h⟩ hN hd
    · have := b3 d hd'
      simp only [Bool.and_eq_true, List.all_eq_true] at this
      obtain ⟨⟨c1, c2⟩, c3⟩ := this
      obtain ⟨m1, m2⟩ := mem_mkD (hC ▸ hd')
      refine ⟨by rw [Nat.blt_eq] at c1; exact c1, fun hm => ?_, fun e he => by have := c3 e he; rw [Nat.blt_eq] at this; exact this, m1, m2⟩
      rw [List.contains_eq_mem] at c2
      simp [hm] at c2
    · constructor
      · intro _
        have := b2 j (List.mem_range.2 hj)
        rw [List.any_eq_true] at this
        obtain ⟨d, hd', hdj⟩ := this
        exact ⟨d, hd', Nat.eq_of_beq_eq_true hdj⟩
      · intro _
        simp [hj]
    · simp [hj] at hlj

/-! ### weakest preconditions of code that stands in a function of the program -/
def isFn (P : Program) (f : FuncId) : Prop := ∃ g, P.funcs[f]? = some g
def wpK (r : Option Nat) (P : Program) (c : Code) (Q : Exit → Act → World → Prop) (a : Act) (w : World) : Prop :=
  ∀ (b : Frame) (k : List Item) (cs : List Frame), b.roundOf = r → isFn P b.fn →
    ∃ e a' w', Q e a' w' ∧ ArrivesIn (Machine.fenced P (wide r)) P (lone (b.atR a (.code c :: k)) cs w) b k cs e a' w'
section
variable {Q Q' : Exit → Act → World → Prop} {a : Act} {w : World}
theorem room_w {r : Option Nat} {m : Nat} : (wide r).room m := fun _ h => by simp [wide, Fence.wide] at h
theorem wpK_of {c : Code} (h : c.wpIn (wide r) n P Q a w) : wpK r P c Q a w := fun b k cs hro _ => h b k cs hro trivial room_w
theorem wpK_mono {c : Code} (h : wpK r P c Q a w) (hq : ∀ e a w, Q e a w → Q' e a w) : wpK r P c Q' a w :=
  fun b k cs hro hb => let ⟨e, a', w', q, x⟩ := h b k cs hro hb; ⟨e, a', w', hq _ _ _ q, x⟩
theorem calmW {b : Frame} {cs : List Frame} {w : World} (h : b.about P w = none) : (lone b cs w).fenced P (wide r) := fenced_calm (n := 0) trivial room_w h
theorem wpK_seq {x y : Code} (h : wpK r P x (Exit.then (wpK r P y Q) Q) a w) : wpK r P (Code.seq x y) Q a w := by
  intro b k cs hro hb
  have h0 : (lone (b.atR a (.code (.seq x y) :: k)) cs w).fenced P (wide r) := calmW rfl
  obtain ⟨e, a₁, w₁, hq, harr⟩ := h b (.code y :: k) cs hro hb
  cases e with
  | normal =>
    obtain ⟨e₂, a₂, w₂, hq₂, harr₂⟩ := hq b k cs hro hb
    exact ⟨e₂, a₂, w₂, hq₂, .of_steps (.head h0 stepR_seq harr) harr₂⟩
  | exit id => exact ⟨_, a₁, w₁, hq, .of_steps (.one h0 stepR_seq) (.pass (x := .code y) rfl (fun _ _ => .inl (by simp)) harr)⟩
  | goto l => exact ⟨_, a₁, w₁, hq, .of_steps (.one h0 stepR_seq) (.pass (x := .code y) rfl (fun _ _ => .inl (by simp)) harr)⟩
  | ret => exact ⟨_, a₁, w₁, hq, .of_steps (.one h0 stepR_seq) (.pass (x := .code y) rfl (fun _ _ => .inl (by simp)) harr)⟩
  | panic ch => exact ⟨_, a₁, w₁, hq, .of_steps (.one h0 stepR_seq) (.pass (x := .code y) rfl (fun _ _ => .inl (by simp)) harr)⟩
  | outgrown => exact ⟨_, a₁, w₁, hq, .of_steps (.one h0 stepR_seq) (.pass (x := .code y) rfl (fun _ _ => .inl (by simp)) harr)⟩
theorem wpK_cond {c : Operand} {x y : Code} {t : Bool} (hc : a.eval c = .bool t) (ht : t = true → wpK r P x Q a w) (hf : t = false → wpK r P y Q a w) : wpK r P (Code.cond c x y) Q a w := by
  have h : wpK r P (if t then x else y) Q a w := by cases t; exact hf rfl; exact ht rfl
  exact fun b k cs hro hb => let ⟨e, a', w', q, z⟩ := h b k cs hro hb; ⟨e, a', w', q, .of_steps (.one (calmW rfl) (stepR_cond hc)) z⟩
theorem wpK_block {id : Nat} {c : Code} (h : wpK r P c (Exit.inBlock id Q) a w) : wpK r P (Code.block id c) Q a w := by
  intro b k cs hro hb
  have h0 : (lone (b.atR a (.code (.block id c) :: k)) cs w).fenced P (wide r) := calmW rfl
  obtain ⟨e, a₁, w₁, hq, harr⟩ := h b (.inBlock id :: k) cs hro hb
  cases e with
  | normal => exact ⟨.normal, a₁, w₁, hq, .head h0 stepR_block (StepsIn.trans harr (.one (calmW rfl) stepR_inBlock))⟩
  | exit id' =>
    by_cases hid : id' = id
    · simp only [Exit.inBlock, hid, if_true] at hq
      exact ⟨.normal, a₁, w₁, hq, .head h0 stepR_block (harr.1 k (by simp [exitTo, hid]))⟩
    · simp only [Exit.inBlock, hid, if_false] at hq
      have this : (id == id') = false := by simp; exact fun h => hid h.symm
      have hx : exitTo id' (.inBlock id :: k) = exitTo id' k := by simp [exitTo, this]
      exact ⟨.exit id', a₁, w₁, hq, fun k' hk => .head h0 stepR_block (harr.1 k' (by rw [hx]; exact hk)),
        fun hr' hk => let ⟨k₁, h1, h2⟩ := harr.2 hr' (by rw [hx]; exact hk); ⟨k₁, h1, .head h0 stepR_block h2⟩⟩
  | goto l =>
    have hx : gotoIn l (.inBlock id :: k) = gotoIn l k := by simp [gotoIn]
    exact ⟨_, a₁, w₁, hq, fun k' hk => .head h0 stepR_block (harr.1 k' (by rw [hx]; exact hk)),
      fun hr' hk => let ⟨k₁, h1, h2⟩ := harr.2 hr' (by rw [hx]; exact hk); ⟨k₁, h1, .head h0 stepR_block h2⟩⟩
  | ret => exact ⟨_, a₁, w₁, hq, .of_steps (.one h0 stepR_block) harr⟩
  | panic ch => exact ⟨_, a₁, w₁, hq, .of_steps (.one h0 stepR_block) harr⟩
  | outgrown => exact ⟨_, a₁, w₁, hq, .of_steps (.one h0 stepR_block) harr⟩
theorem wpK_scope {c : Code} (h : wpK r P c (Exit.noGoto Q) a w) : wpK r P (Code.scope c) Q a w := by
  intro b k cs hro hb
  have s1 : step P (lone (b.atR a (.code (.scope c) :: k)) cs w) = .next (lone (b.atR a (.code c :: .inScope c :: k)) cs w) := step_lone_go (by simp [stepG, stepG.exec, Frame.atR])
  have s2 : ∀ a w, step P (lone (b.atR a (.inScope c :: k)) cs w) = .next (lone (b.atR a k) cs w) := fun a w => step_lone_go (by simp [stepG, stepG.exec, Frame.atR])
  have h0 : (lone (b.atR a (.code (.scope c) :: k)) cs w).fenced P (wide r) := calmW rfl
  obtain ⟨e, a₁, w₁, hq, harr⟩ := h b (.inScope c :: k) cs hro hb
  cases e with
  | normal => exact ⟨.normal, a₁, w₁, hq, .head h0 s1 (StepsIn.trans harr (.one (calmW rfl) (s2 _ _)))⟩
  | exit id =>
    have hx : exitTo id (.inScope c :: k) = exitTo id k := by simp [exitTo]
    exact ⟨_, a₁, w₁, hq, fun k' hk => .head h0 s1 (harr.1 k' (by rw [hx]; exact hk)), fun hr' hk => let ⟨k₁, h1, h2⟩ := harr.2 hr' (by rw [hx]; exact hk); ⟨k₁, h1, .head h0 s1 h2⟩⟩
  | goto l => exact hq.elim
  | ret => exact ⟨_, a₁, w₁, hq, .of_steps (.one h0 s1) harr⟩
  | panic ch => exact ⟨_, a₁, w₁, hq, .of_steps (.one h0 s1) harr⟩
  | outgrown => exact ⟨_, a₁, w₁, hq, .of_steps (.one h0 s1) harr⟩
theorem wpK_loop {c : Code} (I : Act → World → Prop) (μ : Act → World → Nat) (h₀ : I a w)
    (round : ∀ a w, I a w → wpK r P c (Exit.then (fun a' w' => I a' w' ∧ μ a' w' < μ a w) Q) a w) : wpK r P (Code.loop c) Q a w := by
  intro b k cs hro hb
  have key : ∀ j a w, μ a w = j → I a w →
      ∃ e a' w', Q e a' w' ∧ ArrivesIn (Machine.fenced P (wide r)) P (lone (b.atR a (.code c :: .inLoop c :: k)) cs w) b k cs e a' w' := by
    intro j
    induction j using Nat.strongRecOn with
    | _ j ih =>
      intro a w hn hI
      obtain ⟨e, a₁, w₁, hq, harr⟩ := round a w hI b (.inLoop c :: k) cs hro hb
      cases e with
      | normal =>
        obtain ⟨hI₁, hlt⟩ := hq
        obtain ⟨e₂, a₂, w₂, hq₂, harr₂⟩ := ih (μ a₁ w₁) (hn ▸ hlt) a₁ w₁ rfl hI₁
        exact ⟨e₂, a₂, w₂, hq₂, .of_steps (StepsIn.trans harr (.one (calmW rfl) stepR_inLoop)) harr₂⟩
      | exit id => exact ⟨_, a₁, w₁, hq, .pass (x := .inLoop c) rfl (fun _ _ => .inl (by simp)) harr⟩
      | goto l => exact ⟨_, a₁, w₁, hq, .pass (x := .inLoop c) rfl (fun _ _ => .inl (by simp)) harr⟩
      | ret => exact ⟨_, a₁, w₁, hq, .pass (x := .inLoop c) rfl (fun _ _ => .inl (by simp)) harr⟩
      | panic ch => exact ⟨_, a₁, w₁, hq, .pass (x := .inLoop c) rfl (fun _ _ => .inl (by simp)) harr⟩
      | outgrown => exact ⟨_, a₁, w₁, hq, .pass (x := .inLoop c) rfl (fun _ _ => .inl (by simp)) harr⟩
  obtain ⟨e, a', w', hq, harr⟩ := key _ a w rfl h₀
  exact ⟨e, a', w', hq, .of_steps (.one (calmW rfl) stepR_loop) harr⟩
/-- what is asked when the function over which a loop goes has ended -/
def rangePostK (r : Option Nat) (P : Program) (l : Nat) (Q : Exit → Act → World → Prop) (a' : Act) : Ending → World → Prop
  | .returned _, w₃ => ∃ jump w₄, (Instr.endLoop l).run P w₃ = .ok jump w₄ ∧
      (match jump with
       | none => Q .normal a' w₄
       | some c => wpK r P c Q a' w₄)
  | .panicked chain, w₃ => Q (.panic chain) a' w₃
  | .outgrown, _ => False
theorem wpK_rangeFunc {g : Operand} {ps : Array Tmp} {assign body : Code}
    (h : ∀ fn, isFn P fn → ∃ (l : Nat) (mark : List Deferred) (w₁ : World) (d : Deferred) (w₁' : World) (f : FuncId) (args : Array Value) (w₂ : World),
      (Instr.enterLoop fn a.tmps ps assign body r).run P w = .ok (l, mark) w₁ ∧
      (resolve a.eval (rangeCall g l) 0).run P w₁ = .ok d w₁' ∧
      (invoke d.target d.args).run P w₁' = .ok (.enter f args) w₂ ∧
      CallsIn (wide r) 0 P f args w₂ (rangePostK r P l Q { a with defers := mark ++ a.defers })) :
    wpK r P (Code.rangeFunc g ps assign body) Q a w := by
  intro b k cs hro hb
  obtain ⟨l, mark, w₁, d, w₁', f, args, w₂, he, hres, hinv, hF, hcall⟩ := h b.fn hb
  rw [← hro] at he
  have h0 : (lone (b.atR a (.code (.rangeFunc g ps assign body) :: k)) cs w).fenced P (wide r) := fenced_lone (.inl trivial) (fun _ _ => trivial) room_w
  have henter := stepR_rangeFunc (P := P) (b := b) (a := a) (k := k) (cs := cs) (w := w) he hres hinv
  obtain ⟨e, w₃, fr, hR, hsteps, hfn, hleave⟩ := hcall (b.atR { a with defers := mark ++ a.defers } (.inRangeFunc l :: k) :: cs) room_w
  cases e with
  | outgrown => exact hR.elim
  | returned v =>
    have hl : (lone fr (b.atR { a with defers := mark ++ a.defers } (.inRangeFunc l :: k) :: cs) w₃).fenced P (wide r) := fenced_lone (.inl trivial) (fun _ _ => trivial) room_w
    obtain ⟨jump, w₄, hend, hj⟩ := hR
    have sback : StepsIn (Machine.fenced P (wide r)) P (lone (b.atR a (.code (.rangeFunc g ps assign body) :: k)) cs w) (lone (b.atR { a with defers := mark ++ a.defers } ((jump.map Item.code).toList ++ k)) cs w₄) := by
      refine .head h0 henter (StepsIn.trans hsteps (.head hl ?_ (.one (calmW rfl) (stepR_endRangeFunc hend))))
      rw [← finish_atR_inRangeFunc l v]; exact step_leave_returned hleave
    cases jump with
    | none => exact ⟨.normal, _, w₄, hj, sback⟩
    | some c =>
      obtain ⟨e', a'', w₅, hq, harr⟩ := hj b k cs hro hb
      exact ⟨e', a'', w₅, hq, .of_steps sback harr⟩
  | panicked chain =>
    have hl : (lone fr (b.atR { a with defers := mark ++ a.defers } (.inRangeFunc l :: k) :: cs) w₃).fenced P (wide r) := fenced_lone (.inl trivial) (fun _ _ => trivial) room_w
    refine ⟨.panic chain, _, w₃, hR, .inRangeFunc l :: k, .head h0 henter (StepsIn.trans hsteps (.one hl ?_))⟩
    rw [← Frame.raise_atR]; exact step_leave_panicked hleave
/-- how the body of a round may be left -/
def roundPostK (P : Program) (l : Nat) (R : Ending → World → Prop) : Exit → Act → World → Prop
  | .normal, _, w => ∃ v w', (Instr.endRound l none).run P w = .ok v w' ∧ R (.returned v) w'
  | .ret, _, w => ∃ v w', (Instr.endRound l (some .ret)).run P w = .ok v w' ∧ R (.returned v) w'
  | .exit id, _, w => ∃ v w', (Instr.endRound l (some (.exit id))).run P w = .ok v w' ∧ R (.returned v) w'
  | .goto _, _, _ => False
  | .panic ch, a, w => a.defers = [] ∧ R (.panicked ch) w
  | .outgrown, _, _ => False
theorem roundIn_of_wpK {l : Nat} {f : FuncId} {tmps : Array Value} {assign body : Code} {R : Ending → World → Prop} (hF : isFn P f)
    (h : wpK (some l) P assign (Exit.then (fun a₁ w₁ => ∃ w₂, (Instr.beginRound l).run P w₁ = .ok () w₂ ∧ wpK (some l) P body (roundPostK P l R) a₁ w₂) (fun _ _ _ => False))
      { tmps := tmps, defers := [] } w) :
    RoundIn Fence.wide 0 P l f tmps assign body w R := by
  refine ⟨trivial, fun c cs _ => ?_⟩
  let b : Frame := { (default : Frame) with fn := f, kind := .normal, roundOf := some l }
  have hb0 : Frame.round l f tmps assign body .normal = b.atR { tmps := tmps, defers := [] } [.code assign, .beginRound, .code body] := by
    simp [Frame.round, Frame.atR, b]
  obtain ⟨e, a₁, w₁, hq, harr⟩ := h b [.beginRound, .code body] (c :: cs) rfl hF
  rw [← hb0] at harr
  cases e with
  | normal =>
    obtain ⟨w₂, hbr, hbody⟩ := hq
    have s1 : StepsIn (Machine.fenced P (wide (some l))) P (lone (b.atR a₁ [.beginRound, .code body]) (c :: cs) w₁) (lone (b.atR a₁ [.code body]) (c :: cs) w₂) :=
      .one (calmW rfl) (stepR_beginRound rfl hbr)
    obtain ⟨e₂, a₂, w₃, hq₂, harr₂⟩ := hbody b [] (c :: cs) rfl hF
    cases e₂ with
    | normal =>
      obtain ⟨v, w₄, hend, hR⟩ := hq₂
      exact ⟨.returned v, w₄, hR, (StepsIn.trans harr s1).trans (StepsIn.trans harr₂ (.one (calmW rfl) (stepR_round_end rfl rfl hend)))⟩
    | ret =>
      obtain ⟨v, w₄, hend, hR⟩ := hq₂
      obtain ⟨k₁, hs⟩ := harr₂.2 rfl
      exact ⟨.returned v, w₄, hR, (StepsIn.trans harr s1).trans (StepsIn.trans hs (.one (calmW rfl) (stepR_round_ret rfl rfl hend)))⟩
    | exit id =>
      obtain ⟨v, w₄, hend, hR⟩ := hq₂
      obtain ⟨k₁, hk, hs⟩ := harr₂.2 rfl rfl
      exact ⟨.returned v, w₄, hR, (StepsIn.trans harr s1).trans (StepsIn.trans hs (.one (calmW rfl) (stepR_round_exit rfl rfl hk hend)))⟩
    | goto t => exact hq₂.elim
    | panic chain =>
      obtain ⟨hd, hR⟩ := hq₂
      obtain ⟨todo, hs⟩ := harr₂
      refine ⟨.panicked chain, w₃, hR, (StepsIn.trans harr s1).trans (StepsIn.trans hs (.one (fenced_lone (.inl trivial) (fun _ _ => trivial) room_w) ?_))⟩
      exact step_leave_panicked ⟨rfl, hd, hF⟩
    | outgrown => exact hq₂.elim
  | exit id => exact hq.elim
  | goto t => exact hq.elim
  | ret => exact hq.elim
  | panic chain => exact hq.elim
  | outgrown => exact hq.elim
end
/-! ### a loop over a function: marks among the deferred calls, records of loops -/
def markOf (D : Nat) : Deferred := { target := .collected D, args := #[] }
def Marks (r : Option Nat) (w₀ : World) (σ : Store) (w : World) (ds l : List Deferred) : Prop :=
  ∃ ms : List Nat, l = ms.map markOf ++ ds ∧ ms.Nodup ∧ (∀ D ∈ ms, w₀.heap.size ≤ D ∧ σ D = none ∧ w.heap[D]? = some (.deferred (some []))) ∧ (r ≠ none → ms = [])
theorem Marks.refl (r : Option Nat) (w₀ : World) (σ : Store) (w : World) (ds : List Deferred) : Marks r w₀ σ w ds ds := ⟨[], rfl, .nil, (fun _ h => by cases h), fun _ => rfl⟩
theorem lt_of_at {w : World} {n : Nat} {o : Obj} (h : w.heap[n]? = some o) : n < w.heap.size := (Array.getElem?_eq_some_iff.1 h).1
theorem Marks.adv {w₀ : World} {σ σ' : Store} {w w' : World} {ds l : List Deferred} (h : Marks r w₀ σ w ds l) (hA : Adv Λ σ w σ' w') : Marks r w₀ σ' w' ds l := by
  obtain ⟨ms, h1, h2, h3, hr⟩ := h
  refine ⟨ms, h1, h2, fun D hD => ?_, hr⟩
  obtain ⟨h4, h5, h6⟩ := h3 D hD
  exact ⟨h4, hA.names D h5 (lt_of_at h6), (hA.frame D (lt_of_at h6) h5).trans h6⟩
theorem Marks.trans {w₀ w₁ : World} {σ₁ σ : Store} {w : World} {ds l₁ l : List Deferred} (h : Marks r w₀ σ₁ w₁ ds l₁) (hA : Adv Λ σ₁ w₁ σ w) (hs : w₀.heap.size ≤ w₁.heap.size) (k : Marks r w₁ σ w l₁ l) : Marks r w₀ σ w ds l := by
  obtain ⟨ms, rfl, h2, h3, hr1⟩ := h.adv hA
  obtain ⟨ms', rfl, h5, h6, hr2⟩ := k
  have h7 : ∀ D ∈ ms, D < w₁.heap.size := fun D hD => by
    obtain ⟨ms2, e, _, h9, _⟩ := h
    have : ms2 = ms := by
      have := List.append_cancel_right e
      have hinj : ∀ {l l' : List Nat}, l.map markOf = l'.map markOf → l = l' := fun {l l'} hh => by
        induction l generalizing l' with
        | nil => cases l' with
          | nil => rfl
          | cons _ _ => cases hh
        | cons x l ih => cases l' with
          | nil => cases hh
          | cons y l' =>
            simp only [List.map_cons, List.cons.injEq, markOf] at hh
            obtain ⟨h1, h2⟩ := hh
            have : x = y := by injection h1 with h1 _; injection h1
            rw [this, ih h2]
      exact (hinj this).symm
    subst this
    exact lt_of_at (h9 D hD).2.2
  refine ⟨ms' ++ ms, by simp, List.nodup_append.2 ⟨h5, h2, fun a ha b hb e => ?_⟩, fun D hD => ?_, fun h => by rw [hr1 h, hr2 h]; rfl⟩
  · subst e
    have := (h6 a ha).1
    have := h7 a hb
    omega
  · rcases List.mem_append.1 hD with hD | hD
    · exact ⟨by have := (h6 D hD).1; omega, (h6 D hD).2⟩
    · exact h3 D hD
/-- the loop in whose round the code stands -/
def RoundOk (r : Option Nat) (σ : Store) (w : World) : Prop := ∀ l, r = some l → σ l = none ∧ ∃ lp, w.heap[l]? = some (.loop lp)
theorem RoundOk.adv {r : Option Nat} {σ σ' : Store} {w w' : World} (h : RoundOk r σ w) (hA : Adv Λ σ w σ' w') : RoundOk r σ' w' := fun l hl => by
  obtain ⟨h1, lp, h2⟩ := h l hl
  exact ⟨hA.names l h1 (lt_of_at h2), lp, (hA.frame l (lt_of_at h2) h1).trans h2⟩
theorem RoundOk.none {σ : Store} {w : World} : RoundOk Option.none σ w := fun _ h => by cases h
def TPost (r : Option Nat) (Λ : Nat → Prop) (σ₀ : Store) (w₀ : World) (N : Nat) (ds : List Deferred) (Q : AExit → Env → Store → Prop) (e : Exit) (a : Act) (w : World) : Prop :=
  ∃ ex env σ, Q ex env σ ∧ XRel (Hh Λ σ w) ex e ∧ ERel (Hh Λ σ w) env a.tmps ∧ Rel Λ σ w ∧ Adv Λ σ₀ w₀ σ w ∧ a.tmps.size = N ∧ Marks r w₀ σ w ds a.defers
theorem APost.t {σ₀ : Store} {w₀ : World} {Q : AExit → Env → Store → Prop} {e : Exit} {a : Act} {w : World} (h : APost Λ σ₀ w₀ N ds Q e a w) : TPost r Λ σ₀ w₀ N ds Q e a w := by
  obtain ⟨ex, env, σ, h1, h2, h3, h4, h5, h6, h7⟩ := h
  exact ⟨ex, env, σ, h1, h2, h3, h4, h5, h6, by rw [h7]; exact Marks.refl _ _ _ _ _⟩
theorem TPost.trans {σ₀ σ₁ : Store} {w₀ w₁ : World} {ds₁ : List Deferred} {Q : AExit → Env → Store → Prop} {e : Exit} {a : Act} {w : World} (hA : Adv Λ σ₀ w₀ σ₁ w₁) (hM : Marks r w₀ σ₁ w₁ ds ds₁) (h : TPost r Λ σ₁ w₁ N ds₁ Q e a w) : TPost r Λ σ₀ w₀ N ds Q e a w := by
  obtain ⟨ex, env, σ, h1, h2, h3, h4, h5, h6, h7⟩ := h
  exact ⟨ex, env, σ, h1, h2, h3, h4, hA.trans h5, h6, hM.trans h5 hA.size h7⟩
theorem TPost.mono {σ₀ : Store} {w₀ : World} {Q Q' : AExit → Env → Store → Prop} {e : Exit} {a : Act} {w : World} (h : TPost r Λ σ₀ w₀ N ds Q e a w) (hq : ∀ ex env σ, Q ex env σ → Q' ex env σ) : TPost r Λ σ₀ w₀ N ds Q' e a w := by
  obtain ⟨ex, env, σ, h1, h2⟩ := h
  exact ⟨ex, env, σ, hq _ _ _ h1, h2⟩
theorem cell_no {w : World} {b o : Nat} {ob : Obj} (h : w.heap[b]? = some ob) (hc : ob.isCells = false) : w.cell? ⟨b, o, none⟩ = none := by
  unfold World.cell?
  rw [h]
  cases ob <;> first | rfl | (simp [Obj.isCells] at hc)
/-- a block that is neither owned nor cells turns into another such: nobody sees it -/
theorem hle_put {σ : Store} {w : World} {L : Nat} {ob ob' : Obj} (h : w.heap[L]? = some ob) (hc : ob.isCells = false) : HLe (Hh Λ σ w) (Hh Λ σ (w.putObj L ob')) := by
  intro b o c hb
  obtain ⟨h1, h2, h3⟩ := Hh_some hb
  rw [Hh_of h1 h2]
  by_cases he : b = L
  · subst he
    rw [cell_no h hc] at h3
    cases h3
  · rw [← h3]
    exact World.cell?_of_block (w := w) (World.putObj_heap_other he)
theorem Rel.put {σ : Store} {w : World} {L : Nat} {ob ob' : Obj} (hR : Rel Λ σ w) (hL : σ L = none) (h : w.heap[L]? = some ob) (hc : ob.isCells = false) : Rel Λ σ (w.putObj L ob') where
  own n o ho := by
    obtain ⟨h1, o', h2, h3⟩ := hR.own n o ho
    have : n ≠ L := fun e => by subst e; rw [hL] at ho; cases ho
    exact ⟨h1, o', (World.putObj_heap_other this).trans h2, ORel.mono (hle_put h hc) h3⟩
  lock n hn := by simpa using hR.lock n hn
theorem res_rangeFunc {g : Operand} {ps : Array Tmp} {as bd : Code} {ac : ACode} (h : res P N pu fz (.rangeFunc g ps as bd) = some ac) :
    ∃ g' a b, rOpd g = some g' ∧ res P N pu fz as = some a ∧ res P N pu fz bd = some b ∧ (∀ p ∈ ps.toList, p < N) ∧ ac = .rangef [] g' ps.toList a b := by
  simp only [res] at h
  split at h
  · rename_i g' a b h1 h2 h3
    split at h
    · rename_i hp
      cases h
      rw [List.all_eq_true] at hp
      exact ⟨g', a, b, h1, h2, h3, fun p hp' => by have := hp p hp'; rwa [Nat.blt_eq] at this, rfl⟩
    · cases h
  · cases h

/-- **T is enough** -/
theorem T_sound : ∀ {c : Code} {ac : ACode}, res P N pu fz c = some (erase ac) → ∀ {Q : AExit → Env → Store → Prop} {env : Env} {σ : Store} {a : Act} {w : World}, T P ac Q env σ →
    ERel (Hh Λ σ w) env a.tmps → Rel Λ σ w → a.tmps.size = N → RoundOk r σ w → wpK r P c (TPost r Λ σ w N a.defers Q) a w := by
  intro c
  induction c with
  | skip =>
    intro ac hc Q env σ a w h he hR hN hrd
    cases ac <;> simp only [res, erase, Option.some.injEq, reduceCtorEq] at hc
    exact wpK_of (n := 0) <| wpIn_skip ⟨.normal, env, σ, h, rfl, he, hR, Adv.refl _ _ _, hN, Marks.refl _ _ _ _ _⟩
  | label l =>
    intro ac hc Q env σ a w h he hR hN hrd
    cases ac <;> simp only [res, erase, Option.some.injEq, reduceCtorEq] at hc
    exact wpK_of (n := 0) <| wpIn_label ⟨.normal, env, σ, h, rfl, he, hR, Adv.refl _ _ _, hN, Marks.refl _ _ _ _ _⟩
  | ret =>
    intro ac hc Q env σ a w h he hR hN hrd
    cases ac <;> simp only [res, erase, Option.some.injEq, reduceCtorEq] at hc
    exact wpK_of (n := 0) <| wpIn_ret ⟨.ret, env, σ, h, rfl, he, hR, Adv.refl _ _ _, hN, Marks.refl _ _ _ _ _⟩
  | exit id =>
    intro ac hc Q env σ a w h he hR hN hrd
    cases ac <;> simp only [res, erase, Option.some.injEq, reduceCtorEq, ACode.exit.injEq] at hc
    subst hc
    exact wpK_of (n := 0) <| wpIn_exit ⟨.exit _, env, σ, h, rfl, he, hR, Adv.refl _ _ _, hN, Marks.refl _ _ _ _ _⟩
  | seq x y ihx ihy =>
    intro ac hc Q env σ a w h he hR hN hrd
    simp only [res] at hc
    split at hc
    · rename_i ax ay h1 h2
      cases ac <;> simp only [erase, Option.some.injEq, reduceCtorEq, ACode.seq.injEq] at hc
      rename_i l ax' ay'
      obtain ⟨_, rfl, rfl⟩ := hc
      simp only [T] at h
      refine wpK_seq (wpK_mono (ihx h1 h he hR hN hrd) ?_)
      rintro e a' w' ⟨ex, env', σ', hq, hx, he', hR', hA, hN', hM'⟩
      cases ex with
      | normal =>
        simp only [XRel] at hx
        subst hx
        exact wpK_mono (ihy h2 hq (he'.prune l) hR' hN' (hrd.adv hA)) fun e a w hp => hp.trans hA hM'
      | exit id => simp only [XRel] at hx; subst hx; exact ⟨.exit id, env', σ', hq, rfl, he', hR', hA, hN', hM'⟩
      | ret => simp only [XRel] at hx; subst hx; exact ⟨.ret, env', σ', hq, rfl, he', hR', hA, hN', hM'⟩
      | pan v => obtain ⟨c, rfl, hv⟩ := hx; exact ⟨.pan v, env', σ', hq, ⟨c, rfl, hv⟩, he', hR', hA, hN', hM'⟩
    · cases hc
  | cond c x y ihx ihy =>
    intro ac hc Q env σ a w h he hR hN hrd
    simp only [res] at hc
    split at hc
    · rename_i c' ax ay h0 h1 h2
      cases ac <;> simp only [erase, Option.some.injEq, reduceCtorEq, ACode.cond.injEq] at hc
      obtain ⟨rfl, rfl, rfl⟩ := hc
      simp only [T] at h
      split at h
      · rename_i t ht
        have hv := ev_rel he h0 ht
        simp only [VRel] at hv
        exact wpK_cond hv (fun e => ihx h1 (h.1 e) he hR hN hrd) (fun e => ihy h2 (h.2 e) he hR hN hrd)
      · exact h.elim
    · cases hc
  | block id x ih =>
    intro ac hc Q env σ a w h he hR hN hrd
    obtain ⟨ax, h1, hc⟩ := opt_map_some hc
    cases ac <;> simp only [erase, reduceCtorEq, ACode.block.injEq] at hc
    obtain ⟨rfl, rfl⟩ := hc
    simp only [T] at h
    refine wpK_block (wpK_mono (ih h1 h he hR hN hrd) ?_)
    rintro e a' w' ⟨ex, env', σ', hq, hx, he', hR', hA, hN', hM'⟩
    cases ex with
    | normal => simp only [XRel] at hx; subst hx; exact ⟨.normal, env', σ', hq, rfl, he', hR', hA, hN', hM'⟩
    | exit id' =>
      simp only [XRel] at hx
      subst hx
      simp only [AExit.inBlock] at hq
      simp only [Exit.inBlock]
      cases hb : Nat.beq id' id with
      | true =>
        rw [hb] at hq
        simp only [cond_true] at hq
        rw [if_pos (Nat.eq_of_beq_eq_true hb)]
        exact ⟨.normal, env', σ', hq, rfl, he', hR', hA, hN', hM'⟩
      | false =>
        rw [hb] at hq
        simp only [cond_false] at hq
        rw [if_neg (Nat.ne_of_beq_eq_false hb)]
        exact ⟨.exit id', env', σ', hq, rfl, he', hR', hA, hN', hM'⟩
    | ret => simp only [XRel] at hx; subst hx; exact ⟨.ret, env', σ', hq, rfl, he', hR', hA, hN', hM'⟩
    | pan v => obtain ⟨c, rfl, hv⟩ := hx; exact ⟨.pan v, env', σ', hq, ⟨c, rfl, hv⟩, he', hR', hA, hN', hM'⟩
  | scope x ih =>
    intro ac hc Q env σ a w h he hR hN hrd
    obtain ⟨ax, h1, hc⟩ := opt_map_some hc
    cases ac <;> simp only [erase, reduceCtorEq, ACode.scope.injEq] at hc
    subst hc
    simp only [T] at h
    refine wpK_scope (wpK_mono (ih h1 h he hR hN hrd) ?_)
    rintro e a' w' ⟨ex, env', σ', hq, hx, he', hR', hA, hN', hM'⟩
    cases ex with
    | normal => simp only [XRel] at hx; subst hx; exact ⟨.normal, env', σ', hq, rfl, he', hR', hA, hN', hM'⟩
    | exit id => simp only [XRel] at hx; subst hx; exact ⟨.exit id, env', σ', hq, rfl, he', hR', hA, hN', hM'⟩
    | ret => simp only [XRel] at hx; subst hx; exact ⟨.ret, env', σ', hq, rfl, he', hR', hA, hN', hM'⟩
    | pan v => obtain ⟨c, rfl, hv⟩ := hx; exact ⟨.pan v, env', σ', hq, ⟨c, rfl, hv⟩, he', hR', hA, hN', hM'⟩
  | loop x ih =>
    intro ac hc Q env σ a w h he hR hN hrd
    obtain ⟨ax, h1, hc⟩ := opt_map_some hc
    cases ac <;> simp only [erase, reduceCtorEq, ACode.loop.injEq] at hc
    rename_i keep ac' _
    obtain ⟨_, rfl⟩ := hc
    simp only [T] at h
    obtain ⟨I, ⟨n0, h0⟩, hround⟩ := h
    let J : Nat → Act → World → Prop := fun m a' w' => ∃ env' σ', I m env' σ' ∧ ERel (Hh Λ σ' w') env' a'.tmps ∧ Rel Λ σ' w' ∧ Adv Λ σ w σ' w' ∧ a'.tmps.size = N ∧ Marks r w σ' w' a.defers a'.defers
    have hmin : ∀ a' w', (∃ m, J m a' w') → ∃ m, J m a' w' ∧ ∀ k, J k a' w' → m ≤ k := fun a' w' hex => exists_min hex
    classical
    refine wpK_loop (fun a' w' => ∃ m, J m a' w') (fun a' w' => if hx : ∃ m, J m a' w' then Classical.choose (hmin a' w' hx) else 0) ⟨n0, Gl.prune keep env, σ, h0, he.prune keep, hR, Adv.refl _ _ _, hN, Marks.refl _ _ _ _ _⟩ ?_
    intro a' w' hex
    have hspec := (Classical.choose_spec (hmin a' w' hex)).1
    obtain ⟨env', σ', hI, he', hR', hA', hN', hM'⟩ := hspec
    refine wpK_mono (ih h1 (hround _ env' σ' hI) he' hR' hN' (hrd.adv hA')) ?_
    rintro e a'' w'' ⟨ex, env'', σ'', hq, hx, he'', hR'', hA'', hN'', hM''⟩
    have hM3 := hM'.trans hA'' hA'.size hM''
    cases ex with
    | normal =>
      simp only [XRel] at hx
      subst hx
      obtain ⟨m, hm, hI'⟩ := hq
      have hJ : J m a'' w'' := ⟨_, σ'', hI', he''.prune keep, hR'', hA'.trans hA'', hN'', hM3⟩
      refine ⟨⟨m, hJ⟩, ?_⟩
      rw [dif_pos hex, dif_pos ⟨m, hJ⟩]
      exact Nat.lt_of_le_of_lt ((Classical.choose_spec (hmin a'' w'' ⟨m, hJ⟩)).2 m hJ) hm
    | exit id => simp only [XRel] at hx; subst hx; exact ⟨.exit id, env'', σ'', hq, rfl, he'', hR'', hA'.trans hA'', hN'', hM3⟩
    | ret => simp only [XRel] at hx; subst hx; exact ⟨.ret, env'', σ'', hq, rfl, he'', hR'', hA'.trans hA'', hN'', hM3⟩
    | pan v => obtain ⟨c, rfl, hv⟩ := hx; exact ⟨.pan v, env'', σ'', hq, ⟨c, rfl, hv⟩, he'', hR'', hA'.trans hA'', hN'', hM3⟩
  | region id ops draw =>
    intro ac hc Q env σ a w h he hR hN hrd
    simp only [res] at hc
    split at hc
    · cases hc
    · rename_i as h1
      obtain ⟨h2, h3⟩ := rOpers_get h1
      cases draw with
      | false =>
        simp only [cond_false, Option.some.injEq] at hc
        cases ac <;> simp only [erase, reduceCtorEq, ACode.reg.injEq] at hc
        subst hc
        simp only [T] at h
        refine wpK_of (n := 0) <| wpIn_mono (wpIn_region (Q := APost Λ σ w N a.defers Q) ?_) fun _ _ _ h => h.t
        rw [List.range_eq_range', show ops.size = as.length by simpa using h2]
        exact tops_sound (fun _ _ h => h) (fun _ _ _ h => h) as 0 (fun i o ho => h3 i o (by simpa using ho)) (by simpa using h2) env σ a w h he hR (Adv.refl _ _ _) hN rfl
      | true =>
        simp only [cond_true] at hc
        cases hm : P.follows .mixedOrders with
        | false => rw [hm] at hc; cases hc
        | true =>
          rw [hm] at hc
          simp only [cond_true] at hc
          obtain ⟨C, hC, hc⟩ := opt_map_some hc
          cases ac <;> simp only [erase, reduceCtorEq, ACode.dreg.injEq] at hc
          obtain ⟨_, rfl⟩ := hc
          simp only [T] at h
          exact wpK_of (n := 0) <| wpIn_mono (dreg_sound hm h1 hC h he hR hN rfl) fun _ _ _ h => h.t
  | rangeFunc g ps as bd ih1 ih2 =>
    intro ac hc Q env σ a w h he hR hN hrd
    obtain ⟨g', ac1, ac2, h1, h2, h3, h4, hc⟩ := res_rangeFunc hc
    cases ac <;> simp only [erase, reduceCtorEq, ACode.rangef.injEq] at hc
    rename_i keep g1 ps1 aa ab _
    obtain ⟨_, rfl, rfl, rfl, rfl⟩ := hc
    simp only [T] at h
    split at h
    · rename_i gf cap hg
      have hgv := ev_rel he h1 hg
      obtain ⟨f', c', e1, e2, e3, e4, e5⟩ := hgv
      have e2' : f' = #[] := Array.size_eq_zero_iff.1 e2
      subst e2'
      refine wpK_rangeFunc fun fn hfnP => ?_
      -- the record's block, the marks, the world with the record
      obtain ⟨L, mark, W1, lp, hrun, hlp, hfr, hR1, hA1, hM1, hrd1⟩ : ∃ (L : Nat) (mark : List Deferred) (W1 : World) (lp : Loop), (Instr.enterLoop fn a.tmps ps as bd r).run P w = .ok (L, mark) W1 ∧
          (W1.heap[L]? = some (.loop lp) ∧ lp.state = .ready ∧ lp.pending = none ∧ lp.tmps = a.tmps ∧ lp.params = ps ∧ lp.assign = as ∧ lp.body = bd) ∧ σ L = none ∧
          Rel Λ (upd σ L (.loop .ready (Gl.prune keep env) (loopOk P ps.toList aa ab))) W1 ∧ Adv Λ σ w (upd σ L (.loop .ready (Gl.prune keep env) (loopOk P ps.toList aa ab))) W1 ∧ Marks r w (upd σ L (.loop .ready (Gl.prune keep env) (loopOk P ps.toList aa ab))) W1 a.defers (mark ++ a.defers) ∧
          RoundOk r (upd σ L (.loop .ready (Gl.prune keep env) (loopOk P ps.toList aa ab))) W1 := by
        have hor : ∀ (w' : World) (lp : Loop), Rel Λ σ w' → Adv Λ σ w σ w' → lp.state = .ready → lp.pending = none → lp.tmps = a.tmps → lp.params = ps → lp.assign = as → lp.body = bd → lp.fn = fn →
            ORel (Hh Λ σ w') (.loop .ready (Gl.prune keep env) (loopOk P ps.toList aa ab)) (.loop lp) := fun w' lp hR' hA' q1 q2 q3 q4 q5 q6 q7 => by
          refine ⟨lp, rfl, ⟨q1, q2⟩, fun k v hm => ?_, ?_⟩
          · rw [q3]
            have hg' : get k env = some v := mem_prune hm
            obtain ⟨c, hc1, hc2⟩ := he k v hg'
            exact ⟨c, hc1, hc2.mono hA'.hle⟩
          · rw [q3, q4, q5, q6, q7]
            exact ⟨hfnP, rfl, by rw [hN]; exact h4, pu, fz, by rw [hN]; exact h2, by rw [hN]; exact h3⟩
        clear ih1 ih2 h
        cases r with
        | none =>
          refine ⟨w.heap.size + 1, _, _, { state := .ready, pending := none, fn, tmps := a.tmps, params := ps, assign := as, body := bd, defers := w.heap.size }, run_enterLoop_outer fn a.tmps ps as bd, ?_⟩
          have hsz : (w.alloc (.deferred (some []))).heap.size = w.heap.size + 1 := by simp
          have hnew := World.alloc_heap_new (w.alloc (.deferred (some []))) (.loop { state := .ready, pending := none, fn, tmps := a.tmps, params := ps, assign := as, body := bd, defers := w.heap.size })
          rw [hsz] at hnew
          have hRa := rel_alloc' hR (.deferred (some []))
          have hAa : Adv Λ σ w σ (w.alloc (.deferred (some []))) := adv_alloc' w _
          have hAb : Adv Λ σ (w.alloc (.deferred (some []))) (upd σ (w.heap.size + 1) (.loop .ready (Gl.prune keep env) (loopOk P ps.toList aa ab))) ((w.alloc (.deferred (some []))).alloc (.loop { state := .ready, pending := none, fn, tmps := a.tmps, params := ps, assign := as, body := bd, defers := w.heap.size })) := by
            rw [← hsz]; exact adv_alloc _ _
          have hfr : σ w.heap.size = none := by
            cases hs : σ w.heap.size with
            | none => rfl
            | some o => exact absurd (hR.lt hs) (Nat.lt_irrefl _)
          refine ⟨⟨hnew, rfl, rfl, rfl, rfl, rfl, rfl⟩, ?_, ?_, hAa.trans hAb, ?_, ?_⟩
          · cases hs : σ (w.heap.size + 1) with
            | none => rfl
            | some o => have := hR.lt hs; omega
          · rw [← hsz]
            exact rel_alloc hRa (hor _ _ hRa hAa rfl rfl rfl rfl rfl rfl rfl)
          · refine Marks.adv (Λ := Λ) (σ := σ) (w := w.alloc (.deferred (some []))) ?_ hAb
            exact ⟨[w.heap.size], rfl, by simp, fun D hD => by
              rw [List.mem_singleton] at hD
              subst hD
              exact ⟨Nat.le_refl _, hfr, World.alloc_heap_new w _⟩, fun hne => absurd rfl hne⟩
          · exact (hrd.adv hAa).adv hAb
        | some l0 =>
          obtain ⟨hl1, lp0, hl2⟩ := hrd l0 rfl
          refine ⟨w.heap.size, _, _, { state := .ready, pending := none, fn, tmps := a.tmps, params := ps, assign := as, body := bd, defers := lp0.defers }, run_enterLoop_inner hl2 fn a.tmps ps as bd, ?_⟩
          refine ⟨⟨World.alloc_heap_new w _, rfl, rfl, rfl, rfl, rfl, rfl⟩, ?_, rel_alloc hR (hor _ _ hR (Adv.refl _ _ _) rfl rfl rfl rfl rfl rfl rfl), adv_alloc _ _, Marks.adv (Λ := Λ) (Marks.refl _ _ _ _ _) (adv_alloc _ _), hrd.adv (Λ := Λ) (adv_alloc _ _)⟩
          cases hs : σ w.heap.size with
          | none => rfl
          | some o => exact absurd (hR.lt hs) (Nat.lt_irrefl _)
      obtain ⟨hok, hctr⟩ := h L hfr
      refine ⟨L, mark, W1, { target := .fn (.func gf) c', args := #[.func (.yield L) #[] #[]] }, W1, gf, #[.func (.yield L) #[] #[]] ++ c', W1, hrun, ?_, ?_, ?_⟩
      · simp only [resolve, e1]
        simp [go_sem]
      · simp only [invoke]
        exact run_callFunc hok _ _
      · refine callsIn_wideR ?_
        have hargs : VsL (Hh Λ (upd σ L (.loop .ready (Gl.prune keep env) (loopOk P ps.toList aa ab))) W1) (.f (.yield L) [] [] :: cap) (#[.func (.yield L) #[] #[]] ++ c') := by
          have h0 : VsL (Hh Λ (upd σ L (.loop .ready (Gl.prune keep env) (loopOk P ps.toList aa ab))) W1) [.f (.yield L) [] []] #[.func (.yield L) #[] #[]] :=
            ⟨rfl, ⟨_, rfl, #[], #[], rfl, rfl, trivial, rfl, trivial⟩, trivial⟩
          exact vsL_append h0 ⟨e4, VsAt.mono hA1.hle (fun _ _ e => e) _ _ e5⟩
        refine Calls.mono (hctr Λ W1 _ hR1 hargs) ?_
        rintro e W2 ⟨rr, σ2, hq, hrr, hR2, hA2⟩
        cases rr with
        | pan v =>
          obtain ⟨c, rfl, hv⟩ := hrr
          have hsub := sub_del σ2 L
          exact ⟨.pan v, env, del σ2 L, hq, ⟨c, rfl, hv.mono (Hh_less fun n hn => hsub.none hn)⟩, (he.mono (hA1.trans hA2).hle).mono (Hh_less fun n hn => hsub.none hn), hR2.drop hsub, (hA1.trans hA2).trans (Adv.drop W2 hsub), hN,
            (hM1.adv hA2).adv (Adv.drop (Λ := Λ) W2 hsub)⟩
        | ret v =>
          obtain ⟨c, rfl, hv⟩ := hrr
          obtain ⟨st, env1, ok, hL2, hq⟩ := hq
          have hsub := sub_del σ2 L
          obtain ⟨hnl, ob, hob, lp2, rfl, hst, _, _⟩ := hR2.own L _ hL2
          have hRd := hR2.drop hsub
          have hRf : Rel Λ (del σ2 L) (W2.putObj L (.loop { lp2 with state := .exhausted })) := hRd.put (del_same σ2 L) hob rfl
          have hAf : Adv Λ σ2 W2 (del σ2 L) (W2.putObj L (.loop { lp2 with state := .exhausted })) := by
            refine ⟨fun n hn h0 => World.putObj_heap_other fun e => ?_, by simp, rfl, rfl, rfl, fun n h0 _ => hsub.none h0⟩
            subst e
            rw [hL2] at h0
            cases h0
          have hend := run_endLoop (P := P) hob (by cases st <;> simp only [stOk] at hst <;> rw [hst.1] <;> simp)
          generalize W2.putObj L (.loop { lp2 with state := .exhausted }) = W3 at hRf hAf hend
          have hAA := (hA1.trans hA2).trans hAf
          have hMM := (hM1.adv hA2).adv hAf
          refine ⟨lp2.pending, _, hend, ?_⟩
          cases st with
          | ready =>
            rw [hst.2]
            exact ⟨.normal, env, del σ2 L, hq, rfl, he.mono hAA.hle, hRf, hAA, hN, hMM⟩
          | ret =>
            rw [hst.2]
            exact wpK_of (n := 0) <| wpIn_ret ⟨.ret, env, del σ2 L, hq, rfl, he.mono hAA.hle, hRf, hAA, hN, hMM⟩
          | exit id =>
            rw [hst.2]
            exact wpK_of (n := 0) <| wpIn_exit ⟨.exit id, env, del σ2 L, hq, rfl, he.mono hAA.hle, hRf, hAA, hN, hMM⟩
    · exact h.elim
  | goto l => intro ac hc; cases hc
  | refuse s => intro ac hc; cases hc
end Go.Gl
