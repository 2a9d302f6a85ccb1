/-
  EV 5: library functions that are taken whole; tables.
-/
import Derived.Test.YtfbhfdaljendcaaGreatEv4
set_option linter.all false
set_option linter.unusedVariables false
set_option linter.unusedSimpArgs false
namespace Go.Gl
variable {P : Program} {ρ ρ' : Ren} {σ : Store}
def cloneP (sz : Nat) (vs : List V) (s : St) : Option (R × St) :=
  match vs with
  | [.l es f] => match eRows s sz (.l es f) with
    | some [] => some (.ret (.l [] true), s)
    | some (y :: ys) => bif (y :: ys).all (fun e => e.all oneV) && Nat.ble (y :: ys).length maxL then s.new (.arr sz (y :: ys)) fun i s' => some (.ret (.sl i (y :: ys).length 0), s') else none
    | none => none
  | [.sl n len c] => match eRows s sz (.sl n len c) with
    | some [] => some (.ret (.l [] true), s)
    | some (y :: ys) => bif (y :: ys).all (fun e => e.all oneV) && Nat.ble (y :: ys).length maxL then s.new (.arr sz (y :: ys)) fun i s' => some (.ret (.sl i (y :: ys).length 0), s') else none
    | none => none
  | _ => none
def insI (x : Int) : List Int → List Int
  | [] => [x]
  | y :: r => bif leQ x y then x :: y :: r else y :: insI x r
def sortI (l : List Int) : List Int := l.foldr insI []
def intsOf : List (List V) → Option (List Int)
  | [] => some []
  | [.i .i64 n] :: r => ob (intsOf r) fun l => some (n :: l)
  | _ => none
def sortP (vs : List V) (s : St) : Option (R × St) :=
  match vs with
  | [.l [] _] => some (.ret (.t []), s)
  | [.sl n len _] => match s.t.get n with
    | some (.arr 1 es) => bif Nat.beq len es.length && Nat.ble len maxL then ob (intsOf es) fun l => Tr.put (some (.arr 1 ((sortI l).map fun n => [V.i .i64 n]))) depthTr s.t n fun t => some (.ret (.t []), ⟨s.nx, t⟩) else none
    | _ => none
  | _ => none
/-! tables -/
def AllTr {α : Type} (p : Nat → α → Prop) (f : Nat → Nat) (t : Tr α) : Prop := ∀ j a, t.get j = some a → p (f j) a
theorem allLeaf {α : Type} {p : Nat → α → Prop} {f : Nat → Nat} : AllTr p f .leaf := fun _ _ h => by cases h
theorem allNone {α : Type} {q : α → Prop} : ∀ a, (none : Option α) = some a → q a := fun _ h => by cases h
theorem allSome {α : Type} {q : α → Prop} {b : α} (h : q b) : ∀ a, some b = some a → q a := fun _ e => by cases e; exact h
theorem allNode {α : Type} {p : Nat → α → Prop} {f : Nat → Nat} {o : Option α} {l r : Tr α} (h : ∀ a, o = some a → p (f 0) a) (hl : AllTr p (fun j => f (2 * j + 1)) l) (hr : AllTr p (fun j => f (2 * j + 2)) r) : AllTr p f (.node o l r) := by
  intro j a ha
  cases j with
  | zero => exact h a ha
  | succ k =>
    simp only [Tr.get] at ha
    cases hb : Nat.beq (k % 2) 0 with
    | true =>
      rw [hb] at ha
      have := nbeq hb
      have e : 2 * (k / 2) + 1 = k + 1 := by omega
      rw [← e]
      exact hl _ a ha
    | false =>
      rw [hb] at ha
      have := Nat.ne_of_beq_eq_false hb
      have e : 2 * (k / 2) + 2 = k + 1 := by omega
      rw [← e]
      exact hr _ a ha
def tabOf (t : Tr FnS) : Tab := fun f => t.get f
theorem tabOf_ok {t : Tr FnS} (h : AllTr (fun i => FnOk P i) id t) : TabOk P (tabOf t) := fun f fs e => h f fs e
theorem memo_nil : MemoOk P (fun _ => []) := fun _ _ h => by cases h
end Go.Gl
