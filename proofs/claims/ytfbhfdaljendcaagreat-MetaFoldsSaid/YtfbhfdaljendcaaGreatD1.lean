/-
  D 1: programs by numbers, facts, worlds, objects, as plain data; how they stand in cells.
-/
import Derived.Test.YtfbhfdaljendcaaGreatGl21
set_option linter.all false
set_option linter.unusedVariables false
set_option linter.unusedSimpArgs false
namespace Go.Gl
structure Cls where
  parents : List Int
  slots : List Int
  inits : List (Int × Int)
  deriving DecidableEq, Inhabited
structure Node where
  op : Int
  n : Int
  kids : List Int
  deriving DecidableEq, Inhabited
inductive Fact where
  | mk (op arg : Int) (path : List Int) (cls n : Int) (kids : List Fact)
  deriving Inhabited
namespace Fact
def op : Fact → Int | mk o _ _ _ _ _ => o
def arg : Fact → Int | mk _ a _ _ _ _ => a
def path : Fact → List Int | mk _ _ p _ _ _ => p
def cls : Fact → Int | mk _ _ _ c _ _ => c
def n : Fact → Int | mk _ _ _ _ n _ => n
def kids : Fact → List Fact | mk _ _ _ _ _ k => k
mutual
def cata {α : Type} (g : Fact → List α → α) : Fact → α
  | .mk o a p c n k => g (.mk o a p c n k) (cataL g k)
  termination_by structural f => f
def cataL {α : Type} (g : Fact → List α → α) : List Fact → List α
  | [] => []
  | x :: r => cata g x :: cataL g r
  termination_by structural l => l
end
theorem cataL_eq {α : Type} (g : Fact → List α → α) (l : List Fact) : cataL g l = l.map (cata g) := by
  induction l with
  | nil => rfl
  | cons x r ih => simp [cataL, ih]
theorem cata_eq {α : Type} (g : Fact → List α → α) (f : Fact) : cata g f = g f (f.kids.map (cata g)) := by
  cases f with
  | mk o a p c n k => simp [cata, cataL_eq, kids]
theorem ind {motive : Fact → Prop} (h : ∀ f, (∀ k ∈ f.kids, motive k) → motive f) (f : Fact) : motive f := by
  refine Fact.rec (motive_1 := motive) (motive_2 := fun l => ∀ k ∈ l, motive k) (fun o a p c n k ih => h _ ih) (fun _ h => by cases h) (fun x r hx hr k hk => ?_) f
  rcases List.mem_cons.1 hk with rfl | hk
  · exact hx
  · exact hr k hk
/-- how much a fact is -/
def size (f : Fact) : Nat := cata (fun f l => 1 + f.path.length + f.kids.length + l.sum) f
theorem size_eq (f : Fact) : f.size = 1 + f.path.length + f.kids.length + (f.kids.map size).sum := cata_eq _ f
theorem size_kid {f k : Fact} (h : k ∈ f.kids) : k.size < f.size := by
  have : ∀ l : List Fact, k ∈ l → k.size ≤ (l.map size).sum := fun l => by
    induction l with
    | nil => intro h; cases h
    | cons x r ih =>
      intro h
      simp only [List.map_cons, List.sum_cons]
      rcases List.mem_cons.1 h with rfl | h
      · omega
      · have := ih h; omega
  have := this _ h
  rw [size_eq f]
  omega
end Fact
structure Meth where
  kind : Int
  gen : Int
  fact : Fact
  node : Int
  deriving Inhabited
structure Prog where
  classes : List Cls
  slots : Int
  gens : List Int
  methods : List Meth
  nodes : List Node
  main : Int
  deriving Inhabited
structure FWorld where
  parents : List (List Int)
  owner : List Int
  deriving DecidableEq, Inhabited
structure Val where
  kind : Int
  n : Int
  deriving DecidableEq, Inhabited
structure Thing where
  cls : Int
  slots : List Val
  deriving DecidableEq, Inhabited
abbrev eI (n : Int) : V := .i .i64 n
def eCls (c : Cls) : List V := [.l (iL c.parents) false, .l (iL c.slots) false, .l (c.inits.map fun p => [eI p.1, eI p.2]) false]
def eNode (x : Node) : List V := [eI x.op, eI x.n, .l (iL x.kids) false]
def eFact (f : Fact) : List V := f.cata fun f l => [eI f.op, eI f.arg, .l (iL f.path) false, eI f.cls, eI f.n, .l l false]
abbrev xF (f : Fact) : List V := [eI f.op, eI f.arg, .l (iL f.path) false, eI f.cls, eI f.n, .l (f.kids.map eFact) false]
theorem eFact_eq (f : Fact) : eFact f = xF f := Fact.cata_eq _ f
abbrev facts (l : List Fact) : List (List V) := l.map eFact
def eMeth (m : Meth) : List V := [eI m.kind, eI m.gen, eI m.fact.op, eI m.fact.arg, .l (iL m.fact.path) false, eI m.fact.cls, eI m.fact.n, .l (facts m.fact.kids) false, eI m.node]
def eProg (p : Prog) : List V := [.l (p.classes.map eCls) false, eI p.slots, .l (iL p.gens) false, .l (p.methods.map eMeth) false, .l (p.nodes.map eNode) false, eI p.main]
def eWorld (w : FWorld) : List V := [.l (iLL w.parents) false, .l (iL w.owner) false]
def eVal (v : Val) : List V := [eI v.kind, eI v.n]
def eThing (o : Thing) : List V := [eI o.cls, .l (o.slots.map eVal) false]
end Go.Gl
