/-
  NARROWER THAN 'FOR EVERY INPUT', by the rows' own cells (each row's printed sentence says how): GapGrows: loops · GapLeasts: loops · GapLeast: loops · GapReal: loops.
  DERIVED. THE GIVEN ROWS OF THIS SEAT. 4 by the template 'for every input the law returns true; each argument reads behind the call as it read before'; 0 by the template 'total and deterministic' (their statements: YtnidfcmdimehdaaGreatTotals.lean).
  GIVEN WITH THE SEED: the statements are not yours to turn. If you find one false, say at which input.
  Laid BY PROGRAM, IN A SANDBOX (cutbox-rows.mjs): the forced cells as the released guide's own fill.sh prints them over the translation 178d3c8617ef019d… (all of the seat's roots in one cut). By AI agents, Wed Nov 11 2026. No macro, syntax, notation, axiom, sorry.
-/
import Derived.Test.YtnidfcmdimehdaaGreatChecked
import GoSem.Claim
import GoSem.ClaimJoined
import GoSem.ClaimMapViews
import Derived.JoinedTies
import Derived.KernelRfl
namespace Go.Proofs.YtnidfcmdimehdaaGreat
/- THE CELL 'sum', in the pinned program and in every row, IS THE sha256 OF THE DUMP (.gsa) THAT YtnidfcmdimehdaaGreatProg.lean LOADS. Nothing in Lean hashes anything: it is a label: what it is worth is what the hold of that sum in a sandbox is worth. -/
noncomputable def Tryz.pinned : Pinned := { name := "ytnidfcmdimehdaagreat", sum := "178d3c8617ef019df630959f6d9b553e50803d8f70007f49ba74d34af462b9ae", checked := Tryz.checked }
namespace Rows
def none {H : Type} : Left H := { results := [], args := [] }

/-- 'consortlaw08.GapGrows': WHATEVER THE INPUT: true; the input reads as it did. -/
def gapGrowsSpec : ChangeSpec := { name := "gapGrows", fn := fun _ => fun
  | [d1, d2, d3] => { results := [.lit (.bool true)], args := [d1, d2, d3] }
  | _ => none }
def gapGrowsRow : OpenClaim := { program := "ytnidfcmdimehdaagreat", sum := "178d3c8617ef019df630959f6d9b553e50803d8f70007f49ba74d34af462b9ae", func := "consort/consortlaw08.GapGrows", spec := "gapGrows", unfollowed := true, recurses := true, loops := true, plainKeys := false, apart := false }
def GapGrowsSaid : Prop := gapGrowsRow.holds Tryz.pinned (OpenSpec.ofChange gapGrowsSpec)

/-- ITS FALSE NEIGHBOUR: 'it returns false'. Refute it at one input. -/
def gapGrowsWrong : ChangeSpec := { name := "gapGrows", fn := fun _ => fun
  | [d1, d2, d3] => { results := [.lit (.bool false)], args := [d1, d2, d3] }
  | _ => none }
def GapGrowsWrongFalsely : Prop := gapGrowsRow.holds Tryz.pinned (OpenSpec.ofChange gapGrowsWrong)

/-- 'consortlaw08.GapLeasts': WHATEVER THE INPUT: true; the input reads as it did. -/
def gapLeastsSpec : ChangeSpec := { name := "gapLeasts", fn := fun _ => fun
  | [d] => { results := [.lit (.bool true)], args := [d] }
  | _ => none }
def gapLeastsRow : OpenClaim := { program := "ytnidfcmdimehdaagreat", sum := "178d3c8617ef019df630959f6d9b553e50803d8f70007f49ba74d34af462b9ae", func := "consort/consortlaw08.GapLeasts", spec := "gapLeasts", unfollowed := true, recurses := true, loops := true, plainKeys := false, apart := false }
def GapLeastsSaid : Prop := gapLeastsRow.holds Tryz.pinned (OpenSpec.ofChange gapLeastsSpec)

/-- ITS FALSE NEIGHBOUR: 'it returns false'. Refute it at one input. -/
def gapLeastsWrong : ChangeSpec := { name := "gapLeasts", fn := fun _ => fun
  | [d] => { results := [.lit (.bool false)], args := [d] }
  | _ => none }
def GapLeastsWrongFalsely : Prop := gapLeastsRow.holds Tryz.pinned (OpenSpec.ofChange gapLeastsWrong)

/-- 'consortlaw08.GapLeast': WHATEVER THE INPUT: true; the input reads as it did. -/
def gapLeastSpec : ChangeSpec := { name := "gapLeast", fn := fun _ => fun
  | [d] => { results := [.lit (.bool true)], args := [d] }
  | _ => none }
def gapLeastRow : OpenClaim := { program := "ytnidfcmdimehdaagreat", sum := "178d3c8617ef019df630959f6d9b553e50803d8f70007f49ba74d34af462b9ae", func := "consort/consortlaw08.GapLeast", spec := "gapLeast", unfollowed := true, recurses := true, loops := true, plainKeys := false, apart := false }
def GapLeastSaid : Prop := gapLeastRow.holds Tryz.pinned (OpenSpec.ofChange gapLeastSpec)

/-- ITS FALSE NEIGHBOUR: 'it returns false'. Refute it at one input. -/
def gapLeastWrong : ChangeSpec := { name := "gapLeast", fn := fun _ => fun
  | [d] => { results := [.lit (.bool false)], args := [d] }
  | _ => none }
def GapLeastWrongFalsely : Prop := gapLeastRow.holds Tryz.pinned (OpenSpec.ofChange gapLeastWrong)

/-- 'consortlaw08.GapReal': WHATEVER THE INPUT: true; the input reads as it did. -/
def gapRealSpec : ChangeSpec := { name := "gapReal", fn := fun _ => fun
  | [d1, d2, d3] => { results := [.lit (.bool true)], args := [d1, d2, d3] }
  | _ => none }
def gapRealRow : OpenClaim := { program := "ytnidfcmdimehdaagreat", sum := "178d3c8617ef019df630959f6d9b553e50803d8f70007f49ba74d34af462b9ae", func := "consort/consortlaw08.GapReal", spec := "gapReal", unfollowed := true, recurses := true, loops := true, plainKeys := false, apart := false }
def GapRealSaid : Prop := gapRealRow.holds Tryz.pinned (OpenSpec.ofChange gapRealSpec)

/-- ITS FALSE NEIGHBOUR: 'it returns false'. Refute it at one input. -/
def gapRealWrong : ChangeSpec := { name := "gapReal", fn := fun _ => fun
  | [d1, d2, d3] => { results := [.lit (.bool false)], args := [d1, d2, d3] }
  | _ => none }
def GapRealWrongFalsely : Prop := gapRealRow.holds Tryz.pinned (OpenSpec.ofChange gapRealWrong)

/- THE SECOND FORM. 'bulk': how many values and letters a reading holds, each counted each time it is reached (what is shared counts as often as it is met; a slice's spare places count too). A statement '..UptoSaid' is the law's where the arguments, and the package variables that the reading takes, are together of bulk at most 1048576: NARROWER than '..Said'. Prove '..Said' where nothing that the law and all that it calls make is longer than what came in: it says more and counts as full. Else prove '..UptoSaid'. A law counts once. -/
mutual
def uptoBulk {H : Type} : DataW H → Nat
  | .lit (.string bytes) => bytes.length + 1
  | .lit _ => 1
  | .nil => 1
  | .ptr d => uptoBulk d + 1
  | .slice elems spare => uptoBulkAll elems + uptoBulkAll spare + 1
  | .agg parts => uptoBulkAll parts + 1
  | .iface _ d => uptoBulk d + 1
  | .map entries => uptoBulkEntries entries + 1
  | .held _ => 1
def uptoBulkAll {H : Type} : List (DataW H) → Nat
  | [] => 0
  | d :: r => uptoBulk d + uptoBulkAll r
def uptoBulkEntries {H : Type} : List (Lit × DataW H) → Nat
  | [] => 0
  | x :: r => uptoBulkEntry x + uptoBulkEntries r
def uptoBulkEntry {H : Type} : Lit × DataW H → Nat
  | (.string bytes, d) => bytes.length + uptoBulk d + 1
  | (_, d) => uptoBulk d + 1
 end
def uptoSmall : (H : Type) → List (DataW H) → Bool := fun _ ds => decide (uptoBulkAll ds ≤ 1048576)
def OpenSpec.upto (s : _root_.Go.ChangeSpec) : _root_.Go.OpenSpec := { _root_.Go.OpenSpec.ofChange s with cond := some uptoSmall }

/-- 'consortlaw08.GapGrows', WHERE WHAT IT READS IS OF BULK AT MOST 1048576: true; the input reads as it did. -/
def gapGrowsUptoRow : OpenClaim := { program := "ytnidfcmdimehdaagreat", sum := "178d3c8617ef019df630959f6d9b553e50803d8f70007f49ba74d34af462b9ae", func := "consort/consortlaw08.GapGrows", spec := "gapGrows", unfollowed := true, recurses := true, loops := true, plainKeys := false, apart := false, narrowed := true }
def GapGrowsUptoSaid : Prop := gapGrowsUptoRow.holds Tryz.pinned (OpenSpec.upto gapGrowsSpec)

/-- 'consortlaw08.GapLeasts', WHERE WHAT IT READS IS OF BULK AT MOST 1048576: true; the input reads as it did. -/
def gapLeastsUptoRow : OpenClaim := { program := "ytnidfcmdimehdaagreat", sum := "178d3c8617ef019df630959f6d9b553e50803d8f70007f49ba74d34af462b9ae", func := "consort/consortlaw08.GapLeasts", spec := "gapLeasts", unfollowed := true, recurses := true, loops := true, plainKeys := false, apart := false, narrowed := true }
def GapLeastsUptoSaid : Prop := gapLeastsUptoRow.holds Tryz.pinned (OpenSpec.upto gapLeastsSpec)

/-- 'consortlaw08.GapLeast', WHERE WHAT IT READS IS OF BULK AT MOST 1048576: true; the input reads as it did. -/
def gapLeastUptoRow : OpenClaim := { program := "ytnidfcmdimehdaagreat", sum := "178d3c8617ef019df630959f6d9b553e50803d8f70007f49ba74d34af462b9ae", func := "consort/consortlaw08.GapLeast", spec := "gapLeast", unfollowed := true, recurses := true, loops := true, plainKeys := false, apart := false, narrowed := true }
def GapLeastUptoSaid : Prop := gapLeastUptoRow.holds Tryz.pinned (OpenSpec.upto gapLeastSpec)

/-- 'consortlaw08.GapReal', WHERE WHAT IT READS IS OF BULK AT MOST 1048576: true; the input reads as it did. -/
def gapRealUptoRow : OpenClaim := { program := "ytnidfcmdimehdaagreat", sum := "178d3c8617ef019df630959f6d9b553e50803d8f70007f49ba74d34af462b9ae", func := "consort/consortlaw08.GapReal", spec := "gapReal", unfollowed := true, recurses := true, loops := true, plainKeys := false, apart := false, narrowed := true }
def GapRealUptoSaid : Prop := gapRealUptoRow.holds Tryz.pinned (OpenSpec.upto gapRealSpec)

end Rows
end Go.Proofs.YtnidfcmdimehdaaGreat
