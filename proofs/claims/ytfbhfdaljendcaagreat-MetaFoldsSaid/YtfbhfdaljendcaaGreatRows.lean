/-
  NARROWER THAN 'FOR EVERY INPUT', by the rows' own cells (each row's printed sentence says how): MetaChecks: loops.
  DERIVED. THE GIVEN ROWS OF THIS SEAT. 4 by the template 'for every input the law returns true; each argument reads behind the call as it read before'; 0 by the template 'total and deterministic' (their statements: YtfbhfdaljendcaaGreatTotals.lean).
  GIVEN WITH THE SEED: the statements are not yours to turn. If you find one false, say at which input.
  Laid BY PROGRAM, IN A SANDBOX (cutbox-rows.mjs): the forced cells as the released guide's own fill.sh prints them over the translation c7c90d126baa4f7e… (all of the seat's roots in one cut). By AI agents, Wed Nov 11 2026. No macro, syntax, notation, axiom, sorry.
-/
import Derived.Test.YtfbhfdaljendcaaGreatChecked
import GoSem.Claim
import GoSem.ClaimJoined
import GoSem.ClaimMapViews
import Derived.JoinedTies
import Derived.KernelRfl
namespace Go.Proofs.YtfbhfdaljendcaaGreat
/- THE CELL 'sum', in the pinned program and in every row, IS THE sha256 OF THE DUMP (.gsa) THAT YtfbhfdaljendcaaGreatProg.lean LOADS. Nothing in Lean hashes anything: it is a label: what it is worth is what the hold of that sum in a sandbox is worth. -/
noncomputable def Tryz.pinned : Pinned := { name := "ytfbhfdaljendcaagreat", sum := "c7c90d126baa4f7e3fefd5f953159feba056930b8cec050f60c1660c2dd8851e", checked := Tryz.checked }
namespace Rows
def none {H : Type} : Left H := { results := [], args := [] }

/-- 'consortlaw08.GapKnown': WHATEVER THE INPUT: true; the input reads as it did. -/
def gapKnownSpec : ChangeSpec := { name := "gapKnown", fn := fun _ => fun
  | [] => { results := [.lit (.bool true)], args := [] }
  | _ => none }
def gapKnownRow : OpenClaim := { program := "ytfbhfdaljendcaagreat", sum := "c7c90d126baa4f7e3fefd5f953159feba056930b8cec050f60c1660c2dd8851e", func := "consort/consortlaw08.GapKnown", spec := "gapKnown", unfollowed := true, recurses := true, plainKeys := false, apart := false }
def GapKnownSaid : Prop := gapKnownRow.holds Tryz.pinned (OpenSpec.ofChange gapKnownSpec)

/-- ITS FALSE NEIGHBOUR: 'it returns false'. Refute it at one input. -/
def gapKnownWrong : ChangeSpec := { name := "gapKnown", fn := fun _ => fun
  | [] => { results := [.lit (.bool false)], args := [] }
  | _ => none }
def GapKnownWrongFalsely : Prop := gapKnownRow.holds Tryz.pinned (OpenSpec.ofChange gapKnownWrong)

/-- 'consortlaw20.MetaFolds': WHATEVER THE INPUT: true; the input reads as it did. -/
def metaFoldsSpec : ChangeSpec := { name := "metaFolds", fn := fun _ => fun
  | [d] => { results := [.lit (.bool true)], args := [d] }
  | _ => none }
def metaFoldsRow : OpenClaim := { program := "ytfbhfdaljendcaagreat", sum := "c7c90d126baa4f7e3fefd5f953159feba056930b8cec050f60c1660c2dd8851e", func := "consort/consortlaw20.MetaFolds", spec := "metaFolds", unfollowed := true, recurses := true, plainKeys := false, apart := false }
def MetaFoldsSaid : Prop := metaFoldsRow.holds Tryz.pinned (OpenSpec.ofChange metaFoldsSpec)

/-- ITS FALSE NEIGHBOUR: 'it returns false'. Refute it at one input. -/
def metaFoldsWrong : ChangeSpec := { name := "metaFolds", fn := fun _ => fun
  | [d] => { results := [.lit (.bool false)], args := [d] }
  | _ => none }
def MetaFoldsWrongFalsely : Prop := metaFoldsRow.holds Tryz.pinned (OpenSpec.ofChange metaFoldsWrong)

/-- 'consortlaw20.MetaKnown': WHATEVER THE INPUT: true; the input reads as it did. -/
def metaKnownSpec : ChangeSpec := { name := "metaKnown", fn := fun _ => fun
  | [] => { results := [.lit (.bool true)], args := [] }
  | _ => none }
def metaKnownRow : OpenClaim := { program := "ytfbhfdaljendcaagreat", sum := "c7c90d126baa4f7e3fefd5f953159feba056930b8cec050f60c1660c2dd8851e", func := "consort/consortlaw20.MetaKnown", spec := "metaKnown", unfollowed := true, recurses := true, plainKeys := false, apart := false }
def MetaKnownSaid : Prop := metaKnownRow.holds Tryz.pinned (OpenSpec.ofChange metaKnownSpec)

/-- ITS FALSE NEIGHBOUR: 'it returns false'. Refute it at one input. -/
def metaKnownWrong : ChangeSpec := { name := "metaKnown", fn := fun _ => fun
  | [] => { results := [.lit (.bool false)], args := [] }
  | _ => none }
def MetaKnownWrongFalsely : Prop := metaKnownRow.holds Tryz.pinned (OpenSpec.ofChange metaKnownWrong)

/-- 'consortlaw20.MetaChecks': WHATEVER THE INPUT: true; the input reads as it did. -/
def metaChecksSpec : ChangeSpec := { name := "metaChecks", fn := fun _ => fun
  | [d1, d2, d3, d4] => { results := [.lit (.bool true)], args := [d1, d2, d3, d4] }
  | _ => none }
def metaChecksRow : OpenClaim := { program := "ytfbhfdaljendcaagreat", sum := "c7c90d126baa4f7e3fefd5f953159feba056930b8cec050f60c1660c2dd8851e", func := "consort/consortlaw20.MetaChecks", spec := "metaChecks", unfollowed := true, recurses := true, loops := true, plainKeys := false, apart := false }
def MetaChecksSaid : Prop := metaChecksRow.holds Tryz.pinned (OpenSpec.ofChange metaChecksSpec)

/-- ITS FALSE NEIGHBOUR: 'it returns false'. Refute it at one input. -/
def metaChecksWrong : ChangeSpec := { name := "metaChecks", fn := fun _ => fun
  | [d1, d2, d3, d4] => { results := [.lit (.bool false)], args := [d1, d2, d3, d4] }
  | _ => none }
def MetaChecksWrongFalsely : Prop := metaChecksRow.holds Tryz.pinned (OpenSpec.ofChange metaChecksWrong)

/- THE SECOND FORM. 'bulk': how many values and letters a reading holds, each counted each time it is reached (what is shared counts as often as it is met; a slice's spare places count too). A statement '..UptoSaid' is the law's where the arguments, and the package variables that the reading takes, are together of bulk at most 1048576: NARROWER than '..Said'. Prove '..Said' where nothing that the law and all that it calls make is longer than what came in: it says more and counts as full. Else prove '..UptoSaid'. A law counts once. -/
mutual
def uptoBulk {H : Type} : DataW H → Nat
  | .lit (.string bytes) => bytes.length + 1
  | .lit _ => 1
  | .nil => 1
  | .ptr d => uptoBulk d + 1
  | .slice elems spare => uptoBulkAll elems + uptoBulkAll spare + 1
  | .agg parts => uptoBulkAll parts + 1
  | .iface _ d => uptoBulk d + 1
  | .map entries => uptoBulkEntries entries + 1
  | .held _ => 1
def uptoBulkAll {H : Type} : List (DataW H) → Nat
  | [] => 0
  | d :: r => uptoBulk d + uptoBulkAll r
def uptoBulkEntries {H : Type} : List (Lit × DataW H) → Nat
  | [] => 0
  | x :: r => uptoBulkEntry x + uptoBulkEntries r
def uptoBulkEntry {H : Type} : Lit × DataW H → Nat
  | (.string bytes, d) => bytes.length + uptoBulk d + 1
  | (_, d) => uptoBulk d + 1
 end
def uptoSmall : (H : Type) → List (DataW H) → Bool := fun _ ds => decide (uptoBulkAll ds ≤ 1048576)
def OpenSpec.upto (s : _root_.Go.ChangeSpec) : _root_.Go.OpenSpec := { _root_.Go.OpenSpec.ofChange s with cond := some uptoSmall }

/-- 'consortlaw08.GapKnown', WHERE WHAT IT READS IS OF BULK AT MOST 1048576: true; the input reads as it did. -/
def gapKnownUptoRow : OpenClaim := { program := "ytfbhfdaljendcaagreat", sum := "c7c90d126baa4f7e3fefd5f953159feba056930b8cec050f60c1660c2dd8851e", func := "consort/consortlaw08.GapKnown", spec := "gapKnown", unfollowed := true, recurses := true, plainKeys := false, apart := false, narrowed := true }
def GapKnownUptoSaid : Prop := gapKnownUptoRow.holds Tryz.pinned (OpenSpec.upto gapKnownSpec)

/-- 'consortlaw20.MetaFolds', WHERE WHAT IT READS IS OF BULK AT MOST 1048576: true; the input reads as it did. -/
def metaFoldsUptoRow : OpenClaim := { program := "ytfbhfdaljendcaagreat", sum := "c7c90d126baa4f7e3fefd5f953159feba056930b8cec050f60c1660c2dd8851e", func := "consort/consortlaw20.MetaFolds", spec := "metaFolds", unfollowed := true, recurses := true, plainKeys := false, apart := false, narrowed := true }
def MetaFoldsUptoSaid : Prop := metaFoldsUptoRow.holds Tryz.pinned (OpenSpec.upto metaFoldsSpec)

/-- 'consortlaw20.MetaKnown', WHERE WHAT IT READS IS OF BULK AT MOST 1048576: true; the input reads as it did. -/
def metaKnownUptoRow : OpenClaim := { program := "ytfbhfdaljendcaagreat", sum := "c7c90d126baa4f7e3fefd5f953159feba056930b8cec050f60c1660c2dd8851e", func := "consort/consortlaw20.MetaKnown", spec := "metaKnown", unfollowed := true, recurses := true, plainKeys := false, apart := false, narrowed := true }
def MetaKnownUptoSaid : Prop := metaKnownUptoRow.holds Tryz.pinned (OpenSpec.upto metaKnownSpec)

/-- 'consortlaw20.MetaChecks', WHERE WHAT IT READS IS OF BULK AT MOST 1048576: true; the input reads as it did. -/
def metaChecksUptoRow : OpenClaim := { program := "ytfbhfdaljendcaagreat", sum := "c7c90d126baa4f7e3fefd5f953159feba056930b8cec050f60c1660c2dd8851e", func := "consort/consortlaw20.MetaChecks", spec := "metaChecks", unfollowed := true, recurses := true, loops := true, plainKeys := false, apart := false, narrowed := true }
def MetaChecksUptoSaid : Prop := metaChecksUptoRow.holds Tryz.pinned (OpenSpec.upto metaChecksSpec)

end Rows
end Go.Proofs.YtfbhfdaljendcaaGreat
