/-
  NARROWER THAN 'FOR EVERY INPUT', by the rows' own cells (each row's printed sentence says how): GapReal: loops · SpecDecides: loops · SpecSites: loops · SpecTrue: loops · SpecFits: loops.
  DERIVED. THE GIVEN ROWS OF THIS SEAT. 5 by the template 'for every input the law returns true; each argument reads behind the call as it read before'; 0 by the template 'total and deterministic' (their statements: YtinppljblkpedaaGreatTotals.lean).
  GIVEN WITH THE SEED: the statements are not yours to turn. If you find one false, say at which input.
  Laid BY PROGRAM, IN A SANDBOX (cutbox-rows.mjs): the forced cells as the released guide's own fill.sh prints them over the translation 294d83351b795a28… (all of the seat's roots in one cut). By AI agents, Wed Nov 11 2026. No macro, syntax, notation, axiom, sorry.
-/
import Derived.Test.YtinppljblkpedaaGreatChecked
import GoSem.Claim
import GoSem.ClaimJoined
import GoSem.ClaimMapViews
import Derived.JoinedTies
import Derived.KernelRfl
namespace Go.Proofs.YtinppljblkpedaaGreat
/- THE CELL 'sum', in the pinned program and in every row, IS THE sha256 OF THE DUMP (.gsa) THAT YtinppljblkpedaaGreatProg.lean LOADS. Nothing in Lean hashes anything: it is a label: what it is worth is what the hold of that sum in a sandbox is worth. -/
noncomputable def Tryz.pinned : Pinned := { name := "ytinppljblkpedaagreat", sum := "294d83351b795a284f1b51ee8e3cf54c4c7202bbb970c338092a4e88b427c05d", checked := Tryz.checked }
namespace Rows
def none {H : Type} : Left H := { results := [], args := [] }

/-- 'consortlaw08.GapReal': WHATEVER THE INPUT: true; the input reads as it did. -/
def gapRealSpec : ChangeSpec := { name := "gapReal", fn := fun _ => fun
  | [d1, d2, d3] => { results := [.lit (.bool true)], args := [d1, d2, d3] }
  | _ => none }
def gapRealRow : OpenClaim := { program := "ytinppljblkpedaagreat", sum := "294d83351b795a284f1b51ee8e3cf54c4c7202bbb970c338092a4e88b427c05d", func := "consort/consortlaw08.GapReal", spec := "gapReal", unfollowed := true, recurses := true, loops := true, plainKeys := false, apart := false }
def GapRealSaid : Prop := gapRealRow.holds Tryz.pinned (OpenSpec.ofChange gapRealSpec)

/-- ITS FALSE NEIGHBOUR: 'it returns false'. Refute it at one input. -/
def gapRealWrong : ChangeSpec := { name := "gapReal", fn := fun _ => fun
  | [d1, d2, d3] => { results := [.lit (.bool false)], args := [d1, d2, d3] }
  | _ => none }
def GapRealWrongFalsely : Prop := gapRealRow.holds Tryz.pinned (OpenSpec.ofChange gapRealWrong)

/-- 'consortlaw15.SpecDecides': WHATEVER THE INPUT: true; the input reads as it did. -/
def specDecidesSpec : ChangeSpec := { name := "specDecides", fn := fun _ => fun
  | [d1, d2, d3] => { results := [.lit (.bool true)], args := [d1, d2, d3] }
  | _ => none }
def specDecidesRow : OpenClaim := { program := "ytinppljblkpedaagreat", sum := "294d83351b795a284f1b51ee8e3cf54c4c7202bbb970c338092a4e88b427c05d", func := "consort/consortlaw15.SpecDecides", spec := "specDecides", unfollowed := true, recurses := true, loops := true, plainKeys := false, apart := false }
def SpecDecidesSaid : Prop := specDecidesRow.holds Tryz.pinned (OpenSpec.ofChange specDecidesSpec)

/-- ITS FALSE NEIGHBOUR: 'it returns false'. Refute it at one input. -/
def specDecidesWrong : ChangeSpec := { name := "specDecides", fn := fun _ => fun
  | [d1, d2, d3] => { results := [.lit (.bool false)], args := [d1, d2, d3] }
  | _ => none }
def SpecDecidesWrongFalsely : Prop := specDecidesRow.holds Tryz.pinned (OpenSpec.ofChange specDecidesWrong)

/-- 'consortlaw15.SpecSites': WHATEVER THE INPUT: true; the input reads as it did. -/
def specSitesSpec : ChangeSpec := { name := "specSites", fn := fun _ => fun
  | [d1, d2, d3] => { results := [.lit (.bool true)], args := [d1, d2, d3] }
  | _ => none }
def specSitesRow : OpenClaim := { program := "ytinppljblkpedaagreat", sum := "294d83351b795a284f1b51ee8e3cf54c4c7202bbb970c338092a4e88b427c05d", func := "consort/consortlaw15.SpecSites", spec := "specSites", unfollowed := true, recurses := true, loops := true, plainKeys := false, apart := false }
def SpecSitesSaid : Prop := specSitesRow.holds Tryz.pinned (OpenSpec.ofChange specSitesSpec)

/-- ITS FALSE NEIGHBOUR: 'it returns false'. Refute it at one input. -/
def specSitesWrong : ChangeSpec := { name := "specSites", fn := fun _ => fun
  | [d1, d2, d3] => { results := [.lit (.bool false)], args := [d1, d2, d3] }
  | _ => none }
def SpecSitesWrongFalsely : Prop := specSitesRow.holds Tryz.pinned (OpenSpec.ofChange specSitesWrong)

/-- 'consortlaw15.SpecTrue': WHATEVER THE INPUT: true; the input reads as it did. -/
def specTrueSpec : ChangeSpec := { name := "specTrue", fn := fun _ => fun
  | [d1, d2, d3, d4] => { results := [.lit (.bool true)], args := [d1, d2, d3, d4] }
  | _ => none }
def specTrueRow : OpenClaim := { program := "ytinppljblkpedaagreat", sum := "294d83351b795a284f1b51ee8e3cf54c4c7202bbb970c338092a4e88b427c05d", func := "consort/consortlaw15.SpecTrue", spec := "specTrue", unfollowed := true, recurses := true, loops := true, plainKeys := false, apart := false }
def SpecTrueSaid : Prop := specTrueRow.holds Tryz.pinned (OpenSpec.ofChange specTrueSpec)

/-- ITS FALSE NEIGHBOUR: 'it returns false'. Refute it at one input. -/
def specTrueWrong : ChangeSpec := { name := "specTrue", fn := fun _ => fun
  | [d1, d2, d3, d4] => { results := [.lit (.bool false)], args := [d1, d2, d3, d4] }
  | _ => none }
def SpecTrueWrongFalsely : Prop := specTrueRow.holds Tryz.pinned (OpenSpec.ofChange specTrueWrong)

/-- 'consortlaw15.SpecFits': WHATEVER THE INPUT: true; the input reads as it did. -/
def specFitsSpec : ChangeSpec := { name := "specFits", fn := fun _ => fun
  | [d1, d2, d3, d4] => { results := [.lit (.bool true)], args := [d1, d2, d3, d4] }
  | _ => none }
def specFitsRow : OpenClaim := { program := "ytinppljblkpedaagreat", sum := "294d83351b795a284f1b51ee8e3cf54c4c7202bbb970c338092a4e88b427c05d", func := "consort/consortlaw15.SpecFits", spec := "specFits", unfollowed := true, recurses := true, loops := true, plainKeys := false, apart := false }
def SpecFitsSaid : Prop := specFitsRow.holds Tryz.pinned (OpenSpec.ofChange specFitsSpec)

/-- ITS FALSE NEIGHBOUR: 'it returns false'. Refute it at one input. -/
def specFitsWrong : ChangeSpec := { name := "specFits", fn := fun _ => fun
  | [d1, d2, d3, d4] => { results := [.lit (.bool false)], args := [d1, d2, d3, d4] }
  | _ => none }
def SpecFitsWrongFalsely : Prop := specFitsRow.holds Tryz.pinned (OpenSpec.ofChange specFitsWrong)

/- THE SECOND FORM. 'bulk': how many values and letters a reading holds, each counted each time it is reached (what is shared counts as often as it is met; a slice's spare places count too). A statement '..UptoSaid' is the law's where the arguments, and the package variables that the reading takes, are together of bulk at most 1048576: NARROWER than '..Said'. Prove '..Said' where nothing that the law and all that it calls make is longer than what came in: it says more and counts as full. Else prove '..UptoSaid'. A law counts once. -/
mutual
def uptoBulk {H : Type} : DataW H → Nat
  | .lit (.string bytes) => bytes.length + 1
  | .lit _ => 1
  | .nil => 1
  | .ptr d => uptoBulk d + 1
  | .slice elems spare => uptoBulkAll elems + uptoBulkAll spare + 1
  | .agg parts => uptoBulkAll parts + 1
  | .iface _ d => uptoBulk d + 1
  | .map entries => uptoBulkEntries entries + 1
  | .held _ => 1
def uptoBulkAll {H : Type} : List (DataW H) → Nat
  | [] => 0
  | d :: r => uptoBulk d + uptoBulkAll r
def uptoBulkEntries {H : Type} : List (Lit × DataW H) → Nat
  | [] => 0
  | x :: r => uptoBulkEntry x + uptoBulkEntries r
def uptoBulkEntry {H : Type} : Lit × DataW H → Nat
  | (.string bytes, d) => bytes.length + uptoBulk d + 1
  | (_, d) => uptoBulk d + 1
 end
def uptoSmall : (H : Type) → List (DataW H) → Bool := fun _ ds => decide (uptoBulkAll ds ≤ 1048576)
def OpenSpec.upto (s : _root_.Go.ChangeSpec) : _root_.Go.OpenSpec := { _root_.Go.OpenSpec.ofChange s with cond := some uptoSmall }

/-- 'consortlaw08.GapReal', WHERE WHAT IT READS IS OF BULK AT MOST 1048576: true; the input reads as it did. -/
def gapRealUptoRow : OpenClaim := { program := "ytinppljblkpedaagreat", sum := "294d83351b795a284f1b51ee8e3cf54c4c7202bbb970c338092a4e88b427c05d", func := "consort/consortlaw08.GapReal", spec := "gapReal", unfollowed := true, recurses := true, loops := true, plainKeys := false, apart := false, narrowed := true }
def GapRealUptoSaid : Prop := gapRealUptoRow.holds Tryz.pinned (OpenSpec.upto gapRealSpec)

/-- 'consortlaw15.SpecDecides', WHERE WHAT IT READS IS OF BULK AT MOST 1048576: true; the input reads as it did. -/
def specDecidesUptoRow : OpenClaim := { program := "ytinppljblkpedaagreat", sum := "294d83351b795a284f1b51ee8e3cf54c4c7202bbb970c338092a4e88b427c05d", func := "consort/consortlaw15.SpecDecides", spec := "specDecides", unfollowed := true, recurses := true, loops := true, plainKeys := false, apart := false, narrowed := true }
def SpecDecidesUptoSaid : Prop := specDecidesUptoRow.holds Tryz.pinned (OpenSpec.upto specDecidesSpec)

/-- 'consortlaw15.SpecSites', WHERE WHAT IT READS IS OF BULK AT MOST 1048576: true; the input reads as it did. -/
def specSitesUptoRow : OpenClaim := { program := "ytinppljblkpedaagreat", sum := "294d83351b795a284f1b51ee8e3cf54c4c7202bbb970c338092a4e88b427c05d", func := "consort/consortlaw15.SpecSites", spec := "specSites", unfollowed := true, recurses := true, loops := true, plainKeys := false, apart := false, narrowed := true }
def SpecSitesUptoSaid : Prop := specSitesUptoRow.holds Tryz.pinned (OpenSpec.upto specSitesSpec)

/-- 'consortlaw15.SpecTrue', WHERE WHAT IT READS IS OF BULK AT MOST 1048576: true; the input reads as it did. -/
def specTrueUptoRow : OpenClaim := { program := "ytinppljblkpedaagreat", sum := "294d83351b795a284f1b51ee8e3cf54c4c7202bbb970c338092a4e88b427c05d", func := "consort/consortlaw15.SpecTrue", spec := "specTrue", unfollowed := true, recurses := true, loops := true, plainKeys := false, apart := false, narrowed := true }
def SpecTrueUptoSaid : Prop := specTrueUptoRow.holds Tryz.pinned (OpenSpec.upto specTrueSpec)

/-- 'consortlaw15.SpecFits', WHERE WHAT IT READS IS OF BULK AT MOST 1048576: true; the input reads as it did. -/
def specFitsUptoRow : OpenClaim := { program := "ytinppljblkpedaagreat", sum := "294d83351b795a284f1b51ee8e3cf54c4c7202bbb970c338092a4e88b427c05d", func := "consort/consortlaw15.SpecFits", spec := "specFits", unfollowed := true, recurses := true, loops := true, plainKeys := false, apart := false, narrowed := true }
def SpecFitsUptoSaid : Prop := specFitsUptoRow.holds Tryz.pinned (OpenSpec.upto specFitsSpec)

end Rows
end Go.Proofs.YtinppljblkpedaaGreat
