/-
  NARROWER THAN 'FOR EVERY INPUT', by the rows' own cells (each row's printed sentence says how): GapStates: loops · GapSets: loops · GapOfs: loops · GapAsks: loops · GapMissings: loops · GapGrows: loops · GapLeasts: loops · GapSafe: loops · GapLeast: loops · GapMiss: loops · GapSound: loops · GapReal: loops.
  DERIVED. THE GIVEN ROWS OF THIS SEAT. 12 by the template 'for every input the law returns true; each argument reads behind the call as it read before'; 0 by the template 'total and deterministic' (their statements: YtegbmnmnaijioaaGreatTotals.lean).
  GIVEN WITH THE SEED: the statements are not yours to turn. If you find one false, say at which input.
  Laid BY PROGRAM, IN A SANDBOX (cutbox-rows.mjs): the forced cells as the released guide's own fill.sh prints them over the translation 74f07e028eae36fb… (all of the seat's roots in one cut). By AI agents, Wed Nov 11 2026. No macro, syntax, notation, axiom, sorry.
-/
import Derived.Test.YtegbmnmnaijioaaGreatChecked
import GoSem.Claim
import GoSem.ClaimJoined
import GoSem.ClaimMapViews
import Derived.JoinedTies
import Derived.KernelRfl
namespace Go.Proofs.YtegbmnmnaijioaaGreat
/- THE CELL 'sum', in the pinned program and in every row, IS THE sha256 OF THE DUMP (.gsa) THAT YtegbmnmnaijioaaGreatProg.lean LOADS. Nothing in Lean hashes anything: it is a label: what it is worth is what the hold of that sum in a sandbox is worth. -/
noncomputable def Tryz.pinned : Pinned := { name := "ytegbmnmnaijioaagreat", sum := "74f07e028eae36fbcc297ed29ce0951ea3d098ad42351e8ebe66bb69b9fc9957", checked := Tryz.checked }
namespace Rows
def none {H : Type} : Left H := { results := [], args := [] }

/-- 'consortlaw08.GapStates': WHATEVER THE INPUT: true; the input reads as it did. -/
def gapStatesSpec : ChangeSpec := { name := "gapStates", fn := fun _ => fun
  | [d] => { results := [.lit (.bool true)], args := [d] }
  | _ => none }
def gapStatesRow : OpenClaim := { program := "ytegbmnmnaijioaagreat", sum := "74f07e028eae36fbcc297ed29ce0951ea3d098ad42351e8ebe66bb69b9fc9957", func := "consort/consortlaw08.GapStates", spec := "gapStates", unfollowed := true, recurses := true, loops := true, plainKeys := false, apart := false }
def GapStatesSaid : Prop := gapStatesRow.holds Tryz.pinned (OpenSpec.ofChange gapStatesSpec)

/-- ITS FALSE NEIGHBOUR: 'it returns false'. Refute it at one input. -/
def gapStatesWrong : ChangeSpec := { name := "gapStates", fn := fun _ => fun
  | [d] => { results := [.lit (.bool false)], args := [d] }
  | _ => none }
def GapStatesWrongFalsely : Prop := gapStatesRow.holds Tryz.pinned (OpenSpec.ofChange gapStatesWrong)

/-- 'consortlaw08.GapSets': WHATEVER THE INPUT: true; the input reads as it did. -/
def gapSetsSpec : ChangeSpec := { name := "gapSets", fn := fun _ => fun
  | [d] => { results := [.lit (.bool true)], args := [d] }
  | _ => none }
def gapSetsRow : OpenClaim := { program := "ytegbmnmnaijioaagreat", sum := "74f07e028eae36fbcc297ed29ce0951ea3d098ad42351e8ebe66bb69b9fc9957", func := "consort/consortlaw08.GapSets", spec := "gapSets", unfollowed := true, recurses := true, loops := true, plainKeys := false, apart := false }
def GapSetsSaid : Prop := gapSetsRow.holds Tryz.pinned (OpenSpec.ofChange gapSetsSpec)

/-- ITS FALSE NEIGHBOUR: 'it returns false'. Refute it at one input. -/
def gapSetsWrong : ChangeSpec := { name := "gapSets", fn := fun _ => fun
  | [d] => { results := [.lit (.bool false)], args := [d] }
  | _ => none }
def GapSetsWrongFalsely : Prop := gapSetsRow.holds Tryz.pinned (OpenSpec.ofChange gapSetsWrong)

/-- 'consortlaw08.GapOfs': WHATEVER THE INPUT: true; the input reads as it did. -/
def gapOfsSpec : ChangeSpec := { name := "gapOfs", fn := fun _ => fun
  | [d] => { results := [.lit (.bool true)], args := [d] }
  | _ => none }
def gapOfsRow : OpenClaim := { program := "ytegbmnmnaijioaagreat", sum := "74f07e028eae36fbcc297ed29ce0951ea3d098ad42351e8ebe66bb69b9fc9957", func := "consort/consortlaw08.GapOfs", spec := "gapOfs", unfollowed := true, recurses := true, loops := true, plainKeys := false, apart := false }
def GapOfsSaid : Prop := gapOfsRow.holds Tryz.pinned (OpenSpec.ofChange gapOfsSpec)

/-- ITS FALSE NEIGHBOUR: 'it returns false'. Refute it at one input. -/
def gapOfsWrong : ChangeSpec := { name := "gapOfs", fn := fun _ => fun
  | [d] => { results := [.lit (.bool false)], args := [d] }
  | _ => none }
def GapOfsWrongFalsely : Prop := gapOfsRow.holds Tryz.pinned (OpenSpec.ofChange gapOfsWrong)

/-- 'consortlaw08.GapAsks': WHATEVER THE INPUT: true; the input reads as it did. -/
def gapAsksSpec : ChangeSpec := { name := "gapAsks", fn := fun _ => fun
  | [d] => { results := [.lit (.bool true)], args := [d] }
  | _ => none }
def gapAsksRow : OpenClaim := { program := "ytegbmnmnaijioaagreat", sum := "74f07e028eae36fbcc297ed29ce0951ea3d098ad42351e8ebe66bb69b9fc9957", func := "consort/consortlaw08.GapAsks", spec := "gapAsks", unfollowed := true, recurses := true, loops := true, plainKeys := false, apart := false }
def GapAsksSaid : Prop := gapAsksRow.holds Tryz.pinned (OpenSpec.ofChange gapAsksSpec)

/-- ITS FALSE NEIGHBOUR: 'it returns false'. Refute it at one input. -/
def gapAsksWrong : ChangeSpec := { name := "gapAsks", fn := fun _ => fun
  | [d] => { results := [.lit (.bool false)], args := [d] }
  | _ => none }
def GapAsksWrongFalsely : Prop := gapAsksRow.holds Tryz.pinned (OpenSpec.ofChange gapAsksWrong)

/-- 'consortlaw08.GapMissings': WHATEVER THE INPUT: true; the input reads as it did. -/
def gapMissingsSpec : ChangeSpec := { name := "gapMissings", fn := fun _ => fun
  | [d] => { results := [.lit (.bool true)], args := [d] }
  | _ => none }
def gapMissingsRow : OpenClaim := { program := "ytegbmnmnaijioaagreat", sum := "74f07e028eae36fbcc297ed29ce0951ea3d098ad42351e8ebe66bb69b9fc9957", func := "consort/consortlaw08.GapMissings", spec := "gapMissings", unfollowed := true, recurses := true, loops := true, plainKeys := false, apart := false }
def GapMissingsSaid : Prop := gapMissingsRow.holds Tryz.pinned (OpenSpec.ofChange gapMissingsSpec)

/-- ITS FALSE NEIGHBOUR: 'it returns false'. Refute it at one input. -/
def gapMissingsWrong : ChangeSpec := { name := "gapMissings", fn := fun _ => fun
  | [d] => { results := [.lit (.bool false)], args := [d] }
  | _ => none }
def GapMissingsWrongFalsely : Prop := gapMissingsRow.holds Tryz.pinned (OpenSpec.ofChange gapMissingsWrong)

/-- 'consortlaw08.GapGrows': WHATEVER THE INPUT: true; the input reads as it did. -/
def gapGrowsSpec : ChangeSpec := { name := "gapGrows", fn := fun _ => fun
  | [d1, d2, d3] => { results := [.lit (.bool true)], args := [d1, d2, d3] }
  | _ => none }
def gapGrowsRow : OpenClaim := { program := "ytegbmnmnaijioaagreat", sum := "74f07e028eae36fbcc297ed29ce0951ea3d098ad42351e8ebe66bb69b9fc9957", func := "consort/consortlaw08.GapGrows", spec := "gapGrows", unfollowed := true, recurses := true, loops := true, plainKeys := false, apart := false }
def GapGrowsSaid : Prop := gapGrowsRow.holds Tryz.pinned (OpenSpec.ofChange gapGrowsSpec)

/-- ITS FALSE NEIGHBOUR: 'it returns false'. Refute it at one input. -/
def gapGrowsWrong : ChangeSpec := { name := "gapGrows", fn := fun _ => fun
  | [d1, d2, d3] => { results := [.lit (.bool false)], args := [d1, d2, d3] }
  | _ => none }
def GapGrowsWrongFalsely : Prop := gapGrowsRow.holds Tryz.pinned (OpenSpec.ofChange gapGrowsWrong)

/-- 'consortlaw08.GapLeasts': WHATEVER THE INPUT: true; the input reads as it did. -/
def gapLeastsSpec : ChangeSpec := { name := "gapLeasts", fn := fun _ => fun
  | [d] => { results := [.lit (.bool true)], args := [d] }
  | _ => none }
def gapLeastsRow : OpenClaim := { program := "ytegbmnmnaijioaagreat", sum := "74f07e028eae36fbcc297ed29ce0951ea3d098ad42351e8ebe66bb69b9fc9957", func := "consort/consortlaw08.GapLeasts", spec := "gapLeasts", unfollowed := true, recurses := true, loops := true, plainKeys := false, apart := false }
def GapLeastsSaid : Prop := gapLeastsRow.holds Tryz.pinned (OpenSpec.ofChange gapLeastsSpec)

/-- ITS FALSE NEIGHBOUR: 'it returns false'. Refute it at one input. -/
def gapLeastsWrong : ChangeSpec := { name := "gapLeasts", fn := fun _ => fun
  | [d] => { results := [.lit (.bool false)], args := [d] }
  | _ => none }
def GapLeastsWrongFalsely : Prop := gapLeastsRow.holds Tryz.pinned (OpenSpec.ofChange gapLeastsWrong)

/-- 'consortlaw08.GapSafe': WHATEVER THE INPUT: true; the input reads as it did. -/
def gapSafeSpec : ChangeSpec := { name := "gapSafe", fn := fun _ => fun
  | [d1, d2] => { results := [.lit (.bool true)], args := [d1, d2] }
  | _ => none }
def gapSafeRow : OpenClaim := { program := "ytegbmnmnaijioaagreat", sum := "74f07e028eae36fbcc297ed29ce0951ea3d098ad42351e8ebe66bb69b9fc9957", func := "consort/consortlaw08.GapSafe", spec := "gapSafe", unfollowed := true, recurses := true, loops := true, plainKeys := false, apart := false }
def GapSafeSaid : Prop := gapSafeRow.holds Tryz.pinned (OpenSpec.ofChange gapSafeSpec)

/-- ITS FALSE NEIGHBOUR: 'it returns false'. Refute it at one input. -/
def gapSafeWrong : ChangeSpec := { name := "gapSafe", fn := fun _ => fun
  | [d1, d2] => { results := [.lit (.bool false)], args := [d1, d2] }
  | _ => none }
def GapSafeWrongFalsely : Prop := gapSafeRow.holds Tryz.pinned (OpenSpec.ofChange gapSafeWrong)

/-- 'consortlaw08.GapLeast': WHATEVER THE INPUT: true; the input reads as it did. -/
def gapLeastSpec : ChangeSpec := { name := "gapLeast", fn := fun _ => fun
  | [d] => { results := [.lit (.bool true)], args := [d] }
  | _ => none }
def gapLeastRow : OpenClaim := { program := "ytegbmnmnaijioaagreat", sum := "74f07e028eae36fbcc297ed29ce0951ea3d098ad42351e8ebe66bb69b9fc9957", func := "consort/consortlaw08.GapLeast", spec := "gapLeast", unfollowed := true, recurses := true, loops := true, plainKeys := false, apart := false }
def GapLeastSaid : Prop := gapLeastRow.holds Tryz.pinned (OpenSpec.ofChange gapLeastSpec)

/-- ITS FALSE NEIGHBOUR: 'it returns false'. Refute it at one input. -/
def gapLeastWrong : ChangeSpec := { name := "gapLeast", fn := fun _ => fun
  | [d] => { results := [.lit (.bool false)], args := [d] }
  | _ => none }
def GapLeastWrongFalsely : Prop := gapLeastRow.holds Tryz.pinned (OpenSpec.ofChange gapLeastWrong)

/-- 'consortlaw08.GapMiss': WHATEVER THE INPUT: true; the input reads as it did. -/
def gapMissSpec : ChangeSpec := { name := "gapMiss", fn := fun _ => fun
  | [d] => { results := [.lit (.bool true)], args := [d] }
  | _ => none }
def gapMissRow : OpenClaim := { program := "ytegbmnmnaijioaagreat", sum := "74f07e028eae36fbcc297ed29ce0951ea3d098ad42351e8ebe66bb69b9fc9957", func := "consort/consortlaw08.GapMiss", spec := "gapMiss", unfollowed := true, recurses := true, loops := true, plainKeys := false, apart := false }
def GapMissSaid : Prop := gapMissRow.holds Tryz.pinned (OpenSpec.ofChange gapMissSpec)

/-- ITS FALSE NEIGHBOUR: 'it returns false'. Refute it at one input. -/
def gapMissWrong : ChangeSpec := { name := "gapMiss", fn := fun _ => fun
  | [d] => { results := [.lit (.bool false)], args := [d] }
  | _ => none }
def GapMissWrongFalsely : Prop := gapMissRow.holds Tryz.pinned (OpenSpec.ofChange gapMissWrong)

/-- 'consortlaw08.GapSound': WHATEVER THE INPUT: true; the input reads as it did. -/
def gapSoundSpec : ChangeSpec := { name := "gapSound", fn := fun _ => fun
  | [d] => { results := [.lit (.bool true)], args := [d] }
  | _ => none }
def gapSoundRow : OpenClaim := { program := "ytegbmnmnaijioaagreat", sum := "74f07e028eae36fbcc297ed29ce0951ea3d098ad42351e8ebe66bb69b9fc9957", func := "consort/consortlaw08.GapSound", spec := "gapSound", unfollowed := true, recurses := true, loops := true, plainKeys := false, apart := false }
def GapSoundSaid : Prop := gapSoundRow.holds Tryz.pinned (OpenSpec.ofChange gapSoundSpec)

/-- ITS FALSE NEIGHBOUR: 'it returns false'. Refute it at one input. -/
def gapSoundWrong : ChangeSpec := { name := "gapSound", fn := fun _ => fun
  | [d] => { results := [.lit (.bool false)], args := [d] }
  | _ => none }
def GapSoundWrongFalsely : Prop := gapSoundRow.holds Tryz.pinned (OpenSpec.ofChange gapSoundWrong)

/-- 'consortlaw08.GapReal': WHATEVER THE INPUT: true; the input reads as it did. -/
def gapRealSpec : ChangeSpec := { name := "gapReal", fn := fun _ => fun
  | [d1, d2, d3] => { results := [.lit (.bool true)], args := [d1, d2, d3] }
  | _ => none }
def gapRealRow : OpenClaim := { program := "ytegbmnmnaijioaagreat", sum := "74f07e028eae36fbcc297ed29ce0951ea3d098ad42351e8ebe66bb69b9fc9957", func := "consort/consortlaw08.GapReal", spec := "gapReal", unfollowed := true, recurses := true, loops := true, plainKeys := false, apart := false }
def GapRealSaid : Prop := gapRealRow.holds Tryz.pinned (OpenSpec.ofChange gapRealSpec)

/-- ITS FALSE NEIGHBOUR: 'it returns false'. Refute it at one input. -/
def gapRealWrong : ChangeSpec := { name := "gapReal", fn := fun _ => fun
  | [d1, d2, d3] => { results := [.lit (.bool false)], args := [d1, d2, d3] }
  | _ => none }
def GapRealWrongFalsely : Prop := gapRealRow.holds Tryz.pinned (OpenSpec.ofChange gapRealWrong)

/- THE SECOND FORM. 'bulk': how many values and letters a reading holds, each counted each time it is reached (what is shared counts as often as it is met; a slice's spare places count too). A statement '..UptoSaid' is the law's where the arguments, and the package variables that the reading takes, are together of bulk at most 1048576: NARROWER than '..Said'. Prove '..Said' where nothing that the law and all that it calls make is longer than what came in: it says more and counts as full. Else prove '..UptoSaid'. A law counts once. -/
mutual
def uptoBulk {H : Type} : DataW H → Nat
  | .lit (.string bytes) => bytes.length + 1
  | .lit _ => 1
  | .nil => 1
  | .ptr d => uptoBulk d + 1
  | .slice elems spare => uptoBulkAll elems + uptoBulkAll spare + 1
  | .agg parts => uptoBulkAll parts + 1
  | .iface _ d => uptoBulk d + 1
  | .map entries => uptoBulkEntries entries + 1
  | .held _ => 1
def uptoBulkAll {H : Type} : List (DataW H) → Nat
  | [] => 0
  | d :: r => uptoBulk d + uptoBulkAll r
def uptoBulkEntries {H : Type} : List (Lit × DataW H) → Nat
  | [] => 0
  | x :: r => uptoBulkEntry x + uptoBulkEntries r
def uptoBulkEntry {H : Type} : Lit × DataW H → Nat
  | (.string bytes, d) => bytes.length + uptoBulk d + 1
  | (_, d) => uptoBulk d + 1
 end
def uptoSmall : (H : Type) → List (DataW H) → Bool := fun _ ds => decide (uptoBulkAll ds ≤ 1048576)
def OpenSpec.upto (s : _root_.Go.ChangeSpec) : _root_.Go.OpenSpec := { _root_.Go.OpenSpec.ofChange s with cond := some uptoSmall }

/-- 'consortlaw08.GapStates', WHERE WHAT IT READS IS OF BULK AT MOST 1048576: true; the input reads as it did. -/
def gapStatesUptoRow : OpenClaim := { program := "ytegbmnmnaijioaagreat", sum := "74f07e028eae36fbcc297ed29ce0951ea3d098ad42351e8ebe66bb69b9fc9957", func := "consort/consortlaw08.GapStates", spec := "gapStates", unfollowed := true, recurses := true, loops := true, plainKeys := false, apart := false, narrowed := true }
def GapStatesUptoSaid : Prop := gapStatesUptoRow.holds Tryz.pinned (OpenSpec.upto gapStatesSpec)

/-- 'consortlaw08.GapSets', WHERE WHAT IT READS IS OF BULK AT MOST 1048576: true; the input reads as it did. -/
def gapSetsUptoRow : OpenClaim := { program := "ytegbmnmnaijioaagreat", sum := "74f07e028eae36fbcc297ed29ce0951ea3d098ad42351e8ebe66bb69b9fc9957", func := "consort/consortlaw08.GapSets", spec := "gapSets", unfollowed := true, recurses := true, loops := true, plainKeys := false, apart := false, narrowed := true }
def GapSetsUptoSaid : Prop := gapSetsUptoRow.holds Tryz.pinned (OpenSpec.upto gapSetsSpec)

/-- 'consortlaw08.GapOfs', WHERE WHAT IT READS IS OF BULK AT MOST 1048576: true; the input reads as it did. -/
def gapOfsUptoRow : OpenClaim := { program := "ytegbmnmnaijioaagreat", sum := "74f07e028eae36fbcc297ed29ce0951ea3d098ad42351e8ebe66bb69b9fc9957", func := "consort/consortlaw08.GapOfs", spec := "gapOfs", unfollowed := true, recurses := true, loops := true, plainKeys := false, apart := false, narrowed := true }
def GapOfsUptoSaid : Prop := gapOfsUptoRow.holds Tryz.pinned (OpenSpec.upto gapOfsSpec)

/-- 'consortlaw08.GapAsks', WHERE WHAT IT READS IS OF BULK AT MOST 1048576: true; the input reads as it did. -/
def gapAsksUptoRow : OpenClaim := { program := "ytegbmnmnaijioaagreat", sum := "74f07e028eae36fbcc297ed29ce0951ea3d098ad42351e8ebe66bb69b9fc9957", func := "consort/consortlaw08.GapAsks", spec := "gapAsks", unfollowed := true, recurses := true, loops := true, plainKeys := false, apart := false, narrowed := true }
def GapAsksUptoSaid : Prop := gapAsksUptoRow.holds Tryz.pinned (OpenSpec.upto gapAsksSpec)

/-- 'consortlaw08.GapMissings', WHERE WHAT IT READS IS OF BULK AT MOST 1048576: true; the input reads as it did. -/
def gapMissingsUptoRow : OpenClaim := { program := "ytegbmnmnaijioaagreat", sum := "74f07e028eae36fbcc297ed29ce0951ea3d098ad42351e8ebe66bb69b9fc9957", func := "consort/consortlaw08.GapMissings", spec := "gapMissings", unfollowed := true, recurses := true, loops := true, plainKeys := false, apart := false, narrowed := true }
def GapMissingsUptoSaid : Prop := gapMissingsUptoRow.holds Tryz.pinned (OpenSpec.upto gapMissingsSpec)

/-- 'consortlaw08.GapGrows', WHERE WHAT IT READS IS OF BULK AT MOST 1048576: true; the input reads as it did. -/
def gapGrowsUptoRow : OpenClaim := { program := "ytegbmnmnaijioaagreat", sum := "74f07e028eae36fbcc297ed29ce0951ea3d098ad42351e8ebe66bb69b9fc9957", func := "consort/consortlaw08.GapGrows", spec := "gapGrows", unfollowed := true, recurses := true, loops := true, plainKeys := false, apart := false, narrowed := true }
def GapGrowsUptoSaid : Prop := gapGrowsUptoRow.holds Tryz.pinned (OpenSpec.upto gapGrowsSpec)

/-- 'consortlaw08.GapLeasts', WHERE WHAT IT READS IS OF BULK AT MOST 1048576: true; the input reads as it did. -/
def gapLeastsUptoRow : OpenClaim := { program := "ytegbmnmnaijioaagreat", sum := "74f07e028eae36fbcc297ed29ce0951ea3d098ad42351e8ebe66bb69b9fc9957", func := "consort/consortlaw08.GapLeasts", spec := "gapLeasts", unfollowed := true, recurses := true, loops := true, plainKeys := false, apart := false, narrowed := true }
def GapLeastsUptoSaid : Prop := gapLeastsUptoRow.holds Tryz.pinned (OpenSpec.upto gapLeastsSpec)

/-- 'consortlaw08.GapSafe', WHERE WHAT IT READS IS OF BULK AT MOST 1048576: true; the input reads as it did. -/
def gapSafeUptoRow : OpenClaim := { program := "ytegbmnmnaijioaagreat", sum := "74f07e028eae36fbcc297ed29ce0951ea3d098ad42351e8ebe66bb69b9fc9957", func := "consort/consortlaw08.GapSafe", spec := "gapSafe", unfollowed := true, recurses := true, loops := true, plainKeys := false, apart := false, narrowed := true }
def GapSafeUptoSaid : Prop := gapSafeUptoRow.holds Tryz.pinned (OpenSpec.upto gapSafeSpec)

/-- 'consortlaw08.GapLeast', WHERE WHAT IT READS IS OF BULK AT MOST 1048576: true; the input reads as it did. -/
def gapLeastUptoRow : OpenClaim := { program := "ytegbmnmnaijioaagreat", sum := "74f07e028eae36fbcc297ed29ce0951ea3d098ad42351e8ebe66bb69b9fc9957", func := "consort/consortlaw08.GapLeast", spec := "gapLeast", unfollowed := true, recurses := true, loops := true, plainKeys := false, apart := false, narrowed := true }
def GapLeastUptoSaid : Prop := gapLeastUptoRow.holds Tryz.pinned (OpenSpec.upto gapLeastSpec)

/-- 'consortlaw08.GapMiss', WHERE WHAT IT READS IS OF BULK AT MOST 1048576: true; the input reads as it did. -/
def gapMissUptoRow : OpenClaim := { program := "ytegbmnmnaijioaagreat", sum := "74f07e028eae36fbcc297ed29ce0951ea3d098ad42351e8ebe66bb69b9fc9957", func := "consort/consortlaw08.GapMiss", spec := "gapMiss", unfollowed := true, recurses := true, loops := true, plainKeys := false, apart := false, narrowed := true }
def GapMissUptoSaid : Prop := gapMissUptoRow.holds Tryz.pinned (OpenSpec.upto gapMissSpec)

/-- 'consortlaw08.GapSound', WHERE WHAT IT READS IS OF BULK AT MOST 1048576: true; the input reads as it did. -/
def gapSoundUptoRow : OpenClaim := { program := "ytegbmnmnaijioaagreat", sum := "74f07e028eae36fbcc297ed29ce0951ea3d098ad42351e8ebe66bb69b9fc9957", func := "consort/consortlaw08.GapSound", spec := "gapSound", unfollowed := true, recurses := true, loops := true, plainKeys := false, apart := false, narrowed := true }
def GapSoundUptoSaid : Prop := gapSoundUptoRow.holds Tryz.pinned (OpenSpec.upto gapSoundSpec)

/-- 'consortlaw08.GapReal', WHERE WHAT IT READS IS OF BULK AT MOST 1048576: true; the input reads as it did. -/
def gapRealUptoRow : OpenClaim := { program := "ytegbmnmnaijioaagreat", sum := "74f07e028eae36fbcc297ed29ce0951ea3d098ad42351e8ebe66bb69b9fc9957", func := "consort/consortlaw08.GapReal", spec := "gapReal", unfollowed := true, recurses := true, loops := true, plainKeys := false, apart := false, narrowed := true }
def GapRealUptoSaid : Prop := gapRealUptoRow.holds Tryz.pinned (OpenSpec.upto gapRealSpec)

end Rows
end Go.Proofs.YtegbmnmnaijioaaGreat
