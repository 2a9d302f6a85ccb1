/-
  NARROWER THAN 'FOR EVERY INPUT', by the rows' own cells (each row's printed sentence says how): MetaLines: loops · MetaRuns: loops · MetaOrders: loops · MetaChecks: loops · MetaCalls: loops · MetaUnasked: loops · MetaFuel: loops · MetaTower: loops.
  DERIVED. THE GIVEN ROWS OF THIS SEAT. 8 by the template 'for every input the law returns true; each argument reads behind the call as it read before'; 0 by the template 'total and deterministic' (their statements: YtcfkfhaedllcpaaGreatTotals.lean).
  GIVEN WITH THE SEED: the statements are not yours to turn. If you find one false, say at which input.
  Laid BY PROGRAM, IN A SANDBOX (cutbox-rows.mjs): the forced cells as the released guide's own fill.sh prints them over the translation 38b14a9a0c8114f6… (all of the seat's roots in one cut). By AI agents, Wed Nov 11 2026. No macro, syntax, notation, axiom, sorry.
-/
import Derived.Test.YtcfkfhaedllcpaaGreatChecked
import GoSem.Claim
import GoSem.ClaimJoined
import GoSem.ClaimMapViews
import Derived.JoinedTies
import Derived.KernelRfl
namespace Go.Proofs.YtcfkfhaedllcpaaGreat
/- THE CELL 'sum', in the pinned program and in every row, IS THE sha256 OF THE DUMP (.gsa) THAT YtcfkfhaedllcpaaGreatProg.lean LOADS. Nothing in Lean hashes anything: it is a label: what it is worth is what the hold of that sum in a sandbox is worth. -/
noncomputable def Tryz.pinned : Pinned := { name := "ytcfkfhaedllcpaagreat", sum := "38b14a9a0c8114f662e0e6510a7d7e42a2b6e3f4aeac6c058dfc3ffb9d58f494", checked := Tryz.checked }
namespace Rows
def none {H : Type} : Left H := { results := [], args := [] }

/-- 'consortlaw20.MetaLines': WHATEVER THE INPUT: true; the input reads as it did. -/
def metaLinesSpec : ChangeSpec := { name := "metaLines", fn := fun _ => fun
  | [d1, d2, d3, d4, d5] => { results := [.lit (.bool true)], args := [d1, d2, d3, d4, d5] }
  | _ => none }
def metaLinesRow : OpenClaim := { program := "ytcfkfhaedllcpaagreat", sum := "38b14a9a0c8114f662e0e6510a7d7e42a2b6e3f4aeac6c058dfc3ffb9d58f494", func := "consort/consortlaw20.MetaLines", spec := "metaLines", unfollowed := true, recurses := true, loops := true, plainKeys := false, apart := false }
def MetaLinesSaid : Prop := metaLinesRow.holds Tryz.pinned (OpenSpec.ofChange metaLinesSpec)

/-- ITS FALSE NEIGHBOUR: 'it returns false'. Refute it at one input. -/
def metaLinesWrong : ChangeSpec := { name := "metaLines", fn := fun _ => fun
  | [d1, d2, d3, d4, d5] => { results := [.lit (.bool false)], args := [d1, d2, d3, d4, d5] }
  | _ => none }
def MetaLinesWrongFalsely : Prop := metaLinesRow.holds Tryz.pinned (OpenSpec.ofChange metaLinesWrong)

/-- 'consortlaw20.MetaRuns': WHATEVER THE INPUT: true; the input reads as it did. -/
def metaRunsSpec : ChangeSpec := { name := "metaRuns", fn := fun _ => fun
  | [d1, d2, d3] => { results := [.lit (.bool true)], args := [d1, d2, d3] }
  | _ => none }
def metaRunsRow : OpenClaim := { program := "ytcfkfhaedllcpaagreat", sum := "38b14a9a0c8114f662e0e6510a7d7e42a2b6e3f4aeac6c058dfc3ffb9d58f494", func := "consort/consortlaw20.MetaRuns", spec := "metaRuns", unfollowed := true, recurses := true, loops := true, plainKeys := false, apart := false }
def MetaRunsSaid : Prop := metaRunsRow.holds Tryz.pinned (OpenSpec.ofChange metaRunsSpec)

/-- ITS FALSE NEIGHBOUR: 'it returns false'. Refute it at one input. -/
def metaRunsWrong : ChangeSpec := { name := "metaRuns", fn := fun _ => fun
  | [d1, d2, d3] => { results := [.lit (.bool false)], args := [d1, d2, d3] }
  | _ => none }
def MetaRunsWrongFalsely : Prop := metaRunsRow.holds Tryz.pinned (OpenSpec.ofChange metaRunsWrong)

/-- 'consortlaw20.MetaOrders': WHATEVER THE INPUT: true; the input reads as it did. -/
def metaOrdersSpec : ChangeSpec := { name := "metaOrders", fn := fun _ => fun
  | [d1, d2, d3] => { results := [.lit (.bool true)], args := [d1, d2, d3] }
  | _ => none }
def metaOrdersRow : OpenClaim := { program := "ytcfkfhaedllcpaagreat", sum := "38b14a9a0c8114f662e0e6510a7d7e42a2b6e3f4aeac6c058dfc3ffb9d58f494", func := "consort/consortlaw20.MetaOrders", spec := "metaOrders", unfollowed := true, recurses := true, loops := true, plainKeys := false, apart := false }
def MetaOrdersSaid : Prop := metaOrdersRow.holds Tryz.pinned (OpenSpec.ofChange metaOrdersSpec)

/-- ITS FALSE NEIGHBOUR: 'it returns false'. Refute it at one input. -/
def metaOrdersWrong : ChangeSpec := { name := "metaOrders", fn := fun _ => fun
  | [d1, d2, d3] => { results := [.lit (.bool false)], args := [d1, d2, d3] }
  | _ => none }
def MetaOrdersWrongFalsely : Prop := metaOrdersRow.holds Tryz.pinned (OpenSpec.ofChange metaOrdersWrong)

/-- 'consortlaw20.MetaChecks': WHATEVER THE INPUT: true; the input reads as it did. -/
def metaChecksSpec : ChangeSpec := { name := "metaChecks", fn := fun _ => fun
  | [d1, d2, d3, d4] => { results := [.lit (.bool true)], args := [d1, d2, d3, d4] }
  | _ => none }
def metaChecksRow : OpenClaim := { program := "ytcfkfhaedllcpaagreat", sum := "38b14a9a0c8114f662e0e6510a7d7e42a2b6e3f4aeac6c058dfc3ffb9d58f494", func := "consort/consortlaw20.MetaChecks", spec := "metaChecks", unfollowed := true, recurses := true, loops := true, plainKeys := false, apart := false }
def MetaChecksSaid : Prop := metaChecksRow.holds Tryz.pinned (OpenSpec.ofChange metaChecksSpec)

/-- ITS FALSE NEIGHBOUR: 'it returns false'. Refute it at one input. -/
def metaChecksWrong : ChangeSpec := { name := "metaChecks", fn := fun _ => fun
  | [d1, d2, d3, d4] => { results := [.lit (.bool false)], args := [d1, d2, d3, d4] }
  | _ => none }
def MetaChecksWrongFalsely : Prop := metaChecksRow.holds Tryz.pinned (OpenSpec.ofChange metaChecksWrong)

/-- 'consortlaw20.MetaCalls': WHATEVER THE INPUT: true; the input reads as it did. -/
def metaCallsSpec : ChangeSpec := { name := "metaCalls", fn := fun _ => fun
  | [d1, d2, d3] => { results := [.lit (.bool true)], args := [d1, d2, d3] }
  | _ => none }
def metaCallsRow : OpenClaim := { program := "ytcfkfhaedllcpaagreat", sum := "38b14a9a0c8114f662e0e6510a7d7e42a2b6e3f4aeac6c058dfc3ffb9d58f494", func := "consort/consortlaw20.MetaCalls", spec := "metaCalls", unfollowed := true, recurses := true, loops := true, plainKeys := false, apart := false }
def MetaCallsSaid : Prop := metaCallsRow.holds Tryz.pinned (OpenSpec.ofChange metaCallsSpec)

/-- ITS FALSE NEIGHBOUR: 'it returns false'. Refute it at one input. -/
def metaCallsWrong : ChangeSpec := { name := "metaCalls", fn := fun _ => fun
  | [d1, d2, d3] => { results := [.lit (.bool false)], args := [d1, d2, d3] }
  | _ => none }
def MetaCallsWrongFalsely : Prop := metaCallsRow.holds Tryz.pinned (OpenSpec.ofChange metaCallsWrong)

/-- 'consortlaw20.MetaUnasked': WHATEVER THE INPUT: true; the input reads as it did. -/
def metaUnaskedSpec : ChangeSpec := { name := "metaUnasked", fn := fun _ => fun
  | [d1, d2, d3] => { results := [.lit (.bool true)], args := [d1, d2, d3] }
  | _ => none }
def metaUnaskedRow : OpenClaim := { program := "ytcfkfhaedllcpaagreat", sum := "38b14a9a0c8114f662e0e6510a7d7e42a2b6e3f4aeac6c058dfc3ffb9d58f494", func := "consort/consortlaw20.MetaUnasked", spec := "metaUnasked", unfollowed := true, recurses := true, loops := true, plainKeys := false, apart := false }
def MetaUnaskedSaid : Prop := metaUnaskedRow.holds Tryz.pinned (OpenSpec.ofChange metaUnaskedSpec)

/-- ITS FALSE NEIGHBOUR: 'it returns false'. Refute it at one input. -/
def metaUnaskedWrong : ChangeSpec := { name := "metaUnasked", fn := fun _ => fun
  | [d1, d2, d3] => { results := [.lit (.bool false)], args := [d1, d2, d3] }
  | _ => none }
def MetaUnaskedWrongFalsely : Prop := metaUnaskedRow.holds Tryz.pinned (OpenSpec.ofChange metaUnaskedWrong)

/-- 'consortlaw20.MetaFuel': WHATEVER THE INPUT: true; the input reads as it did. -/
def metaFuelSpec : ChangeSpec := { name := "metaFuel", fn := fun _ => fun
  | [d1, d2, d3, d4] => { results := [.lit (.bool true)], args := [d1, d2, d3, d4] }
  | _ => none }
def metaFuelRow : OpenClaim := { program := "ytcfkfhaedllcpaagreat", sum := "38b14a9a0c8114f662e0e6510a7d7e42a2b6e3f4aeac6c058dfc3ffb9d58f494", func := "consort/consortlaw20.MetaFuel", spec := "metaFuel", unfollowed := true, recurses := true, loops := true, plainKeys := false, apart := false }
def MetaFuelSaid : Prop := metaFuelRow.holds Tryz.pinned (OpenSpec.ofChange metaFuelSpec)

/-- ITS FALSE NEIGHBOUR: 'it returns false'. Refute it at one input. -/
def metaFuelWrong : ChangeSpec := { name := "metaFuel", fn := fun _ => fun
  | [d1, d2, d3, d4] => { results := [.lit (.bool false)], args := [d1, d2, d3, d4] }
  | _ => none }
def MetaFuelWrongFalsely : Prop := metaFuelRow.holds Tryz.pinned (OpenSpec.ofChange metaFuelWrong)

/-- 'consortlaw20.MetaTower': WHATEVER THE INPUT: true; the input reads as it did. -/
def metaTowerSpec : ChangeSpec := { name := "metaTower", fn := fun _ => fun
  | [d1, d2, d3] => { results := [.lit (.bool true)], args := [d1, d2, d3] }
  | _ => none }
def metaTowerRow : OpenClaim := { program := "ytcfkfhaedllcpaagreat", sum := "38b14a9a0c8114f662e0e6510a7d7e42a2b6e3f4aeac6c058dfc3ffb9d58f494", func := "consort/consortlaw20.MetaTower", spec := "metaTower", unfollowed := true, recurses := true, loops := true, plainKeys := false, apart := false }
def MetaTowerSaid : Prop := metaTowerRow.holds Tryz.pinned (OpenSpec.ofChange metaTowerSpec)

/-- ITS FALSE NEIGHBOUR: 'it returns false'. Refute it at one input. -/
def metaTowerWrong : ChangeSpec := { name := "metaTower", fn := fun _ => fun
  | [d1, d2, d3] => { results := [.lit (.bool false)], args := [d1, d2, d3] }
  | _ => none }
def MetaTowerWrongFalsely : Prop := metaTowerRow.holds Tryz.pinned (OpenSpec.ofChange metaTowerWrong)

/- THE SECOND FORM. 'bulk': how many values and letters a reading holds, each counted each time it is reached (what is shared counts as often as it is met; a slice's spare places count too). A statement '..UptoSaid' is the law's where the arguments, and the package variables that the reading takes, are together of bulk at most 1048576: NARROWER than '..Said'. Prove '..Said' where nothing that the law and all that it calls make is longer than what came in: it says more and counts as full. Else prove '..UptoSaid'. A law counts once. -/
mutual
def uptoBulk {H : Type} : DataW H → Nat
  | .lit (.string bytes) => bytes.length + 1
  | .lit _ => 1
  | .nil => 1
  | .ptr d => uptoBulk d + 1
  | .slice elems spare => uptoBulkAll elems + uptoBulkAll spare + 1
  | .agg parts => uptoBulkAll parts + 1
  | .iface _ d => uptoBulk d + 1
  | .map entries => uptoBulkEntries entries + 1
  | .held _ => 1
def uptoBulkAll {H : Type} : List (DataW H) → Nat
  | [] => 0
  | d :: r => uptoBulk d + uptoBulkAll r
def uptoBulkEntries {H : Type} : List (Lit × DataW H) → Nat
  | [] => 0
  | x :: r => uptoBulkEntry x + uptoBulkEntries r
def uptoBulkEntry {H : Type} : Lit × DataW H → Nat
  | (.string bytes, d) => bytes.length + uptoBulk d + 1
  | (_, d) => uptoBulk d + 1
 end
def uptoSmall : (H : Type) → List (DataW H) → Bool := fun _ ds => decide (uptoBulkAll ds ≤ 1048576)
def OpenSpec.upto (s : _root_.Go.ChangeSpec) : _root_.Go.OpenSpec := { _root_.Go.OpenSpec.ofChange s with cond := some uptoSmall }

/-- 'consortlaw20.MetaLines', WHERE WHAT IT READS IS OF BULK AT MOST 1048576: true; the input reads as it did. -/
def metaLinesUptoRow : OpenClaim := { program := "ytcfkfhaedllcpaagreat", sum := "38b14a9a0c8114f662e0e6510a7d7e42a2b6e3f4aeac6c058dfc3ffb9d58f494", func := "consort/consortlaw20.MetaLines", spec := "metaLines", unfollowed := true, recurses := true, loops := true, plainKeys := false, apart := false, narrowed := true }
def MetaLinesUptoSaid : Prop := metaLinesUptoRow.holds Tryz.pinned (OpenSpec.upto metaLinesSpec)

/-- 'consortlaw20.MetaRuns', WHERE WHAT IT READS IS OF BULK AT MOST 1048576: true; the input reads as it did. -/
def metaRunsUptoRow : OpenClaim := { program := "ytcfkfhaedllcpaagreat", sum := "38b14a9a0c8114f662e0e6510a7d7e42a2b6e3f4aeac6c058dfc3ffb9d58f494", func := "consort/consortlaw20.MetaRuns", spec := "metaRuns", unfollowed := true, recurses := true, loops := true, plainKeys := false, apart := false, narrowed := true }
def MetaRunsUptoSaid : Prop := metaRunsUptoRow.holds Tryz.pinned (OpenSpec.upto metaRunsSpec)

/-- 'consortlaw20.MetaOrders', WHERE WHAT IT READS IS OF BULK AT MOST 1048576: true; the input reads as it did. -/
def metaOrdersUptoRow : OpenClaim := { program := "ytcfkfhaedllcpaagreat", sum := "38b14a9a0c8114f662e0e6510a7d7e42a2b6e3f4aeac6c058dfc3ffb9d58f494", func := "consort/consortlaw20.MetaOrders", spec := "metaOrders", unfollowed := true, recurses := true, loops := true, plainKeys := false, apart := false, narrowed := true }
def MetaOrdersUptoSaid : Prop := metaOrdersUptoRow.holds Tryz.pinned (OpenSpec.upto metaOrdersSpec)

/-- 'consortlaw20.MetaChecks', WHERE WHAT IT READS IS OF BULK AT MOST 1048576: true; the input reads as it did. -/
def metaChecksUptoRow : OpenClaim := { program := "ytcfkfhaedllcpaagreat", sum := "38b14a9a0c8114f662e0e6510a7d7e42a2b6e3f4aeac6c058dfc3ffb9d58f494", func := "consort/consortlaw20.MetaChecks", spec := "metaChecks", unfollowed := true, recurses := true, loops := true, plainKeys := false, apart := false, narrowed := true }
def MetaChecksUptoSaid : Prop := metaChecksUptoRow.holds Tryz.pinned (OpenSpec.upto metaChecksSpec)

/-- 'consortlaw20.MetaCalls', WHERE WHAT IT READS IS OF BULK AT MOST 1048576: true; the input reads as it did. -/
def metaCallsUptoRow : OpenClaim := { program := "ytcfkfhaedllcpaagreat", sum := "38b14a9a0c8114f662e0e6510a7d7e42a2b6e3f4aeac6c058dfc3ffb9d58f494", func := "consort/consortlaw20.MetaCalls", spec := "metaCalls", unfollowed := true, recurses := true, loops := true, plainKeys := false, apart := false, narrowed := true }
def MetaCallsUptoSaid : Prop := metaCallsUptoRow.holds Tryz.pinned (OpenSpec.upto metaCallsSpec)

/-- 'consortlaw20.MetaUnasked', WHERE WHAT IT READS IS OF BULK AT MOST 1048576: true; the input reads as it did. -/
def metaUnaskedUptoRow : OpenClaim := { program := "ytcfkfhaedllcpaagreat", sum := "38b14a9a0c8114f662e0e6510a7d7e42a2b6e3f4aeac6c058dfc3ffb9d58f494", func := "consort/consortlaw20.MetaUnasked", spec := "metaUnasked", unfollowed := true, recurses := true, loops := true, plainKeys := false, apart := false, narrowed := true }
def MetaUnaskedUptoSaid : Prop := metaUnaskedUptoRow.holds Tryz.pinned (OpenSpec.upto metaUnaskedSpec)

/-- 'consortlaw20.MetaFuel', WHERE WHAT IT READS IS OF BULK AT MOST 1048576: true; the input reads as it did. -/
def metaFuelUptoRow : OpenClaim := { program := "ytcfkfhaedllcpaagreat", sum := "38b14a9a0c8114f662e0e6510a7d7e42a2b6e3f4aeac6c058dfc3ffb9d58f494", func := "consort/consortlaw20.MetaFuel", spec := "metaFuel", unfollowed := true, recurses := true, loops := true, plainKeys := false, apart := false, narrowed := true }
def MetaFuelUptoSaid : Prop := metaFuelUptoRow.holds Tryz.pinned (OpenSpec.upto metaFuelSpec)

/-- 'consortlaw20.MetaTower', WHERE WHAT IT READS IS OF BULK AT MOST 1048576: true; the input reads as it did. -/
def metaTowerUptoRow : OpenClaim := { program := "ytcfkfhaedllcpaagreat", sum := "38b14a9a0c8114f662e0e6510a7d7e42a2b6e3f4aeac6c058dfc3ffb9d58f494", func := "consort/consortlaw20.MetaTower", spec := "metaTower", unfollowed := true, recurses := true, loops := true, plainKeys := false, apart := false, narrowed := true }
def MetaTowerUptoSaid : Prop := metaTowerUptoRow.holds Tryz.pinned (OpenSpec.upto metaTowerSpec)

end Rows
end Go.Proofs.YtcfkfhaedllcpaaGreat
