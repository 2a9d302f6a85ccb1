/-
  NARROWER THAN 'FOR EVERY INPUT', by the rows' own cells (each row's printed sentence says how): RankAheads: loops · RankOrders: loops · RankCalls: loops · RankStrict: loops · RankWider: loops · RankApplies: loops · RankChains: loops · RankFirst: loops · RankPlans: loops.
  DERIVED. THE GIVEN ROWS OF THIS SEAT. 9 by the template 'for every input the law returns true; each argument reads behind the call as it read before'; 0 by the template 'total and deterministic' (their statements: YtijbpgdmpejgoaaGreatTotals.lean).
  GIVEN WITH THE SEED: the statements are not yours to turn. If you find one false, say at which input.
  Laid BY PROGRAM, IN A SANDBOX (cutbox-rows.mjs): the forced cells as the released guide's own fill.sh prints them over the translation a4e5c745b5320515… (all of the seat's roots in one cut). By AI agents, Wed Nov 11 2026. No macro, syntax, notation, axiom, sorry.
-/
import Derived.Test.YtijbpgdmpejgoaaGreatChecked
import GoSem.Claim
import GoSem.ClaimJoined
import GoSem.ClaimMapViews
import Derived.JoinedTies
import Derived.KernelRfl
namespace Go.Proofs.YtijbpgdmpejgoaaGreat
/- THE CELL 'sum', in the pinned program and in every row, IS THE sha256 OF THE DUMP (.gsa) THAT YtijbpgdmpejgoaaGreatProg.lean LOADS. Nothing in Lean hashes anything: it is a label: what it is worth is what the hold of that sum in a sandbox is worth. -/
noncomputable def Tryz.pinned : Pinned := { name := "ytijbpgdmpejgoaagreat", sum := "a4e5c745b53205159a7520eb76d166ba0fefb76cf8f3878f8c12b39aca8f66c8", checked := Tryz.checked }
namespace Rows
def none {H : Type} : Left H := { results := [], args := [] }

/-- 'consortlaw06.RankAheads': WHATEVER THE INPUT: true; the input reads as it did. -/
def rankAheadsSpec : ChangeSpec := { name := "rankAheads", fn := fun _ => fun
  | [d1, d2, d3] => { results := [.lit (.bool true)], args := [d1, d2, d3] }
  | _ => none }
def rankAheadsRow : OpenClaim := { program := "ytijbpgdmpejgoaagreat", sum := "a4e5c745b53205159a7520eb76d166ba0fefb76cf8f3878f8c12b39aca8f66c8", func := "consort/consortlaw06.RankAheads", spec := "rankAheads", unfollowed := true, recurses := true, loops := true, plainKeys := false, apart := false }
def RankAheadsSaid : Prop := rankAheadsRow.holds Tryz.pinned (OpenSpec.ofChange rankAheadsSpec)

/-- ITS FALSE NEIGHBOUR: 'it returns false'. Refute it at one input. -/
def rankAheadsWrong : ChangeSpec := { name := "rankAheads", fn := fun _ => fun
  | [d1, d2, d3] => { results := [.lit (.bool false)], args := [d1, d2, d3] }
  | _ => none }
def RankAheadsWrongFalsely : Prop := rankAheadsRow.holds Tryz.pinned (OpenSpec.ofChange rankAheadsWrong)

/-- 'consortlaw06.RankOrders': WHATEVER THE INPUT: true; the input reads as it did. -/
def rankOrdersSpec : ChangeSpec := { name := "rankOrders", fn := fun _ => fun
  | [d1, d2, d3] => { results := [.lit (.bool true)], args := [d1, d2, d3] }
  | _ => none }
def rankOrdersRow : OpenClaim := { program := "ytijbpgdmpejgoaagreat", sum := "a4e5c745b53205159a7520eb76d166ba0fefb76cf8f3878f8c12b39aca8f66c8", func := "consort/consortlaw06.RankOrders", spec := "rankOrders", unfollowed := true, recurses := true, loops := true, plainKeys := false, apart := false }
def RankOrdersSaid : Prop := rankOrdersRow.holds Tryz.pinned (OpenSpec.ofChange rankOrdersSpec)

/-- ITS FALSE NEIGHBOUR: 'it returns false'. Refute it at one input. -/
def rankOrdersWrong : ChangeSpec := { name := "rankOrders", fn := fun _ => fun
  | [d1, d2, d3] => { results := [.lit (.bool false)], args := [d1, d2, d3] }
  | _ => none }
def RankOrdersWrongFalsely : Prop := rankOrdersRow.holds Tryz.pinned (OpenSpec.ofChange rankOrdersWrong)

/-- 'consortlaw06.RankCalls': WHATEVER THE INPUT: true; the input reads as it did. -/
def rankCallsSpec : ChangeSpec := { name := "rankCalls", fn := fun _ => fun
  | [d1, d2, d3, d4] => { results := [.lit (.bool true)], args := [d1, d2, d3, d4] }
  | _ => none }
def rankCallsRow : OpenClaim := { program := "ytijbpgdmpejgoaagreat", sum := "a4e5c745b53205159a7520eb76d166ba0fefb76cf8f3878f8c12b39aca8f66c8", func := "consort/consortlaw06.RankCalls", spec := "rankCalls", unfollowed := true, recurses := true, loops := true, plainKeys := false, apart := false }
def RankCallsSaid : Prop := rankCallsRow.holds Tryz.pinned (OpenSpec.ofChange rankCallsSpec)

/-- ITS FALSE NEIGHBOUR: 'it returns false'. Refute it at one input. -/
def rankCallsWrong : ChangeSpec := { name := "rankCalls", fn := fun _ => fun
  | [d1, d2, d3, d4] => { results := [.lit (.bool false)], args := [d1, d2, d3, d4] }
  | _ => none }
def RankCallsWrongFalsely : Prop := rankCallsRow.holds Tryz.pinned (OpenSpec.ofChange rankCallsWrong)

/-- 'consortlaw06.RankStrict': WHATEVER THE INPUT: true; the input reads as it did. -/
def rankStrictSpec : ChangeSpec := { name := "rankStrict", fn := fun _ => fun
  | [d1, d2, d3] => { results := [.lit (.bool true)], args := [d1, d2, d3] }
  | _ => none }
def rankStrictRow : OpenClaim := { program := "ytijbpgdmpejgoaagreat", sum := "a4e5c745b53205159a7520eb76d166ba0fefb76cf8f3878f8c12b39aca8f66c8", func := "consort/consortlaw06.RankStrict", spec := "rankStrict", unfollowed := true, recurses := true, loops := true, plainKeys := false, apart := false }
def RankStrictSaid : Prop := rankStrictRow.holds Tryz.pinned (OpenSpec.ofChange rankStrictSpec)

/-- ITS FALSE NEIGHBOUR: 'it returns false'. Refute it at one input. -/
def rankStrictWrong : ChangeSpec := { name := "rankStrict", fn := fun _ => fun
  | [d1, d2, d3] => { results := [.lit (.bool false)], args := [d1, d2, d3] }
  | _ => none }
def RankStrictWrongFalsely : Prop := rankStrictRow.holds Tryz.pinned (OpenSpec.ofChange rankStrictWrong)

/-- 'consortlaw06.RankWider': WHATEVER THE INPUT: true; the input reads as it did. -/
def rankWiderSpec : ChangeSpec := { name := "rankWider", fn := fun _ => fun
  | [d1, d2, d3, d4, d5] => { results := [.lit (.bool true)], args := [d1, d2, d3, d4, d5] }
  | _ => none }
def rankWiderRow : OpenClaim := { program := "ytijbpgdmpejgoaagreat", sum := "a4e5c745b53205159a7520eb76d166ba0fefb76cf8f3878f8c12b39aca8f66c8", func := "consort/consortlaw06.RankWider", spec := "rankWider", unfollowed := true, recurses := true, loops := true, plainKeys := false, apart := false }
def RankWiderSaid : Prop := rankWiderRow.holds Tryz.pinned (OpenSpec.ofChange rankWiderSpec)

/-- ITS FALSE NEIGHBOUR: 'it returns false'. Refute it at one input. -/
def rankWiderWrong : ChangeSpec := { name := "rankWider", fn := fun _ => fun
  | [d1, d2, d3, d4, d5] => { results := [.lit (.bool false)], args := [d1, d2, d3, d4, d5] }
  | _ => none }
def RankWiderWrongFalsely : Prop := rankWiderRow.holds Tryz.pinned (OpenSpec.ofChange rankWiderWrong)

/-- 'consortlaw06.RankApplies': WHATEVER THE INPUT: true; the input reads as it did. -/
def rankAppliesSpec : ChangeSpec := { name := "rankApplies", fn := fun _ => fun
  | [d1, d2, d3, d4] => { results := [.lit (.bool true)], args := [d1, d2, d3, d4] }
  | _ => none }
def rankAppliesRow : OpenClaim := { program := "ytijbpgdmpejgoaagreat", sum := "a4e5c745b53205159a7520eb76d166ba0fefb76cf8f3878f8c12b39aca8f66c8", func := "consort/consortlaw06.RankApplies", spec := "rankApplies", unfollowed := true, recurses := true, loops := true, plainKeys := false, apart := false }
def RankAppliesSaid : Prop := rankAppliesRow.holds Tryz.pinned (OpenSpec.ofChange rankAppliesSpec)

/-- ITS FALSE NEIGHBOUR: 'it returns false'. Refute it at one input. -/
def rankAppliesWrong : ChangeSpec := { name := "rankApplies", fn := fun _ => fun
  | [d1, d2, d3, d4] => { results := [.lit (.bool false)], args := [d1, d2, d3, d4] }
  | _ => none }
def RankAppliesWrongFalsely : Prop := rankAppliesRow.holds Tryz.pinned (OpenSpec.ofChange rankAppliesWrong)

/-- 'consortlaw06.RankChains': WHATEVER THE INPUT: true; the input reads as it did. -/
def rankChainsSpec : ChangeSpec := { name := "rankChains", fn := fun _ => fun
  | [d1, d2] => { results := [.lit (.bool true)], args := [d1, d2] }
  | _ => none }
def rankChainsRow : OpenClaim := { program := "ytijbpgdmpejgoaagreat", sum := "a4e5c745b53205159a7520eb76d166ba0fefb76cf8f3878f8c12b39aca8f66c8", func := "consort/consortlaw06.RankChains", spec := "rankChains", unfollowed := true, recurses := true, loops := true, plainKeys := false, apart := false }
def RankChainsSaid : Prop := rankChainsRow.holds Tryz.pinned (OpenSpec.ofChange rankChainsSpec)

/-- ITS FALSE NEIGHBOUR: 'it returns false'. Refute it at one input. -/
def rankChainsWrong : ChangeSpec := { name := "rankChains", fn := fun _ => fun
  | [d1, d2] => { results := [.lit (.bool false)], args := [d1, d2] }
  | _ => none }
def RankChainsWrongFalsely : Prop := rankChainsRow.holds Tryz.pinned (OpenSpec.ofChange rankChainsWrong)

/-- 'consortlaw06.RankFirst': WHATEVER THE INPUT: true; the input reads as it did. -/
def rankFirstSpec : ChangeSpec := { name := "rankFirst", fn := fun _ => fun
  | [d1, d2, d3, d4] => { results := [.lit (.bool true)], args := [d1, d2, d3, d4] }
  | _ => none }
def rankFirstRow : OpenClaim := { program := "ytijbpgdmpejgoaagreat", sum := "a4e5c745b53205159a7520eb76d166ba0fefb76cf8f3878f8c12b39aca8f66c8", func := "consort/consortlaw06.RankFirst", spec := "rankFirst", unfollowed := true, recurses := true, loops := true, plainKeys := false, apart := false }
def RankFirstSaid : Prop := rankFirstRow.holds Tryz.pinned (OpenSpec.ofChange rankFirstSpec)

/-- ITS FALSE NEIGHBOUR: 'it returns false'. Refute it at one input. -/
def rankFirstWrong : ChangeSpec := { name := "rankFirst", fn := fun _ => fun
  | [d1, d2, d3, d4] => { results := [.lit (.bool false)], args := [d1, d2, d3, d4] }
  | _ => none }
def RankFirstWrongFalsely : Prop := rankFirstRow.holds Tryz.pinned (OpenSpec.ofChange rankFirstWrong)

/-- 'consortlaw06.RankPlans': WHATEVER THE INPUT: true; the input reads as it did. -/
def rankPlansSpec : ChangeSpec := { name := "rankPlans", fn := fun _ => fun
  | [d1, d2] => { results := [.lit (.bool true)], args := [d1, d2] }
  | _ => none }
def rankPlansRow : OpenClaim := { program := "ytijbpgdmpejgoaagreat", sum := "a4e5c745b53205159a7520eb76d166ba0fefb76cf8f3878f8c12b39aca8f66c8", func := "consort/consortlaw06.RankPlans", spec := "rankPlans", unfollowed := true, recurses := true, loops := true, plainKeys := false, apart := false }
def RankPlansSaid : Prop := rankPlansRow.holds Tryz.pinned (OpenSpec.ofChange rankPlansSpec)

/-- ITS FALSE NEIGHBOUR: 'it returns false'. Refute it at one input. -/
def rankPlansWrong : ChangeSpec := { name := "rankPlans", fn := fun _ => fun
  | [d1, d2] => { results := [.lit (.bool false)], args := [d1, d2] }
  | _ => none }
def RankPlansWrongFalsely : Prop := rankPlansRow.holds Tryz.pinned (OpenSpec.ofChange rankPlansWrong)

/- THE SECOND FORM. 'bulk': how many values and letters a reading holds, each counted each time it is reached (what is shared counts as often as it is met; a slice's spare places count too). A statement '..UptoSaid' is the law's where the arguments, and the package variables that the reading takes, are together of bulk at most 1048576: NARROWER than '..Said'. Prove '..Said' where nothing that the law and all that it calls make is longer than what came in: it says more and counts as full. Else prove '..UptoSaid'. A law counts once. -/
mutual
def uptoBulk {H : Type} : DataW H → Nat
  | .lit (.string bytes) => bytes.length + 1
  | .lit _ => 1
  | .nil => 1
  | .ptr d => uptoBulk d + 1
  | .slice elems spare => uptoBulkAll elems + uptoBulkAll spare + 1
  | .agg parts => uptoBulkAll parts + 1
  | .iface _ d => uptoBulk d + 1
  | .map entries => uptoBulkEntries entries + 1
  | .held _ => 1
def uptoBulkAll {H : Type} : List (DataW H) → Nat
  | [] => 0
  | d :: r => uptoBulk d + uptoBulkAll r
def uptoBulkEntries {H : Type} : List (Lit × DataW H) → Nat
  | [] => 0
  | x :: r => uptoBulkEntry x + uptoBulkEntries r
def uptoBulkEntry {H : Type} : Lit × DataW H → Nat
  | (.string bytes, d) => bytes.length + uptoBulk d + 1
  | (_, d) => uptoBulk d + 1
 end
def uptoSmall : (H : Type) → List (DataW H) → Bool := fun _ ds => decide (uptoBulkAll ds ≤ 1048576)
def OpenSpec.upto (s : _root_.Go.ChangeSpec) : _root_.Go.OpenSpec := { _root_.Go.OpenSpec.ofChange s with cond := some uptoSmall }

/-- 'consortlaw06.RankAheads', WHERE WHAT IT READS IS OF BULK AT MOST 1048576: true; the input reads as it did. -/
def rankAheadsUptoRow : OpenClaim := { program := "ytijbpgdmpejgoaagreat", sum := "a4e5c745b53205159a7520eb76d166ba0fefb76cf8f3878f8c12b39aca8f66c8", func := "consort/consortlaw06.RankAheads", spec := "rankAheads", unfollowed := true, recurses := true, loops := true, plainKeys := false, apart := false, narrowed := true }
def RankAheadsUptoSaid : Prop := rankAheadsUptoRow.holds Tryz.pinned (OpenSpec.upto rankAheadsSpec)

/-- 'consortlaw06.RankOrders', WHERE WHAT IT READS IS OF BULK AT MOST 1048576: true; the input reads as it did. -/
def rankOrdersUptoRow : OpenClaim := { program := "ytijbpgdmpejgoaagreat", sum := "a4e5c745b53205159a7520eb76d166ba0fefb76cf8f3878f8c12b39aca8f66c8", func := "consort/consortlaw06.RankOrders", spec := "rankOrders", unfollowed := true, recurses := true, loops := true, plainKeys := false, apart := false, narrowed := true }
def RankOrdersUptoSaid : Prop := rankOrdersUptoRow.holds Tryz.pinned (OpenSpec.upto rankOrdersSpec)

/-- 'consortlaw06.RankCalls', WHERE WHAT IT READS IS OF BULK AT MOST 1048576: true; the input reads as it did. -/
def rankCallsUptoRow : OpenClaim := { program := "ytijbpgdmpejgoaagreat", sum := "a4e5c745b53205159a7520eb76d166ba0fefb76cf8f3878f8c12b39aca8f66c8", func := "consort/consortlaw06.RankCalls", spec := "rankCalls", unfollowed := true, recurses := true, loops := true, plainKeys := false, apart := false, narrowed := true }
def RankCallsUptoSaid : Prop := rankCallsUptoRow.holds Tryz.pinned (OpenSpec.upto rankCallsSpec)

/-- 'consortlaw06.RankStrict', WHERE WHAT IT READS IS OF BULK AT MOST 1048576: true; the input reads as it did. -/
def rankStrictUptoRow : OpenClaim := { program := "ytijbpgdmpejgoaagreat", sum := "a4e5c745b53205159a7520eb76d166ba0fefb76cf8f3878f8c12b39aca8f66c8", func := "consort/consortlaw06.RankStrict", spec := "rankStrict", unfollowed := true, recurses := true, loops := true, plainKeys := false, apart := false, narrowed := true }
def RankStrictUptoSaid : Prop := rankStrictUptoRow.holds Tryz.pinned (OpenSpec.upto rankStrictSpec)

/-- 'consortlaw06.RankWider', WHERE WHAT IT READS IS OF BULK AT MOST 1048576: true; the input reads as it did. -/
def rankWiderUptoRow : OpenClaim := { program := "ytijbpgdmpejgoaagreat", sum := "a4e5c745b53205159a7520eb76d166ba0fefb76cf8f3878f8c12b39aca8f66c8", func := "consort/consortlaw06.RankWider", spec := "rankWider", unfollowed := true, recurses := true, loops := true, plainKeys := false, apart := false, narrowed := true }
def RankWiderUptoSaid : Prop := rankWiderUptoRow.holds Tryz.pinned (OpenSpec.upto rankWiderSpec)

/-- 'consortlaw06.RankApplies', WHERE WHAT IT READS IS OF BULK AT MOST 1048576: true; the input reads as it did. -/
def rankAppliesUptoRow : OpenClaim := { program := "ytijbpgdmpejgoaagreat", sum := "a4e5c745b53205159a7520eb76d166ba0fefb76cf8f3878f8c12b39aca8f66c8", func := "consort/consortlaw06.RankApplies", spec := "rankApplies", unfollowed := true, recurses := true, loops := true, plainKeys := false, apart := false, narrowed := true }
def RankAppliesUptoSaid : Prop := rankAppliesUptoRow.holds Tryz.pinned (OpenSpec.upto rankAppliesSpec)

/-- 'consortlaw06.RankChains', WHERE WHAT IT READS IS OF BULK AT MOST 1048576: true; the input reads as it did. -/
def rankChainsUptoRow : OpenClaim := { program := "ytijbpgdmpejgoaagreat", sum := "a4e5c745b53205159a7520eb76d166ba0fefb76cf8f3878f8c12b39aca8f66c8", func := "consort/consortlaw06.RankChains", spec := "rankChains", unfollowed := true, recurses := true, loops := true, plainKeys := false, apart := false, narrowed := true }
def RankChainsUptoSaid : Prop := rankChainsUptoRow.holds Tryz.pinned (OpenSpec.upto rankChainsSpec)

/-- 'consortlaw06.RankFirst', WHERE WHAT IT READS IS OF BULK AT MOST 1048576: true; the input reads as it did. -/
def rankFirstUptoRow : OpenClaim := { program := "ytijbpgdmpejgoaagreat", sum := "a4e5c745b53205159a7520eb76d166ba0fefb76cf8f3878f8c12b39aca8f66c8", func := "consort/consortlaw06.RankFirst", spec := "rankFirst", unfollowed := true, recurses := true, loops := true, plainKeys := false, apart := false, narrowed := true }
def RankFirstUptoSaid : Prop := rankFirstUptoRow.holds Tryz.pinned (OpenSpec.upto rankFirstSpec)

/-- 'consortlaw06.RankPlans', WHERE WHAT IT READS IS OF BULK AT MOST 1048576: true; the input reads as it did. -/
def rankPlansUptoRow : OpenClaim := { program := "ytijbpgdmpejgoaagreat", sum := "a4e5c745b53205159a7520eb76d166ba0fefb76cf8f3878f8c12b39aca8f66c8", func := "consort/consortlaw06.RankPlans", spec := "rankPlans", unfollowed := true, recurses := true, loops := true, plainKeys := false, apart := false, narrowed := true }
def RankPlansUptoSaid : Prop := rankPlansUptoRow.holds Tryz.pinned (OpenSpec.upto rankPlansSpec)

end Rows
end Go.Proofs.YtijbpgdmpejgoaaGreat
