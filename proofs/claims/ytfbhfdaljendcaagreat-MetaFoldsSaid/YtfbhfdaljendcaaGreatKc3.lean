/-
 The code of functions of the program, resolved, for the evaluator (printed by wip/gen/mkclosed.py)
-/
import Derived.Test.YtfbhfdaljendcaaGreatEv7
import Derived.Test.YtfbhfdaljendcaaGreatProg
import Derived.KernelRfl
set_option linter.all false
set_option linter.unusedVariables false
set_option linter.unusedSimpArgs false
namespace Go.Gl
abbrev q3 (n : Nat) (x : AOp) : AOper := ⟨some n, x, none⟩
open Go.Proofs
abbrev ae233 : ACode := (.seq [1] (.reg [q3 1 (.box (.t 0)),
 q3 2 (.mv (.c .pn))])
 (.seq [1, 3] (.reg [q3 13 (.load (some 6) (.t 1)),
 q3 14 (.mkmap),
 q3 15 (.mkmap),
 q3 16 (.build [(.l [] true), (.i .i64 0), (.l [] true), (.l [] true), (.l [] true), (.i .i64 0), .mn, .mn] [(0, 6, (.t 13)), (6, 1, (.t 14)), (7, 1, (.t 15))]),
 q3 17 (.box (.t 16)),
 q3 3 (.mv (.t 17))])
 (.seq [3] (.seq [1, 3, 20, 21] (.reg [q3 18 (.faddr 0 (.t 1)),
 q3 19 (.load none (.t 18)),
 q3 20 (.len (.t 19)),
 q3 21 (.mv (.c (.i .i64 0)))])
 (.block 0 (.loop [1, 3, 20, 21] (.seq [1, 3, 20, 21, 22] (.reg [q3 22 (.bin .lss (.t 21) (.t 20))])
 (.seq [1, 3, 20, 21] (.cond (.t 22)
 .skip
 (.exit 0))
 (.seq [1, 3, 20, 21] (.block 1 (.seq [1, 3, 4, 20, 21] (.reg [q3 23 (.mv (.t 21)),
 q3 4 (.mv (.t 23))])
 (.seq [1, 3, 5, 20, 21] (.reg [q3 24 (.mv (.t 4)),
 q3 25 (.bin .add (.t 24) (.c (.i .i64 3))),
 q3 5 (.mv (.t 25))])
 (.seq [1, 3, 5, 20, 21] (.dreg [1, 3, 5, 20, 21] [⟨0, q3 27 (.mv (.t 3)), [], []⟩,
 ⟨1, q3 28 (.nilck (.t 27)), [], []⟩,
 ⟨2, q3 29 (.faddr 6 (.t 28)), [], []⟩,
 ⟨3, q3 30 (.load none (.t 29)), [], []⟩,
 ⟨4, q3 31 (.mv (.t 5)), [], []⟩,
 ⟨5, q3 32 (.load (some 6) (.t 1)), [], []⟩,
 ⟨6, q3 33 (.mv (.t 5)), [], []⟩,
 ⟨7, q3 34 (.call 226 [(.t 32), (.t 33)]), [3], [q3 30 (.load none (.t 29))]⟩,
 ⟨8, q3 26 (.mv (.t 34)), [], []⟩,
 ⟨9, q3 35 (.extract 0 (.t 26)), [], []⟩,
 ⟨10, q3 36 (.extract 1 (.t 26)), [], []⟩,
 ⟨11, ⟨none, .mapset (.i .i64) (.t 30) (.t 31) (.t 35), none⟩, [], []⟩])
 (.seq [1, 3, 5, 6, 20, 21] (.reg [q3 37 (.mv (.t 5)),
 q3 38 (.build [(.i .i64 0), (.l [] true)] [(0, 1, (.t 37))]),
 q3 6 (.alloc [(.i .i64 0), (.l [] true)]),
 ⟨none, .store 2 (.t 6) (.t 38), none⟩])
 (.seq [1, 3, 5, 6, 7, 20, 21] (.reg [q3 40 (.load (some 6) (.t 1)),
 q3 41 (.mv (.t 5)),
 q3 42 (.call 280 [(.t 40), (.t 41)]),
 q3 39 (.mv (.t 42)),
 q3 43 (.extract 0 (.t 39)),
 q3 44 (.extract 1 (.t 39)),
 q3 7 (.mv (.t 43)),
 q3 8 (.mv (.t 44))])
 (.seq [1, 3, 5, 6, 20, 21] (.seq [1, 3, 5, 6, 7, 20, 21, 50, 51, 52] (.reg [q3 45 (.mv (.t 3)),
 q3 46 (.nilck (.t 45)),
 q3 47 (.faddr 6 (.t 46)),
 q3 48 (.load none (.t 47)),
 q3 49 (.mv (.t 5)),
 q3 50 (.lookup (.i .i64) (.l [] true) false (.t 48) (.t 49)),
 q3 51 (.len (.t 50)),
 q3 52 (.mv (.c (.i .i64 0)))])
 (.block 2 (.loop [1, 3, 5, 6, 7, 20, 21, 50, 51, 52] (.seq [1, 3, 5, 6, 7, 20, 21, 50, 51, 52, 53] (.reg [q3 53 (.bin .lss (.t 52) (.t 51))])
 (.seq [1, 3, 5, 6, 7, 20, 21, 50, 51, 52] (.cond (.t 53)
 .skip
 (.exit 2))
 (.seq [1, 3, 5, 6, 7, 20, 21, 50, 51, 52] (.block 3 (.seq [1, 3, 5, 6, 7, 10, 20, 21, 50, 51, 52] (.reg [q3 54 (.iaddr 1 none (.t 50) (.t 52)),
 q3 55 (.load none (.t 54)),
 q3 10 (.alloc [(.i .i64 0)]),
 ⟨none, .store 1 (.t 10) (.t 55), none⟩])
 (.seq [1, 3, 5, 6, 7, 10, 11, 20, 21, 50, 51, 52] (.reg [q3 56 (.build [(.i .i64 0), (.i .i64 0)] [(0, 1, (.c (.i .i64 2)))]),
 q3 11 (.alloc [(.i .i64 0), (.i .i64 0)]),
 ⟨none, .store 2 (.t 11) (.t 56), none⟩])
 (.seq [1, 3, 5, 6, 7, 11, 20, 21, 50, 51, 52] (.seq [1, 3, 5, 6, 7, 11, 12, 20, 21, 50, 51, 52] (.reg [q3 57 (.mv (.t 7)),
 q3 58 (.mkf (.func 282) [] [(.t 10)]),
 q3 59 (.call 281 [(.t 57), (.t 58)]),
 q3 12 (.mv (.t 59))])
 (.seq [1, 3, 5, 6, 7, 11, 12, 20, 21, 50, 51, 52, 61] (.reg [q3 60 (.mv (.t 12)),
 q3 61 (.bin .geq (.t 60) (.c (.i .i64 0)))])
 (.cond (.t 61)
 (.reg [q3 62 (.mv (.t 7)),
 q3 63 (.mv (.t 12)),
 q3 64 (.iaddr 2 none (.t 62) (.t 63)),
 q3 65 (.faddr 1 (.t 64)),
 q3 66 (.load none (.t 65)),
 q3 67 (.build [(.i .i64 0), (.i .i64 0)] [(0, 1, (.c (.i .i64 1))), (1, 1, (.t 66))]),
 ⟨none, .store 2 (.t 11) (.t 67), none⟩])
 .skip)))
 (.reg [q3 68 (.faddr 1 (.t 6)),
 q3 69 (.load none (.t 68)),
 q3 70 (.load (some 2) (.t 11)),
 q3 71 (.bslice 2 1 [(.i .i64 0), (.i .i64 0)] [(0, (.t 70))]),
 q3 72 (.append 2 16 (.t 69) (.t 71)),
 q3 73 (.faddr 1 (.t 6)),
 ⟨none, .store 1 (.t 73) (.t 72), none⟩])))))
 (.reg [q3 74 (.bin .add (.t 52) (.c (.i .i64 1))),
 q3 52 (.mv (.t 74))])))))))
 (.dreg [1, 3, 20, 21] [⟨0, q3 75 (.mv (.t 3)), [], []⟩,
 ⟨1, q3 76 (.nilck (.t 75)), [], []⟩,
 ⟨2, q3 77 (.faddr 7 (.t 76)), [], []⟩,
 ⟨3, q3 78 (.load none (.t 77)), [], []⟩,
 ⟨4, q3 79 (.mv (.t 5)), [], []⟩,
 ⟨5, q3 80 (.load (some 2) (.t 6)), [], []⟩,
 ⟨6, ⟨none, .mapset (.i .i64) (.t 78) (.t 79) (.t 80), none⟩, [], []⟩]))))))))
 (.reg [q3 81 (.bin .add (.t 21) (.c (.i .i64 1))),
 q3 21 (.mv (.t 81))])))))))
 (.seq [2] (.reg [q3 82 (.mv (.t 3)),
 q3 2 (.mv (.t 82))])
 .ret))))
theorem ree233 : Tryz.f233.body.bind (res Tryz.prog Tryz.f233.ntmps [] []) = some (erase ae233) := by kernel_rfl
def fs233 : FnS := .fn 83 ae233 [.t 2]
theorem fsok233 : FnOk Tryz.prog 233 fs233 := fun _ _ _ hn h => ctr_of_resC Tryz.func233 (by kernel_rfl) ree233 (by kernel_rfl) hn h
abbrev ae234 : ACode := (.seq [0, 1, 4] (.reg [q3 4 (.alloc [(.i .i64 0), (.l [] true)])])
 (.seq [4] (.reg [q3 5 (.mv (.t 1)),
 q3 6 (.mv (.t 0)),
 q3 7 (.nilck (.t 6)),
 q3 8 (.faddr 7 (.t 7)),
 q3 9 (.load none (.t 8)),
 q3 10 (.mv (.t 1)),
 q3 11 (.lookup (.i .i64) (.a [(.i .i64 0), (.l [] true)]) false (.t 9) (.t 10)),
 q3 12 (.field none 1 (.t 11)),
 q3 13 (.call 283 [(.t 12)]),
 q3 14 (.build [(.i .i64 0), (.l [] true)] [(0, 1, (.t 5)), (1, 1, (.t 13))]),
 ⟨none, .store 2 (.t 4) (.t 14), none⟩])
 .ret))
theorem ree234 : Tryz.f234.body.bind (res Tryz.prog Tryz.f234.ntmps [] []) = some (erase ae234) := by kernel_rfl
def fs234 : FnS := .fn 15 ae234 [.c 4 (some 2)]
theorem fsok234 : FnOk Tryz.prog 234 fs234 := fun _ _ _ hn h => ctr_of_resC Tryz.func234 (by kernel_rfl) ree234 (by kernel_rfl) hn h
abbrev ae235 : ACode := (.seq [1, 2] (.reg [q3 2 (.box (.t 0)),
 q3 4 (.mv (.c (.i .i64 0)))])
 (.seq [1, 2] (.seq [1, 2, 16] (.reg [q3 9 (.load (some 6) (.t 2)),
 q3 10 (.call 94 [(.t 9)]),
 q3 11 (.bin .neq (.t 10) (.c (.i .i64 0))),
 q3 12 (.mv (.t 11)),
 ⟨(some 13), .mv (.t 1), (some (12, false))⟩,
 ⟨(some 14), .len (.t 13), (some (12, false))⟩,
 ⟨(some 15), .bin .gtr (.t 14) (.c (.i .i64 40)), (some (12, false))⟩,
 q3 16 (.pick (.t 12) (.c (.b true)) (.t 15))])
 (.cond (.t 16)
 (.seq [4] (.reg [q3 4 (.mv (.c (.i .i64 2)))])
 .ret)
 .skip))
 (.seq [] (.seq [1, 2, 17, 18, 19] (.reg [q3 17 (.mv (.t 1)),
 q3 18 (.len (.t 17)),
 q3 19 (.mv (.c (.i .i64 0)))])
 (.block 0 (.loop [1, 2, 17, 18, 19] (.seq [1, 2, 17, 18, 19, 20] (.reg [q3 20 (.bin .lss (.t 19) (.t 18))])
 (.seq [1, 2, 17, 18, 19] (.cond (.t 20)
 .skip
 (.exit 0))
 (.seq [1, 2, 17, 18, 19] (.block 1 (.seq [1, 2, 6, 17, 18, 19] (.reg [q3 21 (.iaddr 2 none (.t 17) (.t 19)),
 q3 22 (.load (some 2) (.t 21)),
 q3 6 (.alloc [(.i .i64 0), (.l [] true)]),
 ⟨none, .store 2 (.t 6) (.t 22), none⟩])
 (.seq [1, 2, 6, 7, 8, 17, 18, 19] (.reg [q3 24 (.load (some 6) (.t 2)),
 q3 25 (.faddr 0 (.t 6)),
 q3 26 (.load none (.t 25)),
 q3 27 (.call 226 [(.t 24), (.t 26)]),
 q3 23 (.mv (.t 27)),
 q3 28 (.extract 0 (.t 23)),
 q3 29 (.extract 1 (.t 23)),
 q3 7 (.mv (.t 28)),
 q3 8 (.mv (.t 29))])
 (.seq [1, 2, 17, 18, 19, 47] (.reg [q3 30 (.mv (.t 8)),
 q3 31 (.bin .neq (.t 30) (.c (.i .i64 0))),
 q3 32 (.mv (.t 31)),
 ⟨(some 33), .mv (.t 7), (some (32, false))⟩,
 ⟨(some 34), .len (.t 33), (some (32, false))⟩,
 ⟨(some 35), .faddr 1 (.t 6), (some (32, false))⟩,
 ⟨(some 36), .load none (.t 35), (some (32, false))⟩,
 ⟨(some 37), .len (.t 36), (some (32, false))⟩,
 ⟨(some 38), .bin .neq (.t 34) (.t 37), (some (32, false))⟩,
 q3 39 (.pick (.t 32) (.c (.b true)) (.t 38)),
 q3 40 (.mv (.t 39)),
 ⟨(some 41), .faddr 1 (.t 6), (some (40, false))⟩,
 ⟨(some 42), .load none (.t 41), (some (40, false))⟩,
 ⟨(some 43), .mv (.t 1), (some (40, false))⟩,
 ⟨(some 44), .len (.t 43), (some (40, false))⟩,
 ⟨(some 45), .call 284 [(.t 42), (.t 44)], (some (40, false))⟩,
 ⟨(some 46), .not (.t 45), (some (40, false))⟩,
 q3 47 (.pick (.t 40) (.c (.b true)) (.t 46))])
 (.cond (.t 47)
 (.seq [4] (.reg [q3 4 (.mv (.c (.i .i64 2)))])
 .ret)
 .skip)))))
 (.reg [q3 48 (.bin .add (.t 19) (.c (.i .i64 1))),
 q3 19 (.mv (.t 48))])))))))
 (.seq [4] (.reg [q3 4 (.mv (.c (.i .i64 0)))])
 .ret))))
theorem ree235 : Tryz.f235.body.bind (res Tryz.prog Tryz.f235.ntmps [] []) = some (erase ae235) := by kernel_rfl
def fs235 : FnS := .fn 49 ae235 [.t 4]
theorem fsok235 : FnOk Tryz.prog 235 fs235 := fun _ _ _ hn h => ctr_of_resC Tryz.func235 (by kernel_rfl) ree235 (by kernel_rfl) hn h
abbrev ae236 : ACode := (.seq [0] (.reg [q3 2 (.mv (.c (.l [] true)))])
 (.seq [2] (.reg [q3 3 (.mv (.t 0)),
 q3 4 (.call 285 [(.t 3), (.c (.f (.func 286) [] []))]),
 q3 2 (.mv (.t 4))])
 .ret))
theorem ree236 : Tryz.f236.body.bind (res Tryz.prog Tryz.f236.ntmps [] []) = some (erase ae236) := by kernel_rfl
def fs236 : FnS := .fn 5 ae236 [.t 2]
theorem fsok236 : FnOk Tryz.prog 236 fs236 := fun _ _ _ hn h => ctr_of_resC Tryz.func236 (by kernel_rfl) ree236 (by kernel_rfl) hn h
abbrev ae237 : ACode := (.seq [0, 2, 4, 6] (.reg [q3 4 (.box (.t 1)),
 q3 6 (.alloc [(.i .i64 0), (.l [] true)])])
 (.seq [0, 2, 4, 6, 7] (.reg [q3 11 (.mv (.t 0)),
 q3 12 (.mv (.t 2)),
 q3 13 (.call 234 [(.t 11), (.t 12)]),
 q3 7 (.alloc [(.i .i64 0), (.l [] true)]),
 ⟨none, .store 2 (.t 7) (.t 13), none⟩])
 (.seq [6, 7] (.seq [0, 4, 6, 7, 19, 20, 21] (.reg [q3 14 (.mv (.t 0)),
 q3 15 (.nilck (.t 14)),
 q3 16 (.faddr 6 (.t 15)),
 q3 17 (.load none (.t 16)),
 q3 18 (.mv (.t 2)),
 q3 19 (.lookup (.i .i64) (.l [] true) false (.t 17) (.t 18)),
 q3 20 (.len (.t 19)),
 q3 21 (.mv (.c (.i .i64 0)))])
 (.block 0 (.loop [0, 4, 6, 7, 19, 20, 21] (.seq [0, 4, 6, 7, 19, 20, 21, 22] (.reg [q3 22 (.bin .lss (.t 21) (.t 20))])
 (.seq [0, 4, 6, 7, 19, 20, 21] (.cond (.t 22)
 .skip
 (.exit 0))
 (.seq [0, 4, 6, 7, 19, 20, 21] (.block 1 (.seq [0, 4, 6, 7, 8, 9, 19, 20, 21] (.reg [q3 23 (.mv (.t 21)),
 q3 24 (.iaddr 1 none (.t 19) (.t 21)),
 q3 25 (.load none (.t 24)),
 q3 8 (.mv (.t 23)),
 q3 9 (.mv (.t 25))])
 (.seq [0, 4, 6, 7, 8, 10, 19, 20, 21] (.dreg [0, 4, 6, 7, 8, 10, 19, 20, 21] [⟨0, q3 26 (.mv (.t 0)), [], []⟩,
 ⟨1, q3 27 (.nilck (.t 26)), [], []⟩,
 ⟨2, q3 28 (.faddr 6 (.t 27)), [], []⟩,
 ⟨3, q3 29 (.load none (.t 28)), [], []⟩,
 ⟨4, q3 30 (.faddr 0 (.t 4)), [], []⟩,
 ⟨5, q3 31 (.load none (.t 30)), [], []⟩,
 ⟨6, q3 32 (.lookup (.i .i64) (.l [] true) false (.t 29) (.t 31)), [], []⟩,
 ⟨7, q3 33 (.mv (.t 9)), [], []⟩,
 ⟨8, q3 34 (.call 122 [(.t 32), (.t 33)]), [], []⟩,
 ⟨9, q3 10 (.mv (.t 34)), [], []⟩])
 (.seq [0, 4, 6, 7, 8, 10, 19, 20, 21, 36] (.reg [q3 35 (.mv (.t 10)),
 q3 36 (.bin .geq (.t 35) (.c (.i .i64 0)))])
 (.cond (.t 36)
 (.dreg [0, 4, 6, 7, 19, 20, 21] [⟨0, q3 37 (.faddr 1 (.t 7)), [], []⟩,
 ⟨1, q3 38 (.load none (.t 37)), [], []⟩,
 ⟨2, q3 39 (.mv (.t 8)), [], []⟩,
 ⟨3, q3 40 (.faddr 1 (.t 4)), [], []⟩,
 ⟨4, q3 41 (.load none (.t 40)), [], []⟩,
 ⟨5, q3 42 (.mv (.t 10)), [], []⟩,
 ⟨6, q3 43 (.iaddr 2 none (.t 41) (.t 42)), [], []⟩,
 ⟨7, q3 44 (.load (some 2) (.t 43)), [], []⟩,
 ⟨8, q3 45 (.iaddr 2 none (.t 38) (.t 39)), [], []⟩,
 ⟨9, ⟨none, .store 2 (.t 45) (.t 44), none⟩, [], []⟩])
 .skip)))))
 (.reg [q3 46 (.bin .add (.t 21) (.c (.i .i64 1))),
 q3 21 (.mv (.t 46))])))))))
 (.seq [6] (.reg [q3 47 (.load (some 2) (.t 7)),
 ⟨none, .store 2 (.t 6) (.t 47), none⟩])
 .ret))))
theorem ree237 : Tryz.f237.body.bind (res Tryz.prog Tryz.f237.ntmps [] []) = some (erase ae237) := by kernel_rfl
def fs237 : FnS := .fn 48 ae237 [.c 6 (some 2)]
theorem fsok237 : FnOk Tryz.prog 237 fs237 := fun _ _ _ hn h => ctr_of_resC Tryz.func237 (by kernel_rfl) ree237 (by kernel_rfl) hn h
abbrev ae238 : ACode := (.seq [0, 1] (.reg [q3 3 (.mv (.c (.b false)))])
 (.seq [3] (.reg [q3 4 (.mv (.t 0)),
 q3 5 (.bin .lss (.t 4) (.c (.i .i64 0))),
 q3 6 (.mv (.t 5)),
 ⟨(some 7), .mv (.t 0), (some (6, false))⟩,
 ⟨(some 8), .load none (.t 1), (some (6, false))⟩,
 ⟨(some 9), .nilck (.t 8), (some (6, false))⟩,
 ⟨(some 10), .faddr 0 (.t 9), (some (6, false))⟩,
 ⟨(some 11), .faddr 3 (.t 10), (some (6, false))⟩,
 ⟨(some 12), .load none (.t 11), (some (6, false))⟩,
 ⟨(some 13), .len (.t 12), (some (6, false))⟩,
 ⟨(some 14), .bin .geq (.t 7) (.t 13), (some (6, false))⟩,
 q3 15 (.pick (.t 6) (.c (.b true)) (.t 14)),
 q3 3 (.mv (.t 15))])
 .ret))
theorem ree238 : Tryz.f238.body.bind (res Tryz.prog Tryz.f238.ntmps [] []) = some (erase ae238) := by kernel_rfl
def fs238 : FnS := .fn 16 ae238 [.t 3]
theorem fsok238 : FnOk Tryz.prog 238 fs238 := fun _ _ _ hn h => ctr_of_resC Tryz.func238 (by kernel_rfl) ree238 (by kernel_rfl) hn h
abbrev ae239 : ACode := (.seq [0, 1, 2] (.reg [q3 6 (.mv (.c (.b false)))])
 (.seq [6] (.reg [q3 7 (.mv (.t 0)),
 q3 8 (.mv (.t 1)),
 q3 9 (.mv (.t 2)),
 q3 10 (.call 287 [(.t 7), (.t 8), (.t 9)]),
 q3 11 (.mv (.t 10)),
 ⟨(some 12), .mv (.t 0), (some (11, true))⟩,
 ⟨(some 13), .mv (.t 2), (some (11, true))⟩,
 ⟨(some 14), .mv (.t 1), (some (11, true))⟩,
 ⟨(some 15), .call 287 [(.t 12), (.t 13), (.t 14)], (some (11, true))⟩,
 ⟨(some 16), .not (.t 15), (some (11, true))⟩,
 q3 17 (.pick (.t 11) (.t 16) (.c (.b false))),
 q3 6 (.mv (.t 17))])
 .ret))
theorem ree239 : Tryz.f239.body.bind (res Tryz.prog Tryz.f239.ntmps [] []) = some (erase ae239) := by kernel_rfl
def fs239 : FnS := .fn 18 ae239 [.t 6]
theorem fsok239 : FnOk Tryz.prog 239 fs239 := fun _ _ _ hn h => ctr_of_resC Tryz.func239 (by kernel_rfl) ree239 (by kernel_rfl) hn h
abbrev ae240 : ACode := (.seq [0, 3] (.reg [q3 3 (.box (.t 1)),
 q3 4 (.mv (.c (.l [] true)))])
 (.seq [4] (.reg [q3 5 (.mv (.t 0)),
 q3 6 (.mkf (.func 289) [] [(.t 3)]),
 q3 7 (.call 288 [(.t 5), (.t 6)]),
 q3 4 (.mv (.t 7))])
 .ret))
theorem ree240 : Tryz.f240.body.bind (res Tryz.prog Tryz.f240.ntmps [] []) = some (erase ae240) := by kernel_rfl
def fs240 : FnS := .fn 8 ae240 [.t 4]
theorem fsok240 : FnOk Tryz.prog 240 fs240 := fun _ _ _ hn h => ctr_of_resC Tryz.func240 (by kernel_rfl) ree240 (by kernel_rfl) hn h
abbrev ae241 : ACode := (.seq [0] (.reg [q3 2 (.mv (.c (.l [] true)))])
 (.seq [2] (.reg [q3 3 (.mv (.t 0)),
 q3 4 (.mv (.t 0)),
 q3 5 (.len (.t 4)),
 q3 6 (.mv (.t 0)),
 q3 7 (.len (.t 6)),
 q3 8 (.slice 1 (.t 3) none (some (.t 5)) (some (.t 7))),
 q3 2 (.mv (.t 8))])
 .ret))
theorem ree241 : Tryz.f241.body.bind (res Tryz.prog Tryz.f241.ntmps [] []) = some (erase ae241) := by kernel_rfl
def fs241 : FnS := .fn 9 ae241 [.t 2]
theorem fsok241 : FnOk Tryz.prog 241 fs241 := fun _ _ _ hn h => ctr_of_resC Tryz.func241 (by kernel_rfl) ree241 (by kernel_rfl) hn h
abbrev ae243 : ACode := (.seq [1] (.reg [q3 1 (.box (.t 0)),
 q3 2 (.mv (.c .fnil))])
 (.seq [2] (.reg [q3 3 (.mkf (.func 292) [] [(.t 1)]),
 q3 2 (.mv (.t 3))])
 .ret))
theorem ree243 : Tryz.f243.body.bind (res Tryz.prog Tryz.f243.ntmps [] []) = some (erase ae243) := by kernel_rfl
def fs243 : FnS := .fn 4 ae243 [.t 2]
theorem fsok243 : FnOk Tryz.prog 243 fs243 := fun _ _ _ hn h => ctr_of_resC Tryz.func243 (by kernel_rfl) ree243 (by kernel_rfl) hn h
abbrev ae242 : ACode := (.seq [0] (.reg [q3 2 (.mv (.c (.l [] true)))])
 (.seq [3] (.reg [q3 4 (.mv (.t 0)),
 q3 5 (.call 290 [(.t 4)]),
 q3 3 (.mv (.t 5))])
 (.seq [3] (.reg [q3 6 (.mv (.t 3)),
 q3 7 (.call 291 [(.t 6)])])
 (.seq [2] (.reg [q3 8 (.mv (.t 3)),
 q3 2 (.mv (.t 8))])
 .ret))))
theorem ree242 : Tryz.f242.body.bind (res Tryz.prog Tryz.f242.ntmps [] []) = some (erase ae242) := by kernel_rfl
def fs242 : FnS := .fn 9 ae242 [.t 2]
theorem fsok242 : FnOk Tryz.prog 242 fs242 := fun _ _ _ hn h => ctr_of_resC Tryz.func242 (by kernel_rfl) ree242 (by kernel_rfl) hn h
abbrev ae244 : ACode := (.seq [1, 2, 3] (.reg [q3 3 (.box (.t 0)),
 q3 4 (.mv (.c (.b false)))])
 (.seq [4] (.reg [q3 5 (.load none (.t 1)),
 q3 6 (.mkf (.func 245) [] [(.t 2), (.t 3)]),
 q3 7 (.call 46 [(.t 5), (.t 6)]),
 q3 8 (.not (.t 7)),
 q3 4 (.mv (.t 8))])
 .ret))
theorem ree244 : Tryz.f244.body.bind (res Tryz.prog Tryz.f244.ntmps [] []) = some (erase ae244) := by kernel_rfl
def fs244 : FnS := .fn 9 ae244 [.t 4]
theorem fsok244 : FnOk Tryz.prog 244 fs244 := fun _ _ _ hn h => ctr_of_resC Tryz.func244 (by kernel_rfl) ree244 (by kernel_rfl) hn h
abbrev ae173 : ACode := (.seq [1] (.reg [q3 1 (.box (.t 0)),
 q3 2 (.mv (.c (.l [] true)))])
 (.seq [2] (.reg [q3 3 (.faddr 0 (.t 1)),
 q3 4 (.load none (.t 3)),
 q3 5 (.call 212 [(.t 4), (.c (.f (.func 213) [] []))]),
 q3 2 (.mv (.t 5))])
 .ret))
theorem ree173 : Tryz.f173.body.bind (res Tryz.prog Tryz.f173.ntmps [] []) = some (erase ae173) := by kernel_rfl
def fs173 : FnS := .fnz 6 ae173 [.t 2]
theorem fsok173 : FnOk Tryz.prog 173 fs173 := fun _ _ _ hn h => ctr_of_resC Tryz.func173 (by kernel_rfl) ree173 (by kernel_rfl) hn h
abbrev ae247 : ACode := (.seq [0] (.reg [q3 2 (.mv (.c (.i .i64 0)))])
 (.seq [] (.seq [5] (.reg [q3 3 (.mv (.t 0)),
 q3 4 (.call 293 [(.t 3)]),
 q3 5 (.not (.t 4))])
 (.cond (.t 5)
 (.seq [2] (.reg [q3 2 (.mv (.c (.i .i64 2)))])
 .ret)
 .skip))
 (.seq [2] (.reg [q3 2 (.mv (.c (.i .i64 0)))])
 .ret)))
theorem ree247 : Tryz.f247.body.bind (res Tryz.prog Tryz.f247.ntmps [] []) = some (erase ae247) := by kernel_rfl
def fs247 : FnS := .fn 6 ae247 [.t 2]
theorem fsok247 : FnOk Tryz.prog 247 fs247 := fun _ _ _ hn h => ctr_of_resC Tryz.func247 (by kernel_rfl) ree247 (by kernel_rfl) hn h
abbrev ae248 : ACode := (.seq [0, 1] (.reg [q3 4 (.mv (.c (.l [] true))),
 q3 5 (.mv (.c (.i .i64 0)))])
 (.seq [1, 6, 7] (.reg [q3 9 (.mv (.t 0)),
 q3 10 (.mv (.t 1)),
 q3 11 (.bslice 1 1 [(.i .i64 0)] [(0, (.t 10))]),
 q3 12 (.call 294 [(.t 9), (.t 11)]),
 q3 8 (.mv (.t 12)),
 q3 13 (.extract 0 (.t 8)),
 q3 14 (.extract 1 (.t 8)),
 q3 6 (.mv (.t 13)),
 q3 7 (.mv (.t 14))])
 (.seq [1, 6] (.seq [1, 6, 16] (.reg [q3 15 (.mv (.t 7)),
 q3 16 (.not (.t 15))])
 (.cond (.t 16)
 (.seq [4, 5] (.reg [q3 4 (.mv (.c (.l [] true))),
 q3 5 (.mv (.c (.i .i64 2)))])
 .ret)
 .skip))
 (.seq [1, 6] (.seq [1, 6, 24] (.reg [q3 17 (.mv (.t 6)),
 q3 18 (.nilck (.t 17)),
 q3 19 (.faddr 2 (.t 18)),
 q3 20 (.load none (.t 19)),
 q3 21 (.mv (.t 1)),
 q3 22 (.lookup (.i .i64) (.l [] true) false (.t 20) (.t 21)),
 q3 23 (.len (.t 22)),
 q3 24 (.bin .eql (.t 23) (.c (.i .i64 0)))])
 (.cond (.t 24)
 (.seq [4, 5] (.reg [q3 4 (.mv (.c (.l [] true))),
 q3 5 (.mv (.c (.i .i64 7)))])
 .ret)
 .skip))
 (.seq [4, 5] (.reg [q3 25 (.mv (.t 6)),
 q3 26 (.nilck (.t 25)),
 q3 27 (.faddr 2 (.t 26)),
 q3 28 (.load none (.t 27)),
 q3 29 (.mv (.t 1)),
 q3 30 (.lookup (.i .i64) (.l [] true) false (.t 28) (.t 29)),
 q3 31 (.call 149 [(.t 30)]),
 q3 4 (.mv (.t 31)),
 q3 5 (.mv (.c (.i .i64 0)))])
 .ret)))))
theorem ree248 : Tryz.f248.body.bind (res Tryz.prog Tryz.f248.ntmps [] []) = some (erase ae248) := by kernel_rfl
def fs248 : FnS := .fn 32 ae248 [.t 4, .t 5]
theorem fsok248 : FnOk Tryz.prog 248 fs248 := fun _ _ _ hn h => ctr_of_resC Tryz.func248 (by kernel_rfl) ree248 (by kernel_rfl) hn h
abbrev ae249 : ACode := (.seq [1, 2] (.reg [q3 2 (.box (.t 0)),
 q3 4 (.mv (.c (.l [] true)))])
 (.seq [1, 2, 5] (.reg [q3 10 (.mkmap),
 q3 11 (.mv (.t 1)),
 ⟨none, .mapset (.i .i64) (.t 10) (.t 11) (.c (.b true)), none⟩,
 q3 12 (.mv (.t 10)),
 q3 5 (.mv (.t 12))])
 (.seq [1, 2, 5, 6] (.reg [q3 6 (.mv (.c (.l [] true)))])
 (.seq [6] (.seq [2, 5, 6, 7] (.reg [q3 13 (.mv (.t 1)),
 q3 7 (.mv (.t 13))])
 (.block 0 (.loop [2, 5, 6, 7] (.seq [2, 5, 6, 7] (.seq [2, 5, 6, 7, 15] (.reg [q3 14 (.mv (.t 7)),
 q3 15 (.bin .geq (.t 14) (.c (.i .i64 3)))])
 (.cond (.t 15)
 .skip
 (.exit 0)))
 (.seq [2, 5, 6, 7] (.block 1 (.seq [2, 5, 6, 7, 20] (.reg [q3 18 (.mv (.t 5)),
 q3 19 (.mv (.t 7)),
 q3 20 (.lookup (.i .i64) (.b false) false (.t 18) (.t 19))])
 (.cond (.t 20)
 (.seq [2, 5, 6, 7] (.reg [q3 21 (.mv (.t 6)),
 q3 22 (.faddr 0 (.t 2)),
 q3 23 (.load none (.t 22)),
 q3 24 (.mv (.t 7)),
 q3 25 (.bin .sub (.t 24) (.c (.i .i64 3))),
 q3 26 (.iaddr 3 none (.t 23) (.t 25)),
 q3 27 (.faddr 1 (.t 26)),
 q3 28 (.load none (.t 27)),
 q3 29 (.append 1 8 (.t 21) (.t 28)),
 q3 6 (.mv (.t 29))])
 (.seq [2, 5, 6, 7, 36, 37, 38] (.reg [q3 30 (.faddr 0 (.t 2)),
 q3 31 (.load none (.t 30)),
 q3 32 (.mv (.t 7)),
 q3 33 (.bin .sub (.t 32) (.c (.i .i64 3))),
 q3 34 (.iaddr 3 none (.t 31) (.t 33)),
 q3 35 (.faddr 0 (.t 34)),
 q3 36 (.load none (.t 35)),
 q3 37 (.len (.t 36)),
 q3 38 (.mv (.c (.i .i64 0)))])
 (.block 2 (.loop [2, 5, 6, 7, 36, 37, 38] (.seq [2, 5, 6, 7, 36, 37, 38, 39] (.reg [q3 39 (.bin .lss (.t 38) (.t 37))])
 (.seq [2, 5, 6, 7, 36, 37, 38] (.cond (.t 39)
 .skip
 (.exit 2))
 (.seq [2, 5, 6, 7, 36, 37, 38] (.block 3 (.seq [2, 5, 6, 7, 9, 36, 37, 38] (.reg [q3 40 (.iaddr 1 none (.t 36) (.t 38)),
 q3 41 (.load none (.t 40)),
 q3 9 (.mv (.t 41))])
 (.reg [q3 42 (.mv (.t 5)),
 q3 43 (.mv (.t 9)),
 ⟨none, .mapset (.i .i64) (.t 42) (.t 43) (.c (.b true)), none⟩])))
 (.reg [q3 44 (.bin .add (.t 38) (.c (.i .i64 1))),
 q3 38 (.mv (.t 44))]))))))))
 .skip)))
 (.reg [q3 16 (.mv (.t 7)),
 q3 17 (.bin .sub (.t 16) (.c (.i .i64 1))),
 q3 7 (.mv (.t 17))]))))))
 (.seq [6] (.reg [q3 45 (.mv (.t 6)),
 q3 46 (.call 291 [(.t 45)])])
 (.seq [4] (.reg [q3 47 (.mv (.t 6)),
 q3 48 (.call 241 [(.t 47)]),
 q3 4 (.mv (.t 48))])
 .ret))))))
theorem ree249 : Tryz.f249.body.bind (res Tryz.prog Tryz.f249.ntmps [] []) = some (erase ae249) := by kernel_rfl
def fs249 : FnS := .fn 49 ae249 [.t 4]
theorem fsok249 : FnOk Tryz.prog 249 fs249 := fun _ _ _ hn h => ctr_of_resC Tryz.func249 (by kernel_rfl) ree249 (by kernel_rfl) hn h
abbrev ae250 : ACode := (.seq [0] (.reg [q3 2 (.mv (.c (.b false)))])
 (.seq [2] (.reg [q3 3 (.mv (.t 0)),
 q3 4 (.bin .geq (.t 3) (.c (.i .i64 (-1000000000)))),
 q3 5 (.mv (.t 4)),
 ⟨(some 6), .mv (.t 0), (some (5, true))⟩,
 ⟨(some 7), .bin .leq (.t 6) (.c (.i .i64 1000000000)), (some (5, true))⟩,
 q3 8 (.pick (.t 5) (.t 7) (.c (.b false))),
 q3 2 (.mv (.t 8))])
 .ret))
theorem ree250 : Tryz.f250.body.bind (res Tryz.prog Tryz.f250.ntmps [] []) = some (erase ae250) := by kernel_rfl
def fs250 : FnS := .fn 9 ae250 [.t 2]
theorem fsok250 : FnOk Tryz.prog 250 fs250 := fun _ _ _ hn h => ctr_of_resC Tryz.func250 (by kernel_rfl) ree250 (by kernel_rfl) hn h
abbrev ae115 : ACode := (.seq [0, 1] (.reg [q3 4 (.mv (.c (.i .u64 0))),
 q3 5 (.mv (.c (.i .u64 0)))])
 (.seq [0, 1] (.cond (.c (.b false))
 (.seq [6, 7] (.reg [q3 11 (.mv (.t 0)),
 q3 12 (.conv .u32 (.t 11)),
 q3 13 (.mv (.t 1)),
 q3 14 (.conv .u32 (.t 13)),
 q3 15 (.call 170 [(.t 12), (.t 14)]),
 q3 10 (.mv (.t 15)),
 q3 16 (.extract 0 (.t 10)),
 q3 17 (.extract 1 (.t 10)),
 q3 6 (.mv (.t 16)),
 q3 7 (.mv (.t 17))])
 (.seq [4, 5] (.reg [q3 18 (.mv (.t 6)),
 q3 19 (.conv .u64 (.t 18)),
 q3 20 (.mv (.t 7)),
 q3 21 (.conv .u64 (.t 20)),
 q3 4 (.mv (.t 19)),
 q3 5 (.mv (.t 21))])
 .ret))
 .skip)
 (.seq [8, 9] (.reg [q3 23 (.mv (.t 0)),
 q3 24 (.mv (.t 1)),
 q3 25 (.call 171 [(.t 23), (.t 24)]),
 q3 22 (.mv (.t 25)),
 q3 26 (.extract 0 (.t 22)),
 q3 27 (.extract 1 (.t 22)),
 q3 8 (.mv (.t 26)),
 q3 9 (.mv (.t 27))])
 (.seq [4, 5] (.reg [q3 28 (.mv (.t 8)),
 q3 29 (.mv (.t 9)),
 q3 4 (.mv (.t 28)),
 q3 5 (.mv (.t 29))])
 .ret))))
theorem ree115 : Tryz.f115.body.bind (res Tryz.prog Tryz.f115.ntmps [] []) = some (erase ae115) := by kernel_rfl
def fs115 : FnS := .fn 30 ae115 [.t 4, .t 5]
theorem fsok115 : FnOk Tryz.prog 115 fs115 := fun _ _ _ hn h => ctr_of_resC Tryz.func115 (by kernel_rfl) ree115 (by kernel_rfl) hn h
abbrev ae199 : ACode := (.seq [3, 4, 5] (.reg [q3 3 (.box (.t 0)),
 q3 4 (.box (.t 1)),
 q3 5 (.box (.t 2)),
 q3 6 (.mv (.c .fnil))])
 (.seq [6] (.reg [q3 7 (.mkf (.func 251) [] [(.t 3), (.t 4), (.t 5)]),
 q3 6 (.mv (.t 7))])
 .ret))
theorem ree199 : Tryz.f199.body.bind (res Tryz.prog Tryz.f199.ntmps [] []) = some (erase ae199) := by kernel_rfl
def fs199 : FnS := .fn 8 ae199 [.t 6]
theorem fsok199 : FnOk Tryz.prog 199 fs199 := fun _ _ _ hn h => ctr_of_resC Tryz.func199 (by kernel_rfl) ree199 (by kernel_rfl) hn h
abbrev ae200 : ACode := (.seq [2, 3, 4] (.reg [q3 3 (.box (.t 0)),
 q3 4 (.box (.t 1)),
 q3 6 (.mv (.c (.b false)))])
 (.seq [2, 3, 4, 7] (.reg [q3 7 (.mv (.c (.i .i64 1)))])
 (.seq [4, 7] (.seq [2, 3, 4, 7, 9] (.reg [q3 8 (.faddr 0 (.t 4)),
 q3 9 (.load none (.t 8))])
 (.block 0 (.seq [2, 3, 4, 7, 9, 10] (.reg [q3 11 (.bin .eql (.t 9) (.c (.i .i64 1))),
 q3 10 (.mv (.t 11))])
 (.cond (.t 10)
 (.seq [6] (.reg [q3 12 (.faddr 1 (.t 4)),
 q3 13 (.load none (.t 12)),
 q3 14 (.call 250 [(.t 13)]),
 q3 6 (.mv (.t 14))])
 .ret)
 (.seq [2, 3, 4, 7, 9, 15] (.reg [q3 16 (.bin .eql (.t 9) (.c (.i .i64 3))),
 q3 15 (.mv (.t 16))])
 (.cond (.t 15)
 (.reg [q3 17 (.mv (.t 2)),
 q3 7 (.mv (.t 17))])
 (.seq [3, 4, 7, 9, 18] (.seq [3, 4, 7, 9, 18] (.reg [q3 19 (.bin .eql (.t 9) (.c (.i .i64 4))),
 q3 18 (.mv (.t 19))])
 (.cond (.t 18)
 .skip
 (.reg [q3 20 (.bin .eql (.t 9) (.c (.i .i64 7))),
 q3 18 (.mv (.t 20))])))
 (.cond (.t 18)
 (.reg [q3 21 (.faddr 1 (.t 3)),
 q3 22 (.load none (.t 21)),
 q3 7 (.mv (.t 22))])
 (.seq [3, 4, 7, 9, 23] (.seq [3, 4, 7, 9, 23] (.reg [q3 24 (.bin .eql (.t 9) (.c (.i .i64 6))),
 q3 23 (.mv (.t 24))])
 (.cond (.t 23)
 .skip
 (.reg [q3 25 (.bin .eql (.t 9) (.c (.i .i64 8))),
 q3 23 (.mv (.t 25))])))
 (.cond (.t 23)
 (.seq [6] (.reg [q3 26 (.faddr 1 (.t 4)),
 q3 27 (.load none (.t 26)),
 q3 28 (.bin .geq (.t 27) (.c (.i .i64 3))),
 q3 29 (.mv (.t 28)),
 ⟨(some 30), .faddr 1 (.t 4), (some (29, true))⟩,
 ⟨(some 31), .load none (.t 30), (some (29, true))⟩,
 ⟨(some 32), .faddr 0 (.t 3), (some (29, true))⟩,
 ⟨(some 33), .load none (.t 32), (some (29, true))⟩,
 ⟨(some 34), .len (.t 33), (some (29, true))⟩,
 ⟨(some 35), .bin .add (.c (.i .i64 3)) (.t 34), (some (29, true))⟩,
 ⟨(some 36), .bin .lss (.t 31) (.t 35), (some (29, true))⟩,
 q3 37 (.pick (.t 29) (.t 36) (.c (.b false))),
 q3 6 (.mv (.t 37))])
 .ret)
 (.seq [3, 4, 7, 38] (.reg [q3 39 (.bin .eql (.t 9) (.c (.i .i64 5))),
 q3 38 (.mv (.t 39))])
 (.cond (.t 38)
 (.reg [q3 40 (.faddr 2 (.t 3)),
 q3 41 (.load none (.t 40)),
 q3 42 (.len (.t 41)),
 q3 7 (.mv (.t 42))])
 .skip))))))))))))
 (.seq [6] (.reg [q3 43 (.faddr 1 (.t 4)),
 q3 44 (.load none (.t 43)),
 q3 45 (.bin .geq (.t 44) (.c (.i .i64 0))),
 q3 46 (.mv (.t 45)),
 ⟨(some 47), .faddr 1 (.t 4), (some (46, true))⟩,
 ⟨(some 48), .load none (.t 47), (some (46, true))⟩,
 ⟨(some 49), .mv (.t 7), (some (46, true))⟩,
 ⟨(some 50), .bin .lss (.t 48) (.t 49), (some (46, true))⟩,
 q3 51 (.pick (.t 46) (.t 50) (.c (.b false))),
 q3 6 (.mv (.t 51))])
 .ret))))
theorem ree200 : Tryz.f200.body.bind (res Tryz.prog Tryz.f200.ntmps [] []) = some (erase ae200) := by kernel_rfl
def fs200 : FnS := .fn 52 ae200 [.t 6]
theorem fsok200 : FnOk Tryz.prog 200 fs200 := fun _ _ _ hn h => ctr_of_resC Tryz.func200 (by kernel_rfl) ree200 (by kernel_rfl) hn h
abbrev ae201 : ACode := (.seq [0] (.reg [q3 2 (.mv (.c .inil))])
 (.seq [] (.seq [3] (.reg [q3 3 (.mv (.t 0))])
 (.block 0 (.seq [3, 4] (.reg [q3 5 (.bin .eql (.t 3) (.c (.i .i64 5))),
 q3 4 (.mv (.t 5))])
 (.cond (.t 4)
 (.seq [2] (.reg [q3 6 (.build [] []),
 q3 7 (.mkifc 296 (.t 6)),
 q3 2 (.mv (.t 7))])
 .ret)
 (.seq [3, 8] (.seq [3, 8] (.reg [q3 9 (.bin .eql (.t 3) (.c (.i .i64 1))),
 q3 8 (.mv (.t 9))])
 (.cond (.t 8)
 .skip
 (.seq [3, 8] (.reg [q3 10 (.bin .eql (.t 3) (.c (.i .i64 2))),
 q3 8 (.mv (.t 10))])
 (.cond (.t 8)
 .skip
 (.seq [3, 8] (.reg [q3 11 (.bin .eql (.t 3) (.c (.i .i64 3))),
 q3 8 (.mv (.t 11))])
 (.cond (.t 8)
 .skip
 (.seq [3, 8] (.reg [q3 12 (.bin .eql (.t 3) (.c (.i .i64 6))),
 q3 8 (.mv (.t 12))])
 (.cond (.t 8)
 .skip
 (.reg [q3 13 (.bin .eql (.t 3) (.c (.i .i64 18))),
 q3 8 (.mv (.t 13))])))))))))
 (.cond (.t 8)
 (.seq [2] (.reg [q3 14 (.mkifc 295 (.c (.i .i64 0))),
 q3 2 (.mv (.t 14))])
 .ret)
 (.seq [3, 15] (.seq [3, 15] (.reg [q3 16 (.bin .eql (.t 3) (.c (.i .i64 4))),
 q3 15 (.mv (.t 16))])
 (.cond (.t 15)
 .skip
 (.seq [3, 15] (.reg [q3 17 (.bin .eql (.t 3) (.c (.i .i64 8))),
 q3 15 (.mv (.t 17))])
 (.cond (.t 15)
 .skip
 (.reg [q3 18 (.bin .eql (.t 3) (.c (.i .i64 17))),
 q3 15 (.mv (.t 18))])))))
 (.cond (.t 15)
 (.seq [2] (.reg [q3 19 (.mkifc 295 (.c (.i .i64 1))),
 q3 2 (.mv (.t 19))])
 .ret)
 (.seq [3, 20] (.seq [3, 20] (.reg [q3 21 (.bin .eql (.t 3) (.c (.i .i64 7))),
 q3 20 (.mv (.t 21))])
 (.cond (.t 20)
 .skip
 (.seq [3, 20] (.reg [q3 22 (.bin .eql (.t 3) (.c (.i .i64 9))),
 q3 20 (.mv (.t 22))])
 (.cond (.t 20)
 .skip
 (.seq [3, 20] (.reg [q3 23 (.bin .eql (.t 3) (.c (.i .i64 11))),
 q3 20 (.mv (.t 23))])
 (.cond (.t 20)
 .skip
 (.seq [3, 20] (.reg [q3 24 (.bin .eql (.t 3) (.c (.i .i64 12))),
 q3 20 (.mv (.t 24))])
 (.cond (.t 20)
 .skip
 (.seq [3, 20] (.reg [q3 25 (.bin .eql (.t 3) (.c (.i .i64 13))),
 q3 20 (.mv (.t 25))])
 (.cond (.t 20)
 .skip
 (.seq [3, 20] (.reg [q3 26 (.bin .eql (.t 3) (.c (.i .i64 14))),
 q3 20 (.mv (.t 26))])
 (.cond (.t 20)
 .skip
 (.seq [3, 20] (.reg [q3 27 (.bin .eql (.t 3) (.c (.i .i64 15))),
 q3 20 (.mv (.t 27))])
 (.cond (.t 20)
 .skip
 (.reg [q3 28 (.bin .eql (.t 3) (.c (.i .i64 16))),
 q3 20 (.mv (.t 28))])))))))))))))))
 (.cond (.t 20)
 (.seq [2] (.reg [q3 29 (.mkifc 295 (.c (.i .i64 2))),
 q3 2 (.mv (.t 29))])
 .ret)
 (.seq [30] (.reg [q3 31 (.bin .eql (.t 3) (.c (.i .i64 10))),
 q3 30 (.mv (.t 31))])
 (.cond (.t 30)
 (.seq [2] (.reg [q3 32 (.mkifc 295 (.c (.i .i64 3))),
 q3 2 (.mv (.t 32))])
 .ret)
 .skip))))))))))))
 (.seq [2] (.reg [q3 2 (.mv (.c .inil))])
 .ret)))
theorem ree201 : Tryz.f201.body.bind (res Tryz.prog Tryz.f201.ntmps [] []) = some (erase ae201) := by kernel_rfl
def fs201 : FnS := .fn 33 ae201 [.t 2]
theorem fsok201 : FnOk Tryz.prog 201 fs201 := fun _ _ _ hn h => ctr_of_resC Tryz.func201 (by kernel_rfl) ree201 (by kernel_rfl) hn h
abbrev ae411 : ACode := (.seq [0] (.reg [q3 4 (.box (.t 1)),
 q3 5 (.box (.t 2)),
 q3 6 (.mv (.c (.i .i64 0)))])
 (.seq [6] (.reg [q3 7 (.mv (.t 0)),
 q3 6 (.mv (.t 7))])
 .ret))
theorem ree411 : Tryz.f411.body.bind (res Tryz.prog Tryz.f411.ntmps [] []) = some (erase ae411) := by kernel_rfl
def fs411 : FnS := .fn 8 ae411 [.t 6]
theorem fsok411 : FnOk Tryz.prog 411 fs411 := fun _ _ _ hn h => ctr_of_resC Tryz.func411 (by kernel_rfl) ree411 (by kernel_rfl) hn h
abbrev ae412 : ACode := (.seq [4, 5] (.reg [q3 3 (.box (.t 0)),
 q3 4 (.box (.t 1)),
 q3 5 (.box (.t 2)),
 q3 6 (.mv (.c (.i .i64 0)))])
 (.seq [6] (.reg [q3 7 (.faddr 2 (.t 4)),
 q3 8 (.load none (.t 7)),
 q3 9 (.faddr 1 (.t 5)),
 q3 10 (.load none (.t 9)),
 q3 11 (.iaddr 1 none (.t 8) (.t 10)),
 q3 12 (.load none (.t 11)),
 q3 6 (.mv (.t 12))])
 .ret))
theorem ree412 : Tryz.f412.body.bind (res Tryz.prog Tryz.f412.ntmps [] []) = some (erase ae412) := by kernel_rfl
def fs412 : FnS := .fn 13 ae412 [.t 6]
theorem fsok412 : FnOk Tryz.prog 412 fs412 := fun _ _ _ hn h => ctr_of_resC Tryz.func412 (by kernel_rfl) ree412 (by kernel_rfl) hn h
abbrev ae119 : ACode := (.seq [1, 2] (.reg [q3 2 (.box (.t 0)),
 q3 4 (.mv (.c .pn)),
 q3 5 (.mv (.c (.b false)))])
 (.seq [1, 6, 7] (.reg [q3 9 (.load (some 2) (.t 2)),
 q3 10 (.call 174 [(.t 9)]),
 q3 8 (.mv (.t 10)),
 q3 11 (.extract 0 (.t 8)),
 q3 12 (.extract 1 (.t 8)),
 q3 6 (.mv (.t 11)),
 q3 7 (.mv (.t 12))])
 (.seq [4, 5] (.reg [q3 13 (.mv (.t 6)),
 q3 14 (.mv (.t 7)),
 q3 15 (.mv (.t 14)),
 ⟨(some 16), .mv (.t 6), (some (15, true))⟩,
 ⟨(some 17), .mv (.t 1), (some (15, true))⟩,
 ⟨(some 18), .call 175 [(.t 16), (.t 17)], (some (15, true))⟩,
 q3 19 (.pick (.t 15) (.t 18) (.c (.b false))),
 q3 4 (.mv (.t 13)),
 q3 5 (.mv (.t 19))])
 .ret)))
theorem ree119 : Tryz.f119.body.bind (res Tryz.prog Tryz.f119.ntmps [] []) = some (erase ae119) := by kernel_rfl
def fs119 : FnS := .fn 20 ae119 [.t 4, .t 5]
theorem fsok119 : FnOk Tryz.prog 119 fs119 := fun _ _ _ hn h => ctr_of_resC Tryz.func119 (by kernel_rfl) ree119 (by kernel_rfl) hn h
abbrev ae172 : ACode := (.seq [0] (.reg [q3 2 (.mv (.c (.i .i64 0)))])
 (.seq [] (.seq [4] (.reg [q3 3 (.mv (.t 0)),
 q3 4 (.not (.t 3))])
 (.cond (.t 4)
 (.seq [2] (.reg [q3 2 (.mv (.c (.i .i64 2)))])
 .ret)
 .skip))
 (.seq [2] (.reg [q3 2 (.mv (.c (.i .i64 0)))])
 .ret)))
theorem ree172 : Tryz.f172.body.bind (res Tryz.prog Tryz.f172.ntmps [] []) = some (erase ae172) := by kernel_rfl
def fs172 : FnS := .fn 5 ae172 [.t 2]
theorem fsok172 : FnOk Tryz.prog 172 fs172 := fun _ _ _ hn h => ctr_of_resC Tryz.func172 (by kernel_rfl) ree172 (by kernel_rfl) hn h
abbrev ae275 : ACode := (.seq [1, 2] (.reg [q3 2 (.box (.t 0)),
 q3 4 (.mv (.c (.b false)))])
 (.seq [4] (.reg [q3 5 (.mv (.t 1)),
 q3 6 (.bin .geq (.t 5) (.c (.i .i64 3))),
 q3 7 (.mv (.t 6)),
 ⟨(some 8), .mv (.t 1), (some (7, true))⟩,
 ⟨(some 9), .faddr 0 (.t 2), (some (7, true))⟩,
 ⟨(some 10), .load none (.t 9), (some (7, true))⟩,
 ⟨(some 11), .len (.t 10), (some (7, true))⟩,
 ⟨(some 12), .bin .add (.c (.i .i64 3)) (.t 11), (some (7, true))⟩,
 ⟨(some 13), .bin .lss (.t 8) (.t 12), (some (7, true))⟩,
 q3 14 (.pick (.t 7) (.t 13) (.c (.b false))),
 q3 15 (.mv (.t 14)),
 ⟨(some 16), .load (some 6) (.t 2), (some (15, true))⟩,
 ⟨(some 17), .call 94 [(.t 16)], (some (15, true))⟩,
 ⟨(some 18), .bin .eql (.t 17) (.c (.i .i64 0)), (some (15, true))⟩,
 q3 19 (.pick (.t 15) (.t 18) (.c (.b false))),
 q3 4 (.mv (.t 19))])
 .ret))
theorem ree275 : Tryz.f275.body.bind (res Tryz.prog Tryz.f275.ntmps [] []) = some (erase ae275) := by kernel_rfl
def fs275 : FnS := .fn 20 ae275 [.t 4]
theorem fsok275 : FnOk Tryz.prog 275 fs275 := fun _ _ _ hn h => ctr_of_resC Tryz.func275 (by kernel_rfl) ree275 (by kernel_rfl) hn h
abbrev ae276 : ACode := (.seq [0, 2, 3, 5] (.reg [q3 5 (.box (.t 1)),
 q3 8 (.mv (.c (.b false)))])
 (.seq [0, 3, 5] (.seq [0, 3, 5, 36] (.reg [q3 11 (.mv (.t 0)),
 q3 12 (.mv (.t 2)),
 q3 13 (.call 310 [(.t 11), (.t 12)]),
 q3 14 (.not (.t 13)),
 q3 15 (.mv (.t 14)),
 ⟨(some 16), .mv (.t 3), (some (15, false))⟩,
 ⟨(some 17), .len (.t 16), (some (15, false))⟩,
 ⟨(some 18), .mv (.t 0), (some (15, false))⟩,
 ⟨(some 19), .nilck (.t 18), (some (15, false))⟩,
 ⟨(some 20), .faddr 0 (.t 19), (some (15, false))⟩,
 ⟨(some 21), .faddr 2 (.t 20), (some (15, false))⟩,
 ⟨(some 22), .load none (.t 21), (some (15, false))⟩,
 ⟨(some 23), .mv (.t 2), (some (15, false))⟩,
 ⟨(some 24), .iaddr 1 none (.t 22) (.t 23), (some (15, false))⟩,
 ⟨(some 25), .load none (.t 24), (some (15, false))⟩,
 ⟨(some 26), .bin .neq (.t 17) (.t 25), (some (15, false))⟩,
 q3 27 (.pick (.t 15) (.c (.b true)) (.t 26)),
 q3 28 (.mv (.t 27)),
 ⟨(some 29), .mv (.t 3), (some (28, false))⟩,
 ⟨(some 30), .mkf (.func 312) [] [(.t 5)], (some (28, false))⟩,
 ⟨(some 31), .call 311 [(.t 29), (.t 30)], (some (28, false))⟩,
 ⟨(some 32), .len (.t 31), (some (28, false))⟩,
 ⟨(some 33), .mv (.t 3), (some (28, false))⟩,
 ⟨(some 34), .len (.t 33), (some (28, false))⟩,
 ⟨(some 35), .bin .neq (.t 32) (.t 34), (some (28, false))⟩,
 q3 36 (.pick (.t 28) (.c (.b true)) (.t 35))])
 (.cond (.t 36)
 (.seq [8] (.reg [q3 8 (.mv (.c (.b false)))])
 .ret)
 .skip))
 (.seq [10] (.dreg [10] [⟨0, q3 38 (.mv (.t 0)), [], []⟩,
 ⟨1, q3 39 (.nilck (.t 38)), [], []⟩,
 ⟨2, q3 40 (.faddr 6 (.t 39)), [], []⟩,
 ⟨3, q3 41 (.load (some 2) (.t 40)), [], []⟩,
 ⟨4, q3 42 (.build [(.i .i64 0), (.i .i64 0), (.l [] true), (.i .i64 0), (.i .i64 0), (.l [] true)] [(0, 1, (.c (.i .i64 1)))]), [], []⟩,
 ⟨5, q3 43 (.load none (.t 5)), [], []⟩,
 ⟨6, q3 44 (.mv (.t 3)), [], []⟩,
 ⟨7, q3 45 (.call 314 [(.t 41), (.t 42), (.t 43), (.t 44)]), [], []⟩,
 ⟨8, q3 37 (.mv (.t 45)), [], []⟩,
 ⟨9, q3 46 (.extract 0 (.t 37)), [], []⟩,
 ⟨10, q3 47 (.extract 1 (.t 37)), [], []⟩,
 ⟨11, q3 9 (.mv (.t 46)), [], []⟩,
 ⟨12, q3 10 (.mv (.t 47)), [], []⟩])
 (.seq [8] (.reg [q3 48 (.mv (.t 10)),
 q3 49 (.bin .eql (.t 48) (.c (.i .i64 0))),
 q3 8 (.mv (.t 49))])
 .ret))))
theorem ree276 : Tryz.f276.body.bind (res Tryz.prog Tryz.f276.ntmps [] []) = some (erase ae276) := by kernel_rfl
def fs276 : FnS := .fn 50 ae276 [.t 8]
theorem fsok276 : FnOk Tryz.prog 276 fs276 := fun _ _ _ hn h => ctr_of_resC Tryz.func276 (by kernel_rfl) ree276 (by kernel_rfl) hn h
abbrev ae277 : ACode := (.seq [2, 4, 5, 7] (.reg [q3 4 (.box (.t 0)),
 q3 5 (.box (.t 1)),
 q3 7 (.box (.t 3)),
 q3 8 (.mv (.c (.l [] true)))])
 (.seq [8] (.reg [q3 9 (.load none (.t 4)),
 q3 10 (.mv (.t 2)),
 q3 11 (.call 315 [(.t 9), (.t 10)]),
 q3 12 (.call 290 [(.t 11)]),
 q3 13 (.mkf (.func 316) [] [(.t 4), (.t 5), (.t 7)]),
 q3 14 (.call 288 [(.t 12), (.t 13)]),
 q3 8 (.mv (.t 14))])
 .ret))
theorem ree277 : Tryz.f277.body.bind (res Tryz.prog Tryz.f277.ntmps [] []) = some (erase ae277) := by kernel_rfl
def fs277 : FnS := .fn 15 ae277 [.t 8]
theorem fsok277 : FnOk Tryz.prog 277 fs277 := fun _ _ _ hn h => ctr_of_resC Tryz.func277 (by kernel_rfl) ree277 (by kernel_rfl) hn h
abbrev ae231 : ACode := (.seq [0, 1, 3, 6, 8] (.reg [q3 6 (.box (.t 2)),
 q3 8 (.alloc [(.i .i64 0), (.i .i64 0)])])
 (.seq [0, 1, 3, 6, 8] (.seq [0, 1, 3, 6, 8, 22, 23, 24] (.reg [q3 20 (.faddr 0 (.t 6)),
 q3 21 (.faddr 2 (.t 20)),
 q3 22 (.load none (.t 21)),
 q3 23 (.len (.t 22)),
 q3 24 (.mv (.c (.i .i64 0)))])
 (.block 0 (.loop [0, 1, 3, 6, 8, 22, 23, 24] (.seq [0, 1, 3, 6, 8, 22, 23, 24, 25] (.reg [q3 25 (.bin .lss (.t 24) (.t 23))])
 (.seq [0, 1, 3, 6, 8, 22, 23, 24] (.cond (.t 25)
 .skip
 (.exit 0))
 (.seq [0, 1, 3, 6, 8, 22, 23, 24] (.block 1 (.seq [0, 1, 3, 6, 8, 10, 22, 23, 24] (.reg [q3 26 (.iaddr 1 none (.t 22) (.t 24)),
 q3 27 (.load none (.t 26)),
 q3 10 (.mv (.t 27))])
 (.reg [q3 28 (.mv (.t 0)),
 q3 29 (.mv (.t 10)),
 q3 30 (.mv (.t 3)),
 q3 31 (.mv (.t 0)),
 q3 32 (.mkf (.func 91) [(.t 31)] []),
 q3 33 (.call 278 [(.t 28), (.t 29), (.t 30), (.t 32)])])))
 (.reg [q3 34 (.bin .add (.t 24) (.c (.i .i64 1))),
 q3 24 (.mv (.t 34))])))))))
 (.seq [0, 3, 6, 8, 11] (.reg [q3 35 (.mv (.t 0)),
 q3 36 (.nilck (.t 35)),
 q3 37 (.faddr 12 (.t 36)),
 q3 38 (.faddr 0 (.t 37)),
 q3 39 (.load none (.t 38)),
 q3 40 (.mv (.t 1)),
 q3 41 (.iaddr 3 none (.t 39) (.t 40)),
 q3 42 (.load (some 3) (.t 41)),
 q3 11 (.alloc [(.i .i64 0), (.i .i64 0), (.i .i64 0)]),
 ⟨none, .store 3 (.t 11) (.t 42), none⟩])
 (.seq [0, 3, 6, 8, 11, 12, 13] (.reg [q3 44 (.load (some 3) (.t 11)),
 q3 45 (.faddr 0 (.t 6)),
 q3 46 (.load (some 6) (.t 45)),
 q3 47 (.call 93 [(.t 44), (.t 46)]),
 q3 43 (.mv (.t 47)),
 q3 48 (.extract 0 (.t 43)),
 q3 49 (.extract 1 (.t 43)),
 q3 12 (.mv (.t 48)),
 q3 13 (.mv (.t 49))])
 (.seq [0, 3, 6, 8, 11, 12, 13] (.seq [0, 3, 6, 8, 11, 12, 13, 60] (.reg [q3 50 (.mv (.t 12)),
 q3 51 (.len (.t 50)),
 q3 52 (.bin .eql (.t 51) (.c (.i .i64 0))),
 q3 53 (.mv (.t 52)),
 ⟨(some 54), .mv (.t 13), (some (53, false))⟩,
 ⟨(some 55), .mv (.t 54), (some (53, false))⟩,
 ⟨(some 56), .faddr 2 (.t 11), (some (55, true))⟩,
 ⟨(some 57), .load none (.t 56), (some (55, true))⟩,
 ⟨(some 58), .bin .neq (.t 57) (.c (.i .i64 1)), (some (55, true))⟩,
 ⟨(some 59), .pick (.t 55) (.t 58) (.c (.b false)), (some (53, false))⟩,
 q3 60 (.pick (.t 53) (.c (.b true)) (.t 59))])
 (.cond (.t 60)
 (.reg [q3 61 (.mv (.t 0)),
 q3 62 (.call 145 [(.t 61), (.c (.i .i64 3))])])
 .skip))
 (.seq [0, 3, 6, 8, 11, 12, 13, 14] (.reg [q3 14 (.alloc [(.i .i64 0), (.i .i64 0)])])
 (.seq [0, 3, 6, 8, 14] (.seq [0, 3, 6, 8, 11, 12, 13, 14, 65] (.reg [q3 63 (.faddr 2 (.t 11)),
 q3 64 (.load none (.t 63)),
 q3 65 (.bin .eql (.t 64) (.c (.i .i64 1)))])
 (.cond (.t 65)
 (.reg [q3 66 (.mv (.t 0)),
 q3 67 (.mv (.t 12)),
 q3 68 (.mv (.t 13)),
 q3 69 (.mv (.t 3)),
 q3 70 (.mv (.t 0)),
 q3 71 (.mkf (.func 91) [(.t 70)] []),
 q3 72 (.call 232 [(.t 66), (.t 67), (.t 68), (.t 69), (.t 71)]),
 ⟨none, .store 2 (.t 14) (.t 72), none⟩])
 (.seq [0, 3, 6, 8, 11, 12, 14, 15] (.reg [q3 15 (.mv (.c (.l [] true)))])
 (.seq [0, 3, 6, 8, 11, 14, 15] (.seq [0, 3, 6, 8, 11, 14, 15, 73, 74, 75] (.reg [q3 73 (.mv (.t 12)),
 q3 74 (.len (.t 73)),
 q3 75 (.mv (.c (.i .i64 0)))])
 (.block 2 (.loop [0, 3, 6, 8, 11, 14, 15, 73, 74, 75] (.seq [0, 3, 6, 8, 11, 14, 15, 73, 74, 75, 76] (.reg [q3 76 (.bin .lss (.t 75) (.t 74))])
 (.seq [0, 3, 6, 8, 11, 14, 15, 73, 74, 75] (.cond (.t 76)
 .skip
 (.exit 2))
 (.seq [0, 3, 6, 8, 11, 14, 15, 73, 74, 75] (.block 3 (.seq [0, 3, 6, 8, 11, 14, 15, 17, 73, 74, 75] (.reg [q3 77 (.iaddr 1 none (.t 73) (.t 75)),
 q3 78 (.load none (.t 77)),
 q3 17 (.mv (.t 78))])
 (.seq [0, 3, 6, 8, 11, 14, 15, 73, 74, 75] (.reg [q3 79 (.mv (.t 15)),
 q3 80 (.mv (.t 0)),
 q3 81 (.mv (.t 17)),
 q3 82 (.mv (.t 3)),
 q3 83 (.mv (.t 0)),
 q3 84 (.mkf (.func 91) [(.t 83)] []),
 q3 85 (.call 278 [(.t 80), (.t 81), (.t 82), (.t 84)]),
 q3 86 (.bslice 2 1 [(.i .i64 0), (.i .i64 0)] [(0, (.t 85))]),
 q3 87 (.append 2 16 (.t 79) (.t 86)),
 q3 15 (.mv (.t 87))])
 (.seq [0, 3, 6, 8, 11, 14, 15, 73, 74, 75, 96] (.dreg [0, 3, 6, 8, 11, 14, 15, 73, 74, 75, 96] [⟨0, q3 88 (.faddr 2 (.t 11)), [], []⟩,
 ⟨1, q3 89 (.load none (.t 88)), [], []⟩,
 ⟨2, q3 90 (.mv (.t 15)), [], []⟩,
 ⟨3, q3 91 (.mv (.t 15)), [], []⟩,
 ⟨4, q3 92 (.len (.t 91)), [], []⟩,
 ⟨5, q3 93 (.bin .sub (.t 92) (.c (.i .i64 1))), [], []⟩,
 ⟨6, q3 94 (.iaddr 2 none (.t 90) (.t 93)), [], []⟩,
 ⟨7, q3 95 (.load (some 2) (.t 94)), [], []⟩,
 ⟨8, q3 96 (.call 81 [(.t 89), (.t 95)]), [], []⟩])
 (.cond (.t 96)
 (.exit 2)
 .skip)))))
 (.reg [q3 97 (.bin .add (.t 75) (.c (.i .i64 1))),
 q3 75 (.mv (.t 97))])))))))
 (.reg [q3 98 (.faddr 2 (.t 11)),
 q3 99 (.load none (.t 98)),
 q3 100 (.mv (.t 15)),
 q3 101 (.call 82 [(.t 99), (.t 100)]),
 ⟨none, .store 2 (.t 14) (.t 101), none⟩])))))
 (.seq [8, 14] (.seq [0, 3, 8, 14, 104, 105, 106] (.reg [q3 102 (.faddr 0 (.t 6)),
 q3 103 (.faddr 5 (.t 102)),
 q3 104 (.load none (.t 103)),
 q3 105 (.len (.t 104)),
 q3 106 (.mv (.c (.i .i64 0)))])
 (.block 4 (.loop [0, 3, 8, 14, 104, 105, 106] (.seq [0, 3, 8, 14, 104, 105, 106, 107] (.reg [q3 107 (.bin .lss (.t 106) (.t 105))])
 (.seq [0, 3, 8, 14, 104, 105, 106] (.cond (.t 107)
 .skip
 (.exit 4))
 (.seq [0, 3, 8, 14, 104, 105, 106] (.block 5 (.seq [0, 3, 8, 14, 19, 104, 105, 106] (.reg [q3 108 (.iaddr 1 none (.t 104) (.t 106)),
 q3 109 (.load none (.t 108)),
 q3 19 (.mv (.t 109))])
 (.reg [q3 110 (.mv (.t 0)),
 q3 111 (.mv (.t 19)),
 q3 112 (.mv (.t 3)),
 q3 113 (.mv (.t 0)),
 q3 114 (.mkf (.func 91) [(.t 113)] []),
 q3 115 (.call 278 [(.t 110), (.t 111), (.t 112), (.t 114)])])))
 (.reg [q3 116 (.bin .add (.t 106) (.c (.i .i64 1))),
 q3 106 (.mv (.t 116))])))))))
 (.seq [8] (.reg [q3 117 (.load (some 2) (.t 14)),
 ⟨none, .store 2 (.t 8) (.t 117), none⟩])
 .ret)))))))))
theorem ree231 : Tryz.f231.body.bind (res Tryz.prog Tryz.f231.ntmps [] []) = some (erase ae231) := by kernel_rfl
def fs231 : FnS := .fn 118 ae231 [.c 8 (some 2)]
theorem fsok231 : FnOk Tryz.prog 231 fs231 := fun _ _ _ hn h => ctr_of_resC Tryz.func231 (by kernel_rfl) ree231 (by kernel_rfl) hn h
abbrev ae279 : ACode := (.seq [0, 1, 2, 3, 4, 5] (.reg [q3 5 (.alloc [(.i .i64 0), (.i .i64 0)])])
 (.seq [4, 5] (.block 0 (.seq [0, 1, 2, 3, 4, 5, 6] (.reg [q3 7 (.load none (.t 0)),
 q3 8 (.len (.t 7)),
 q3 9 (.bin .gtr (.t 8) (.c (.i .i64 1))),
 q3 6 (.mv (.t 9))])
 (.cond (.t 6)
 (.seq [5] (.dreg [5] [⟨0, q3 10 (.load none (.t 1)), [], []⟩,
 ⟨1, q3 11 (.load none (.t 0)), [], []⟩,
 ⟨2, q3 12 (.slice 1 (.t 11) (some (.c (.i .i64 1))) none none), [], []⟩,
 ⟨3, q3 13 (.load none (.t 2)), [], []⟩,
 ⟨4, q3 14 (.load none (.t 3)), [], []⟩,
 ⟨5, q3 15 (.load none (.t 4)), [], []⟩,
 ⟨6, q3 16 (.call 232 [(.t 10), (.t 12), (.t 13), (.t 14), (.t 15)]), [], []⟩,
 ⟨7, ⟨none, .store 2 (.t 5) (.t 16), none⟩, [], []⟩])
 .ret)
 (.seq [1, 4, 5, 17] (.reg [q3 18 (.load none (.t 2)),
 q3 17 (.mv (.t 18))])
 (.cond (.t 17)
 (.seq [5] (.reg [q3 19 (.load none (.t 1)),
 q3 20 (.call 145 [(.t 19), (.c (.i .i64 3))]),
 ⟨none, .store 2 (.t 5) (.t 20), none⟩])
 .ret)
 .skip)))))
 (.seq [5] (.reg [q3 21 (.load none (.t 4)),
 q3 22 (.callv (.t 21) []),
 ⟨none, .store 2 (.t 5) (.t 22), none⟩])
 .ret)))
theorem ree279 : Tryz.f279.body.bind (res Tryz.prog Tryz.f279.ntmps [] []) = some (erase ae279) := by kernel_rfl
def fs279 : FnS := .fn 23 ae279 [.c 5 (some 2)]
theorem fsok279 : FnOk Tryz.prog 279 fs279 := fun _ _ _ hn h => ctr_of_resC Tryz.func279 (by kernel_rfl) ree279 (by kernel_rfl) hn h
abbrev ae278 : ACode := (.seq [0, 1, 2, 3, 8] (.reg [q3 8 (.alloc [(.i .i64 0), (.i .i64 0)])])
 (.seq [0, 1, 2, 3, 8] (.seq [0, 1, 2, 3, 8, 14] (.reg [q3 9 (.mv (.t 0)),
 q3 10 (.nilck (.t 9)),
 q3 11 (.faddr 0 (.t 10)),
 q3 12 (.faddr 5 (.t 11)),
 q3 13 (.load none (.t 12)),
 q3 14 (.bin .eql (.t 13) (.c (.i .i64 0)))])
 (.cond (.t 14)
 (.reg [q3 15 (.mv (.t 0)),
 q3 16 (.call 145 [(.t 15), (.c (.i .i64 7))])])
 .skip))
 (.seq [0, 1, 2, 3, 8] (.reg [q3 17 (.mv (.t 0)),
 q3 18 (.nilck (.t 17)),
 q3 19 (.faddr 0 (.t 18)),
 q3 20 (.faddr 5 (.t 19)),
 q3 21 (.load none (.t 20)),
 q3 22 (.bin .sub (.t 21) (.c (.i .i64 1))),
 q3 23 (.nilck (.t 17)),
 q3 24 (.faddr 0 (.t 23)),
 q3 25 (.faddr 5 (.t 24)),
 ⟨none, .store 1 (.t 25) (.t 22), none⟩])
 (.seq [0, 1, 2, 3, 8] (.dreg [0, 1, 2, 3, 8] [⟨0, q3 26 (.mv (.t 0)), [], []⟩,
 ⟨1, q3 27 (.mv (.t 0)), [], []⟩,
 ⟨2, q3 28 (.nilck (.t 27)), [], []⟩,
 ⟨3, q3 29 (.faddr 0 (.t 28)), [], []⟩,
 ⟨4, q3 30 (.faddr 3 (.t 29)), [], []⟩,
 ⟨5, q3 31 (.load none (.t 30)), [], []⟩,
 ⟨6, q3 32 (.mv (.t 1)), [], []⟩,
 ⟨7, q3 33 (.mv (.t 2)), [], []⟩,
 ⟨8, q3 34 (.call 129 [(.t 33)]), [5], [q3 31 (.load none (.t 30))]⟩,
 ⟨9, q3 35 (.build [(.i .i64 0), (.i .i64 0), (.l [] true)] [(0, 1, (.c (.i .i64 1))), (1, 1, (.t 32)), (2, 1, (.t 34))]), [], []⟩,
 ⟨10, q3 36 (.bslice 3 1 [(.i .i64 0), (.i .i64 0), (.l [] true)] [(0, (.t 35))]), [], []⟩,
 ⟨11, q3 37 (.append 3 40 (.t 31) (.t 36)), [], []⟩,
 ⟨12, q3 38 (.nilck (.t 26)), [], []⟩,
 ⟨13, q3 39 (.faddr 0 (.t 38)), [], []⟩,
 ⟨14, q3 40 (.faddr 3 (.t 39)), [], []⟩,
 ⟨15, ⟨none, .store 1 (.t 40) (.t 37), none⟩, [], []⟩])
 (.seq [8] (.dreg [8] [⟨0, q3 41 (.mv (.t 0)), [], []⟩,
 ⟨1, q3 42 (.mv (.t 0)), [], []⟩,
 ⟨2, q3 43 (.nilck (.t 42)), [], []⟩,
 ⟨3, q3 44 (.faddr 6 (.t 43)), [], []⟩,
 ⟨4, q3 45 (.faddr 3 (.t 44)), [], []⟩,
 ⟨5, q3 46 (.load none (.t 45)), [], []⟩,
 ⟨6, q3 47 (.mv (.t 1)), [], []⟩,
 ⟨7, q3 48 (.iaddr 9 none (.t 46) (.t 47)), [], []⟩,
 ⟨8, q3 49 (.faddr 8 (.t 48)), [], []⟩,
 ⟨9, q3 50 (.load none (.t 49)), [], []⟩,
 ⟨10, q3 51 (.mv (.t 2)), [], []⟩,
 ⟨12, q3 53 (.mv (.t 3)), [], []⟩,
 ⟨11, q3 52 (.call 129 [(.t 51)]), [9, 5], [q3 50 (.load none (.t 49)), q3 46 (.load none (.t 45))]⟩,
 ⟨13, q3 54 (.call 90 [(.t 41), (.t 50), (.t 52), (.t 53)]), [], []⟩,
 ⟨14, ⟨none, .store 2 (.t 8) (.t 54), none⟩, [], []⟩])
 .ret)))))
theorem ree278 : Tryz.f278.body.bind (res Tryz.prog Tryz.f278.ntmps [] []) = some (erase ae278) := by kernel_rfl
def fs278 : FnS := .fn 55 ae278 [.c 8 (some 2)]
theorem fsok278 : FnOk Tryz.prog 278 fs278 := fun _ _ _ hn h => ctr_of_resC Tryz.func278 (by kernel_rfl) ree278 (by kernel_rfl) hn h
abbrev ae280 : ACode := (.seq [1, 2] (.reg [q3 2 (.box (.t 0)),
 q3 4 (.mv (.c (.l [] true))),
 q3 5 (.mv (.c (.i .i64 0)))])
 (.seq [1, 2] (.seq [1, 2, 21] (.reg [q3 18 (.load (some 6) (.t 2)),
 q3 19 (.mv (.t 1)),
 q3 20 (.call 275 [(.t 18), (.t 19)]),
 q3 21 (.not (.t 20))])
 (.cond (.t 21)
 (.seq [4, 5] (.reg [q3 4 (.mv (.c (.l [] true))),
 q3 5 (.mv (.c (.i .i64 2)))])
 .ret)
 .skip))
 (.seq [1, 2, 6, 7] (.reg [q3 23 (.load (some 6) (.t 2)),
 q3 24 (.call 173 [(.t 23)]),
 q3 25 (.mv (.t 1)),
 q3 26 (.call 248 [(.t 24), (.t 25)]),
 q3 22 (.mv (.t 26)),
 q3 27 (.extract 0 (.t 22)),
 q3 28 (.extract 1 (.t 22)),
 q3 6 (.mv (.t 27)),
 q3 7 (.mv (.t 28))])
 (.seq [1, 2, 6] (.seq [1, 2, 6, 7, 30] (.reg [q3 29 (.mv (.t 7)),
 q3 30 (.bin .neq (.t 29) (.c (.i .i64 0)))])
 (.cond (.t 30)
 (.seq [4, 5] (.reg [q3 31 (.mv (.t 7)),
 q3 4 (.mv (.c (.l [] true))),
 q3 5 (.mv (.t 31))])
 .ret)
 .skip))
 (.seq [1, 2, 6, 8] (.reg [q3 32 (.mkmap),
 q3 8 (.alloc [.mn]),
 ⟨none, .store 1 (.t 8) (.t 32), none⟩])
 (.seq [1, 2, 8] (.seq [1, 2, 8, 34] (.reg [q3 33 (.mv (.t 6)),
 q3 34 (.call 317 [(.t 33)])])
 (.block 0 (.rangef [2, 8] (.t 34) [35, 36]
 (.reg [q3 10 (.mv (.t 36))])
 (.block 1 (.seq [2, 8, 10, 38] (.reg [q3 37 (.mv (.t 10)),
 q3 38 (.bin .geq (.t 37) (.c (.i .i64 3)))])
 (.cond (.t 38)
 (.seq [8, 45, 46, 47] (.reg [q3 39 (.faddr 0 (.t 2)),
 q3 40 (.load none (.t 39)),
 q3 41 (.mv (.t 10)),
 q3 42 (.bin .sub (.t 41) (.c (.i .i64 3))),
 q3 43 (.iaddr 3 none (.t 40) (.t 42)),
 q3 44 (.faddr 2 (.t 43)),
 q3 45 (.load none (.t 44)),
 q3 46 (.len (.t 45)),
 q3 47 (.mv (.c (.i .i64 0)))])
 (.block 2 (.loop [8, 45, 46, 47] (.seq [8, 45, 46, 47, 48] (.reg [q3 48 (.bin .lss (.t 47) (.t 46))])
 (.seq [8, 45, 46, 47] (.cond (.t 48)
 .skip
 (.exit 2))
 (.seq [8, 45, 46, 47] (.block 3 (.seq [8, 12, 45, 46, 47] (.reg [q3 49 (.iaddr 2 none (.t 45) (.t 47)),
 q3 50 (.load (some 2) (.t 49)),
 q3 12 (.alloc [(.i .i64 0), (.i .i64 0)]),
 ⟨none, .store 2 (.t 12) (.t 50), none⟩])
 (.reg [q3 51 (.load none (.t 8)),
 q3 52 (.faddr 0 (.t 12)),
 q3 53 (.load none (.t 52)),
 q3 54 (.faddr 1 (.t 12)),
 q3 55 (.load none (.t 54)),
 ⟨none, .mapset (.i .i64) (.t 51) (.t 53) (.t 55), none⟩])))
 (.reg [q3 56 (.bin .add (.t 47) (.c (.i .i64 1))),
 q3 47 (.mv (.t 56))])))))))
 .skip))))))
 (.seq [1, 2, 8, 13] (.reg [q3 13 (.mv (.c (.l [] true)))])
 (.seq [13] (.seq [8, 13, 59, 60, 61] (.reg [q3 57 (.load (some 6) (.t 2)),
 q3 58 (.mv (.t 1)),
 q3 59 (.call 249 [(.t 57), (.t 58)]),
 q3 60 (.len (.t 59)),
 q3 61 (.mv (.c (.i .i64 0)))])
 (.block 4 (.loop [8, 13, 59, 60, 61] (.seq [8, 13, 59, 60, 61, 62] (.reg [q3 62 (.bin .lss (.t 61) (.t 60))])
 (.seq [8, 13, 59, 60, 61] (.cond (.t 62)
 .skip
 (.exit 4))
 (.seq [8, 13, 59, 60, 61] (.block 5 (.seq [8, 13, 15, 59, 60, 61] (.reg [q3 63 (.iaddr 1 none (.t 59) (.t 61)),
 q3 64 (.load none (.t 63)),
 q3 15 (.mv (.t 64))])
 (.seq [8, 13, 15, 16, 17, 59, 60, 61] (.reg [q3 66 (.load none (.t 8)),
 q3 67 (.mv (.t 15)),
 q3 68 (.lookup (.i .i64) (.i .i64 0) true (.t 66) (.t 67)),
 q3 65 (.mv (.t 68)),
 q3 69 (.extract 0 (.t 65)),
 q3 70 (.extract 1 (.t 65)),
 q3 16 (.mv (.t 69)),
 q3 17 (.mv (.t 70))])
 (.seq [8, 13, 15, 16, 59, 60, 61, 71] (.reg [q3 71 (.mv (.t 17))])
 (.cond (.t 71)
 (.reg [q3 72 (.mv (.t 13)),
 q3 73 (.mv (.t 15)),
 q3 74 (.mv (.t 16)),
 q3 75 (.build [(.i .i64 0), (.i .i64 0)] [(0, 1, (.t 73)), (1, 1, (.t 74))]),
 q3 76 (.bslice 2 1 [(.i .i64 0), (.i .i64 0)] [(0, (.t 75))]),
 q3 77 (.append 2 16 (.t 72) (.t 76)),
 q3 13 (.mv (.t 77))])
 .skip)))))
 (.reg [q3 78 (.bin .add (.t 61) (.c (.i .i64 1))),
 q3 61 (.mv (.t 78))])))))))
 (.seq [4, 5] (.reg [q3 79 (.mv (.t 13)),
 q3 80 (.call 318 [(.t 79)]),
 q3 4 (.mv (.t 80)),
 q3 5 (.mv (.c (.i .i64 0)))])
 .ret)))))))))
theorem ree280 : Tryz.f280.body.bind (res Tryz.prog Tryz.f280.ntmps [] []) = some (erase ae280) := by kernel_rfl
def fs280 : FnS := .fn 81 ae280 [.t 4, .t 5]
theorem fsok280 : FnOk Tryz.prog 280 fs280 := fun _ _ _ hn h => ctr_of_resC Tryz.func280 (by kernel_rfl) ree280 (by kernel_rfl) hn h
abbrev ae282 : ACode := (.seq [1, 2] (.reg [q3 2 (.box (.t 0)),
 q3 3 (.mv (.c (.b false)))])
 (.seq [3] (.reg [q3 4 (.faddr 0 (.t 2)),
 q3 5 (.load none (.t 4)),
 q3 6 (.load none (.t 1)),
 q3 7 (.bin .eql (.t 5) (.t 6)),
 q3 3 (.mv (.t 7))])
 .ret))
theorem ree282 : Tryz.f282.body.bind (res Tryz.prog Tryz.f282.ntmps [] []) = some (erase ae282) := by kernel_rfl
def fs282 : FnS := .fn 8 ae282 [.t 3]
theorem fsok282 : FnOk Tryz.prog 282 fs282 := fun _ _ _ hn h => ctr_of_resC Tryz.func282 (by kernel_rfl) ree282 (by kernel_rfl) hn h
abbrev ae281 : ACode := (.seq [0, 1] (.reg [q3 4 (.mv (.c (.i .i64 0)))])
 (.seq [] (.seq [0, 1, 7, 8] (.reg [q3 6 (.mv (.t 0)),
 q3 7 (.len (.t 6)),
 q3 8 (.mv (.c (.i .i64 0)))])
 (.block 0 (.loop [0, 1, 7, 8] (.seq [0, 1, 7, 8, 9] (.reg [q3 9 (.bin .lss (.t 8) (.t 7))])
 (.seq [0, 1, 7, 8] (.cond (.t 9)
 .skip
 (.exit 0))
 (.seq [0, 1, 7, 8] (.block 1 (.seq [0, 1, 5, 7, 8] (.reg [q3 10 (.mv (.t 8)),
 q3 5 (.mv (.t 10))])
 (.seq [0, 1, 5, 7, 8, 16] (.reg [q3 11 (.mv (.t 1)),
 q3 12 (.mv (.t 0)),
 q3 13 (.mv (.t 5)),
 q3 14 (.iaddr 2 none (.t 12) (.t 13)),
 q3 15 (.load (some 2) (.t 14)),
 q3 16 (.callv (.t 11) [(.t 15)])])
 (.cond (.t 16)
 (.seq [4] (.reg [q3 17 (.mv (.t 5)),
 q3 4 (.mv (.t 17))])
 .ret)
 .skip))))
 (.reg [q3 18 (.bin .add (.t 8) (.c (.i .i64 1))),
 q3 8 (.mv (.t 18))])))))))
 (.seq [4] (.reg [q3 4 (.mv (.c (.i .i64 (-1))))])
 .ret)))
theorem ree281 : Tryz.f281.body.bind (res Tryz.prog Tryz.f281.ntmps [] []) = some (erase ae281) := by kernel_rfl
def fs281 : FnS := .fn 19 ae281 [.t 4]
theorem fsok281 : FnOk Tryz.prog 281 fs281 := fun _ _ _ hn h => ctr_of_resC Tryz.func281 (by kernel_rfl) ree281 (by kernel_rfl) hn h
abbrev ae283 : ACode := (.seq [0] (.reg [q3 2 (.mv (.c (.l [] true)))])
 (.seq [2] (.reg [q3 3 (.mv (.t 0)),
 q3 4 (.call 319 [(.t 3), (.c (.f (.func 320) [] []))]),
 q3 2 (.mv (.t 4))])
 .ret))
theorem ree283 : Tryz.f283.body.bind (res Tryz.prog Tryz.f283.ntmps [] []) = some (erase ae283) := by kernel_rfl
def fs283 : FnS := .fn 5 ae283 [.t 2]
theorem fsok283 : FnOk Tryz.prog 283 fs283 := fun _ _ _ hn h => ctr_of_resC Tryz.func283 (by kernel_rfl) ree283 (by kernel_rfl) hn h
abbrev ae284 : ACode := (.seq [0, 3] (.reg [q3 3 (.box (.t 1)),
 q3 4 (.mv (.c (.b false)))])
 (.seq [4] (.reg [q3 5 (.mv (.t 0)),
 q3 6 (.mkf (.func 321) [] [(.t 3)]),
 q3 7 (.call 24 [(.t 5), (.t 6)]),
 q3 8 (.not (.t 7)),
 q3 4 (.mv (.t 8))])
 .ret))
theorem ree284 : Tryz.f284.body.bind (res Tryz.prog Tryz.f284.ntmps [] []) = some (erase ae284) := by kernel_rfl
def fs284 : FnS := .fn 9 ae284 [.t 4]
theorem fsok284 : FnOk Tryz.prog 284 fs284 := fun _ _ _ hn h => ctr_of_resC Tryz.func284 (by kernel_rfl) ree284 (by kernel_rfl) hn h
abbrev ae285 : ACode := (.seq [0, 1] (.reg [q3 4 (.mv (.c (.l [] true)))])
 (.seq [0, 1, 5] (.reg [q3 5 (.mv (.c (.l [] true)))])
 (.seq [5] (.seq [1, 5, 8, 9, 10] (.reg [q3 8 (.mv (.t 0)),
 q3 9 (.len (.t 8)),
 q3 10 (.mv (.c (.i .i64 0)))])
 (.block 0 (.loop [1, 5, 8, 9, 10] (.seq [1, 5, 8, 9, 10, 11] (.reg [q3 11 (.bin .lss (.t 10) (.t 9))])
 (.seq [1, 5, 8, 9, 10] (.cond (.t 11)
 .skip
 (.exit 0))
 (.seq [1, 5, 8, 9, 10] (.block 1 (.seq [1, 5, 7, 8, 9, 10] (.reg [q3 12 (.iaddr 2 none (.t 8) (.t 10)),
 q3 13 (.load (some 2) (.t 12)),
 q3 7 (.alloc [(.i .i64 0), (.l [] true)]),
 ⟨none, .store 2 (.t 7) (.t 13), none⟩])
 (.reg [q3 14 (.mv (.t 5)),
 q3 15 (.mv (.t 1)),
 q3 16 (.load (some 2) (.t 7)),
 q3 17 (.callv (.t 15) [(.t 16)]),
 q3 18 (.bslice 2 1 [(.i .i64 0), (.l [] true)] [(0, (.t 17))]),
 q3 19 (.append 2 32 (.t 14) (.t 18)),
 q3 5 (.mv (.t 19))])))
 (.reg [q3 20 (.bin .add (.t 10) (.c (.i .i64 1))),
 q3 10 (.mv (.t 20))])))))))
 (.seq [4] (.reg [q3 21 (.mv (.t 5)),
 q3 22 (.call 323 [(.t 21)]),
 q3 4 (.mv (.t 22))])
 .ret))))
theorem ree285 : Tryz.f285.body.bind (res Tryz.prog Tryz.f285.ntmps [] []) = some (erase ae285) := by kernel_rfl
def fs285 : FnS := .fn 23 ae285 [.t 4]
theorem fsok285 : FnOk Tryz.prog 285 fs285 := fun _ _ _ hn h => ctr_of_resC Tryz.func285 (by kernel_rfl) ree285 (by kernel_rfl) hn h
abbrev ae286 : ACode := (.seq [1, 2] (.reg [q3 1 (.box (.t 0)),
 q3 2 (.alloc [(.i .i64 0), (.l [] true)])])
 (.seq [2] (.dreg [2] [⟨0, q3 3 (.faddr 0 (.t 1)), [], []⟩,
 ⟨1, q3 4 (.load none (.t 3)), [], []⟩,
 ⟨2, q3 5 (.faddr 1 (.t 1)), [], []⟩,
 ⟨3, q3 6 (.load none (.t 5)), [], []⟩,
 ⟨4, q3 7 (.call 283 [(.t 6)]), [1], [q3 4 (.load none (.t 3))]⟩,
 ⟨5, q3 8 (.build [(.i .i64 0), (.l [] true)] [(0, 1, (.t 4)), (1, 1, (.t 7))]), [], []⟩,
 ⟨6, ⟨none, .store 2 (.t 2) (.t 8), none⟩, [], []⟩])
 .ret))
theorem ree286 : Tryz.f286.body.bind (res Tryz.prog Tryz.f286.ntmps [] []) = some (erase ae286) := by kernel_rfl
def fs286 : FnS := .fn 9 ae286 [.c 2 (some 2)]
theorem fsok286 : FnOk Tryz.prog 286 fs286 := fun _ _ _ hn h => ctr_of_resC Tryz.func286 (by kernel_rfl) ree286 (by kernel_rfl) hn h
abbrev ae287 : ACode := (.seq [0, 1, 2] (.reg [q3 6 (.mv (.c (.b false)))])
 (.seq [0, 1, 2, 7] (.reg [q3 10 (.mv (.t 1)),
 q3 11 (.mv (.t 2)),
 q3 12 (.build [(.i .i64 0), (.i .i64 0)] [(0, 1, (.t 10)), (1, 1, (.t 11))]),
 q3 7 (.alloc [(.i .i64 0), (.i .i64 0)]),
 ⟨none, .store 2 (.t 7) (.t 12), none⟩])
 (.seq [0, 1, 2, 7, 8, 9] (.dreg [0, 1, 2, 7, 8, 9] [⟨0, q3 14 (.mv (.t 0)), [], []⟩,
 ⟨1, q3 15 (.nilck (.t 14)), [], []⟩,
 ⟨2, q3 16 (.faddr 8 (.t 15)), [], []⟩,
 ⟨3, q3 17 (.load none (.t 16)), [], []⟩,
 ⟨4, q3 18 (.load (some 2) (.t 7)), [], []⟩,
 ⟨5, q3 19 (.lookup (.a [.i64, .i64]) (.b false) true (.t 17) (.t 18)), [], []⟩,
 ⟨6, q3 13 (.mv (.t 19)), [], []⟩,
 ⟨7, q3 20 (.extract 0 (.t 13)), [], []⟩,
 ⟨8, q3 21 (.extract 1 (.t 13)), [], []⟩,
 ⟨9, q3 8 (.mv (.t 20)), [], []⟩,
 ⟨10, q3 9 (.mv (.t 21)), [], []⟩])
 (.seq [8] (.seq [0, 1, 2, 7, 8, 23] (.reg [q3 22 (.mv (.t 9)),
 q3 23 (.not (.t 22))])
 (.cond (.t 23)
 (.seq [0, 7, 8] (.dreg [0, 7, 8] [⟨0, q3 25 (.mv (.t 0)), [], []⟩,
 ⟨1, q3 26 (.nilck (.t 25)), [], []⟩,
 ⟨2, q3 27 (.faddr 6 (.t 26)), [], []⟩,
 ⟨3, q3 28 (.load (some 2) (.t 27)), [], []⟩,
 ⟨4, q3 29 (.mv (.t 0)), [], []⟩,
 ⟨5, q3 30 (.nilck (.t 29)), [], []⟩,
 ⟨6, q3 31 (.faddr 0 (.t 30)), [], []⟩,
 ⟨7, q3 32 (.faddr 3 (.t 31)), [], []⟩,
 ⟨8, q3 33 (.load none (.t 32)), [], []⟩,
 ⟨9, q3 34 (.mv (.t 1)), [], []⟩,
 ⟨10, q3 35 (.iaddr 9 none (.t 33) (.t 34)), [], []⟩,
 ⟨11, q3 36 (.faddr 2 (.t 35)), [], []⟩,
 ⟨12, q3 37 (.load (some 6) (.t 36)), [], []⟩,
 ⟨13, q3 38 (.mv (.t 0)), [], []⟩,
 ⟨14, q3 39 (.nilck (.t 38)), [], []⟩,
 ⟨15, q3 40 (.faddr 0 (.t 39)), [], []⟩,
 ⟨16, q3 41 (.faddr 3 (.t 40)), [], []⟩,
 ⟨17, q3 42 (.load none (.t 41)), [], []⟩,
 ⟨18, q3 43 (.mv (.t 2)), [], []⟩,
 ⟨19, q3 44 (.iaddr 9 none (.t 42) (.t 43)), [], []⟩,
 ⟨20, q3 45 (.faddr 2 (.t 44)), [], []⟩,
 ⟨21, q3 46 (.load (some 6) (.t 45)), [], []⟩,
 ⟨22, q3 47 (.call 324 [(.t 28), (.t 37), (.t 46)]), [], []⟩,
 ⟨23, q3 24 (.mv (.t 47)), [], []⟩,
 ⟨24, q3 48 (.extract 0 (.t 24)), [], []⟩,
 ⟨25, q3 49 (.extract 1 (.t 24)), [], []⟩,
 ⟨26, q3 8 (.mv (.t 48)), [], []⟩])
 (.dreg [8] [⟨0, q3 50 (.mv (.t 0)), [], []⟩,
 ⟨1, q3 51 (.nilck (.t 50)), [], []⟩,
 ⟨2, q3 52 (.faddr 8 (.t 51)), [], []⟩,
 ⟨3, q3 53 (.load none (.t 52)), [], []⟩,
 ⟨4, q3 54 (.load (some 2) (.t 7)), [], []⟩,
 ⟨5, q3 55 (.mv (.t 8)), [], []⟩,
 ⟨6, ⟨none, .mapset (.a [.i64, .i64]) (.t 53) (.t 54) (.t 55), none⟩, [], []⟩]))
 .skip))
 (.seq [6] (.reg [q3 56 (.mv (.t 8)),
 q3 6 (.mv (.t 56))])
 .ret)))))
theorem ree287 : Tryz.f287.body.bind (res Tryz.prog Tryz.f287.ntmps [] []) = some (erase ae287) := by kernel_rfl
def fs287 : FnS := .fn 57 ae287 [.t 6]
theorem fsok287 : FnOk Tryz.prog 287 fs287 := fun _ _ _ hn h => ctr_of_resC Tryz.func287 (by kernel_rfl) ree287 (by kernel_rfl) hn h
abbrev ae289 : ACode := (.seq [0, 1] (.reg [q3 3 (.mv (.c (.b false)))])
 (.seq [3] (.reg [q3 4 (.mv (.t 0)),
 q3 5 (.load none (.t 1)),
 q3 6 (.bin .neq (.t 4) (.t 5)),
 q3 3 (.mv (.t 6))])
 .ret))
theorem ree289 : Tryz.f289.body.bind (res Tryz.prog Tryz.f289.ntmps [] []) = some (erase ae289) := by kernel_rfl
def fs289 : FnS := .fn 7 ae289 [.t 3]
theorem fsok289 : FnOk Tryz.prog 289 fs289 := fun _ _ _ hn h => ctr_of_resC Tryz.func289 (by kernel_rfl) ree289 (by kernel_rfl) hn h
abbrev ae288 : ACode := (.seq [0, 1] (.reg [q3 4 (.mv (.c (.l [] true)))])
 (.seq [0, 1, 5] (.reg [q3 5 (.mv (.c (.l [] true)))])
 (.seq [5] (.seq [1, 5, 8, 9, 10] (.reg [q3 8 (.mv (.t 0)),
 q3 9 (.len (.t 8)),
 q3 10 (.mv (.c (.i .i64 0)))])
 (.block 0 (.loop [1, 5, 8, 9, 10] (.seq [1, 5, 8, 9, 10, 11] (.reg [q3 11 (.bin .lss (.t 10) (.t 9))])
 (.seq [1, 5, 8, 9, 10] (.cond (.t 11)
 .skip
 (.exit 0))
 (.seq [1, 5, 8, 9, 10] (.block 1 (.seq [1, 5, 7, 8, 9, 10] (.reg [q3 12 (.iaddr 1 none (.t 8) (.t 10)),
 q3 13 (.load none (.t 12)),
 q3 7 (.mv (.t 13))])
 (.seq [1, 5, 7, 8, 9, 10, 16] (.reg [q3 14 (.mv (.t 1)),
 q3 15 (.mv (.t 7)),
 q3 16 (.callv (.t 14) [(.t 15)])])
 (.cond (.t 16)
 (.reg [q3 17 (.mv (.t 5)),
 q3 18 (.mv (.t 7)),
 q3 19 (.bslice 1 1 [(.i .i64 0)] [(0, (.t 18))]),
 q3 20 (.append 1 8 (.t 17) (.t 19)),
 q3 5 (.mv (.t 20))])
 .skip))))
 (.reg [q3 21 (.bin .add (.t 10) (.c (.i .i64 1))),
 q3 10 (.mv (.t 21))])))))))
 (.seq [4] (.reg [q3 22 (.mv (.t 5)),
 q3 23 (.call 241 [(.t 22)]),
 q3 4 (.mv (.t 23))])
 .ret))))
theorem ree288 : Tryz.f288.body.bind (res Tryz.prog Tryz.f288.ntmps [] []) = some (erase ae288) := by kernel_rfl
def fs288 : FnS := .fn 24 ae288 [.t 4]
theorem fsok288 : FnOk Tryz.prog 288 fs288 := fun _ _ _ hn h => ctr_of_resC Tryz.func288 (by kernel_rfl) ree288 (by kernel_rfl) hn h
abbrev ae292 : ACode := (.seq [0, 5, 6, 7] (.reg [q3 5 (.load none (.t 1)),
 q3 6 (.len (.t 5)),
 q3 7 (.mv (.c (.i .i64 0)))])
 (.block 0 (.loop [0, 5, 6, 7] (.seq [0, 5, 6, 7, 8] (.reg [q3 8 (.bin .lss (.t 7) (.t 6))])
 (.seq [0, 5, 6, 7] (.cond (.t 8)
 .skip
 (.exit 0))
 (.seq [0, 5, 6, 7] (.block 1 (.seq [0, 4, 5, 6, 7] (.reg [q3 9 (.iaddr 1 none (.t 5) (.t 7)),
 q3 10 (.load none (.t 9)),
 q3 4 (.mv (.t 10))])
 (.seq [0, 5, 6, 7, 14] (.reg [q3 11 (.mv (.t 0)),
 q3 12 (.mv (.t 4)),
 q3 13 (.callv (.t 11) [(.t 12)]),
 q3 14 (.not (.t 13))])
 (.cond (.t 14)
 .ret
 .skip))))
 (.reg [q3 15 (.bin .add (.t 7) (.c (.i .i64 1))),
 q3 7 (.mv (.t 15))])))))))
theorem ree292 : Tryz.f292.body.bind (res Tryz.prog Tryz.f292.ntmps [] []) = some (erase ae292) := by kernel_rfl
def fs292 : FnS := .fn 16 ae292 []
theorem fsok292 : FnOk Tryz.prog 292 fs292 := fun _ _ _ hn h => ctr_of_resC Tryz.func292 (by kernel_rfl) ree292 (by kernel_rfl) hn h
abbrev ae290 : ACode := (.seq [0] (.reg [q3 2 (.mv (.c (.l [] true)))])
 (.seq [2] (.reg [q3 3 (.mv (.t 0)),
 q3 4 (.call 325 [(.c (.l [] true)), (.t 3)]),
 q3 2 (.mv (.t 4))])
 .ret))
theorem ree290 : Tryz.f290.body.bind (res Tryz.prog Tryz.f290.ntmps [] []) = some (erase ae290) := by kernel_rfl
def fs290 : FnS := .fn 5 ae290 [.t 2]
theorem fsok290 : FnOk Tryz.prog 290 fs290 := fun _ _ _ hn h => ctr_of_resC Tryz.func290 (by kernel_rfl) ree290 (by kernel_rfl) hn h
abbrev ae291 : ACode := (.seq [0, 2] (.reg [q3 3 (.mv (.t 0)),
 q3 4 (.len (.t 3)),
 q3 2 (.mv (.t 4))])
 (.reg [q3 5 (.mv (.t 0)),
 q3 6 (.mv (.t 2)),
 q3 7 (.mv (.t 2)),
 q3 8 (.conv .u64 (.t 7)),
 q3 9 (.call 327 [(.t 8)]),
 q3 10 (.call 326 [(.t 5), (.c (.i .i64 0)), (.t 6), (.t 9)])]))
theorem ree291 : Tryz.f291.body.bind (res Tryz.prog Tryz.f291.ntmps [] []) = some (erase ae291) := by kernel_rfl
def fs291 : FnS := .fn 11 ae291 []
theorem fsok291 : FnOk Tryz.prog 291 fs291 := fun _ _ _ hn h => ctr_of_resC Tryz.func291 (by kernel_rfl) ree291 (by kernel_rfl) hn h
abbrev ae245 : ACode := (.seq [0, 1, 2] (.reg [q3 4 (.mv (.c (.b false)))])
 (.seq [4] (.reg [q3 5 (.load none (.t 1)),
 q3 6 (.mv (.t 0)),
 q3 7 (.load none (.t 2)),
 q3 8 (.call 239 [(.t 5), (.t 6), (.t 7)]),
 q3 4 (.mv (.t 8))])
 .ret))
theorem ree245 : Tryz.f245.body.bind (res Tryz.prog Tryz.f245.ntmps [] []) = some (erase ae245) := by kernel_rfl
def fs245 : FnS := .fn 9 ae245 [.t 4]
theorem fsok245 : FnOk Tryz.prog 245 fs245 := fun _ _ _ hn h => ctr_of_resC Tryz.func245 (by kernel_rfl) ree245 (by kernel_rfl) hn h
abbrev ae212 : ACode := (.seq [0, 1] (.reg [q3 4 (.mv (.c (.l [] true)))])
 (.seq [0, 1, 5] (.reg [q3 5 (.mv (.c (.l [] true)))])
 (.seq [5] (.seq [1, 5, 8, 9, 10] (.reg [q3 8 (.mv (.t 0)),
 q3 9 (.len (.t 8)),
 q3 10 (.mv (.c (.i .i64 0)))])
 (.block 0 (.loop [1, 5, 8, 9, 10] (.seq [1, 5, 8, 9, 10, 11] (.reg [q3 11 (.bin .lss (.t 10) (.t 9))])
 (.seq [1, 5, 8, 9, 10] (.cond (.t 11)
 .skip
 (.exit 0))
 (.seq [1, 5, 8, 9, 10] (.block 1 (.seq [1, 5, 7, 8, 9, 10] (.reg [q3 12 (.iaddr 3 none (.t 8) (.t 10)),
 q3 13 (.load (some 3) (.t 12)),
 q3 7 (.alloc [(.l [] true), (.l [] true), (.l [] true)]),
 ⟨none, .store 3 (.t 7) (.t 13), none⟩])
 (.reg [q3 14 (.mv (.t 5)),
 q3 15 (.mv (.t 1)),
 q3 16 (.load (some 3) (.t 7)),
 q3 17 (.callv (.t 15) [(.t 16)]),
 q3 18 (.bslice 1 1 [(.l [] true)] [(0, (.t 17))]),
 q3 19 (.append 1 24 (.t 14) (.t 18)),
 q3 5 (.mv (.t 19))])))
 (.reg [q3 20 (.bin .add (.t 10) (.c (.i .i64 1))),
 q3 10 (.mv (.t 20))])))))))
 (.seq [4] (.reg [q3 21 (.mv (.t 5)),
 q3 22 (.call 264 [(.t 21)]),
 q3 4 (.mv (.t 22))])
 .ret))))
theorem ree212 : Tryz.f212.body.bind (res Tryz.prog Tryz.f212.ntmps [] []) = some (erase ae212) := by kernel_rfl
def fs212 : FnS := .fn 23 ae212 [.t 4]
theorem fsok212 : FnOk Tryz.prog 212 fs212 := fun _ _ _ hn h => ctr_of_resC Tryz.func212 (by kernel_rfl) ree212 (by kernel_rfl) hn h
abbrev ae213 : ACode := (.seq [1] (.reg [q3 1 (.box (.t 0)),
 q3 2 (.mv (.c (.l [] true)))])
 (.seq [2] (.reg [q3 3 (.faddr 0 (.t 1)),
 q3 4 (.load none (.t 3)),
 q3 5 (.call 149 [(.t 4)]),
 q3 2 (.mv (.t 5))])
 .ret))
theorem ree213 : Tryz.f213.body.bind (res Tryz.prog Tryz.f213.ntmps [] []) = some (erase ae213) := by kernel_rfl
def fs213 : FnS := .fn 6 ae213 [.t 2]
theorem fsok213 : FnOk Tryz.prog 213 fs213 := fun _ _ _ hn h => ctr_of_resC Tryz.func213 (by kernel_rfl) ree213 (by kernel_rfl) hn h
abbrev ae293 : ACode := (.seq [0] (.reg [q3 2 (.mv (.c (.b false)))])
 (.seq [0] (.seq [0, 9] (.reg [q3 7 (.mv (.t 0)),
 q3 8 (.len (.t 7)),
 q3 9 (.bin .gtr (.t 8) (.c (.i .i64 16)))])
 (.cond (.t 9)
 (.seq [2] (.reg [q3 2 (.mv (.c (.b false)))])
 .ret)
 .skip))
 (.seq [] (.seq [10, 11, 12] (.reg [q3 10 (.mv (.t 0)),
 q3 11 (.len (.t 10)),
 q3 12 (.mv (.c (.i .i64 0)))])
 (.block 0 (.loop [10, 11, 12] (.seq [10, 11, 12, 13] (.reg [q3 13 (.bin .lss (.t 12) (.t 11))])
 (.seq [10, 11, 12] (.cond (.t 13)
 .skip
 (.exit 0))
 (.seq [10, 11, 12] (.block 1 (.seq [3, 4, 10, 11, 12] (.reg [q3 14 (.mv (.t 12)),
 q3 15 (.iaddr 1 none (.t 10) (.t 12)),
 q3 16 (.load none (.t 15)),
 q3 3 (.mv (.t 14)),
 q3 4 (.mv (.t 16))])
 (.seq [3, 4, 10, 11, 12] (.seq [3, 4, 10, 11, 12, 19] (.reg [q3 17 (.mv (.t 4)),
 q3 18 (.len (.t 17)),
 q3 19 (.bin .gtr (.t 18) (.c (.i .i64 3)))])
 (.cond (.t 19)
 (.seq [2] (.reg [q3 2 (.mv (.c (.b false)))])
 .ret)
 .skip))
 (.seq [3, 4, 10, 11, 12, 20, 21, 22] (.reg [q3 20 (.mv (.t 4)),
 q3 21 (.len (.t 20)),
 q3 22 (.mv (.c (.i .i64 0)))])
 (.block 2 (.loop [3, 4, 10, 11, 12, 20, 21, 22] (.seq [3, 4, 10, 11, 12, 20, 21, 22, 23] (.reg [q3 23 (.bin .lss (.t 22) (.t 21))])
 (.seq [3, 4, 10, 11, 12, 20, 21, 22] (.cond (.t 23)
 .skip
 (.exit 2))
 (.seq [3, 4, 10, 11, 12, 20, 21, 22] (.block 3 (.seq [3, 4, 5, 6, 10, 11, 12, 20, 21, 22] (.reg [q3 24 (.mv (.t 22)),
 q3 25 (.iaddr 1 none (.t 20) (.t 22)),
 q3 26 (.load none (.t 25)),
 q3 5 (.mv (.t 24)),
 q3 6 (.mv (.t 26))])
 (.seq [3, 4, 10, 11, 12, 20, 21, 22, 41] (.reg [q3 27 (.mv (.t 6)),
 q3 28 (.bin .lss (.t 27) (.c (.i .i64 3))),
 q3 29 (.mv (.t 28)),
 ⟨(some 30), .mv (.t 6), (some (29, false))⟩,
 ⟨(some 31), .mv (.t 3), (some (29, false))⟩,
 ⟨(some 32), .bin .add (.c (.i .i64 3)) (.t 31), (some (29, false))⟩,
 ⟨(some 33), .bin .geq (.t 30) (.t 32), (some (29, false))⟩,
 q3 34 (.pick (.t 29) (.c (.b true)) (.t 33)),
 q3 35 (.mv (.t 34)),
 ⟨(some 36), .mv (.t 4), (some (35, false))⟩,
 ⟨(some 37), .mv (.t 5), (some (35, false))⟩,
 ⟨(some 38), .slice 1 (.t 36) none (some (.t 37)) none, (some (35, false))⟩,
 ⟨(some 39), .mv (.t 6), (some (35, false))⟩,
 ⟨(some 40), .call 67 [(.t 38), (.t 39)], (some (35, false))⟩,
 q3 41 (.pick (.t 35) (.c (.b true)) (.t 40))])
 (.cond (.t 41)
 (.seq [2] (.reg [q3 2 (.mv (.c (.b false)))])
 .ret)
 .skip))))
 (.reg [q3 42 (.bin .add (.t 22) (.c (.i .i64 1))),
 q3 22 (.mv (.t 42))]))))))))))
 (.reg [q3 43 (.bin .add (.t 12) (.c (.i .i64 1))),
 q3 12 (.mv (.t 43))])))))))
 (.seq [2] (.reg [q3 2 (.mv (.c (.b true)))])
 .ret))))
theorem ree293 : Tryz.f293.body.bind (res Tryz.prog Tryz.f293.ntmps [] []) = some (erase ae293) := by kernel_rfl
def fs293 : FnS := .fn 44 ae293 [.t 2]
theorem fsok293 : FnOk Tryz.prog 293 fs293 := fun _ _ _ hn h => ctr_of_resC Tryz.func293 (by kernel_rfl) ree293 (by kernel_rfl) hn h
abbrev ae294 : ACode := (.seq [0, 1] (.reg [q3 4 (.mv (.c .pn)),
 q3 5 (.mv (.c (.b false)))])
 (.seq [0, 1] (.seq [0, 1, 17] (.reg [q3 15 (.mv (.t 0)),
 q3 16 (.call 293 [(.t 15)]),
 q3 17 (.not (.t 16))])
 (.cond (.t 17)
 (.seq [4, 5] (.reg [q3 4 (.mv (.c .pn)),
 q3 5 (.mv (.c (.b false)))])
 .ret)
 .skip))
 (.seq [0] (.seq [0, 18, 19, 20] (.reg [q3 18 (.mv (.t 1)),
 q3 19 (.len (.t 18)),
 q3 20 (.mv (.c (.i .i64 0)))])
 (.block 0 (.loop [0, 18, 19, 20] (.seq [0, 18, 19, 20, 21] (.reg [q3 21 (.bin .lss (.t 20) (.t 19))])
 (.seq [0, 18, 19, 20] (.cond (.t 21)
 .skip
 (.exit 0))
 (.seq [0, 18, 19, 20] (.block 1 (.seq [0, 7, 18, 19, 20] (.reg [q3 22 (.iaddr 1 none (.t 18) (.t 20)),
 q3 23 (.load none (.t 22)),
 q3 7 (.mv (.t 23))])
 (.seq [0, 18, 19, 20, 32] (.reg [q3 24 (.mv (.t 7)),
 q3 25 (.bin .lss (.t 24) (.c (.i .i64 0))),
 q3 26 (.mv (.t 25)),
 ⟨(some 27), .mv (.t 7), (some (26, false))⟩,
 ⟨(some 28), .mv (.t 0), (some (26, false))⟩,
 ⟨(some 29), .len (.t 28), (some (26, false))⟩,
 ⟨(some 30), .bin .add (.c (.i .i64 3)) (.t 29), (some (26, false))⟩,
 ⟨(some 31), .bin .geq (.t 27) (.t 30), (some (26, false))⟩,
 q3 32 (.pick (.t 26) (.c (.b true)) (.t 31))])
 (.cond (.t 32)
 (.seq [4, 5] (.reg [q3 4 (.mv (.c .pn)),
 q3 5 (.mv (.c (.b false)))])
 .ret)
 .skip))))
 (.reg [q3 33 (.bin .add (.t 20) (.c (.i .i64 1))),
 q3 20 (.mv (.t 33))])))))))
 (.seq [0, 8] (.reg [q3 34 (.mv (.t 0)),
 q3 35 (.len (.t 34)),
 q3 36 (.bin .add (.c (.i .i64 3)) (.t 35)),
 q3 37 (.mkslice 1 24 [(.l [] true)] (.c (.i .i64 3)) (.t 36)),
 q3 38 (.mkmap),
 q3 39 (.build [(.l [] true), (.l [] true), .mn] [(0, 1, (.t 37)), (2, 1, (.t 38))]),
 q3 40 (.box (.t 39)),
 q3 8 (.mv (.t 40))])
 (.seq [8] (.reg [q3 41 (.mv (.t 8)),
 q3 42 (.mv (.t 8)),
 q3 43 (.nilck (.t 42)),
 q3 44 (.faddr 0 (.t 43)),
 q3 45 (.load none (.t 44)),
 q3 46 (.mv (.t 0)),
 q3 47 (.append 1 24 (.t 45) (.t 46)),
 q3 48 (.nilck (.t 41)),
 q3 49 (.faddr 0 (.t 48)),
 ⟨none, .store 1 (.t 49) (.t 47), none⟩])
 (.seq [8] (.seq [8, 53, 54, 55] (.reg [q3 50 (.mv (.t 8)),
 q3 51 (.nilck (.t 50)),
 q3 52 (.faddr 0 (.t 51)),
 q3 53 (.load none (.t 52)),
 q3 54 (.len (.t 53)),
 q3 55 (.mv (.c (.i .i64 0)))])
 (.block 2 (.loop [8, 53, 54, 55] (.seq [8, 53, 54, 55, 56] (.reg [q3 56 (.bin .lss (.t 55) (.t 54))])
 (.seq [8, 53, 54, 55] (.cond (.t 56)
 .skip
 (.exit 2))
 (.seq [8, 53, 54, 55] (.block 3 (.seq [8, 9, 10, 53, 54, 55] (.reg [q3 57 (.mv (.t 55)),
 q3 58 (.iaddr 1 none (.t 53) (.t 55)),
 q3 59 (.load none (.t 58)),
 q3 9 (.mv (.t 57)),
 q3 10 (.mv (.t 59))])
 (.seq [8, 10, 11, 53, 54, 55] (.reg [q3 60 (.build [(.i .u64 0)] []),
 q3 61 (.mv (.t 9)),
 q3 62 (.call 328 [(.t 60), (.t 61)]),
 q3 63 (.call 328 [(.t 62), (.c (.i .i64 0))]),
 q3 11 (.alloc [(.i .u64 0)]),
 ⟨none, .store 1 (.t 11) (.t 63), none⟩])
 (.seq [8, 11, 53, 54, 55] (.seq [8, 11, 53, 54, 55, 64, 65, 66] (.reg [q3 64 (.mv (.t 10)),
 q3 65 (.len (.t 64)),
 q3 66 (.mv (.c (.i .i64 0)))])
 (.block 4 (.loop [8, 11, 53, 54, 55, 64, 65, 66] (.seq [8, 11, 53, 54, 55, 64, 65, 66, 67] (.reg [q3 67 (.bin .lss (.t 66) (.t 65))])
 (.seq [8, 11, 53, 54, 55, 64, 65, 66] (.cond (.t 67)
 .skip
 (.exit 4))
 (.seq [8, 11, 53, 54, 55, 64, 65, 66] (.block 5 (.seq [8, 11, 13, 53, 54, 55, 64, 65, 66] (.reg [q3 68 (.iaddr 1 none (.t 64) (.t 66)),
 q3 69 (.load none (.t 68)),
 q3 13 (.mv (.t 69))])
 (.dreg [8, 11, 53, 54, 55, 64, 65, 66] [⟨0, q3 70 (.load (some 1) (.t 11)), [], []⟩,
 ⟨1, q3 71 (.mv (.t 8)), [], []⟩,
 ⟨2, q3 72 (.nilck (.t 71)), [], []⟩,
 ⟨3, q3 73 (.faddr 1 (.t 72)), [], []⟩,
 ⟨4, q3 74 (.load none (.t 73)), [], []⟩,
 ⟨5, q3 75 (.mv (.t 13)), [], []⟩,
 ⟨6, q3 76 (.iaddr 1 none (.t 74) (.t 75)), [], []⟩,
 ⟨7, q3 77 (.load (some 1) (.t 76)), [], []⟩,
 ⟨8, q3 78 (.call 329 [(.t 70), (.t 77)]), [], []⟩,
 ⟨9, ⟨none, .store 1 (.t 11) (.t 78), none⟩, [], []⟩])))
 (.reg [q3 79 (.bin .add (.t 66) (.c (.i .i64 1))),
 q3 66 (.mv (.t 79))])))))))
 (.dreg [8, 53, 54, 55] [⟨0, q3 80 (.mv (.t 8)), [], []⟩,
 ⟨1, q3 81 (.mv (.t 8)), [], []⟩,
 ⟨2, q3 82 (.nilck (.t 81)), [], []⟩,
 ⟨3, q3 83 (.faddr 1 (.t 82)), [], []⟩,
 ⟨4, q3 84 (.load none (.t 83)), [], []⟩,
 ⟨5, q3 85 (.load (some 1) (.t 11)), [], []⟩,
 ⟨6, q3 86 (.bslice 1 1 [(.i .u64 0)] [(0, (.t 85))]), [], []⟩,
 ⟨7, q3 87 (.append 1 8 (.t 84) (.t 86)), [], []⟩,
 ⟨8, q3 88 (.nilck (.t 80)), [], []⟩,
 ⟨9, q3 89 (.faddr 1 (.t 88)), [], []⟩,
 ⟨10, ⟨none, .store 1 (.t 89) (.t 87), none⟩, [], []⟩])))))
 (.reg [q3 90 (.bin .add (.t 55) (.c (.i .i64 1))),
 q3 55 (.mv (.t 90))])))))))
 (.seq [8] (.seq [8, 95, 96] (.reg [q3 91 (.mv (.t 8)),
 q3 92 (.nilck (.t 91)),
 q3 93 (.faddr 0 (.t 92)),
 q3 94 (.load none (.t 93)),
 q3 95 (.len (.t 94)),
 q3 96 (.mv (.c (.i .i64 0)))])
 (.block 6 (.loop [8, 95, 96] (.seq [8, 95, 96, 97] (.reg [q3 97 (.bin .lss (.t 96) (.t 95))])
 (.seq [8, 95, 96] (.cond (.t 97)
 .skip
 (.exit 6))
 (.seq [8, 95, 96] (.block 7 (.seq [8, 14, 95, 96] (.reg [q3 98 (.mv (.t 96)),
 q3 14 (.mv (.t 98))])
 (.reg [q3 99 (.mv (.t 8)),
 q3 100 (.mv (.t 14)),
 q3 101 (.call 330 [(.t 99), (.t 100)])])))
 (.reg [q3 102 (.bin .add (.t 96) (.c (.i .i64 1))),
 q3 96 (.mv (.t 102))])))))))
 (.seq [4, 5] (.reg [q3 103 (.mv (.t 8)),
 q3 4 (.mv (.t 103)),
 q3 5 (.mv (.c (.b true)))])
 .ret))))))))
theorem ree294 : Tryz.f294.body.bind (res Tryz.prog Tryz.f294.ntmps [] []) = some (erase ae294) := by kernel_rfl
def fs294 : FnS := .fn 104 ae294 [.t 4, .t 5]
theorem fsok294 : FnOk Tryz.prog 294 fs294 := fun _ _ _ hn h => ctr_of_resC Tryz.func294 (by kernel_rfl) ree294 (by kernel_rfl) hn h
abbrev ae170 : ACode := (.seq [0, 1] (.reg [q3 4 (.mv (.c (.i .u32 0))),
 q3 5 (.mv (.c (.i .u32 0)))])
 (.seq [6] (.reg [q3 7 (.mv (.t 0)),
 q3 8 (.conv .u64 (.t 7)),
 q3 9 (.mv (.t 1)),
 q3 10 (.conv .u64 (.t 9)),
 q3 11 (.bin .mul (.t 8) (.t 10)),
 q3 6 (.mv (.t 11))])
 (.seq [4, 5] (.reg [q3 12 (.mv (.t 6)),
 q3 13 (.bin .shr (.t 12) (.c (.i .u64 32))),
 q3 14 (.conv .u32 (.t 13)),
 q3 15 (.mv (.t 6)),
 q3 16 (.conv .u32 (.t 15)),
 q3 4 (.mv (.t 14)),
 q3 5 (.mv (.t 16))])
 .ret)))
theorem ree170 : Tryz.f170.body.bind (res Tryz.prog Tryz.f170.ntmps [] []) = some (erase ae170) := by kernel_rfl
def fs170 : FnS := .fn 17 ae170 [.t 4, .t 5]
theorem fsok170 : FnOk Tryz.prog 170 fs170 := fun _ _ _ hn h => ctr_of_resC Tryz.func170 (by kernel_rfl) ree170 (by kernel_rfl) hn h
abbrev ae171 : ACode := (.seq [0, 1] (.reg [q3 4 (.mv (.c (.i .u64 0))),
 q3 5 (.mv (.c (.i .u64 0)))])
 (.seq [0, 1, 6] (.reg [q3 14 (.mv (.t 0)),
 q3 15 (.bin .and (.t 14) (.c (.i .u64 4294967295))),
 q3 6 (.mv (.t 15))])
 (.seq [0, 1, 6, 7] (.reg [q3 16 (.mv (.t 0)),
 q3 17 (.bin .shr (.t 16) (.c (.i .u64 32))),
 q3 7 (.mv (.t 17))])
 (.seq [0, 1, 6, 7, 8] (.reg [q3 18 (.mv (.t 1)),
 q3 19 (.bin .and (.t 18) (.c (.i .u64 4294967295))),
 q3 8 (.mv (.t 19))])
 (.seq [0, 1, 6, 7, 8, 9] (.reg [q3 20 (.mv (.t 1)),
 q3 21 (.bin .shr (.t 20) (.c (.i .u64 32))),
 q3 9 (.mv (.t 21))])
 (.seq [0, 1, 6, 7, 8, 9, 10] (.reg [q3 22 (.mv (.t 6)),
 q3 23 (.mv (.t 8)),
 q3 24 (.bin .mul (.t 22) (.t 23)),
 q3 10 (.mv (.t 24))])
 (.seq [0, 1, 6, 7, 9, 11] (.reg [q3 25 (.mv (.t 7)),
 q3 26 (.mv (.t 8)),
 q3 27 (.bin .mul (.t 25) (.t 26)),
 q3 28 (.mv (.t 10)),
 q3 29 (.bin .shr (.t 28) (.c (.i .u64 32))),
 q3 30 (.bin .add (.t 27) (.t 29)),
 q3 11 (.mv (.t 30))])
 (.seq [0, 1, 6, 7, 9, 11, 12] (.reg [q3 31 (.mv (.t 11)),
 q3 32 (.bin .and (.t 31) (.c (.i .u64 4294967295))),
 q3 12 (.mv (.t 32))])
 (.seq [0, 1, 6, 7, 9, 12, 13] (.reg [q3 33 (.mv (.t 11)),
 q3 34 (.bin .shr (.t 33) (.c (.i .u64 32))),
 q3 13 (.mv (.t 34))])
 (.seq [0, 1, 7, 9, 12, 13] (.reg [q3 35 (.mv (.t 12)),
 q3 36 (.mv (.t 6)),
 q3 37 (.mv (.t 9)),
 q3 38 (.bin .mul (.t 36) (.t 37)),
 q3 39 (.bin .add (.t 35) (.t 38)),
 q3 12 (.mv (.t 39))])
 (.seq [0, 1, 4] (.reg [q3 40 (.mv (.t 7)),
 q3 41 (.mv (.t 9)),
 q3 42 (.bin .mul (.t 40) (.t 41)),
 q3 43 (.mv (.t 13)),
 q3 44 (.bin .add (.t 42) (.t 43)),
 q3 45 (.mv (.t 12)),
 q3 46 (.bin .shr (.t 45) (.c (.i .u64 32))),
 q3 47 (.bin .add (.t 44) (.t 46)),
 q3 4 (.mv (.t 47))])
 (.seq [4, 5] (.reg [q3 48 (.mv (.t 0)),
 q3 49 (.mv (.t 1)),
 q3 50 (.bin .mul (.t 48) (.t 49)),
 q3 5 (.mv (.t 50))])
 .ret))))))))))))
theorem ree171 : Tryz.f171.body.bind (res Tryz.prog Tryz.f171.ntmps [] []) = some (erase ae171) := by kernel_rfl
def fs171 : FnS := .fn 51 ae171 [.t 4, .t 5]
theorem fsok171 : FnOk Tryz.prog 171 fs171 := fun _ _ _ hn h => ctr_of_resC Tryz.func171 (by kernel_rfl) ree171 (by kernel_rfl) hn h
abbrev ae251 : ACode := (.seq [1, 2, 3, 4] (.reg [q3 4 (.box (.t 0))])
 (.seq [1, 2, 3, 4, 5] (.reg [q3 5 (.alloc [.fnil])])
 (.seq [2, 3, 5] (.reg [q3 6 (.mkf (.func 252) [] [(.t 4), (.t 1), (.t 5)]),
 ⟨none, .store 1 (.t 5) (.t 6), none⟩])
 (.reg [q3 7 (.load none (.t 5)),
 q3 8 (.load none (.t 2)),
 q3 9 (.load (some 2) (.t 3)),
 q3 10 (.callv (.t 7) [(.t 8), (.t 9)])]))))
theorem ree251 : Tryz.f251.body.bind (res Tryz.prog Tryz.f251.ntmps [] []) = some (erase ae251) := by kernel_rfl
def fs251 : FnS := .fn 11 ae251 []
theorem fsok251 : FnOk Tryz.prog 251 fs251 := fun _ _ _ hn h => ctr_of_resC Tryz.func251 (by kernel_rfl) ree251 (by kernel_rfl) hn h
abbrev ae174 : ACode := (.seq [1] (.reg [q3 1 (.box (.t 0)),
 q3 2 (.mv (.c .pn)),
 q3 3 (.mv (.c (.b false)))])
 (.seq [1] (.seq [1, 20] (.reg [q3 11 (.faddr 0 (.t 1)),
 q3 12 (.load none (.t 11)),
 q3 13 (.len (.t 12)),
 q3 14 (.bin .gtr (.t 13) (.c (.i .i64 60))),
 q3 15 (.mv (.t 14)),
 ⟨(some 16), .faddr 1 (.t 1), (some (15, false))⟩,
 ⟨(some 17), .load none (.t 16), (some (15, false))⟩,
 ⟨(some 18), .len (.t 17), (some (15, false))⟩,
 ⟨(some 19), .bin .gtr (.t 18) (.c (.i .i64 40)), (some (15, false))⟩,
 q3 20 (.pick (.t 15) (.c (.b true)) (.t 19))])
 (.cond (.t 20)
 (.seq [2, 3] (.reg [q3 2 (.mv (.c .pn)),
 q3 3 (.mv (.c (.b false)))])
 .ret)
 .skip))
 (.seq [1, 4] (.reg [q3 21 (.load (some 2) (.t 1)),
 q3 22 (.build [(.l [] true), (.l [] true), (.i .u64 0), (.i .u64 0), (.i .u64 0), (.i .u64 0), (.i .u64 0), (.i .u64 0), (.i .u64 0), (.i .u64 0), (.i .u64 0), (.i .u64 0), (.i .u64 0), (.i .u64 0), (.i .u64 0), (.i .u64 0), (.i .u64 0), (.i .u64 0), (.i .u64 0), (.i .u64 0), (.i .u64 0), (.i .u64 0), (.i .u64 0), (.i .u64 0), (.i .u64 0), (.i .u64 0), (.i .u64 0), (.i .u64 0), (.i .u64 0), (.i .u64 0), (.i .u64 0), (.i .u64 0), (.i .u64 0), (.i .u64 0), (.i .u64 0), (.i .u64 0), (.i .u64 0), (.i .u64 0), (.i .u64 0), (.i .u64 0), (.i .u64 0), (.i .u64 0), (.i .u64 0), (.i .u64 0), (.i .u64 0), (.i .u64 0), (.i .u64 0), (.i .u64 0), (.i .u64 0), (.i .u64 0), (.i .u64 0), (.i .u64 0), (.i .u64 0), (.i .u64 0), (.i .u64 0), (.i .u64 0), (.i .u64 0), (.i .u64 0), (.i .u64 0), (.i .u64 0), (.i .u64 0), (.i .u64 0), (.i .u64 0), (.i .u64 0), (.i .u64 0)] [(0, 2, (.t 21))]),
 q3 23 (.box (.t 22)),
 q3 4 (.mv (.t 23))])
 (.seq [1, 4] (.seq [1, 4, 24] (.reg [q3 24 (.mv (.c (.i .i64 0)))])
 (.block 0 (.loop [1, 4, 24] (.seq [1, 4, 24, 25] (.reg [q3 25 (.bin .lss (.t 24) (.c (.i .i64 3)))])
 (.seq [1, 4, 24] (.cond (.t 25)
 .skip
 (.exit 0))
 (.seq [1, 4, 24] (.block 1 (.seq [1, 4, 5, 24] (.reg [q3 26 (.mv (.t 24)),
 q3 5 (.mv (.t 26))])
 (.dreg [1, 4, 24] [⟨0, q3 27 (.mv (.t 4)), [], []⟩,
 ⟨1, q3 28 (.mv (.t 5)), [], []⟩,
 ⟨2, q3 29 (.mv (.t 5)), [], []⟩,
 ⟨4, q3 31 (.nilck (.t 27)), [], []⟩,
 ⟨5, q3 32 (.faddr 2 (.t 31)), [], []⟩,
 ⟨3, q3 30 (.call 214 [(.c (.i .u64 1)), (.t 29)]), [], []⟩,
 ⟨6, q3 33 (.iaddr 1 (some 63) (.t 32) (.t 28)), [], []⟩,
 ⟨7, ⟨none, .store 1 (.t 33) (.t 30), none⟩, [], []⟩])))
 (.reg [q3 34 (.bin .add (.t 24) (.c (.i .i64 1))),
 q3 24 (.mv (.t 34))])))))))
 (.seq [1, 4] (.seq [1, 4, 36, 37, 38] (.reg [q3 35 (.faddr 0 (.t 1)),
 q3 36 (.load none (.t 35)),
 q3 37 (.len (.t 36)),
 q3 38 (.mv (.c (.i .i64 0)))])
 (.block 2 (.loop [1, 4, 36, 37, 38] (.seq [1, 4, 36, 37, 38, 39] (.reg [q3 39 (.bin .lss (.t 38) (.t 37))])
 (.seq [1, 4, 36, 37, 38] (.cond (.t 39)
 .skip
 (.exit 2))
 (.seq [1, 4, 36, 37, 38] (.block 3 (.seq [1, 4, 6, 7, 36, 37, 38] (.reg [q3 40 (.mv (.t 38)),
 q3 41 (.iaddr 1 none (.t 36) (.t 38)),
 q3 42 (.load none (.t 41)),
 q3 6 (.mv (.t 40)),
 q3 7 (.mv (.t 42))])
 (.seq [1, 4, 6, 7, 8, 36, 37, 38] (.reg [q3 43 (.mv (.t 6)),
 q3 44 (.bin .add (.c (.i .i64 3)) (.t 43)),
 q3 45 (.call 214 [(.c (.i .u64 1)), (.t 44)]),
 q3 8 (.mv (.t 45))])
 (.seq [1, 4, 6, 8, 36, 37, 38] (.seq [1, 4, 6, 7, 8, 36, 37, 38, 46, 47, 48] (.reg [q3 46 (.mv (.t 7)),
 q3 47 (.len (.t 46)),
 q3 48 (.mv (.c (.i .i64 0)))])
 (.block 4 (.loop [1, 4, 6, 7, 8, 36, 37, 38, 46, 47, 48] (.seq [1, 4, 6, 7, 8, 36, 37, 38, 46, 47, 48, 49] (.reg [q3 49 (.bin .lss (.t 48) (.t 47))])
 (.seq [1, 4, 6, 7, 8, 36, 37, 38, 46, 47, 48] (.cond (.t 49)
 .skip
 (.exit 4))
 (.seq [1, 4, 6, 7, 8, 36, 37, 38, 46, 47, 48] (.block 5 (.seq [1, 4, 6, 7, 8, 9, 10, 36, 37, 38, 46, 47, 48] (.reg [q3 50 (.mv (.t 48)),
 q3 51 (.iaddr 1 none (.t 46) (.t 48)),
 q3 52 (.load none (.t 51)),
 q3 9 (.mv (.t 50)),
 q3 10 (.mv (.t 52))])
 (.seq [1, 4, 6, 7, 8, 10, 36, 37, 38, 46, 47, 48] (.seq [1, 4, 6, 7, 8, 10, 36, 37, 38, 46, 47, 48, 67] (.reg [q3 53 (.mv (.t 10)),
 q3 54 (.bin .lss (.t 53) (.c (.i .i64 3))),
 q3 55 (.mv (.t 54)),
 ⟨(some 56), .mv (.t 10), (some (55, false))⟩,
 ⟨(some 57), .mv (.t 6), (some (55, false))⟩,
 ⟨(some 58), .bin .add (.c (.i .i64 3)) (.t 57), (some (55, false))⟩,
 ⟨(some 59), .bin .geq (.t 56) (.t 58), (some (55, false))⟩,
 q3 60 (.pick (.t 55) (.c (.b true)) (.t 59)),
 q3 61 (.mv (.t 60)),
 ⟨(some 62), .mv (.t 7), (some (61, false))⟩,
 ⟨(some 63), .mv (.t 9), (some (61, false))⟩,
 ⟨(some 64), .slice 1 (.t 62) none (some (.t 63)) none, (some (61, false))⟩,
 ⟨(some 65), .mv (.t 10), (some (61, false))⟩,
 ⟨(some 66), .call 67 [(.t 64), (.t 65)], (some (61, false))⟩,
 q3 67 (.pick (.t 61) (.c (.b true)) (.t 66))])
 (.cond (.t 67)
 (.seq [2, 3] (.reg [q3 2 (.mv (.c .pn)),
 q3 3 (.mv (.c (.b false)))])
 .ret)
 .skip))
 (.reg [q3 68 (.mv (.t 8)),
 q3 69 (.mv (.t 4)),
 q3 70 (.mv (.t 10)),
 q3 71 (.nilck (.t 69)),
 q3 72 (.faddr 2 (.t 71)),
 q3 73 (.iaddr 1 (some 63) (.t 72) (.t 70)),
 q3 74 (.load none (.t 73)),
 q3 75 (.bin .or (.t 68) (.t 74)),
 q3 8 (.mv (.t 75))]))))
 (.reg [q3 76 (.bin .add (.t 48) (.c (.i .i64 1))),
 q3 48 (.mv (.t 76))])))))))
 (.reg [q3 77 (.mv (.t 4)),
 q3 78 (.mv (.t 6)),
 q3 79 (.bin .add (.c (.i .i64 3)) (.t 78)),
 q3 80 (.mv (.t 8)),
 q3 81 (.nilck (.t 77)),
 q3 82 (.faddr 2 (.t 81)),
 q3 83 (.iaddr 1 (some 63) (.t 82) (.t 79)),
 ⟨none, .store 1 (.t 83) (.t 80), none⟩])))))
 (.reg [q3 84 (.bin .add (.t 38) (.c (.i .i64 1))),
 q3 38 (.mv (.t 84))])))))))
 (.seq [2, 3] (.reg [q3 85 (.mv (.t 4)),
 q3 86 (.faddr 1 (.t 1)),
 q3 87 (.load none (.t 86)),
 q3 88 (.mv (.t 4)),
 q3 89 (.mkf (.func 216) [(.t 88)] []),
 q3 90 (.call 215 [(.t 87), (.t 89)]),
 q3 2 (.mv (.t 85)),
 q3 3 (.mv (.t 90))])
 .ret))))))
theorem ree174 : Tryz.f174.body.bind (res Tryz.prog Tryz.f174.ntmps [] []) = some (erase ae174) := by kernel_rfl
def fs174 : FnS := .fnz 91 ae174 [.t 2, .t 3]
theorem fsok174 : FnOk Tryz.prog 174 fs174 := fun _ _ _ hn h => ctr_of_resC Tryz.func174 (by kernel_rfl) ree174 (by kernel_rfl) hn h
end Go.Gl
