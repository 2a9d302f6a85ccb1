/-
 The code of functions of the program, resolved, for the evaluator (printed by wip/gen/mkclosed.py)
-/
import Derived.Test.YtfbhfdaljendcaaGreatEv7
import Derived.Test.YtfbhfdaljendcaaGreatProg
import Derived.KernelRfl
set_option linter.all false
set_option linter.unusedVariables false
set_option linter.unusedSimpArgs false
namespace Go.Gl
abbrev q6 (n : Nat) (x : AOp) : AOper := ⟨some n, x, none⟩
open Go.Proofs
abbrev ae363 : ACode := (.seq [0, 3] (.reg [q6 3 (.box (.t 1))])
 (.block 0 (.seq [0, 3, 33] (.reg [q6 34 (.faddr 0 (.t 3)),
 q6 35 (.faddr 0 (.t 34)),
 q6 36 (.load none (.t 35)),
 q6 37 (.bin .eql (.t 36) (.c (.i .i64 2))),
 q6 38 (.mv (.t 37)),
 ⟨(some 39), .faddr 6 (.t 3), (some (38, true))⟩,
 ⟨(some 40), .load none (.t 39), (some (38, true))⟩,
 q6 41 (.pick (.t 38) (.t 40) (.c (.b false))),
 q6 33 (.mv (.t 41))])
 (.cond (.t 33)
 (.dreg [] [⟨0, q6 42 (.mv (.t 0)), [], []⟩,
 ⟨1, q6 43 (.mv (.t 0)), [], []⟩,
 ⟨2, q6 44 (.nilck (.t 43)), [], []⟩,
 ⟨3, q6 45 (.faddr 4 (.t 44)), [], []⟩,
 ⟨4, q6 46 (.load none (.t 45)), [], []⟩,
 ⟨5, q6 47 (.faddr 0 (.t 3)), [], []⟩,
 ⟨6, q6 48 (.faddr 3 (.t 47)), [], []⟩,
 ⟨7, q6 49 (.load none (.t 48)), [], []⟩,
 ⟨8, q6 50 (.call 214 [(.t 46), (.t 49)]), [], []⟩,
 ⟨9, q6 51 (.nilck (.t 42)), [], []⟩,
 ⟨10, q6 52 (.faddr 4 (.t 51)), [], []⟩,
 ⟨11, ⟨none, .store 1 (.t 52) (.t 50), none⟩, [], []⟩])
 (.seq [0, 3, 53] (.reg [q6 54 (.faddr 0 (.t 3)),
 q6 55 (.faddr 0 (.t 54)),
 q6 56 (.load none (.t 55)),
 q6 57 (.bin .eql (.t 56) (.c (.i .i64 2))),
 q6 53 (.mv (.t 57))])
 (.cond (.t 53)
 (.dreg [] [⟨0, q6 58 (.mv (.t 0)), [], []⟩,
 ⟨1, q6 59 (.mv (.t 0)), [], []⟩,
 ⟨2, q6 60 (.nilck (.t 59)), [], []⟩,
 ⟨3, q6 61 (.faddr 3 (.t 60)), [], []⟩,
 ⟨4, q6 62 (.load none (.t 61)), [], []⟩,
 ⟨5, q6 63 (.faddr 0 (.t 3)), [], []⟩,
 ⟨6, q6 64 (.faddr 3 (.t 63)), [], []⟩,
 ⟨7, q6 65 (.load none (.t 64)), [], []⟩,
 ⟨8, q6 66 (.call 214 [(.t 62), (.t 65)]), [], []⟩,
 ⟨9, q6 67 (.nilck (.t 58)), [], []⟩,
 ⟨10, q6 68 (.faddr 3 (.t 67)), [], []⟩,
 ⟨11, ⟨none, .store 1 (.t 68) (.t 66), none⟩, [], []⟩])
 (.seq [0, 3, 69] (.reg [q6 70 (.faddr 0 (.t 3)),
 q6 71 (.faddr 0 (.t 70)),
 q6 72 (.load none (.t 71)),
 q6 73 (.bin .eql (.t 72) (.c (.i .i64 3))),
 q6 74 (.mv (.t 73)),
 ⟨(some 75), .faddr 6 (.t 3), (some (74, true))⟩,
 ⟨(some 76), .load none (.t 75), (some (74, true))⟩,
 q6 77 (.pick (.t 74) (.t 76) (.c (.b false))),
 q6 69 (.mv (.t 77))])
 (.cond (.t 69)
 (.dreg [] [⟨0, q6 78 (.mv (.t 0)), [], []⟩,
 ⟨1, q6 79 (.mv (.t 0)), [], []⟩,
 ⟨2, q6 80 (.nilck (.t 79)), [], []⟩,
 ⟨3, q6 81 (.faddr 0 (.t 80)), [], []⟩,
 ⟨4, q6 82 (.faddr 0 (.t 81)), [], []⟩,
 ⟨5, q6 83 (.load none (.t 82)), [], []⟩,
 ⟨6, q6 84 (.faddr 0 (.t 3)), [], []⟩,
 ⟨7, q6 85 (.faddr 4 (.t 84)), [], []⟩,
 ⟨8, q6 86 (.load none (.t 85)), [], []⟩,
 ⟨9, q6 87 (.mmax (.t 83) (.t 86)), [], []⟩,
 ⟨10, q6 88 (.nilck (.t 78)), [], []⟩,
 ⟨11, q6 89 (.faddr 0 (.t 88)), [], []⟩,
 ⟨12, q6 90 (.faddr 0 (.t 89)), [], []⟩,
 ⟨13, ⟨none, .store 1 (.t 90) (.t 87), none⟩, [], []⟩])
 (.seq [0, 3, 91] (.reg [q6 92 (.faddr 0 (.t 3)),
 q6 93 (.faddr 0 (.t 92)),
 q6 94 (.load none (.t 93)),
 q6 95 (.bin .eql (.t 94) (.c (.i .i64 3))),
 q6 91 (.mv (.t 95))])
 (.cond (.t 91)
 (.dreg [] [⟨0, q6 96 (.mv (.t 0)), [], []⟩,
 ⟨1, q6 97 (.mv (.t 0)), [], []⟩,
 ⟨2, q6 98 (.mv (.t 0)), [], []⟩,
 ⟨3, q6 99 (.nilck (.t 98)), [], []⟩,
 ⟨4, q6 100 (.faddr 0 (.t 99)), [], []⟩,
 ⟨5, q6 101 (.faddr 1 (.t 100)), [], []⟩,
 ⟨6, q6 102 (.load none (.t 101)), [], []⟩,
 ⟨7, q6 103 (.faddr 0 (.t 3)), [], []⟩,
 ⟨8, q6 104 (.faddr 4 (.t 103)), [], []⟩,
 ⟨9, q6 105 (.load none (.t 104)), [], []⟩,
 ⟨10, q6 106 (.bin .sub (.t 105) (.c (.i .i64 1))), [], []⟩,
 ⟨11, q6 107 (.mmin (.t 102) (.t 106)), [], []⟩,
 ⟨12, q6 108 (.nilck (.t 96)), [], []⟩,
 ⟨13, q6 109 (.faddr 0 (.t 108)), [], []⟩,
 ⟨14, q6 110 (.faddr 1 (.t 109)), [], []⟩,
 ⟨15, ⟨none, .store 1 (.t 110) (.t 107), none⟩, [], []⟩,
 ⟨16, q6 111 (.nilck (.t 97)), [], []⟩,
 ⟨17, q6 112 (.faddr 5 (.t 111)), [], []⟩,
 ⟨18, ⟨none, .store 1 (.t 112) (.c (.b true)), none⟩, [], []⟩])
 (.seq [0, 3, 113] (.reg [q6 114 (.faddr 6 (.t 3)),
 q6 115 (.load none (.t 114)),
 q6 113 (.mv (.t 115))])
 (.cond (.t 113)
 (.dreg [] [⟨0, q6 116 (.mv (.t 0)), [], []⟩,
 ⟨1, q6 117 (.mv (.t 0)), [], []⟩,
 ⟨2, q6 118 (.nilck (.t 117)), [], []⟩,
 ⟨3, q6 119 (.faddr 0 (.t 118)), [], []⟩,
 ⟨4, q6 120 (.faddr 2 (.t 119)), [], []⟩,
 ⟨5, q6 121 (.load none (.t 120)), [], []⟩,
 ⟨6, q6 122 (.faddr 0 (.t 3)), [], []⟩,
 ⟨7, q6 123 (.faddr 4 (.t 122)), [], []⟩,
 ⟨8, q6 124 (.load none (.t 123)), [], []⟩,
 ⟨9, q6 125 (.bslice 1 1 [(.i .i64 0)] [(0, (.t 124))]), [], []⟩,
 ⟨10, q6 126 (.append 1 8 (.t 121) (.t 125)), [], []⟩,
 ⟨11, q6 127 (.nilck (.t 116)), [], []⟩,
 ⟨12, q6 128 (.faddr 0 (.t 127)), [], []⟩,
 ⟨13, q6 129 (.faddr 2 (.t 128)), [], []⟩,
 ⟨14, ⟨none, .store 1 (.t 129) (.t 126), none⟩, [], []⟩])
 (.dreg [] [⟨0, q6 4 (.mv (.t 0)), [], []⟩,
 ⟨1, q6 5 (.mv (.t 0)), [], []⟩,
 ⟨2, q6 6 (.mv (.t 0)), [], []⟩,
 ⟨3, q6 7 (.mv (.t 0)), [], []⟩,
 ⟨4, q6 8 (.nilck (.t 7)), [], []⟩,
 ⟨5, q6 9 (.faddr 0 (.t 8)), [], []⟩,
 ⟨6, q6 10 (.faddr 0 (.t 9)), [], []⟩,
 ⟨7, q6 11 (.load none (.t 10)), [], []⟩,
 ⟨8, q6 12 (.faddr 0 (.t 3)), [], []⟩,
 ⟨9, q6 13 (.faddr 4 (.t 12)), [], []⟩,
 ⟨10, q6 14 (.load none (.t 13)), [], []⟩,
 ⟨11, q6 15 (.mmax (.t 11) (.t 14)), [], []⟩,
 ⟨12, q6 16 (.mv (.t 0)), [], []⟩,
 ⟨13, q6 17 (.nilck (.t 16)), [], []⟩,
 ⟨14, q6 18 (.faddr 0 (.t 17)), [], []⟩,
 ⟨15, q6 19 (.faddr 1 (.t 18)), [], []⟩,
 ⟨16, q6 20 (.load none (.t 19)), [], []⟩,
 ⟨17, q6 21 (.faddr 0 (.t 3)), [], []⟩,
 ⟨18, q6 22 (.faddr 4 (.t 21)), [], []⟩,
 ⟨19, q6 23 (.load none (.t 22)), [], []⟩,
 ⟨20, q6 24 (.mmin (.t 20) (.t 23)), [], []⟩,
 ⟨21, q6 25 (.nilck (.t 4)), [], []⟩,
 ⟨22, q6 26 (.faddr 0 (.t 25)), [], []⟩,
 ⟨23, q6 27 (.faddr 0 (.t 26)), [], []⟩,
 ⟨24, ⟨none, .store 1 (.t 27) (.t 15), none⟩, [19], [q6 23 (.load none (.t 22))]⟩,
 ⟨25, q6 28 (.nilck (.t 5)), [], []⟩,
 ⟨26, q6 29 (.faddr 0 (.t 28)), [], []⟩,
 ⟨27, q6 30 (.faddr 1 (.t 29)), [], []⟩,
 ⟨28, ⟨none, .store 1 (.t 30) (.t 24), none⟩, [], []⟩,
 ⟨29, q6 31 (.nilck (.t 6)), [], []⟩,
 ⟨30, q6 32 (.faddr 5 (.t 31)), [], []⟩,
 ⟨31, ⟨none, .store 1 (.t 32) (.c (.b true)), none⟩, [], []⟩])))))))))))))
theorem ree363 : Tryz.f363.body.bind (res Tryz.prog Tryz.f363.ntmps [] []) = some (erase ae363) := by kernel_rfl
def fs363 : FnS := .fn 130 ae363 []
theorem fsok363 : FnOk Tryz.prog 363 fs363 := fun _ _ _ hn h => ctr_of_resC Tryz.func363 (by kernel_rfl) ree363 (by kernel_rfl) hn h
abbrev ae364 : ACode := (.seq [0, 3] (.reg [q6 3 (.box (.t 1)),
 q6 4 (.mv (.c (.i .i64 0))),
 q6 5 (.mv (.c (.b false)))])
 (.seq [0, 3, 6] (.reg [q6 8 (.mv (.t 0)),
 q6 9 (.load (some 4) (.t 3)),
 q6 10 (.call 361 [(.t 8), (.t 9)]),
 q6 6 (.mv (.t 10))])
 (.seq [0, 3, 6, 7] (.reg [q6 11 (.mv (.t 6)),
 q6 12 (.nilck (.t 11)),
 q6 13 (.faddr 0 (.t 12)),
 q6 14 (.faddr 0 (.t 13)),
 q6 15 (.load none (.t 14)),
 q6 7 (.mv (.t 15))])
 (.seq [0, 3, 6, 7] (.block 0 (.loop [0, 3, 6, 7] (.seq [0, 3, 6, 7] (.seq [0, 3, 6, 7, 22] (.reg [q6 16 (.mv (.t 6)),
 q6 17 (.nilck (.t 16)),
 q6 18 (.faddr 0 (.t 17)),
 q6 19 (.faddr 2 (.t 18)),
 q6 20 (.load none (.t 19)),
 q6 21 (.mv (.t 7)),
 q6 22 (.call 67 [(.t 20), (.t 21)])])
 (.cond (.t 22)
 .skip
 (.exit 0)))
 (.block 1 (.reg [q6 23 (.mv (.t 7)),
 q6 24 (.bin .add (.t 23) (.c (.i .i64 1))),
 q6 7 (.mv (.t 24))])))))
 (.seq [4, 5] (.reg [q6 25 (.mv (.t 7)),
 q6 26 (.mv (.t 7)),
 q6 27 (.mv (.t 6)),
 q6 28 (.nilck (.t 27)),
 q6 29 (.faddr 0 (.t 28)),
 q6 30 (.faddr 1 (.t 29)),
 q6 31 (.load none (.t 30)),
 q6 32 (.bin .leq (.t 26) (.t 31)),
 q6 33 (.mv (.t 32)),
 ⟨(some 34), .mv (.t 0), (some (33, true))⟩,
 ⟨(some 35), .load (some 4) (.t 3), (some (33, true))⟩,
 ⟨(some 36), .call 382 [(.t 34), (.t 35), (.c (.i .i64 1))], (some (33, true))⟩,
 q6 37 (.pick (.t 33) (.t 36) (.c (.b false))),
 q6 4 (.mv (.t 25)),
 q6 5 (.mv (.t 37))])
 .ret)))))
theorem ree364 : Tryz.f364.body.bind (res Tryz.prog Tryz.f364.ntmps [] []) = some (erase ae364) := by kernel_rfl
def fs364 : FnS := .fn 38 ae364 [.t 4, .t 5]
theorem fsok364 : FnOk Tryz.prog 364 fs364 := fun _ _ _ hn h => ctr_of_resC Tryz.func364 (by kernel_rfl) ree364 (by kernel_rfl) hn h
abbrev ae365 : ACode := (.seq [0, 3] (.reg [q6 3 (.box (.t 1)),
 q6 4 (.mv (.c (.b false)))])
 (.seq [4] (.reg [q6 5 (.mv (.t 0)),
 q6 6 (.load (some 4) (.t 3)),
 q6 7 (.call 361 [(.t 5), (.t 6)]),
 q6 8 (.nilck (.t 7)),
 q6 9 (.faddr 5 (.t 8)),
 q6 10 (.load none (.t 9)),
 q6 11 (.not (.t 10)),
 q6 12 (.mv (.t 11)),
 ⟨(some 13), .mv (.t 0), (some (12, true))⟩,
 ⟨(some 14), .load (some 4) (.t 3), (some (12, true))⟩,
 ⟨(some 15), .call 382 [(.t 13), (.t 14), (.c (.i .i64 2))], (some (12, true))⟩,
 q6 16 (.pick (.t 12) (.t 15) (.c (.b false))),
 q6 4 (.mv (.t 16))])
 .ret))
theorem ree365 : Tryz.f365.body.bind (res Tryz.prog Tryz.f365.ntmps [] []) = some (erase ae365) := by kernel_rfl
def fs365 : FnS := .fn 17 ae365 [.t 4]
theorem fsok365 : FnOk Tryz.prog 365 fs365 := fun _ _ _ hn h => ctr_of_resC Tryz.func365 (by kernel_rfl) ree365 (by kernel_rfl) hn h
abbrev ae366 : ACode := (.seq [0, 3] (.reg [q6 3 (.box (.t 1)),
 q6 4 (.mv (.c (.i .u64 0))),
 q6 5 (.mv (.c (.b false)))])
 (.seq [0, 3, 6] (.reg [q6 15 (.mv (.t 0)),
 q6 16 (.load (some 4) (.t 3)),
 q6 17 (.call 361 [(.t 15), (.t 16)]),
 q6 6 (.mv (.t 17))])
 (.seq [0, 3, 6, 7, 8] (.dreg [0, 3, 6, 7, 8] [⟨0, q6 18 (.mv (.t 6)), [], []⟩,
 ⟨1, q6 19 (.nilck (.t 18)), [], []⟩,
 ⟨2, q6 20 (.faddr 3 (.t 19)), [], []⟩,
 ⟨3, q6 21 (.load none (.t 20)), [], []⟩,
 ⟨4, q6 22 (.mv (.t 6)), [], []⟩,
 ⟨5, q6 23 (.nilck (.t 22)), [], []⟩,
 ⟨6, q6 24 (.faddr 4 (.t 23)), [], []⟩,
 ⟨7, q6 25 (.load none (.t 24)), [], []⟩,
 ⟨8, q6 7 (.mv (.t 21)), [], []⟩,
 ⟨9, q6 8 (.mv (.t 25)), [], []⟩])
 (.seq [0, 3, 6, 7, 8] (.seq [0, 3, 6, 7, 8, 41] (.reg [q6 26 (.mv (.t 6)),
 q6 27 (.nilck (.t 26)),
 q6 28 (.faddr 5 (.t 27)),
 q6 29 (.load none (.t 28)),
 q6 30 (.mv (.t 29)),
 ⟨(some 31), .mv (.t 7), (some (30, false))⟩,
 ⟨(some 32), .call 372 [(.t 31), (.c (.i .i64 1))], (some (30, false))⟩,
 q6 33 (.pick (.t 30) (.c (.b true)) (.t 32)),
 q6 34 (.mv (.t 33)),
 ⟨(some 35), .mv (.t 7), (some (34, false))⟩,
 ⟨(some 36), .call 372 [(.t 35), (.c (.i .i64 2))], (some (34, false))⟩,
 q6 37 (.pick (.t 34) (.c (.b true)) (.t 36)),
 q6 38 (.mv (.t 37)),
 ⟨(some 39), .mv (.t 8), (some (38, false))⟩,
 ⟨(some 40), .call 372 [(.t 39), (.c (.i .i64 0))], (some (38, false))⟩,
 q6 41 (.pick (.t 38) (.c (.b true)) (.t 40))])
 (.cond (.t 41)
 (.seq [4, 5] (.reg [q6 4 (.mv (.c (.i .u64 0))),
 q6 5 (.mv (.c (.b false)))])
 .ret)
 .skip))
 (.seq [0, 7, 8] (.seq [0, 3, 7, 8, 45, 46, 47] (.reg [q6 42 (.mv (.t 6)),
 q6 43 (.nilck (.t 42)),
 q6 44 (.faddr 7 (.t 43)),
 q6 45 (.load none (.t 44)),
 q6 46 (.len (.t 45)),
 q6 47 (.mv (.c (.i .i64 0)))])
 (.block 0 (.loop [0, 3, 7, 8, 45, 46, 47] (.seq [0, 3, 7, 8, 45, 46, 47, 48] (.reg [q6 48 (.bin .lss (.t 47) (.t 46))])
 (.seq [0, 3, 7, 8, 45, 46, 47] (.cond (.t 48)
 .skip
 (.exit 0))
 (.seq [0, 3, 7, 8, 45, 46, 47] (.block 1 (.seq [0, 3, 7, 8, 10, 45, 46, 47] (.reg [q6 49 (.iaddr 1 none (.t 45) (.t 47)),
 q6 50 (.load none (.t 49)),
 q6 10 (.mv (.t 50))])
 (.seq [0, 3, 7, 8, 10, 11, 45, 46, 47] (.reg [q6 51 (.load (some 4) (.t 3)),
 q6 52 (.mv (.t 10)),
 q6 53 (.call 362 [(.t 51), (.t 52)]),
 q6 11 (.alloc [(.i .i64 0), (.i .i64 0), (.i .i64 0), (.i .i64 0)]),
 ⟨none, .store 4 (.t 11) (.t 53), none⟩])
 (.seq [0, 3, 7, 8, 10, 12, 13, 45, 46, 47] (.dreg [0, 3, 7, 8, 10, 12, 13, 45, 46, 47] [⟨0, q6 54 (.mv (.t 0)), [], []⟩,
 ⟨1, q6 55 (.load (some 4) (.t 11)), [], []⟩,
 ⟨6, q6 60 (.mv (.t 0)), [], []⟩,
 ⟨7, q6 61 (.load (some 4) (.t 11)), [], []⟩,
 ⟨2, q6 56 (.call 361 [(.t 54), (.t 55)]), [7], [q6 61 (.load (some 4) (.t 11))]⟩,
 ⟨3, q6 57 (.nilck (.t 56)), [], []⟩,
 ⟨4, q6 58 (.faddr 6 (.t 57)), [], []⟩,
 ⟨5, q6 59 (.load none (.t 58)), [], []⟩,
 ⟨8, q6 62 (.call 338 [(.t 60), (.t 61)]), [5], [q6 59 (.load none (.t 58))]⟩,
 ⟨9, q6 12 (.mv (.t 59)), [], []⟩,
 ⟨10, q6 13 (.mv (.t 62)), [], []⟩])
 (.block 2 (.seq [0, 3, 7, 8, 10, 12, 13, 45, 46, 47, 63] (.reg [q6 64 (.mv (.t 12)),
 q6 65 (.mv (.t 64)),
 ⟨(some 66), .mv (.t 13), (some (65, true))⟩,
 ⟨(some 67), .not (.t 66), (some (65, true))⟩,
 q6 68 (.pick (.t 65) (.t 67) (.c (.b false))),
 q6 63 (.mv (.t 68))])
 (.cond (.t 63)
 (.seq [4, 5] (.reg [q6 4 (.mv (.c (.i .u64 0))),
 q6 5 (.mv (.c (.b false)))])
 .ret)
 (.seq [0, 3, 7, 8, 10, 13, 45, 46, 47, 69] (.reg [q6 70 (.mv (.t 12)),
 q6 69 (.mv (.t 70))])
 (.cond (.t 69)
 (.reg [q6 71 (.mv (.t 7)),
 q6 72 (.mv (.t 0)),
 q6 73 (.nilck (.t 72)),
 q6 74 (.faddr 0 (.t 73)),
 q6 75 (.load none (.t 74)),
 q6 76 (.nilck (.t 75)),
 q6 77 (.faddr 0 (.t 76)),
 q6 78 (.faddr 1 (.t 77)),
 q6 79 (.load none (.t 78)),
 q6 80 (.mv (.t 10)),
 q6 81 (.iaddr 1 none (.t 79) (.t 80)),
 q6 82 (.load none (.t 81)),
 q6 83 (.call 214 [(.t 71), (.t 82)]),
 q6 7 (.mv (.t 83))])
 (.seq [0, 3, 7, 8, 10, 45, 46, 47, 84] (.reg [q6 85 (.mv (.t 13)),
 q6 86 (.not (.t 85)),
 q6 84 (.mv (.t 86))])
 (.cond (.t 84)
 (.reg [q6 87 (.mv (.t 8)),
 q6 88 (.mv (.t 0)),
 q6 89 (.nilck (.t 88)),
 q6 90 (.faddr 0 (.t 89)),
 q6 91 (.load none (.t 90)),
 q6 92 (.nilck (.t 91)),
 q6 93 (.faddr 0 (.t 92)),
 q6 94 (.faddr 1 (.t 93)),
 q6 95 (.load none (.t 94)),
 q6 96 (.mv (.t 10)),
 q6 97 (.iaddr 1 none (.t 95) (.t 96)),
 q6 98 (.load none (.t 97)),
 q6 99 (.call 214 [(.t 87), (.t 98)]),
 q6 8 (.mv (.t 99))])
 .skip)))))))))))
 (.reg [q6 100 (.bin .add (.t 47) (.c (.i .i64 1))),
 q6 47 (.mv (.t 100))])))))))
 (.seq [7, 8] (.seq [0, 7, 8, 14] (.reg [q6 14 (.mv (.c (.i .i64 3)))])
 (.block 3 (.loop [0, 7, 8, 14] (.seq [0, 7, 8, 14] (.seq [0, 7, 8, 14, 112] (.reg [q6 101 (.mv (.t 14)),
 q6 102 (.mv (.t 0)),
 q6 103 (.nilck (.t 102)),
 q6 104 (.faddr 0 (.t 103)),
 q6 105 (.load none (.t 104)),
 q6 106 (.nilck (.t 105)),
 q6 107 (.faddr 0 (.t 106)),
 q6 108 (.faddr 0 (.t 107)),
 q6 109 (.load none (.t 108)),
 q6 110 (.len (.t 109)),
 q6 111 (.bin .add (.c (.i .i64 3)) (.t 110)),
 q6 112 (.bin .lss (.t 101) (.t 111))])
 (.cond (.t 112)
 .skip
 (.exit 3)))
 (.seq [0, 7, 8, 14] (.block 4 (.seq [0, 7, 8, 14, 117] (.reg [q6 115 (.mv (.t 7)),
 q6 116 (.mv (.t 14)),
 q6 117 (.call 372 [(.t 115), (.t 116)])])
 (.cond (.t 117)
 (.reg [q6 118 (.mv (.t 7)),
 q6 119 (.mv (.t 0)),
 q6 120 (.nilck (.t 119)),
 q6 121 (.faddr 0 (.t 120)),
 q6 122 (.load none (.t 121)),
 q6 123 (.mv (.t 14)),
 q6 124 (.nilck (.t 122)),
 q6 125 (.faddr 2 (.t 124)),
 q6 126 (.iaddr 1 (some 63) (.t 125) (.t 123)),
 q6 127 (.load none (.t 126)),
 q6 128 (.bin .or (.t 118) (.t 127)),
 q6 7 (.mv (.t 128))])
 .skip)))
 (.reg [q6 113 (.mv (.t 14)),
 q6 114 (.bin .add (.t 113) (.c (.i .i64 1))),
 q6 14 (.mv (.t 114))]))))))
 (.seq [7, 8] (.reg [q6 129 (.mv (.t 7)),
 q6 130 (.bin .andNot (.t 129) (.c (.i .u64 1))),
 q6 7 (.mv (.t 130))])
 (.seq [4, 5] (.reg [q6 131 (.mv (.t 7)),
 q6 132 (.mv (.t 7)),
 q6 133 (.mv (.t 8)),
 q6 134 (.bin .and (.t 132) (.t 133)),
 q6 135 (.bin .eql (.t 134) (.c (.i .u64 0))),
 q6 4 (.mv (.t 131)),
 q6 5 (.mv (.t 135))])
 .ret))))))))
theorem ree366 : Tryz.f366.body.bind (res Tryz.prog Tryz.f366.ntmps [] []) = some (erase ae366) := by kernel_rfl
def fs366 : FnS := .fn 136 ae366 [.t 4, .t 5]
theorem fsok366 : FnOk Tryz.prog 366 fs366 := fun _ _ _ hn h => ctr_of_resC Tryz.func366 (by kernel_rfl) ree366 (by kernel_rfl) hn h
abbrev ae305 : ACode := (.seq [0, 1, 2] (.reg [q6 4 (.mv (.c (.b false)))])
 (.seq [4] (.dreg [4] [⟨0, q6 5 (.load none (.t 1)), [], []⟩,
 ⟨1, q6 6 (.load none (.t 2)), [], []⟩,
 ⟨2, q6 7 (.mv (.t 0)), [], []⟩,
 ⟨3, q6 8 (.call 306 [(.t 6), (.t 7)]), [0], [q6 5 (.load none (.t 1))]⟩,
 ⟨4, q6 9 (.callv (.t 5) [(.t 8)]), [], []⟩,
 ⟨5, q6 4 (.mv (.t 9)), [], []⟩])
 .ret))
theorem ree305 : Tryz.f305.body.bind (res Tryz.prog Tryz.f305.ntmps [] []) = some (erase ae305) := by kernel_rfl
def fs305 : FnS := .fn 10 ae305 [.t 4]
theorem fsok305 : FnOk Tryz.prog 305 fs305 := fun _ _ _ hn h => ctr_of_resC Tryz.func305 (by kernel_rfl) ree305 (by kernel_rfl) hn h
abbrev ae382 : ACode := (.seq [0, 2, 4] (.reg [q6 4 (.box (.t 1)),
 q6 6 (.mv (.c (.b false)))])
 (.seq [0, 2, 4, 7] (.reg [q6 9 (.mv (.t 0)),
 q6 10 (.load (some 4) (.t 4)),
 q6 11 (.call 361 [(.t 9), (.t 10)]),
 q6 7 (.mv (.t 11))])
 (.seq [0, 4, 7, 8] (.reg [q6 12 (.mv (.t 2)),
 q6 13 (.call 214 [(.c (.i .u64 1)), (.t 12)]),
 q6 8 (.mv (.t 13))])
 (.seq [6] (.reg [q6 14 (.mv (.t 7)),
 q6 15 (.nilck (.t 14)),
 q6 16 (.faddr 3 (.t 15)),
 q6 17 (.load none (.t 16)),
 q6 18 (.mv (.t 8)),
 q6 19 (.bin .andNot (.t 17) (.t 18)),
 q6 20 (.bin .eql (.t 19) (.c (.i .u64 0))),
 q6 21 (.mv (.t 20)),
 ⟨(some 22), .mv (.t 7), (some (21, true))⟩,
 ⟨(some 23), .nilck (.t 22), (some (21, true))⟩,
 ⟨(some 24), .faddr 4 (.t 23), (some (21, true))⟩,
 ⟨(some 25), .load none (.t 24), (some (21, true))⟩,
 ⟨(some 26), .mv (.t 8), (some (21, true))⟩,
 ⟨(some 27), .bin .and (.t 25) (.t 26), (some (21, true))⟩,
 ⟨(some 28), .bin .eql (.t 27) (.c (.i .u64 0)), (some (21, true))⟩,
 q6 29 (.pick (.t 21) (.t 28) (.c (.b false))),
 q6 30 (.mv (.t 29)),
 ⟨(some 31), .mv (.t 0), (some (30, true))⟩,
 ⟨(some 32), .load (some 4) (.t 4), (some (30, true))⟩,
 ⟨(some 33), .call 391 [(.t 31), (.t 32)], (some (30, true))⟩,
 q6 34 (.pick (.t 30) (.t 33) (.c (.b false))),
 q6 6 (.mv (.t 34))])
 .ret))))
theorem ree382 : Tryz.f382.body.bind (res Tryz.prog Tryz.f382.ntmps [] []) = some (erase ae382) := by kernel_rfl
def fs382 : FnS := .fn 35 ae382 [.t 6]
theorem fsok382 : FnOk Tryz.prog 382 fs382 := fun _ _ _ hn h => ctr_of_resC Tryz.func382 (by kernel_rfl) ree382 (by kernel_rfl) hn h
abbrev ae306 : ACode := (.seq [0, 1] (.reg [q6 4 (.mv (.c (.l [] true)))])
 (.seq [1, 5] (.reg [q6 8 (.mv (.t 0)),
 q6 9 (.call 334 [(.t 8)]),
 q6 5 (.mv (.t 9))])
 (.seq [5] (.seq [5, 10, 11, 12] (.reg [q6 10 (.mv (.t 1)),
 q6 11 (.len (.t 10)),
 q6 12 (.mv (.c (.i .i64 0)))])
 (.block 0 (.loop [5, 10, 11, 12] (.seq [5, 10, 11, 12, 13] (.reg [q6 13 (.bin .lss (.t 12) (.t 11))])
 (.seq [5, 10, 11, 12] (.cond (.t 13)
 .skip
 (.exit 0))
 (.seq [5, 10, 11, 12] (.block 1 (.seq [5, 7, 10, 11, 12] (.reg [q6 14 (.iaddr 7 none (.t 10) (.t 12)),
 q6 15 (.load (some 7) (.t 14)),
 q6 7 (.alloc [(.i .i64 0), (.i .i64 0), (.l [] true), (.i .i64 0), (.i .i64 0), (.l [] true), (.b false)]),
 ⟨none, .store 7 (.t 7) (.t 15), none⟩])
 (.seq [5, 7, 10, 11, 12, 19] (.reg [q6 16 (.mv (.t 5)),
 q6 17 (.mkf (.func 336) [] [(.t 7)]),
 q6 18 (.call 335 [(.t 16), (.t 17)]),
 q6 19 (.not (.t 18))])
 (.cond (.t 19)
 (.reg [q6 20 (.mv (.t 5)),
 q6 21 (.load (some 7) (.t 7)),
 q6 22 (.bslice 7 1 [(.i .i64 0), (.i .i64 0), (.l [] true), (.i .i64 0), (.i .i64 0), (.l [] true), (.b false)] [(0, (.t 21))]),
 q6 23 (.append 7 88 (.t 20) (.t 22)),
 q6 5 (.mv (.t 23))])
 .skip))))
 (.reg [q6 24 (.bin .add (.t 12) (.c (.i .i64 1))),
 q6 12 (.mv (.t 24))])))))))
 (.seq [4] (.reg [q6 25 (.mv (.t 5)),
 q6 4 (.mv (.t 25))])
 .ret))))
theorem ree306 : Tryz.f306.body.bind (res Tryz.prog Tryz.f306.ntmps [] []) = some (erase ae306) := by kernel_rfl
def fs306 : FnS := .fn 26 ae306 [.t 4]
theorem fsok306 : FnOk Tryz.prog 306 fs306 := fun _ _ _ hn h => ctr_of_resC Tryz.func306 (by kernel_rfl) ree306 (by kernel_rfl) hn h
abbrev ae391 : ACode := (.seq [2, 3] (.reg [q6 2 (.box (.t 0)),
 q6 3 (.box (.t 1)),
 q6 4 (.mv (.c (.b false)))])
 (.seq [4] (.reg [q6 5 (.load none (.t 2)),
 q6 6 (.load (some 4) (.t 3)),
 q6 7 (.call 361 [(.t 5), (.t 6)]),
 q6 8 (.nilck (.t 7)),
 q6 9 (.faddr 7 (.t 8)),
 q6 10 (.load none (.t 9)),
 q6 11 (.mkf (.func 394) [] [(.t 2), (.t 3)]),
 q6 12 (.call 215 [(.t 10), (.t 11)]),
 q6 4 (.mv (.t 12))])
 .ret))
theorem ree391 : Tryz.f391.body.bind (res Tryz.prog Tryz.f391.ntmps [] []) = some (erase ae391) := by kernel_rfl
def fs391 : FnS := .fn 13 ae391 [.t 4]
theorem fsok391 : FnOk Tryz.prog 391 fs391 := fun _ _ _ hn h => ctr_of_resC Tryz.func391 (by kernel_rfl) ree391 (by kernel_rfl) hn h
theorem recl334 : Tryz.f334.body.bind (res Tryz.prog Tryz.f334.ntmps [] []) = some (erase (cloneAC 7 88)) := by kernel_rfl
def fs334 : FnS := .prim (cloneP 7)
theorem fsok334 : FnOk Tryz.prog 334 fs334 := clone_fs (sz := 7) (b := 88) (fun _ _ _ hn h => ctr_of_resC Tryz.func334 (by kernel_rfl) recl334 (by kernel_rfl) hn h) (Nat.le_of_ble_eq_true rfl)
abbrev ae336 : ACode := (.seq [1, 2] (.reg [q6 2 (.box (.t 0)),
 q6 3 (.mv (.c (.b false)))])
 (.seq [3] (.reg [q6 4 (.faddr 6 (.t 1)),
 q6 5 (.load none (.t 4)),
 q6 6 (.faddr 6 (.t 2)),
 q6 7 (.load none (.t 6)),
 q6 8 (.eqb false (.t 5) (.t 7)),
 q6 9 (.mv (.t 8)),
 ⟨(some 10), .faddr 0 (.t 1), (some (9, true))⟩,
 ⟨(some 11), .load (some 6) (.t 10), (some (9, true))⟩,
 ⟨(some 12), .faddr 0 (.t 2), (some (9, true))⟩,
 ⟨(some 13), .load (some 6) (.t 12), (some (9, true))⟩,
 ⟨(some 14), .call 179 [(.t 11), (.t 13)], (some (9, true))⟩,
 q6 15 (.pick (.t 9) (.t 14) (.c (.b false))),
 q6 3 (.mv (.t 15))])
 .ret))
theorem ree336 : Tryz.f336.body.bind (res Tryz.prog Tryz.f336.ntmps [] []) = some (erase ae336) := by kernel_rfl
def fs336 : FnS := .fn 16 ae336 [.t 3]
theorem fsok336 : FnOk Tryz.prog 336 fs336 := fun _ _ _ hn h => ctr_of_resC Tryz.func336 (by kernel_rfl) ree336 (by kernel_rfl) hn h
abbrev ae335 : ACode := (.seq [0, 1] (.reg [q6 4 (.mv (.c (.b false)))])
 (.seq [4] (.reg [q6 5 (.mv (.t 0)),
 q6 6 (.mv (.t 1)),
 q6 7 (.call 360 [(.t 5), (.t 6)]),
 q6 8 (.bin .geq (.t 7) (.c (.i .i64 0))),
 q6 4 (.mv (.t 8))])
 .ret))
theorem ree335 : Tryz.f335.body.bind (res Tryz.prog Tryz.f335.ntmps [] []) = some (erase ae335) := by kernel_rfl
def fs335 : FnS := .fn 9 ae335 [.t 4]
theorem fsok335 : FnOk Tryz.prog 335 fs335 := fun _ _ _ hn h => ctr_of_resC Tryz.func335 (by kernel_rfl) ree335 (by kernel_rfl) hn h
abbrev ae394 : ACode := (.seq [0, 1, 2] (.reg [q6 4 (.mv (.c (.b false)))])
 (.seq [4] (.dreg [4] [⟨0, q6 5 (.load none (.t 1)), [], []⟩,
 ⟨1, q6 6 (.load (some 4) (.t 2)), [], []⟩,
 ⟨2, q6 7 (.mv (.t 0)), [], []⟩,
 ⟨3, q6 8 (.call 362 [(.t 6), (.t 7)]), [0], [q6 5 (.load none (.t 1))]⟩,
 ⟨4, q6 9 (.call 361 [(.t 5), (.t 8)]), [], []⟩,
 ⟨5, q6 10 (.nilck (.t 9)), [], []⟩,
 ⟨6, q6 11 (.faddr 6 (.t 10)), [], []⟩,
 ⟨7, q6 12 (.load none (.t 11)), [], []⟩,
 ⟨8, q6 13 (.not (.t 12)), [], []⟩,
 ⟨9, q6 4 (.mv (.t 13)), [], []⟩])
 .ret))
theorem ree394 : Tryz.f394.body.bind (res Tryz.prog Tryz.f394.ntmps [] []) = some (erase ae394) := by kernel_rfl
def fs394 : FnS := .fn 14 ae394 [.t 4]
theorem fsok394 : FnOk Tryz.prog 394 fs394 := fun _ _ _ hn h => ctr_of_resC Tryz.func394 (by kernel_rfl) ree394 (by kernel_rfl) hn h
abbrev ae179 : ACode := (.seq [2, 3] (.reg [q6 2 (.box (.t 0)),
 q6 3 (.box (.t 1)),
 q6 4 (.mv (.c (.b false)))])
 (.seq [4] (.reg [q6 5 (.faddr 0 (.t 2)),
 q6 6 (.load none (.t 5)),
 q6 7 (.faddr 0 (.t 3)),
 q6 8 (.load none (.t 7)),
 q6 9 (.bin .eql (.t 6) (.t 8)),
 q6 10 (.mv (.t 9)),
 ⟨(some 11), .faddr 1 (.t 2), (some (10, true))⟩,
 ⟨(some 12), .load none (.t 11), (some (10, true))⟩,
 ⟨(some 13), .faddr 1 (.t 3), (some (10, true))⟩,
 ⟨(some 14), .load none (.t 13), (some (10, true))⟩,
 ⟨(some 15), .bin .eql (.t 12) (.t 14), (some (10, true))⟩,
 q6 16 (.pick (.t 10) (.t 15) (.c (.b false))),
 q6 17 (.mv (.t 16)),
 ⟨(some 18), .faddr 3 (.t 2), (some (17, true))⟩,
 ⟨(some 19), .load none (.t 18), (some (17, true))⟩,
 ⟨(some 20), .faddr 3 (.t 3), (some (17, true))⟩,
 ⟨(some 21), .load none (.t 20), (some (17, true))⟩,
 ⟨(some 22), .bin .eql (.t 19) (.t 21), (some (17, true))⟩,
 q6 23 (.pick (.t 17) (.t 22) (.c (.b false))),
 q6 24 (.mv (.t 23)),
 ⟨(some 25), .faddr 4 (.t 2), (some (24, true))⟩,
 ⟨(some 26), .load none (.t 25), (some (24, true))⟩,
 ⟨(some 27), .faddr 4 (.t 3), (some (24, true))⟩,
 ⟨(some 28), .load none (.t 27), (some (24, true))⟩,
 ⟨(some 29), .bin .eql (.t 26) (.t 28), (some (24, true))⟩,
 q6 30 (.pick (.t 24) (.t 29) (.c (.b false))),
 q6 31 (.mv (.t 30)),
 ⟨(some 32), .faddr 2 (.t 2), (some (31, true))⟩,
 ⟨(some 33), .load none (.t 32), (some (31, true))⟩,
 ⟨(some 34), .faddr 2 (.t 3), (some (31, true))⟩,
 ⟨(some 35), .load none (.t 34), (some (31, true))⟩,
 ⟨(some 36), .call 16 [(.t 33), (.t 35)], (some (31, true))⟩,
 q6 37 (.pick (.t 31) (.t 36) (.c (.b false))),
 q6 38 (.mv (.t 37)),
 ⟨(some 39), .faddr 5 (.t 2), (some (38, true))⟩,
 ⟨(some 40), .load none (.t 39), (some (38, true))⟩,
 ⟨(some 41), .faddr 5 (.t 3), (some (38, true))⟩,
 ⟨(some 42), .load none (.t 41), (some (38, true))⟩,
 ⟨(some 43), .call 222 [(.t 40), (.t 42), (.c (.f (.func 179) [] []))], (some (38, true))⟩,
 q6 44 (.pick (.t 38) (.t 43) (.c (.b false))),
 q6 4 (.mv (.t 44))])
 .ret))
theorem ree179 : Tryz.f179.body.bind (res Tryz.prog Tryz.f179.ntmps [] []) = some (erase ae179) := by kernel_rfl
def fs179 : FnS := .fn 45 ae179 [.t 4]
theorem fsok179 : FnOk Tryz.prog 179 fs179 := fun _ _ _ hn h => ctr_of_resC Tryz.func179 (by kernel_rfl) ree179 (by kernel_rfl) hn h
abbrev ae360 : ACode := (.seq [0, 1] (.reg [q6 4 (.mv (.c (.i .i64 0)))])
 (.seq [] (.seq [0, 1, 7, 8] (.reg [q6 6 (.mv (.t 0)),
 q6 7 (.len (.t 6)),
 q6 8 (.mv (.c (.i .i64 0)))])
 (.block 0 (.loop [0, 1, 7, 8] (.seq [0, 1, 7, 8, 9] (.reg [q6 9 (.bin .lss (.t 8) (.t 7))])
 (.seq [0, 1, 7, 8] (.cond (.t 9)
 .skip
 (.exit 0))
 (.seq [0, 1, 7, 8] (.block 1 (.seq [0, 1, 5, 7, 8] (.reg [q6 10 (.mv (.t 8)),
 q6 5 (.mv (.t 10))])
 (.seq [0, 1, 5, 7, 8, 16] (.reg [q6 11 (.mv (.t 1)),
 q6 12 (.mv (.t 0)),
 q6 13 (.mv (.t 5)),
 q6 14 (.iaddr 7 none (.t 12) (.t 13)),
 q6 15 (.load (some 7) (.t 14)),
 q6 16 (.callv (.t 11) [(.t 15)])])
 (.cond (.t 16)
 (.seq [4] (.reg [q6 17 (.mv (.t 5)),
 q6 4 (.mv (.t 17))])
 .ret)
 .skip))))
 (.reg [q6 18 (.bin .add (.t 8) (.c (.i .i64 1))),
 q6 8 (.mv (.t 18))])))))))
 (.seq [4] (.reg [q6 4 (.mv (.c (.i .i64 (-1))))])
 .ret)))
theorem ree360 : Tryz.f360.body.bind (res Tryz.prog Tryz.f360.ntmps [] []) = some (erase ae360) := by kernel_rfl
def fs360 : FnS := .fn 19 ae360 [.t 4]
theorem fsok360 : FnOk Tryz.prog 360 fs360 := fun _ _ _ hn h => ctr_of_resC Tryz.func360 (by kernel_rfl) ree360 (by kernel_rfl) hn h
abbrev ae16 : ACode := (.seq [0, 1] (.reg [q6 4 (.mv (.c (.b false)))])
 (.seq [0, 1] (.seq [0, 1, 10] (.reg [q6 6 (.mv (.t 0)),
 q6 7 (.len (.t 6)),
 q6 8 (.mv (.t 1)),
 q6 9 (.len (.t 8)),
 q6 10 (.bin .neq (.t 7) (.t 9))])
 (.cond (.t 10)
 (.seq [4] (.reg [q6 4 (.mv (.c (.b false)))])
 .ret)
 .skip))
 (.seq [] (.seq [0, 1, 12, 13] (.reg [q6 11 (.mv (.t 0)),
 q6 12 (.len (.t 11)),
 q6 13 (.mv (.c (.i .i64 0)))])
 (.block 0 (.loop [0, 1, 12, 13] (.seq [0, 1, 12, 13, 14] (.reg [q6 14 (.bin .lss (.t 13) (.t 12))])
 (.seq [0, 1, 12, 13] (.cond (.t 14)
 .skip
 (.exit 0))
 (.seq [0, 1, 12, 13] (.block 1 (.seq [0, 1, 5, 12, 13] (.reg [q6 15 (.mv (.t 13)),
 q6 5 (.mv (.t 15))])
 (.seq [0, 1, 12, 13, 24] (.dreg [0, 1, 12, 13, 24] [⟨0, q6 16 (.mv (.t 0)), [], []⟩,
 ⟨1, q6 17 (.mv (.t 5)), [], []⟩,
 ⟨2, q6 18 (.iaddr 1 none (.t 16) (.t 17)), [], []⟩,
 ⟨3, q6 19 (.load none (.t 18)), [], []⟩,
 ⟨4, q6 20 (.mv (.t 1)), [], []⟩,
 ⟨5, q6 21 (.mv (.t 5)), [], []⟩,
 ⟨6, q6 22 (.iaddr 1 none (.t 20) (.t 21)), [], []⟩,
 ⟨7, q6 23 (.load none (.t 22)), [], []⟩,
 ⟨8, q6 24 (.bin .neq (.t 19) (.t 23)), [], []⟩])
 (.cond (.t 24)
 (.seq [4] (.reg [q6 4 (.mv (.c (.b false)))])
 .ret)
 .skip))))
 (.reg [q6 25 (.bin .add (.t 13) (.c (.i .i64 1))),
 q6 13 (.mv (.t 25))])))))))
 (.seq [4] (.reg [q6 4 (.mv (.c (.b true)))])
 .ret))))
theorem ree16 : Tryz.f16.body.bind (res Tryz.prog Tryz.f16.ntmps [] []) = some (erase ae16) := by kernel_rfl
def fs16 : FnS := .fn 26 ae16 [.t 4]
theorem fsok16 : FnOk Tryz.prog 16 fs16 := fun _ _ _ hn h => ctr_of_resC Tryz.func16 (by kernel_rfl) ree16 (by kernel_rfl) hn h
abbrev ae222 : ACode := (.seq [0, 1, 2] (.reg [q6 6 (.mv (.c (.b false)))])
 (.seq [0, 1, 2] (.seq [0, 1, 2, 14] (.reg [q6 10 (.mv (.t 0)),
 q6 11 (.len (.t 10)),
 q6 12 (.mv (.t 1)),
 q6 13 (.len (.t 12)),
 q6 14 (.bin .neq (.t 11) (.t 13))])
 (.cond (.t 14)
 (.seq [6] (.reg [q6 6 (.mv (.c (.b false)))])
 .ret)
 .skip))
 (.seq [] (.seq [1, 2, 15, 16, 17] (.reg [q6 15 (.mv (.t 0)),
 q6 16 (.len (.t 15)),
 q6 17 (.mv (.c (.i .i64 0)))])
 (.block 0 (.loop [1, 2, 15, 16, 17] (.seq [1, 2, 15, 16, 17, 18] (.reg [q6 18 (.bin .lss (.t 17) (.t 16))])
 (.seq [1, 2, 15, 16, 17] (.cond (.t 18)
 .skip
 (.exit 0))
 (.seq [1, 2, 15, 16, 17] (.block 1 (.seq [1, 2, 7, 8, 15, 16, 17] (.reg [q6 19 (.mv (.t 17)),
 q6 20 (.iaddr 6 none (.t 15) (.t 17)),
 q6 21 (.load (some 6) (.t 20)),
 q6 8 (.alloc [(.i .i64 0), (.i .i64 0), (.l [] true), (.i .i64 0), (.i .i64 0), (.l [] true)]),
 q6 7 (.mv (.t 19)),
 ⟨none, .store 6 (.t 8) (.t 21), none⟩])
 (.seq [1, 2, 8, 9, 15, 16, 17] (.reg [q6 22 (.mv (.t 1)),
 q6 23 (.mv (.t 7)),
 q6 24 (.iaddr 6 none (.t 22) (.t 23)),
 q6 25 (.load (some 6) (.t 24)),
 q6 9 (.alloc [(.i .i64 0), (.i .i64 0), (.l [] true), (.i .i64 0), (.i .i64 0), (.l [] true)]),
 ⟨none, .store 6 (.t 9) (.t 25), none⟩])
 (.seq [1, 2, 15, 16, 17, 30] (.reg [q6 26 (.mv (.t 2)),
 q6 27 (.load (some 6) (.t 8)),
 q6 28 (.load (some 6) (.t 9)),
 q6 29 (.callv (.t 26) [(.t 27), (.t 28)]),
 q6 30 (.not (.t 29))])
 (.cond (.t 30)
 (.seq [6] (.reg [q6 6 (.mv (.c (.b false)))])
 .ret)
 .skip)))))
 (.reg [q6 31 (.bin .add (.t 17) (.c (.i .i64 1))),
 q6 17 (.mv (.t 31))])))))))
 (.seq [6] (.reg [q6 6 (.mv (.c (.b true)))])
 .ret))))
theorem ree222 : Tryz.f222.body.bind (res Tryz.prog Tryz.f222.ntmps [] []) = some (erase ae222) := by kernel_rfl
def fs222 : FnS := .fn 32 ae222 [.t 6]
theorem fsok222 : FnOk Tryz.prog 222 fs222 := fun _ _ _ hn h => ctr_of_resC Tryz.func222 (by kernel_rfl) ree222 (by kernel_rfl) hn h
end Go.Gl
