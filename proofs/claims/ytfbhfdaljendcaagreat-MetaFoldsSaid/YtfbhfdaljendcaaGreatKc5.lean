/-
 The code of functions of the program, resolved, for the evaluator (printed by wip/gen/mkclosed.py)
-/
import Derived.Test.YtfbhfdaljendcaaGreatEv7
import Derived.Test.YtfbhfdaljendcaaGreatProg
import Derived.KernelRfl
set_option linter.all false
set_option linter.unusedVariables false
set_option linter.unusedSimpArgs false
namespace Go.Gl
abbrev q5 (n : Nat) (x : AOp) : AOper := ⟨some n, x, none⟩
open Go.Proofs
abbrev ae352 : ACode := (.seq [0, 1, 2, 3] (.reg [q5 8 (.mv (.c (.i .i64 0))),
 q5 9 (.mv (.c (.b false)))])
 (.seq [0, 1, 2] (.dreg [0, 1, 2] [⟨0, q5 12 (.mv (.t 0)), [], []⟩,
 ⟨1, q5 13 (.mv (.t 1)), [], []⟩,
 ⟨2, q5 14 (.mv (.t 0)), [], []⟩,
 ⟨3, q5 15 (.mv (.t 3)), [], []⟩,
 ⟨4, q5 16 (.mv (.t 0)), [], []⟩,
 ⟨5, q5 17 (.mv (.t 3)), [], []⟩,
 ⟨6, q5 18 (.iaddr 1 none (.t 16) (.t 17)), [], []⟩,
 ⟨7, q5 19 (.load none (.t 18)), [], []⟩,
 ⟨8, q5 20 (.mv (.t 0)), [], []⟩,
 ⟨9, q5 21 (.mv (.t 1)), [], []⟩,
 ⟨10, q5 22 (.iaddr 1 none (.t 20) (.t 21)), [], []⟩,
 ⟨11, q5 23 (.load none (.t 22)), [], []⟩,
 ⟨12, q5 24 (.iaddr 1 none (.t 12) (.t 13)), [], []⟩,
 ⟨13, ⟨none, .store 1 (.t 24) (.t 19), none⟩, [], []⟩,
 ⟨14, q5 25 (.iaddr 1 none (.t 14) (.t 15)), [], []⟩,
 ⟨15, ⟨none, .store 1 (.t 25) (.t 23), none⟩, [], []⟩])
 (.seq [0, 1, 10, 11] (.reg [q5 26 (.mv (.t 1)),
 q5 27 (.bin .add (.t 26) (.c (.i .i64 1))),
 q5 28 (.mv (.t 2)),
 q5 29 (.bin .sub (.t 28) (.c (.i .i64 1))),
 q5 10 (.mv (.t 27)),
 q5 11 (.mv (.t 29))])
 (.seq [0, 1, 10, 11] (.block 0 (.loop [0, 1, 10, 11] (.seq [0, 1, 10, 11] (.seq [0, 1, 10, 11, 43] (.dreg [0, 1, 10, 11, 43] [⟨0, q5 30 (.mv (.t 10)), [], []⟩,
 ⟨1, q5 31 (.mv (.t 11)), [], []⟩,
 ⟨2, q5 32 (.bin .leq (.t 30) (.t 31)), [], []⟩,
 ⟨3, q5 33 (.mv (.t 32)), [], []⟩,
 ⟨4, ⟨(some 34), .mv (.t 0), (some (33, true))⟩, [], []⟩,
 ⟨5, ⟨(some 35), .mv (.t 10), (some (33, true))⟩, [], []⟩,
 ⟨6, ⟨(some 36), .iaddr 1 none (.t 34) (.t 35), (some (33, true))⟩, [], []⟩,
 ⟨7, ⟨(some 37), .load none (.t 36), (some (33, true))⟩, [], []⟩,
 ⟨8, ⟨(some 38), .mv (.t 0), (some (33, true))⟩, [], []⟩,
 ⟨9, ⟨(some 39), .mv (.t 1), (some (33, true))⟩, [], []⟩,
 ⟨10, ⟨(some 40), .iaddr 1 none (.t 38) (.t 39), (some (33, true))⟩, [], []⟩,
 ⟨11, ⟨(some 41), .load none (.t 40), (some (33, true))⟩, [], []⟩,
 ⟨12, ⟨(some 42), .call 350 [(.t 37), (.t 41)], (some (33, true))⟩, [], []⟩,
 ⟨13, q5 43 (.pick (.t 33) (.t 42) (.c (.b false))), [], []⟩])
 (.cond (.t 43)
 .skip
 (.exit 0)))
 (.block 1 (.reg [q5 44 (.mv (.t 10)),
 q5 45 (.bin .add (.t 44) (.c (.i .i64 1))),
 q5 10 (.mv (.t 45))])))))
 (.seq [0, 1, 10, 11] (.block 2 (.loop [0, 1, 10, 11] (.seq [0, 1, 10, 11] (.seq [0, 1, 10, 11, 60] (.dreg [0, 1, 10, 11, 60] [⟨0, q5 46 (.mv (.t 10)), [], []⟩,
 ⟨1, q5 47 (.mv (.t 11)), [], []⟩,
 ⟨2, q5 48 (.bin .leq (.t 46) (.t 47)), [], []⟩,
 ⟨3, q5 49 (.mv (.t 48)), [], []⟩,
 ⟨4, ⟨(some 50), .mv (.t 0), (some (49, true))⟩, [], []⟩,
 ⟨5, ⟨(some 51), .mv (.t 11), (some (49, true))⟩, [], []⟩,
 ⟨6, ⟨(some 52), .iaddr 1 none (.t 50) (.t 51), (some (49, true))⟩, [], []⟩,
 ⟨7, ⟨(some 53), .load none (.t 52), (some (49, true))⟩, [], []⟩,
 ⟨8, ⟨(some 54), .mv (.t 0), (some (49, true))⟩, [], []⟩,
 ⟨9, ⟨(some 55), .mv (.t 1), (some (49, true))⟩, [], []⟩,
 ⟨10, ⟨(some 56), .iaddr 1 none (.t 54) (.t 55), (some (49, true))⟩, [], []⟩,
 ⟨11, ⟨(some 57), .load none (.t 56), (some (49, true))⟩, [], []⟩,
 ⟨12, ⟨(some 58), .call 350 [(.t 53), (.t 57)], (some (49, true))⟩, [], []⟩,
 ⟨13, ⟨(some 59), .not (.t 58), (some (49, true))⟩, [], []⟩,
 ⟨14, q5 60 (.pick (.t 49) (.t 59) (.c (.b false))), [], []⟩])
 (.cond (.t 60)
 .skip
 (.exit 2)))
 (.block 3 (.reg [q5 61 (.mv (.t 11)),
 q5 62 (.bin .sub (.t 61) (.c (.i .i64 1))),
 q5 11 (.mv (.t 62))])))))
 (.seq [0, 1, 10, 11] (.seq [0, 1, 10, 11, 65] (.reg [q5 63 (.mv (.t 10)),
 q5 64 (.mv (.t 11)),
 q5 65 (.bin .gtr (.t 63) (.t 64))])
 (.cond (.t 65)
 (.seq [11] (.dreg [11] [⟨0, q5 66 (.mv (.t 0)), [], []⟩,
 ⟨1, q5 67 (.mv (.t 11)), [], []⟩,
 ⟨2, q5 68 (.mv (.t 0)), [], []⟩,
 ⟨3, q5 69 (.mv (.t 1)), [], []⟩,
 ⟨4, q5 70 (.mv (.t 0)), [], []⟩,
 ⟨5, q5 71 (.mv (.t 1)), [], []⟩,
 ⟨6, q5 72 (.iaddr 1 none (.t 70) (.t 71)), [], []⟩,
 ⟨7, q5 73 (.load none (.t 72)), [], []⟩,
 ⟨8, q5 74 (.mv (.t 0)), [], []⟩,
 ⟨9, q5 75 (.mv (.t 11)), [], []⟩,
 ⟨10, q5 76 (.iaddr 1 none (.t 74) (.t 75)), [], []⟩,
 ⟨11, q5 77 (.load none (.t 76)), [], []⟩,
 ⟨12, q5 78 (.iaddr 1 none (.t 66) (.t 67)), [], []⟩,
 ⟨13, ⟨none, .store 1 (.t 78) (.t 73), none⟩, [], []⟩,
 ⟨14, q5 79 (.iaddr 1 none (.t 68) (.t 69)), [], []⟩,
 ⟨15, ⟨none, .store 1 (.t 79) (.t 77), none⟩, [], []⟩])
 (.seq [8, 9] (.reg [q5 80 (.mv (.t 11)),
 q5 8 (.mv (.t 80)),
 q5 9 (.mv (.c (.b true)))])
 .ret))
 .skip))
 (.seq [0, 1, 10, 11] (.dreg [0, 1, 10, 11] [⟨0, q5 81 (.mv (.t 0)), [], []⟩,
 ⟨1, q5 82 (.mv (.t 10)), [], []⟩,
 ⟨2, q5 83 (.mv (.t 0)), [], []⟩,
 ⟨3, q5 84 (.mv (.t 11)), [], []⟩,
 ⟨4, q5 85 (.mv (.t 0)), [], []⟩,
 ⟨5, q5 86 (.mv (.t 11)), [], []⟩,
 ⟨6, q5 87 (.iaddr 1 none (.t 85) (.t 86)), [], []⟩,
 ⟨7, q5 88 (.load none (.t 87)), [], []⟩,
 ⟨8, q5 89 (.mv (.t 0)), [], []⟩,
 ⟨9, q5 90 (.mv (.t 10)), [], []⟩,
 ⟨10, q5 91 (.iaddr 1 none (.t 89) (.t 90)), [], []⟩,
 ⟨11, q5 92 (.load none (.t 91)), [], []⟩,
 ⟨12, q5 93 (.iaddr 1 none (.t 81) (.t 82)), [], []⟩,
 ⟨13, ⟨none, .store 1 (.t 93) (.t 88), none⟩, [], []⟩,
 ⟨14, q5 94 (.iaddr 1 none (.t 83) (.t 84)), [], []⟩,
 ⟨15, ⟨none, .store 1 (.t 94) (.t 92), none⟩, [], []⟩])
 (.seq [0, 1, 10, 11] (.reg [q5 95 (.mv (.t 10)),
 q5 96 (.bin .add (.t 95) (.c (.i .i64 1))),
 q5 10 (.mv (.t 96))])
 (.seq [0, 1, 10, 11] (.reg [q5 97 (.mv (.t 11)),
 q5 98 (.bin .sub (.t 97) (.c (.i .i64 1))),
 q5 11 (.mv (.t 98))])
 (.seq [0, 1, 11] (.block 4 (.loop [0, 1, 10, 11] (.block 5 (.seq [0, 1, 10, 11] (.block 6 (.loop [0, 1, 10, 11] (.seq [0, 1, 10, 11] (.seq [0, 1, 10, 11, 112] (.dreg [0, 1, 10, 11, 112] [⟨0, q5 99 (.mv (.t 10)), [], []⟩,
 ⟨1, q5 100 (.mv (.t 11)), [], []⟩,
 ⟨2, q5 101 (.bin .leq (.t 99) (.t 100)), [], []⟩,
 ⟨3, q5 102 (.mv (.t 101)), [], []⟩,
 ⟨4, ⟨(some 103), .mv (.t 0), (some (102, true))⟩, [], []⟩,
 ⟨5, ⟨(some 104), .mv (.t 10), (some (102, true))⟩, [], []⟩,
 ⟨6, ⟨(some 105), .iaddr 1 none (.t 103) (.t 104), (some (102, true))⟩, [], []⟩,
 ⟨7, ⟨(some 106), .load none (.t 105), (some (102, true))⟩, [], []⟩,
 ⟨8, ⟨(some 107), .mv (.t 0), (some (102, true))⟩, [], []⟩,
 ⟨9, ⟨(some 108), .mv (.t 1), (some (102, true))⟩, [], []⟩,
 ⟨10, ⟨(some 109), .iaddr 1 none (.t 107) (.t 108), (some (102, true))⟩, [], []⟩,
 ⟨11, ⟨(some 110), .load none (.t 109), (some (102, true))⟩, [], []⟩,
 ⟨12, ⟨(some 111), .call 350 [(.t 106), (.t 110)], (some (102, true))⟩, [], []⟩,
 ⟨13, q5 112 (.pick (.t 102) (.t 111) (.c (.b false))), [], []⟩])
 (.cond (.t 112)
 .skip
 (.exit 6)))
 (.block 7 (.reg [q5 113 (.mv (.t 10)),
 q5 114 (.bin .add (.t 113) (.c (.i .i64 1))),
 q5 10 (.mv (.t 114))])))))
 (.seq [0, 1, 10, 11] (.block 8 (.loop [0, 1, 10, 11] (.seq [0, 1, 10, 11] (.seq [0, 1, 10, 11, 129] (.dreg [0, 1, 10, 11, 129] [⟨0, q5 115 (.mv (.t 10)), [], []⟩,
 ⟨1, q5 116 (.mv (.t 11)), [], []⟩,
 ⟨2, q5 117 (.bin .leq (.t 115) (.t 116)), [], []⟩,
 ⟨3, q5 118 (.mv (.t 117)), [], []⟩,
 ⟨4, ⟨(some 119), .mv (.t 0), (some (118, true))⟩, [], []⟩,
 ⟨5, ⟨(some 120), .mv (.t 11), (some (118, true))⟩, [], []⟩,
 ⟨6, ⟨(some 121), .iaddr 1 none (.t 119) (.t 120), (some (118, true))⟩, [], []⟩,
 ⟨7, ⟨(some 122), .load none (.t 121), (some (118, true))⟩, [], []⟩,
 ⟨8, ⟨(some 123), .mv (.t 0), (some (118, true))⟩, [], []⟩,
 ⟨9, ⟨(some 124), .mv (.t 1), (some (118, true))⟩, [], []⟩,
 ⟨10, ⟨(some 125), .iaddr 1 none (.t 123) (.t 124), (some (118, true))⟩, [], []⟩,
 ⟨11, ⟨(some 126), .load none (.t 125), (some (118, true))⟩, [], []⟩,
 ⟨12, ⟨(some 127), .call 350 [(.t 122), (.t 126)], (some (118, true))⟩, [], []⟩,
 ⟨13, ⟨(some 128), .not (.t 127), (some (118, true))⟩, [], []⟩,
 ⟨14, q5 129 (.pick (.t 118) (.t 128) (.c (.b false))), [], []⟩])
 (.cond (.t 129)
 .skip
 (.exit 8)))
 (.block 9 (.reg [q5 130 (.mv (.t 11)),
 q5 131 (.bin .sub (.t 130) (.c (.i .i64 1))),
 q5 11 (.mv (.t 131))])))))
 (.seq [0, 1, 10, 11] (.seq [0, 1, 10, 11, 134] (.reg [q5 132 (.mv (.t 10)),
 q5 133 (.mv (.t 11)),
 q5 134 (.bin .gtr (.t 132) (.t 133))])
 (.cond (.t 134)
 (.exit 4)
 .skip))
 (.seq [0, 1, 10, 11] (.dreg [0, 1, 10, 11] [⟨0, q5 135 (.mv (.t 0)), [], []⟩,
 ⟨1, q5 136 (.mv (.t 10)), [], []⟩,
 ⟨2, q5 137 (.mv (.t 0)), [], []⟩,
 ⟨3, q5 138 (.mv (.t 11)), [], []⟩,
 ⟨4, q5 139 (.mv (.t 0)), [], []⟩,
 ⟨5, q5 140 (.mv (.t 11)), [], []⟩,
 ⟨6, q5 141 (.iaddr 1 none (.t 139) (.t 140)), [], []⟩,
 ⟨7, q5 142 (.load none (.t 141)), [], []⟩,
 ⟨8, q5 143 (.mv (.t 0)), [], []⟩,
 ⟨9, q5 144 (.mv (.t 10)), [], []⟩,
 ⟨10, q5 145 (.iaddr 1 none (.t 143) (.t 144)), [], []⟩,
 ⟨11, q5 146 (.load none (.t 145)), [], []⟩,
 ⟨12, q5 147 (.iaddr 1 none (.t 135) (.t 136)), [], []⟩,
 ⟨13, ⟨none, .store 1 (.t 147) (.t 142), none⟩, [], []⟩,
 ⟨14, q5 148 (.iaddr 1 none (.t 137) (.t 138)), [], []⟩,
 ⟨15, ⟨none, .store 1 (.t 148) (.t 146), none⟩, [], []⟩])
 (.seq [0, 1, 10, 11] (.reg [q5 149 (.mv (.t 10)),
 q5 150 (.bin .add (.t 149) (.c (.i .i64 1))),
 q5 10 (.mv (.t 150))])
 (.reg [q5 151 (.mv (.t 11)),
 q5 152 (.bin .sub (.t 151) (.c (.i .i64 1))),
 q5 11 (.mv (.t 152))])))))))))
 (.seq [11] (.dreg [11] [⟨0, q5 153 (.mv (.t 0)), [], []⟩,
 ⟨1, q5 154 (.mv (.t 11)), [], []⟩,
 ⟨2, q5 155 (.mv (.t 0)), [], []⟩,
 ⟨3, q5 156 (.mv (.t 1)), [], []⟩,
 ⟨4, q5 157 (.mv (.t 0)), [], []⟩,
 ⟨5, q5 158 (.mv (.t 1)), [], []⟩,
 ⟨6, q5 159 (.iaddr 1 none (.t 157) (.t 158)), [], []⟩,
 ⟨7, q5 160 (.load none (.t 159)), [], []⟩,
 ⟨8, q5 161 (.mv (.t 0)), [], []⟩,
 ⟨9, q5 162 (.mv (.t 11)), [], []⟩,
 ⟨10, q5 163 (.iaddr 1 none (.t 161) (.t 162)), [], []⟩,
 ⟨11, q5 164 (.load none (.t 163)), [], []⟩,
 ⟨12, q5 165 (.iaddr 1 none (.t 153) (.t 154)), [], []⟩,
 ⟨13, ⟨none, .store 1 (.t 165) (.t 160), none⟩, [], []⟩,
 ⟨14, q5 166 (.iaddr 1 none (.t 155) (.t 156)), [], []⟩,
 ⟨15, ⟨none, .store 1 (.t 166) (.t 164), none⟩, [], []⟩])
 (.seq [8, 9] (.reg [q5 167 (.mv (.t 11)),
 q5 8 (.mv (.t 167)),
 q5 9 (.mv (.c (.b false)))])
 .ret))))))))))))
theorem ree352 : Tryz.f352.body.bind (res Tryz.prog Tryz.f352.ntmps [] []) = some (erase ae352) := by kernel_rfl
def fs352 : FnS := .fn 168 ae352 [.t 8, .t 9]
theorem fsok352 : FnOk Tryz.prog 352 fs352 := fun _ _ _ hn h => ctr_of_resC Tryz.func352 (by kernel_rfl) ree352 (by kernel_rfl) hn h
abbrev ae355 : ACode := (.seq [0, 1] (.reg [q5 4 (.mv (.c (.l [] true))),
 q5 5 (.mv (.c (.b false)))])
 (.seq [0, 1, 6] (.reg [q5 6 (.mv (.c (.l [] true)))])
 (.seq [0, 1, 6] (.seq [0, 1, 6, 15, 16, 17] (.reg [q5 9 (.mv (.t 0)),
 q5 10 (.nilck (.t 9)),
 q5 11 (.faddr 0 (.t 10)),
 q5 12 (.load none (.t 11)),
 q5 13 (.mv (.t 1)),
 q5 14 (.iaddr 1 none (.t 12) (.t 13)),
 q5 15 (.load none (.t 14)),
 q5 16 (.len (.t 15)),
 q5 17 (.mv (.c (.i .i64 0)))])
 (.block 0 (.loop [0, 1, 6, 15, 16, 17] (.seq [0, 1, 6, 15, 16, 17, 18] (.reg [q5 18 (.bin .lss (.t 17) (.t 16))])
 (.seq [0, 1, 6, 15, 16, 17] (.cond (.t 18)
 .skip
 (.exit 0))
 (.seq [0, 1, 6, 15, 16, 17] (.block 1 (.seq [0, 1, 6, 8, 15, 16, 17] (.reg [q5 19 (.iaddr 1 none (.t 15) (.t 17)),
 q5 20 (.load none (.t 19)),
 q5 8 (.mv (.t 20))])
 (.seq [0, 1, 6, 8, 15, 16, 17] (.seq [0, 1, 6, 8, 15, 16, 17, 28] (.reg [q5 21 (.mv (.t 0)),
 q5 22 (.nilck (.t 21)),
 q5 23 (.faddr 2 (.t 22)),
 q5 24 (.load none (.t 23)),
 q5 25 (.mv (.t 8)),
 q5 26 (.lookup (.i .i64) (.l [] true) false (.t 24) (.t 25)),
 q5 27 (.len (.t 26)),
 q5 28 (.bin .eql (.t 27) (.c (.i .i64 0)))])
 (.cond (.t 28)
 (.seq [4, 5] (.reg [q5 4 (.mv (.c (.l [] true))),
 q5 5 (.mv (.c (.b false)))])
 .ret)
 .skip))
 (.reg [q5 29 (.mv (.t 6)),
 q5 30 (.mv (.t 0)),
 q5 31 (.nilck (.t 30)),
 q5 32 (.faddr 2 (.t 31)),
 q5 33 (.load none (.t 32)),
 q5 34 (.mv (.t 8)),
 q5 35 (.lookup (.i .i64) (.l [] true) false (.t 33) (.t 34)),
 q5 36 (.call 379 [(.t 35)]),
 q5 37 (.bslice 1 1 [(.l [] true)] [(0, (.t 36))]),
 q5 38 (.append 1 24 (.t 29) (.t 37)),
 q5 6 (.mv (.t 38))]))))
 (.reg [q5 39 (.bin .add (.t 17) (.c (.i .i64 1))),
 q5 17 (.mv (.t 39))])))))))
 (.seq [4, 5] (.reg [q5 40 (.mv (.t 6)),
 q5 41 (.mv (.t 0)),
 q5 42 (.nilck (.t 41)),
 q5 43 (.faddr 0 (.t 42)),
 q5 44 (.load none (.t 43)),
 q5 45 (.mv (.t 1)),
 q5 46 (.iaddr 1 none (.t 44) (.t 45)),
 q5 47 (.load none (.t 46)),
 q5 48 (.bslice 1 1 [(.l [] true)] [(0, (.t 47))]),
 q5 49 (.append 1 24 (.t 40) (.t 48)),
 q5 4 (.mv (.t 49)),
 q5 5 (.mv (.c (.b true)))])
 .ret))))
theorem ree355 : Tryz.f355.body.bind (res Tryz.prog Tryz.f355.ntmps [] []) = some (erase ae355) := by kernel_rfl
def fs355 : FnS := .fn 50 ae355 [.t 4, .t 5]
theorem fsok355 : FnOk Tryz.prog 355 fs355 := fun _ _ _ hn h => ctr_of_resC Tryz.func355 (by kernel_rfl) ree355 (by kernel_rfl) hn h
abbrev ae356 : ACode := (.seq [0] (.reg [q5 2 (.mv (.c (.l [] true))),
 q5 3 (.mv (.c (.b false)))])
 (.scope (.seq [0, 4] (.reg [q5 4 (.mv (.c (.l [] true)))])
 (.seq [0, 4] .skip
 (.block 0 (.loop [0, 4] (.block 1 (.scope (.seq [0, 4, 5] (.reg [q5 5 (.mv (.c (.b false)))])
 (.seq [0, 4, 5] .skip
 (.seq [4, 5] (.seq [0, 4, 5, 14, 15, 16] (.reg [q5 14 (.mv (.t 0)),
 q5 15 (.len (.t 14)),
 q5 16 (.mv (.c (.i .i64 0)))])
 (.block 2 (.loop [0, 4, 5, 14, 15, 16] (.seq [0, 4, 5, 14, 15, 16, 17] (.reg [q5 17 (.bin .lss (.t 16) (.t 15))])
 (.seq [0, 4, 5, 14, 15, 16] (.cond (.t 17)
 .skip
 (.exit 2))
 (.seq [0, 4, 5, 14, 15, 16] (.block 3 (.seq [0, 4, 5, 7, 14, 15, 16] (.reg [q5 18 (.iaddr 1 none (.t 14) (.t 16)),
 q5 19 (.load none (.t 18)),
 q5 7 (.mv (.t 19))])
 (.seq [0, 4, 7, 14, 15, 16] (.seq [0, 4, 5, 7, 14, 15, 16, 22] (.reg [q5 20 (.mv (.t 7)),
 q5 21 (.len (.t 20)),
 q5 22 (.bin .eql (.t 21) (.c (.i .i64 0)))])
 (.cond (.t 22)
 (.exit 3)
 .skip))
 (.seq [0, 4, 5, 7, 14, 15, 16] (.reg [q5 5 (.mv (.c (.b true)))])
 (.seq [0, 4, 7] (.seq [0, 4, 5, 7, 14, 15, 16, 23, 24, 25] (.reg [q5 23 (.mv (.t 0)),
 q5 24 (.len (.t 23)),
 q5 25 (.mv (.c (.i .i64 0)))])
 (.block 4 (.loop [0, 4, 5, 7, 14, 15, 16, 23, 24, 25] (.seq [0, 4, 5, 7, 14, 15, 16, 23, 24, 25, 26] (.reg [q5 26 (.bin .lss (.t 25) (.t 24))])
 (.seq [0, 4, 5, 7, 14, 15, 16, 23, 24, 25] (.cond (.t 26)
 .skip
 (.exit 4))
 (.seq [0, 4, 5, 7, 14, 15, 16, 23, 24, 25] (.block 5 (.seq [0, 4, 5, 7, 9, 14, 15, 16, 23, 24, 25] (.reg [q5 27 (.iaddr 1 none (.t 23) (.t 25)),
 q5 28 (.load none (.t 27)),
 q5 9 (.mv (.t 28))])
 (.seq [0, 4, 5, 7, 14, 15, 16, 23, 24, 25, 39] (.dreg [0, 4, 5, 7, 14, 15, 16, 23, 24, 25, 39] [⟨0, q5 29 (.mv (.t 9)), [], []⟩,
 ⟨1, q5 30 (.len (.t 29)), [], []⟩,
 ⟨2, q5 31 (.bin .gtr (.t 30) (.c (.i .i64 0))), [], []⟩,
 ⟨3, q5 32 (.mv (.t 31)), [], []⟩,
 ⟨4, ⟨(some 33), .mv (.t 9), (some (32, true))⟩, [], []⟩,
 ⟨5, ⟨(some 34), .slice 1 (.t 33) (some (.c (.i .i64 1))) none none, (some (32, true))⟩, [], []⟩,
 ⟨6, ⟨(some 35), .mv (.t 7), (some (32, true))⟩, [], []⟩,
 ⟨7, ⟨(some 36), .iaddr 1 none (.t 35) (.c (.i .i64 0)), (some (32, true))⟩, [], []⟩,
 ⟨8, ⟨(some 37), .load none (.t 36), (some (32, true))⟩, [], []⟩,
 ⟨9, ⟨(some 38), .call 67 [(.t 34), (.t 37)], (some (32, true))⟩, [], []⟩,
 ⟨10, q5 39 (.pick (.t 32) (.t 38) (.c (.b false))), [], []⟩])
 (.cond (.t 39)
 (.exit 3)
 .skip))))
 (.reg [q5 40 (.bin .add (.t 25) (.c (.i .i64 1))),
 q5 25 (.mv (.t 40))])))))))
 (.seq [0, 4, 10] (.reg [q5 41 (.mv (.t 7)),
 q5 42 (.iaddr 1 none (.t 41) (.c (.i .i64 0))),
 q5 43 (.load none (.t 42)),
 q5 10 (.alloc [(.i .i64 0)]),
 ⟨none, .store 1 (.t 10) (.t 43), none⟩])
 (.seq [0, 4, 10] (.reg [q5 44 (.mv (.t 4)),
 q5 45 (.load none (.t 10)),
 q5 46 (.bslice 1 1 [(.i .i64 0)] [(0, (.t 45))]),
 q5 47 (.append 1 8 (.t 44) (.t 46)),
 q5 4 (.mv (.t 47))])
 (.seq [0, 4, 10, 11] (.reg [q5 11 (.mv (.c (.l [] true)))])
 (.seq [4, 11] (.seq [4, 10, 11, 48, 49, 50] (.reg [q5 48 (.mv (.t 0)),
 q5 49 (.len (.t 48)),
 q5 50 (.mv (.c (.i .i64 0)))])
 (.block 6 (.loop [4, 10, 11, 48, 49, 50] (.seq [4, 10, 11, 48, 49, 50, 51] (.reg [q5 51 (.bin .lss (.t 50) (.t 49))])
 (.seq [4, 10, 11, 48, 49, 50] (.cond (.t 51)
 .skip
 (.exit 6))
 (.seq [4, 10, 11, 48, 49, 50] (.block 7 (.seq [4, 10, 11, 13, 48, 49, 50] (.reg [q5 52 (.iaddr 1 none (.t 48) (.t 50)),
 q5 53 (.load none (.t 52)),
 q5 13 (.mv (.t 53))])
 (.reg [q5 54 (.mv (.t 11)),
 q5 55 (.mv (.t 13)),
 q5 56 (.mkf (.func 381) [] [(.t 10)]),
 q5 57 (.call 380 [(.t 55), (.t 56)]),
 q5 58 (.bslice 1 1 [(.l [] true)] [(0, (.t 57))]),
 q5 59 (.append 1 24 (.t 54) (.t 58)),
 q5 11 (.mv (.t 59))])))
 (.reg [q5 60 (.bin .add (.t 50) (.c (.i .i64 1))),
 q5 50 (.mv (.t 60))])))))))
 (.seq [0, 4] (.reg [q5 61 (.mv (.t 11)),
 q5 0 (.mv (.t 61))])
 (.exit 1)))))))))))
 (.reg [q5 62 (.bin .add (.t 16) (.c (.i .i64 1))),
 q5 16 (.mv (.t 62))])))))))
 (.seq [2, 3] (.reg [q5 63 (.mv (.t 4)),
 q5 64 (.mv (.t 5)),
 q5 65 (.not (.t 64)),
 q5 2 (.mv (.t 63)),
 q5 3 (.mv (.t 65))])
 .ret))))))))))))
theorem ree356 : Tryz.f356.body.bind (res Tryz.prog Tryz.f356.ntmps [] []) = some (erase ae356) := by kernel_rfl
def fs356 : FnS := .fn 66 ae356 [.t 2, .t 3]
theorem fsok356 : FnOk Tryz.prog 356 fs356 := fun _ _ _ hn h => ctr_of_resC Tryz.func356 (by kernel_rfl) ree356 (by kernel_rfl) hn h
abbrev ae265 : ACode := (.seq [0, 1] (.reg [q5 3 (.mv (.c (.b false)))])
 (.seq [3] (.reg [q5 4 (.load none (.t 1)),
 q5 5 (.mv (.t 0)),
 q5 6 (.callv (.t 4) [(.t 5)]),
 q5 7 (.not (.t 6)),
 q5 3 (.mv (.t 7))])
 .ret))
theorem ree265 : Tryz.f265.body.bind (res Tryz.prog Tryz.f265.ntmps [] []) = some (erase ae265) := by kernel_rfl
def fs265 : FnS := .fn 8 ae265 [.t 3]
theorem fsok265 : FnOk Tryz.prog 265 fs265 := fun _ _ _ hn h => ctr_of_resC Tryz.func265 (by kernel_rfl) ree265 (by kernel_rfl) hn h
abbrev ae219 : ACode := (.seq [4, 5, 6, 7] (.reg [q5 4 (.box (.t 0)),
 q5 5 (.box (.t 1)),
 q5 6 (.box (.t 2)),
 q5 7 (.box (.t 3)),
 q5 8 (.mv (.c (.b false)))])
 (.seq [4, 5, 6, 7] (.seq [4, 5, 6, 7] (.reg [q5 9 (.load none (.t 6)),
 q5 10 (.nilck (.t 9)),
 q5 11 (.load none (.t 10)),
 q5 12 (.bin .sub (.t 11) (.c (.i .i64 1))),
 q5 13 (.nilck (.t 9)),
 ⟨none, .store 1 (.t 13) (.t 12), none⟩])
 (.seq [4, 5, 6, 7, 40] (.dreg [4, 5, 6, 7, 40] [⟨0, q5 14 (.load none (.t 6)), [], []⟩,
 ⟨1, q5 15 (.nilck (.t 14)), [], []⟩,
 ⟨2, q5 16 (.load none (.t 15)), [], []⟩,
 ⟨3, q5 17 (.bin .lss (.t 16) (.c (.i .i64 0))), [], []⟩,
 ⟨4, q5 18 (.mv (.t 17)), [], []⟩,
 ⟨5, ⟨(some 19), .load none (.t 7), (some (18, false))⟩, [], []⟩,
 ⟨6, ⟨(some 20), .bin .eql (.t 19) (.c (.i .i64 0)), (some (18, false))⟩, [], []⟩,
 ⟨7, q5 21 (.pick (.t 18) (.c (.b true)) (.t 20)), [], []⟩,
 ⟨8, q5 22 (.mv (.t 21)), [], []⟩,
 ⟨9, ⟨(some 23), .faddr 0 (.t 5), (some (22, false))⟩, [], []⟩,
 ⟨10, ⟨(some 24), .load none (.t 23), (some (22, false))⟩, [], []⟩,
 ⟨11, ⟨(some 25), .bin .lss (.t 24) (.c (.i .i64 1)), (some (22, false))⟩, [], []⟩,
 ⟨12, q5 26 (.pick (.t 22) (.c (.b true)) (.t 25)), [], []⟩,
 ⟨13, q5 27 (.mv (.t 26)), [], []⟩,
 ⟨14, ⟨(some 28), .faddr 0 (.t 5), (some (27, false))⟩, [], []⟩,
 ⟨15, ⟨(some 29), .load none (.t 28), (some (27, false))⟩, [], []⟩,
 ⟨16, ⟨(some 30), .bin .gtr (.t 29) (.c (.i .i64 7)), (some (27, false))⟩, [], []⟩,
 ⟨17, q5 31 (.pick (.t 27) (.c (.b true)) (.t 30)), [], []⟩,
 ⟨18, q5 32 (.mv (.t 31)), [], []⟩,
 ⟨19, ⟨(some 33), .faddr 5 (.t 5), (some (32, false))⟩, [], []⟩,
 ⟨20, ⟨(some 34), .load none (.t 33), (some (32, false))⟩, [], []⟩,
 ⟨21, ⟨(some 35), .len (.t 34), (some (32, false))⟩, [], []⟩,
 ⟨22, ⟨(some 36), .faddr 0 (.t 5), (some (32, false))⟩, [], []⟩,
 ⟨23, ⟨(some 37), .load none (.t 36), (some (32, false))⟩, [], []⟩,
 ⟨24, ⟨(some 38), .call 267 [(.t 37)], (some (32, false))⟩, [20], [⟨(some 34), .load none (.t 33), (some (32, false))⟩]⟩,
 ⟨25, ⟨(some 39), .bin .neq (.t 35) (.t 38), (some (32, false))⟩, [], []⟩,
 ⟨26, q5 40 (.pick (.t 32) (.c (.b true)) (.t 39)), [], []⟩])
 (.cond (.t 40)
 (.seq [8] (.reg [q5 8 (.mv (.c (.b false)))])
 .ret)
 .skip)))
 (.seq [4, 5, 6, 7] (.block 0 (.seq [4, 5, 6, 7, 54] (.reg [q5 55 (.load (some 6) (.t 5)),
 q5 56 (.call 268 [(.t 55)]),
 q5 57 (.not (.t 56)),
 q5 54 (.mv (.t 57))])
 (.cond (.t 54)
 (.seq [4, 5, 6, 7, 76] (.reg [q5 58 (.faddr 1 (.t 5)),
 q5 59 (.load none (.t 58)),
 q5 60 (.bin .neq (.t 59) (.c (.i .i64 0))),
 q5 61 (.mv (.t 60)),
 ⟨(some 62), .faddr 2 (.t 5), (some (61, false))⟩,
 ⟨(some 63), .load none (.t 62), (some (61, false))⟩,
 ⟨(some 64), .len (.t 63), (some (61, false))⟩,
 ⟨(some 65), .bin .gtr (.t 64) (.c (.i .i64 0)), (some (61, false))⟩,
 q5 66 (.pick (.t 61) (.c (.b true)) (.t 65)),
 q5 67 (.mv (.t 66)),
 ⟨(some 68), .faddr 3 (.t 5), (some (67, false))⟩,
 ⟨(some 69), .load none (.t 68), (some (67, false))⟩,
 ⟨(some 70), .bin .neq (.t 69) (.c (.i .i64 0)), (some (67, false))⟩,
 q5 71 (.pick (.t 67) (.c (.b true)) (.t 70)),
 q5 72 (.mv (.t 71)),
 ⟨(some 73), .faddr 4 (.t 5), (some (72, false))⟩,
 ⟨(some 74), .load none (.t 73), (some (72, false))⟩,
 ⟨(some 75), .bin .neq (.t 74) (.c (.i .i64 0)), (some (72, false))⟩,
 q5 76 (.pick (.t 72) (.c (.b true)) (.t 75))])
 (.cond (.t 76)
 (.seq [8] (.reg [q5 8 (.mv (.c (.b false)))])
 .ret)
 .skip))
 (.seq [4, 5, 77] (.reg [q5 78 (.faddr 1 (.t 5)),
 q5 79 (.load none (.t 78)),
 q5 80 (.bin .lss (.t 79) (.c (.i .i64 0))),
 q5 81 (.mv (.t 80)),
 ⟨(some 82), .faddr 1 (.t 5), (some (81, false))⟩,
 ⟨(some 83), .load none (.t 82), (some (81, false))⟩,
 ⟨(some 84), .bin .geq (.t 83) (.c (.i .i64 3)), (some (81, false))⟩,
 q5 85 (.pick (.t 81) (.c (.b true)) (.t 84)),
 q5 86 (.mv (.t 85)),
 ⟨(some 87), .load none (.t 4), (some (86, false))⟩,
 ⟨(some 88), .faddr 2 (.t 5), (some (86, false))⟩,
 ⟨(some 89), .load none (.t 88), (some (86, false))⟩,
 ⟨(some 90), .call 269 [(.t 87), (.t 89)], (some (86, false))⟩,
 ⟨(some 91), .not (.t 90), (some (86, false))⟩,
 q5 92 (.pick (.t 86) (.c (.b true)) (.t 91)),
 q5 77 (.mv (.t 92))])
 (.cond (.t 77)
 (.seq [8] (.reg [q5 8 (.mv (.c (.b false)))])
 .ret)
 (.seq [4, 5, 93] (.reg [q5 94 (.faddr 0 (.t 5)),
 q5 95 (.load none (.t 94)),
 q5 96 (.bin .eql (.t 95) (.c (.i .i64 2))),
 q5 93 (.mv (.t 96))])
 (.cond (.t 93)
 (.seq [8] (.reg [q5 97 (.faddr 4 (.t 5)),
 q5 98 (.load none (.t 97)),
 q5 99 (.bin .eql (.t 98) (.c (.i .i64 0))),
 q5 100 (.mv (.t 99)),
 ⟨(some 101), .load none (.t 4), (some (100, true))⟩,
 ⟨(some 102), .faddr 3 (.t 5), (some (100, true))⟩,
 ⟨(some 103), .load none (.t 102), (some (100, true))⟩,
 ⟨(some 104), .call 270 [(.t 101), (.t 103)], (some (100, true))⟩,
 q5 105 (.pick (.t 100) (.t 104) (.c (.b false))),
 q5 8 (.mv (.t 105))])
 .ret)
 (.seq [8] (.reg [q5 41 (.faddr 3 (.t 5)),
 q5 42 (.load none (.t 41)),
 q5 43 (.bin .eql (.t 42) (.c (.i .i64 0))),
 q5 44 (.mv (.t 43)),
 ⟨(some 45), .faddr 4 (.t 5), (some (44, true))⟩,
 ⟨(some 46), .load none (.t 45), (some (44, true))⟩,
 ⟨(some 47), .bin .geq (.t 46) (.c (.i .i64 (-1000000000))), (some (44, true))⟩,
 q5 48 (.pick (.t 44) (.t 47) (.c (.b false))),
 q5 49 (.mv (.t 48)),
 ⟨(some 50), .faddr 4 (.t 5), (some (49, true))⟩,
 ⟨(some 51), .load none (.t 50), (some (49, true))⟩,
 ⟨(some 52), .bin .leq (.t 51) (.c (.i .i64 1000000000)), (some (49, true))⟩,
 q5 53 (.pick (.t 49) (.t 52) (.c (.b false))),
 q5 8 (.mv (.t 53))])
 .ret))))))))
 (.seq [8] (.reg [q5 106 (.faddr 5 (.t 5)),
 q5 107 (.load none (.t 106)),
 q5 108 (.mkf (.func 271) [] [(.t 4), (.t 6), (.t 7)]),
 q5 109 (.call 217 [(.t 107), (.t 108)]),
 q5 8 (.mv (.t 109))])
 .ret))))
theorem ree219 : Tryz.f219.body.bind (res Tryz.prog Tryz.f219.ntmps [] []) = some (erase ae219) := by kernel_rfl
def fs219 : FnS := .fn 110 ae219 [.t 8]
theorem fsok219 : FnOk Tryz.prog 219 fs219 := fun _ _ _ hn h => ctr_of_resC Tryz.func219 (by kernel_rfl) ree219 (by kernel_rfl) hn h
abbrev ae266 : ACode := (.seq [1, 2] (.reg [q5 2 (.box (.t 0)),
 q5 3 (.mv (.c (.b false)))])
 (.seq [3] (.reg [q5 4 (.load none (.t 1)),
 q5 5 (.load (some 6) (.t 2)),
 q5 6 (.callv (.t 4) [(.t 5)]),
 q5 7 (.not (.t 6)),
 q5 3 (.mv (.t 7))])
 .ret))
theorem ree266 : Tryz.f266.body.bind (res Tryz.prog Tryz.f266.ntmps [] []) = some (erase ae266) := by kernel_rfl
def fs266 : FnS := .fn 8 ae266 [.t 3]
theorem fsok266 : FnOk Tryz.prog 266 fs266 := fun _ _ _ hn h => ctr_of_resC Tryz.func266 (by kernel_rfl) ree266 (by kernel_rfl) hn h
abbrev ae220 : ACode := (.seq [0, 1] (.reg [q5 4 (.mv (.c (.b false)))])
 (.seq [4] (.reg [q5 5 (.mv (.t 0)),
 q5 6 (.mv (.t 1)),
 q5 7 (.call 272 [(.t 5), (.t 6)]),
 q5 8 (.bin .geq (.t 7) (.c (.i .i64 0))),
 q5 4 (.mv (.t 8))])
 .ret))
theorem ree220 : Tryz.f220.body.bind (res Tryz.prog Tryz.f220.ntmps [] []) = some (erase ae220) := by kernel_rfl
def fs220 : FnS := .fn 9 ae220 [.t 4]
theorem fsok220 : FnOk Tryz.prog 220 fs220 := fun _ _ _ hn h => ctr_of_resC Tryz.func220 (by kernel_rfl) ree220 (by kernel_rfl) hn h
abbrev ae367 : ACode := (.seq [2, 3] (.reg [q5 2 (.box (.t 0)),
 q5 3 (.box (.t 1)),
 q5 4 (.mv (.c (.b false)))])
 (.seq [4] (.reg [q5 5 (.load none (.t 3)),
 q5 6 (.len (.t 5)),
 q5 7 (.bin .leq (.t 6) (.c (.i .i64 40))),
 q5 8 (.mv (.t 7)),
 ⟨(some 9), .load none (.t 3), (some (8, true))⟩,
 ⟨(some 10), .mkf (.func 384) [] [(.t 2), (.t 3)], (some (8, true))⟩,
 ⟨(some 11), .call 383 [(.t 9), (.t 10)], (some (8, true))⟩,
 q5 12 (.pick (.t 8) (.t 11) (.c (.b false))),
 q5 4 (.mv (.t 12))])
 .ret))
theorem ree367 : Tryz.f367.body.bind (res Tryz.prog Tryz.f367.ntmps [] []) = some (erase ae367) := by kernel_rfl
def fs367 : FnS := .fn 13 ae367 [.t 4]
theorem fsok367 : FnOk Tryz.prog 367 fs367 := fun _ _ _ hn h => ctr_of_resC Tryz.func367 (by kernel_rfl) ree367 (by kernel_rfl) hn h
abbrev ae369 : ACode := (.seq [1, 2] (.reg [q5 2 (.box (.t 0)),
 q5 3 (.mv (.c (.b false)))])
 (.seq [3] (.reg [q5 4 (.load (some 2) (.t 2)),
 q5 5 (.load none (.t 1)),
 q5 6 (.len (.t 5)),
 q5 7 (.call 370 [(.t 4), (.t 6)]),
 q5 3 (.mv (.t 7))])
 .ret))
theorem ree369 : Tryz.f369.body.bind (res Tryz.prog Tryz.f369.ntmps [] []) = some (erase ae369) := by kernel_rfl
def fs369 : FnS := .fn 8 ae369 [.t 3]
theorem fsok369 : FnOk Tryz.prog 369 fs369 := fun _ _ _ hn h => ctr_of_resC Tryz.func369 (by kernel_rfl) ree369 (by kernel_rfl) hn h
abbrev ae368 : ACode := (.seq [0, 3] (.reg [q5 3 (.box (.t 1)),
 q5 4 (.mv (.c (.b false)))])
 (.seq [4] (.reg [q5 5 (.mv (.t 0)),
 q5 6 (.mkf (.func 387) [] [(.t 3)]),
 q5 7 (.call 24 [(.t 5), (.t 6)]),
 q5 8 (.not (.t 7)),
 q5 4 (.mv (.t 8))])
 .ret))
theorem ree368 : Tryz.f368.body.bind (res Tryz.prog Tryz.f368.ntmps [] []) = some (erase ae368) := by kernel_rfl
def fs368 : FnS := .fn 9 ae368 [.t 4]
theorem fsok368 : FnOk Tryz.prog 368 fs368 := fun _ _ _ hn h => ctr_of_resC Tryz.func368 (by kernel_rfl) ree368 (by kernel_rfl) hn h
abbrev ae268 : ACode := (.seq [1] (.reg [q5 1 (.box (.t 0)),
 q5 2 (.mv (.c (.b false)))])
 (.seq [2] (.reg [q5 3 (.faddr 0 (.t 1)),
 q5 4 (.load none (.t 3)),
 q5 5 (.bin .geq (.t 4) (.c (.i .i64 2))),
 q5 6 (.mv (.t 5)),
 ⟨(some 7), .faddr 0 (.t 1), (some (6, true))⟩,
 ⟨(some 8), .load none (.t 7), (some (6, true))⟩,
 ⟨(some 9), .bin .leq (.t 8) (.c (.i .i64 4)), (some (6, true))⟩,
 q5 10 (.pick (.t 6) (.t 9) (.c (.b false))),
 q5 2 (.mv (.t 10))])
 .ret))
theorem ree268 : Tryz.f268.body.bind (res Tryz.prog Tryz.f268.ntmps [] []) = some (erase ae268) := by kernel_rfl
def fs268 : FnS := .fn 11 ae268 [.t 2]
theorem fsok268 : FnOk Tryz.prog 268 fs268 := fun _ _ _ hn h => ctr_of_resC Tryz.func268 (by kernel_rfl) ree268 (by kernel_rfl) hn h
abbrev ae371 : ACode := (.seq [0, 1, 3, 6, 8] (.reg [q5 6 (.box (.t 2)),
 q5 8 (.alloc [(.i .i64 0), (.i .i64 0)]),
 q5 9 (.mv (.c (.b false)))])
 (.seq [6, 8] (.seq [0, 1, 6, 8, 12, 13, 14] (.reg [q5 12 (.mv (.t 3)),
 q5 13 (.len (.t 12)),
 q5 14 (.mv (.c (.i .i64 0)))])
 (.block 0 (.loop [0, 1, 6, 8, 12, 13, 14] (.seq [0, 1, 6, 8, 12, 13, 14, 15] (.reg [q5 15 (.bin .lss (.t 14) (.t 13))])
 (.seq [0, 1, 6, 8, 12, 13, 14] (.cond (.t 15)
 .skip
 (.exit 0))
 (.seq [0, 1, 6, 8, 12, 13, 14] (.block 1 (.seq [0, 1, 6, 8, 11, 12, 13, 14] (.reg [q5 16 (.iaddr 1 none (.t 12) (.t 14)),
 q5 17 (.load none (.t 16)),
 q5 11 (.mv (.t 17))])
 (.seq [0, 1, 6, 8, 11, 12, 13, 14] (.seq [0, 1, 6, 8, 11, 12, 13, 14, 32] (.reg [q5 18 (.faddr 0 (.t 6)),
 q5 19 (.load none (.t 18)),
 q5 20 (.bin .neq (.t 19) (.c (.i .i64 3))),
 q5 21 (.mv (.t 20)),
 ⟨(some 22), .mv (.t 0), (some (21, false))⟩,
 ⟨(some 23), .mv (.t 1), (some (21, false))⟩,
 ⟨(some 24), .faddr 1 (.t 6), (some (21, false))⟩,
 ⟨(some 25), .load none (.t 24), (some (21, false))⟩,
 ⟨(some 26), .iaddr 2 none (.t 23) (.t 25), (some (21, false))⟩,
 ⟨(some 27), .faddr 0 (.t 26), (some (21, false))⟩,
 ⟨(some 28), .load none (.t 27), (some (21, false))⟩,
 ⟨(some 29), .mv (.t 11), (some (21, false))⟩,
 ⟨(some 30), .call 388 [(.t 22), (.t 28), (.t 29)], (some (21, false))⟩,
 ⟨(some 31), .not (.t 30), (some (21, false))⟩,
 q5 32 (.pick (.t 21) (.c (.b true)) (.t 31))])
 (.cond (.t 32)
 (.seq [8, 9] (.reg [q5 33 (.build [(.i .i64 0), (.i .i64 0)] []),
 ⟨none, .store 2 (.t 8) (.t 33), none⟩,
 q5 9 (.mv (.c (.b false)))])
 .ret)
 .skip))
 (.dreg [0, 1, 6, 8, 12, 13, 14] [⟨0, q5 34 (.mv (.t 1)), [], []⟩,
 ⟨1, q5 35 (.faddr 1 (.t 6)), [], []⟩,
 ⟨2, q5 36 (.load none (.t 35)), [], []⟩,
 ⟨3, q5 37 (.iaddr 2 none (.t 34) (.t 36)), [], []⟩,
 ⟨4, q5 38 (.faddr 1 (.t 37)), [], []⟩,
 ⟨5, q5 39 (.load none (.t 38)), [], []⟩,
 ⟨6, q5 40 (.mv (.t 0)), [], []⟩,
 ⟨7, q5 41 (.mv (.t 1)), [], []⟩,
 ⟨8, q5 42 (.faddr 1 (.t 6)), [], []⟩,
 ⟨9, q5 43 (.load none (.t 42)), [], []⟩,
 ⟨10, q5 44 (.iaddr 2 none (.t 41) (.t 43)), [], []⟩,
 ⟨11, q5 45 (.faddr 0 (.t 44)), [], []⟩,
 ⟨12, q5 46 (.load none (.t 45)), [], []⟩,
 ⟨14, q5 48 (.mv (.t 11)), [], []⟩,
 ⟨13, q5 47 (.call 385 [(.t 40), (.t 46)]), [5, 2], [q5 39 (.load none (.t 38)), q5 36 (.load none (.t 35))]⟩,
 ⟨15, q5 49 (.call 122 [(.t 47), (.t 48)]), [5, 2], [q5 39 (.load none (.t 38)), q5 36 (.load none (.t 35))]⟩,
 ⟨16, q5 50 (.iaddr 2 none (.t 39) (.t 49)), [], []⟩,
 ⟨17, q5 51 (.load (some 2) (.t 50)), [], []⟩,
 ⟨18, ⟨none, .store 2 (.t 6) (.t 51), none⟩, [], []⟩]))))
 (.reg [q5 52 (.bin .add (.t 14) (.c (.i .i64 1))),
 q5 14 (.mv (.t 52))])))))))
 (.seq [8, 9] (.reg [q5 53 (.load (some 2) (.t 6)),
 ⟨none, .store 2 (.t 8) (.t 53), none⟩,
 q5 9 (.mv (.c (.b true)))])
 .ret)))
theorem ree371 : Tryz.f371.body.bind (res Tryz.prog Tryz.f371.ntmps [] []) = some (erase ae371) := by kernel_rfl
def fs371 : FnS := .fn 54 ae371 [.c 8 (some 2), .t 9]
theorem fsok371 : FnOk Tryz.prog 371 fs371 := fun _ _ _ hn h => ctr_of_resC Tryz.func371 (by kernel_rfl) ree371 (by kernel_rfl) hn h
abbrev ae372 : ACode := (.seq [0, 1] (.reg [q5 4 (.mv (.c (.b false)))])
 (.seq [4] (.reg [q5 5 (.mv (.t 0)),
 q5 6 (.mv (.t 1)),
 q5 7 (.bin .shr (.t 5) (.t 6)),
 q5 8 (.bin .and (.t 7) (.c (.i .u64 1))),
 q5 9 (.bin .eql (.t 8) (.c (.i .u64 1))),
 q5 4 (.mv (.t 9))])
 .ret))
theorem ree372 : Tryz.f372.body.bind (res Tryz.prog Tryz.f372.ntmps [] []) = some (erase ae372) := by kernel_rfl
def fs372 : FnS := .fn 10 ae372 [.t 4]
theorem fsok372 : FnOk Tryz.prog 372 fs372 := fun _ _ _ hn h => ctr_of_resC Tryz.func372 (by kernel_rfl) ree372 (by kernel_rfl) hn h
abbrev ae176 : ACode := (.seq [1, 2] (.reg [q5 1 (.box (.t 0)),
 q5 2 (.alloc [(.i .i64 0), (.i .i64 0), (.l [] true), (.i .i64 0), (.i .i64 0), (.l [] true)])])
 (.seq [2] (.reg [q5 3 (.load (some 6) (.t 1)),
 q5 4 (.bslice 6 1 [(.i .i64 0), (.i .i64 0), (.l [] true), (.i .i64 0), (.i .i64 0), (.l [] true)] [(0, (.t 3))]),
 q5 5 (.build [(.i .i64 0), (.i .i64 0), (.l [] true), (.i .i64 0), (.i .i64 0), (.l [] true)] [(0, 1, (.c (.i .i64 5))), (5, 1, (.t 4))]),
 ⟨none, .store 6 (.t 2) (.t 5), none⟩])
 .ret))
theorem ree176 : Tryz.f176.body.bind (res Tryz.prog Tryz.f176.ntmps [] []) = some (erase ae176) := by kernel_rfl
def fs176 : FnS := .fn 6 ae176 [.c 2 (some 6)]
theorem fsok176 : FnOk Tryz.prog 176 fs176 := fun _ _ _ hn h => ctr_of_resC Tryz.func176 (by kernel_rfl) ree176 (by kernel_rfl) hn h
abbrev ae225 : ACode := (.seq [2, 3, 4] (.reg [q5 2 (.box (.t 0)),
 q5 3 (.box (.t 1)),
 q5 4 (.alloc [(.i .i64 0), (.i .i64 0), (.l [] true), (.i .i64 0), (.i .i64 0), (.l [] true)])])
 (.seq [4] (.reg [q5 5 (.load (some 6) (.t 2)),
 q5 6 (.load (some 6) (.t 3)),
 q5 7 (.bslice 6 2 [(.i .i64 0), (.i .i64 0), (.l [] true), (.i .i64 0), (.i .i64 0), (.l [] true)] [(0, (.t 5)), (1, (.t 6))]),
 q5 8 (.build [(.i .i64 0), (.i .i64 0), (.l [] true), (.i .i64 0), (.i .i64 0), (.l [] true)] [(0, 1, (.c (.i .i64 6))), (5, 1, (.t 7))]),
 ⟨none, .store 6 (.t 4) (.t 8), none⟩])
 .ret))
theorem ree225 : Tryz.f225.body.bind (res Tryz.prog Tryz.f225.ntmps [] []) = some (erase ae225) := by kernel_rfl
def fs225 : FnS := .fn 9 ae225 [.c 4 (some 6)]
theorem fsok225 : FnOk Tryz.prog 225 fs225 := fun _ _ _ hn h => ctr_of_resC Tryz.func225 (by kernel_rfl) ree225 (by kernel_rfl) hn h
abbrev ae224 : ACode := (.seq [2, 3] (.reg [q5 2 (.box (.t 0)),
 q5 3 (.box (.t 1)),
 q5 4 (.mv (.c (.b false)))])
 (.scope (.seq [2, 3, 5] (.reg [q5 5 (.alloc [(.b false)]),
 ⟨none, .store 1 (.t 5) (.c (.b false)), none⟩])
 (.seq [2, 3, 5] .skip
 (.seq [5] (.seq [2, 5, 8] (.reg [q5 7 (.load (some 6) (.t 3)),
 q5 8 (.call 273 [(.t 7), (.c (.b false))])])
 (.block 0 (.rangef [2, 5] (.t 8) [9]
 (.reg [q5 6 (.mv (.t 9))])
 (.block 1 (.seq [5, 12] (.reg [q5 10 (.load none (.t 2)),
 q5 11 (.mv (.t 6)),
 q5 12 (.call 274 [(.t 10), (.t 11)])])
 (.cond (.t 12)
 (.seq [] (.reg [⟨none, .store 1 (.t 5) (.c (.b true)), none⟩])
 (.exit 0))
 .skip))))))
 (.seq [4] (.reg [q5 13 (.load none (.t 5)),
 q5 4 (.mv (.t 13))])
 .ret))))))
theorem ree224 : Tryz.f224.body.bind (res Tryz.prog Tryz.f224.ntmps [] []) = some (erase ae224) := by kernel_rfl
def fs224 : FnS := .fn 14 ae224 [.t 4]
theorem fsok224 : FnOk Tryz.prog 224 fs224 := fun _ _ _ hn h => ctr_of_resC Tryz.func224 (by kernel_rfl) ree224 (by kernel_rfl) hn h
abbrev ae373 : ACode := (.seq [0, 2, 3, 8] (.reg [q5 10 (.mv (.t 1)),
 q5 8 (.mv (.t 10))])
 (.block 0 (.loop [0, 2, 3, 8] (.block 1 (.seq [0, 2, 3, 8, 9] (.reg [q5 11 (.mv (.t 8)),
 q5 12 (.bin .mul (.c (.i .i64 2)) (.t 11)),
 q5 13 (.bin .add (.t 12) (.c (.i .i64 1))),
 q5 9 (.mv (.t 13))])
 (.seq [0, 2, 3, 8, 9] (.seq [0, 2, 3, 8, 9, 16] (.reg [q5 14 (.mv (.t 9)),
 q5 15 (.mv (.t 2)),
 q5 16 (.bin .geq (.t 14) (.t 15))])
 (.cond (.t 16)
 (.exit 0)
 .skip))
 (.seq [0, 2, 3, 8, 9] (.seq [0, 2, 3, 8, 9, 36] (.dreg [0, 2, 3, 8, 9, 36] [⟨0, q5 17 (.mv (.t 9)), [], []⟩,
 ⟨1, q5 18 (.bin .add (.t 17) (.c (.i .i64 1))), [], []⟩,
 ⟨2, q5 19 (.mv (.t 2)), [], []⟩,
 ⟨3, q5 20 (.bin .lss (.t 18) (.t 19)), [], []⟩,
 ⟨4, q5 21 (.mv (.t 20)), [], []⟩,
 ⟨5, ⟨(some 22), .mv (.t 0), (some (21, true))⟩, [], []⟩,
 ⟨6, ⟨(some 23), .mv (.t 3), (some (21, true))⟩, [], []⟩,
 ⟨7, ⟨(some 24), .mv (.t 9), (some (21, true))⟩, [], []⟩,
 ⟨8, ⟨(some 25), .bin .add (.t 23) (.t 24), (some (21, true))⟩, [], []⟩,
 ⟨9, ⟨(some 26), .iaddr 1 none (.t 22) (.t 25), (some (21, true))⟩, [], []⟩,
 ⟨10, ⟨(some 27), .load none (.t 26), (some (21, true))⟩, [], []⟩,
 ⟨11, ⟨(some 28), .mv (.t 0), (some (21, true))⟩, [], []⟩,
 ⟨12, ⟨(some 29), .mv (.t 3), (some (21, true))⟩, [], []⟩,
 ⟨13, ⟨(some 30), .mv (.t 9), (some (21, true))⟩, [], []⟩,
 ⟨14, ⟨(some 31), .bin .add (.t 29) (.t 30), (some (21, true))⟩, [], []⟩,
 ⟨15, ⟨(some 32), .bin .add (.t 31) (.c (.i .i64 1)), (some (21, true))⟩, [], []⟩,
 ⟨16, ⟨(some 33), .iaddr 1 none (.t 28) (.t 32), (some (21, true))⟩, [], []⟩,
 ⟨17, ⟨(some 34), .load none (.t 33), (some (21, true))⟩, [], []⟩,
 ⟨18, ⟨(some 35), .call 350 [(.t 27), (.t 34)], (some (21, true))⟩, [], []⟩,
 ⟨19, q5 36 (.pick (.t 21) (.t 35) (.c (.b false))), [], []⟩])
 (.cond (.t 36)
 (.reg [q5 37 (.mv (.t 9)),
 q5 38 (.bin .add (.t 37) (.c (.i .i64 1))),
 q5 9 (.mv (.t 38))])
 .skip))
 (.seq [0, 2, 3, 8, 9] (.seq [0, 2, 3, 8, 9, 52] (.dreg [0, 2, 3, 8, 9, 52] [⟨0, q5 39 (.mv (.t 0)), [], []⟩,
 ⟨1, q5 40 (.mv (.t 3)), [], []⟩,
 ⟨2, q5 41 (.mv (.t 8)), [], []⟩,
 ⟨3, q5 42 (.bin .add (.t 40) (.t 41)), [], []⟩,
 ⟨4, q5 43 (.iaddr 1 none (.t 39) (.t 42)), [], []⟩,
 ⟨5, q5 44 (.load none (.t 43)), [], []⟩,
 ⟨6, q5 45 (.mv (.t 0)), [], []⟩,
 ⟨7, q5 46 (.mv (.t 3)), [], []⟩,
 ⟨8, q5 47 (.mv (.t 9)), [], []⟩,
 ⟨9, q5 48 (.bin .add (.t 46) (.t 47)), [], []⟩,
 ⟨10, q5 49 (.iaddr 1 none (.t 45) (.t 48)), [], []⟩,
 ⟨11, q5 50 (.load none (.t 49)), [], []⟩,
 ⟨12, q5 51 (.call 350 [(.t 44), (.t 50)]), [], []⟩,
 ⟨13, q5 52 (.not (.t 51)), [], []⟩])
 (.cond (.t 52)
 .ret
 .skip))
 (.seq [0, 2, 3, 9] (.dreg [0, 2, 3, 9] [⟨0, q5 53 (.mv (.t 0)), [], []⟩,
 ⟨1, q5 54 (.mv (.t 3)), [], []⟩,
 ⟨2, q5 55 (.mv (.t 8)), [], []⟩,
 ⟨3, q5 56 (.bin .add (.t 54) (.t 55)), [], []⟩,
 ⟨4, q5 57 (.mv (.t 0)), [], []⟩,
 ⟨5, q5 58 (.mv (.t 3)), [], []⟩,
 ⟨6, q5 59 (.mv (.t 9)), [], []⟩,
 ⟨7, q5 60 (.bin .add (.t 58) (.t 59)), [], []⟩,
 ⟨8, q5 61 (.mv (.t 0)), [], []⟩,
 ⟨9, q5 62 (.mv (.t 3)), [], []⟩,
 ⟨10, q5 63 (.mv (.t 9)), [], []⟩,
 ⟨11, q5 64 (.bin .add (.t 62) (.t 63)), [], []⟩,
 ⟨12, q5 65 (.iaddr 1 none (.t 61) (.t 64)), [], []⟩,
 ⟨13, q5 66 (.load none (.t 65)), [], []⟩,
 ⟨14, q5 67 (.mv (.t 0)), [], []⟩,
 ⟨15, q5 68 (.mv (.t 3)), [], []⟩,
 ⟨16, q5 69 (.mv (.t 8)), [], []⟩,
 ⟨17, q5 70 (.bin .add (.t 68) (.t 69)), [], []⟩,
 ⟨18, q5 71 (.iaddr 1 none (.t 67) (.t 70)), [], []⟩,
 ⟨19, q5 72 (.load none (.t 71)), [], []⟩,
 ⟨20, q5 73 (.iaddr 1 none (.t 53) (.t 56)), [], []⟩,
 ⟨21, ⟨none, .store 1 (.t 73) (.t 66), none⟩, [], []⟩,
 ⟨22, q5 74 (.iaddr 1 none (.t 57) (.t 60)), [], []⟩,
 ⟨23, ⟨none, .store 1 (.t 74) (.t 72), none⟩, [], []⟩])
 (.reg [q5 75 (.mv (.t 9)),
 q5 8 (.mv (.t 75))]))))))))))
theorem ree373 : Tryz.f373.body.bind (res Tryz.prog Tryz.f373.ntmps [] []) = some (erase ae373) := by kernel_rfl
def fs373 : FnS := .fn 76 ae373 []
theorem fsok373 : FnOk Tryz.prog 373 fs373 := fun _ _ _ hn h => ctr_of_resC Tryz.func373 (by kernel_rfl) ree373 (by kernel_rfl) hn h
abbrev ae374 : ACode := (.seq [0] (.reg [q5 2 (.mv (.c (.i .u64 0)))])
 (.seq [2] (.reg [q5 3 (.mv (.t 0)),
 q5 4 (.conv .u64 (.t 3)),
 q5 5 (.call 327 [(.t 4)]),
 q5 6 (.bin .shl (.c (.i .u64 1)) (.t 5)),
 q5 2 (.mv (.t 6))])
 .ret))
theorem ree374 : Tryz.f374.body.bind (res Tryz.prog Tryz.f374.ntmps [] []) = some (erase ae374) := by kernel_rfl
def fs374 : FnS := .fn 7 ae374 [.t 2]
theorem fsok374 : FnOk Tryz.prog 374 fs374 := fun _ _ _ hn h => ctr_of_resC Tryz.func374 (by kernel_rfl) ree374 (by kernel_rfl) hn h
abbrev ae375 : ACode := (.seq [0] (.reg [q5 2 (.mv (.c (.i .u64 0)))])
 (.seq [0] (.dreg [0] [⟨0, q5 3 (.mv (.t 0)), [], []⟩,
 ⟨1, q5 4 (.nilck (.t 3)), [], []⟩,
 ⟨2, q5 5 (.load none (.t 4)), [], []⟩,
 ⟨3, q5 6 (.mv (.t 0)), [], []⟩,
 ⟨4, q5 7 (.nilck (.t 6)), [], []⟩,
 ⟨5, q5 8 (.load none (.t 7)), [], []⟩,
 ⟨6, q5 9 (.bin .shl (.t 8) (.c (.i .u64 13))), [], []⟩,
 ⟨7, q5 10 (.bin .xor (.t 5) (.t 9)), [], []⟩,
 ⟨8, q5 11 (.nilck (.t 3)), [], []⟩,
 ⟨9, ⟨none, .store 1 (.t 11) (.t 10), none⟩, [], []⟩])
 (.seq [0] (.dreg [0] [⟨0, q5 12 (.mv (.t 0)), [], []⟩,
 ⟨1, q5 13 (.nilck (.t 12)), [], []⟩,
 ⟨2, q5 14 (.load none (.t 13)), [], []⟩,
 ⟨3, q5 15 (.mv (.t 0)), [], []⟩,
 ⟨4, q5 16 (.nilck (.t 15)), [], []⟩,
 ⟨5, q5 17 (.load none (.t 16)), [], []⟩,
 ⟨6, q5 18 (.bin .shr (.t 17) (.c (.i .u64 7))), [], []⟩,
 ⟨7, q5 19 (.bin .xor (.t 14) (.t 18)), [], []⟩,
 ⟨8, q5 20 (.nilck (.t 12)), [], []⟩,
 ⟨9, ⟨none, .store 1 (.t 20) (.t 19), none⟩, [], []⟩])
 (.seq [0] (.dreg [0] [⟨0, q5 21 (.mv (.t 0)), [], []⟩,
 ⟨1, q5 22 (.nilck (.t 21)), [], []⟩,
 ⟨2, q5 23 (.load none (.t 22)), [], []⟩,
 ⟨3, q5 24 (.mv (.t 0)), [], []⟩,
 ⟨4, q5 25 (.nilck (.t 24)), [], []⟩,
 ⟨5, q5 26 (.load none (.t 25)), [], []⟩,
 ⟨6, q5 27 (.bin .shl (.t 26) (.c (.i .u64 17))), [], []⟩,
 ⟨7, q5 28 (.bin .xor (.t 23) (.t 27)), [], []⟩,
 ⟨8, q5 29 (.nilck (.t 21)), [], []⟩,
 ⟨9, ⟨none, .store 1 (.t 29) (.t 28), none⟩, [], []⟩])
 (.seq [2] (.reg [q5 30 (.mv (.t 0)),
 q5 31 (.nilck (.t 30)),
 q5 32 (.load none (.t 31)),
 q5 2 (.mv (.t 32))])
 .ret)))))
theorem ree375 : Tryz.f375.body.bind (res Tryz.prog Tryz.f375.ntmps [] []) = some (erase ae375) := by kernel_rfl
def fs375 : FnS := .fn 33 ae375 [.t 2]
theorem fsok375 : FnOk Tryz.prog 375 fs375 := fun _ _ _ hn h => ctr_of_resC Tryz.func375 (by kernel_rfl) ree375 (by kernel_rfl) hn h
abbrev ae376 : ACode := (.seq [0, 1, 2] (.reg [q5 6 (.mv (.c (.i .i64 0)))])
 (.seq [6] (.reg [q5 7 (.mv (.t 0)),
 q5 8 (.mv (.t 1)),
 q5 9 (.bin .sub (.t 8) (.c (.i .i64 1))),
 q5 10 (.mv (.t 1)),
 q5 11 (.mv (.t 1)),
 q5 12 (.bin .add (.t 11) (.c (.i .i64 1))),
 q5 13 (.mv (.t 2)),
 q5 14 (.call 377 [(.t 7), (.t 9), (.t 10), (.t 12), (.t 13)]),
 q5 6 (.mv (.t 14))])
 .ret))
theorem ree376 : Tryz.f376.body.bind (res Tryz.prog Tryz.f376.ntmps [] []) = some (erase ae376) := by kernel_rfl
def fs376 : FnS := .fn 15 ae376 [.t 6]
theorem fsok376 : FnOk Tryz.prog 376 fs376 := fun _ _ _ hn h => ctr_of_resC Tryz.func376 (by kernel_rfl) ree376 (by kernel_rfl) hn h
abbrev ae377 : ACode := (.seq [0, 1, 2, 3, 4] (.reg [q5 10 (.mv (.c (.i .i64 0)))])
 (.seq [0, 1, 2, 3, 4] (.reg [q5 12 (.mv (.t 0)),
 q5 13 (.mv (.t 1)),
 q5 14 (.mv (.t 2)),
 q5 15 (.mv (.t 4)),
 q5 16 (.call 389 [(.t 12), (.t 13), (.t 14), (.t 15)]),
 q5 11 (.mv (.t 16)),
 q5 17 (.extract 0 (.t 11)),
 q5 18 (.extract 1 (.t 11)),
 q5 1 (.mv (.t 17)),
 q5 2 (.mv (.t 18))])
 (.seq [0, 1, 2, 4] (.reg [q5 20 (.mv (.t 0)),
 q5 21 (.mv (.t 2)),
 q5 22 (.mv (.t 3)),
 q5 23 (.mv (.t 4)),
 q5 24 (.call 389 [(.t 20), (.t 21), (.t 22), (.t 23)]),
 q5 19 (.mv (.t 24)),
 q5 25 (.extract 0 (.t 19)),
 q5 26 (.extract 1 (.t 19)),
 q5 2 (.mv (.t 25)),
 q5 3 (.mv (.t 26))])
 (.seq [2] (.reg [q5 28 (.mv (.t 0)),
 q5 29 (.mv (.t 1)),
 q5 30 (.mv (.t 2)),
 q5 31 (.mv (.t 4)),
 q5 32 (.call 389 [(.t 28), (.t 29), (.t 30), (.t 31)]),
 q5 27 (.mv (.t 32)),
 q5 33 (.extract 0 (.t 27)),
 q5 34 (.extract 1 (.t 27)),
 q5 1 (.mv (.t 33)),
 q5 2 (.mv (.t 34))])
 (.seq [10] (.reg [q5 35 (.mv (.t 2)),
 q5 10 (.mv (.t 35))])
 .ret)))))
theorem ree377 : Tryz.f377.body.bind (res Tryz.prog Tryz.f377.ntmps [] []) = some (erase ae377) := by kernel_rfl
def fs377 : FnS := .fn 36 ae377 [.t 10]
theorem fsok377 : FnOk Tryz.prog 377 fs377 := fun _ _ _ hn h => ctr_of_resC Tryz.func377 (by kernel_rfl) ree377 (by kernel_rfl) hn h
abbrev ae378 : ACode := (.seq [0] (.reg [q5 2 (.mv (.c (.b false)))])
 (.seq [2] (.reg [q5 3 (.mv (.t 0)),
 q5 4 (.mv (.t 0)),
 q5 5 (.bin .neq (.t 3) (.t 4)),
 q5 2 (.mv (.t 5))])
 .ret))
theorem ree378 : Tryz.f378.body.bind (res Tryz.prog Tryz.f378.ntmps [] []) = some (erase ae378) := by kernel_rfl
def fs378 : FnS := .fn 6 ae378 [.t 2]
theorem fsok378 : FnOk Tryz.prog 378 fs378 := fun _ _ _ hn h => ctr_of_resC Tryz.func378 (by kernel_rfl) ree378 (by kernel_rfl) hn h
abbrev ae379 : ACode := (.seq [0] (.reg [q5 2 (.mv (.c (.l [] true)))])
 (.seq [2] (.reg [q5 3 (.mv (.t 0)),
 q5 4 (.call 380 [(.t 3), (.c (.f (.func 390) [] []))]),
 q5 2 (.mv (.t 4))])
 .ret))
theorem ree379 : Tryz.f379.body.bind (res Tryz.prog Tryz.f379.ntmps [] []) = some (erase ae379) := by kernel_rfl
def fs379 : FnS := .fn 5 ae379 [.t 2]
theorem fsok379 : FnOk Tryz.prog 379 fs379 := fun _ _ _ hn h => ctr_of_resC Tryz.func379 (by kernel_rfl) ree379 (by kernel_rfl) hn h
abbrev ae381 : ACode := (.seq [0, 1] (.reg [q5 3 (.mv (.c (.b false)))])
 (.seq [3] (.reg [q5 4 (.mv (.t 0)),
 q5 5 (.load none (.t 1)),
 q5 6 (.bin .neq (.t 4) (.t 5)),
 q5 3 (.mv (.t 6))])
 .ret))
theorem ree381 : Tryz.f381.body.bind (res Tryz.prog Tryz.f381.ntmps [] []) = some (erase ae381) := by kernel_rfl
def fs381 : FnS := .fn 7 ae381 [.t 3]
theorem fsok381 : FnOk Tryz.prog 381 fs381 := fun _ _ _ hn h => ctr_of_resC Tryz.func381 (by kernel_rfl) ree381 (by kernel_rfl) hn h
abbrev ae380 : ACode := (.seq [0, 1] (.reg [q5 4 (.mv (.c (.l [] true)))])
 (.seq [0, 1, 5] (.reg [q5 5 (.mv (.c (.l [] true)))])
 (.seq [5] (.seq [1, 5, 8, 9, 10] (.reg [q5 8 (.mv (.t 0)),
 q5 9 (.len (.t 8)),
 q5 10 (.mv (.c (.i .i64 0)))])
 (.block 0 (.loop [1, 5, 8, 9, 10] (.seq [1, 5, 8, 9, 10, 11] (.reg [q5 11 (.bin .lss (.t 10) (.t 9))])
 (.seq [1, 5, 8, 9, 10] (.cond (.t 11)
 .skip
 (.exit 0))
 (.seq [1, 5, 8, 9, 10] (.block 1 (.seq [1, 5, 7, 8, 9, 10] (.reg [q5 12 (.iaddr 1 none (.t 8) (.t 10)),
 q5 13 (.load none (.t 12)),
 q5 7 (.mv (.t 13))])
 (.seq [1, 5, 7, 8, 9, 10, 16] (.reg [q5 14 (.mv (.t 1)),
 q5 15 (.mv (.t 7)),
 q5 16 (.callv (.t 14) [(.t 15)])])
 (.cond (.t 16)
 (.reg [q5 17 (.mv (.t 5)),
 q5 18 (.mv (.t 7)),
 q5 19 (.bslice 1 1 [(.i .i64 0)] [(0, (.t 18))]),
 q5 20 (.append 1 8 (.t 17) (.t 19)),
 q5 5 (.mv (.t 20))])
 .skip))))
 (.reg [q5 21 (.bin .add (.t 10) (.c (.i .i64 1))),
 q5 10 (.mv (.t 21))])))))))
 (.seq [4] (.reg [q5 22 (.mv (.t 5)),
 q5 4 (.mv (.t 22))])
 .ret))))
theorem ree380 : Tryz.f380.body.bind (res Tryz.prog Tryz.f380.ntmps [] []) = some (erase ae380) := by kernel_rfl
def fs380 : FnS := .fn 23 ae380 [.t 4]
theorem fsok380 : FnOk Tryz.prog 380 fs380 := fun _ _ _ hn h => ctr_of_resC Tryz.func380 (by kernel_rfl) ree380 (by kernel_rfl) hn h
abbrev ae267 : ACode := (.seq [0] (.reg [q5 2 (.mv (.c (.i .i64 0)))])
 (.seq [] (.seq [3] (.reg [q5 3 (.mv (.t 0))])
 (.block 0 (.seq [3, 4] (.reg [q5 5 (.bin .eql (.t 3) (.c (.i .i64 5))),
 q5 4 (.mv (.t 5))])
 (.cond (.t 4)
 (.seq [2] (.reg [q5 2 (.mv (.c (.i .i64 1)))])
 .ret)
 (.seq [6] (.seq [3, 6] (.reg [q5 7 (.bin .eql (.t 3) (.c (.i .i64 6))),
 q5 6 (.mv (.t 7))])
 (.cond (.t 6)
 .skip
 (.reg [q5 8 (.bin .eql (.t 3) (.c (.i .i64 7))),
 q5 6 (.mv (.t 8))])))
 (.cond (.t 6)
 (.seq [2] (.reg [q5 2 (.mv (.c (.i .i64 2)))])
 .ret)
 .skip))))))
 (.seq [2] (.reg [q5 2 (.mv (.c (.i .i64 0)))])
 .ret)))
theorem ree267 : Tryz.f267.body.bind (res Tryz.prog Tryz.f267.ntmps [] []) = some (erase ae267) := by kernel_rfl
def fs267 : FnS := .fn 9 ae267 [.t 2]
theorem fsok267 : FnOk Tryz.prog 267 fs267 := fun _ _ _ hn h => ctr_of_resC Tryz.func267 (by kernel_rfl) ree267 (by kernel_rfl) hn h
abbrev ae269 : ACode := (.seq [0, 1] (.reg [q5 4 (.mv (.c (.b false)))])
 (.seq [4] (.reg [q5 5 (.mv (.t 1)),
 q5 6 (.len (.t 5)),
 q5 7 (.bin .leq (.t 6) (.c (.i .i64 2))),
 q5 8 (.mv (.t 7)),
 ⟨(some 9), .mv (.t 1), (some (8, true))⟩,
 ⟨(some 10), .mv (.t 0), (some (8, true))⟩,
 ⟨(some 11), .mkf (.func 301) [(.t 10)] [], (some (8, true))⟩,
 ⟨(some 12), .call 215 [(.t 9), (.t 11)], (some (8, true))⟩,
 q5 13 (.pick (.t 8) (.t 12) (.c (.b false))),
 q5 4 (.mv (.t 13))])
 .ret))
theorem ree269 : Tryz.f269.body.bind (res Tryz.prog Tryz.f269.ntmps [] []) = some (erase ae269) := by kernel_rfl
def fs269 : FnS := .fn 14 ae269 [.t 4]
theorem fsok269 : FnOk Tryz.prog 269 fs269 := fun _ _ _ hn h => ctr_of_resC Tryz.func269 (by kernel_rfl) ree269 (by kernel_rfl) hn h
abbrev ae270 : ACode := (.seq [0, 1] (.reg [q5 4 (.mv (.c (.b false)))])
 (.seq [4] (.reg [q5 5 (.mv (.t 1)),
 q5 6 (.bin .geq (.t 5) (.c (.i .i64 0))),
 q5 7 (.mv (.t 6)),
 ⟨(some 8), .mv (.t 1), (some (7, true))⟩,
 ⟨(some 9), .mv (.t 0), (some (7, true))⟩,
 ⟨(some 10), .nilck (.t 9), (some (7, true))⟩,
 ⟨(some 11), .faddr 0 (.t 10), (some (7, true))⟩,
 ⟨(some 12), .faddr 0 (.t 11), (some (7, true))⟩,
 ⟨(some 13), .load none (.t 12), (some (7, true))⟩,
 ⟨(some 14), .len (.t 13), (some (7, true))⟩,
 ⟨(some 15), .bin .add (.c (.i .i64 3)) (.t 14), (some (7, true))⟩,
 ⟨(some 16), .bin .lss (.t 8) (.t 15), (some (7, true))⟩,
 q5 17 (.pick (.t 7) (.t 16) (.c (.b false))),
 q5 4 (.mv (.t 17))])
 .ret))
theorem ree270 : Tryz.f270.body.bind (res Tryz.prog Tryz.f270.ntmps [] []) = some (erase ae270) := by kernel_rfl
def fs270 : FnS := .fn 18 ae270 [.t 4]
theorem fsok270 : FnOk Tryz.prog 270 fs270 := fun _ _ _ hn h => ctr_of_resC Tryz.func270 (by kernel_rfl) ree270 (by kernel_rfl) hn h
abbrev ae271 : ACode := (.seq [1, 2, 3, 4] (.reg [q5 4 (.box (.t 0)),
 q5 5 (.mv (.c (.b false)))])
 (.seq [5] (.reg [q5 6 (.load none (.t 1)),
 q5 7 (.load (some 6) (.t 4)),
 q5 8 (.load none (.t 2)),
 q5 9 (.load none (.t 3)),
 q5 10 (.bin .sub (.t 9) (.c (.i .i64 1))),
 q5 11 (.call 219 [(.t 6), (.t 7), (.t 8), (.t 10)]),
 q5 5 (.mv (.t 11))])
 .ret))
theorem ree271 : Tryz.f271.body.bind (res Tryz.prog Tryz.f271.ntmps [] []) = some (erase ae271) := by kernel_rfl
def fs271 : FnS := .fn 12 ae271 [.t 5]
theorem fsok271 : FnOk Tryz.prog 271 fs271 := fun _ _ _ hn h => ctr_of_resC Tryz.func271 (by kernel_rfl) ree271 (by kernel_rfl) hn h
abbrev ae272 : ACode := (.seq [0, 1] (.reg [q5 4 (.mv (.c (.i .i64 0)))])
 (.seq [] (.seq [0, 1, 7, 8] (.reg [q5 6 (.mv (.t 0)),
 q5 7 (.len (.t 6)),
 q5 8 (.mv (.c (.i .i64 0)))])
 (.block 0 (.loop [0, 1, 7, 8] (.seq [0, 1, 7, 8, 9] (.reg [q5 9 (.bin .lss (.t 8) (.t 7))])
 (.seq [0, 1, 7, 8] (.cond (.t 9)
 .skip
 (.exit 0))
 (.seq [0, 1, 7, 8] (.block 1 (.seq [0, 1, 5, 7, 8] (.reg [q5 10 (.mv (.t 8)),
 q5 5 (.mv (.t 10))])
 (.seq [0, 1, 5, 7, 8, 16] (.reg [q5 11 (.mv (.t 1)),
 q5 12 (.mv (.t 0)),
 q5 13 (.mv (.t 5)),
 q5 14 (.iaddr 6 none (.t 12) (.t 13)),
 q5 15 (.load (some 6) (.t 14)),
 q5 16 (.callv (.t 11) [(.t 15)])])
 (.cond (.t 16)
 (.seq [4] (.reg [q5 17 (.mv (.t 5)),
 q5 4 (.mv (.t 17))])
 .ret)
 .skip))))
 (.reg [q5 18 (.bin .add (.t 8) (.c (.i .i64 1))),
 q5 8 (.mv (.t 18))])))))))
 (.seq [4] (.reg [q5 4 (.mv (.c (.i .i64 (-1))))])
 .ret)))
theorem ree272 : Tryz.f272.body.bind (res Tryz.prog Tryz.f272.ntmps [] []) = some (erase ae272) := by kernel_rfl
def fs272 : FnS := .fn 19 ae272 [.t 4]
theorem fsok272 : FnOk Tryz.prog 272 fs272 := fun _ _ _ hn h => ctr_of_resC Tryz.func272 (by kernel_rfl) ree272 (by kernel_rfl) hn h
abbrev ae384 : ACode := (.seq [1, 2, 3] (.reg [q5 3 (.box (.t 0)),
 q5 4 (.mv (.c (.b false)))])
 (.seq [4] (.dreg [4] [⟨0, q5 5 (.load none (.t 1)), [], []⟩,
 ⟨1, q5 6 (.faddr 0 (.t 3)), [], []⟩,
 ⟨2, q5 7 (.load none (.t 6)), [], []⟩,
 ⟨3, q5 8 (.call 216 [(.t 5), (.t 7)]), [], []⟩,
 ⟨4, q5 9 (.mv (.t 8)), [], []⟩,
 ⟨5, ⟨(some 10), .faddr 1 (.t 3), (some (9, true))⟩, [], []⟩,
 ⟨6, ⟨(some 11), .load none (.t 10), (some (9, true))⟩, [], []⟩,
 ⟨7, ⟨(some 12), .len (.t 11), (some (9, true))⟩, [], []⟩,
 ⟨8, ⟨(some 13), .load none (.t 1), (some (9, true))⟩, [], []⟩,
 ⟨9, ⟨(some 14), .faddr 0 (.t 3), (some (9, true))⟩, [], []⟩,
 ⟨10, ⟨(some 15), .load none (.t 14), (some (9, true))⟩, [], []⟩,
 ⟨11, ⟨(some 16), .call 385 [(.t 13), (.t 15)], (some (9, true))⟩, [6], [⟨(some 11), .load none (.t 10), (some (9, true))⟩]⟩,
 ⟨12, ⟨(some 17), .len (.t 16), (some (9, true))⟩, [], []⟩,
 ⟨13, ⟨(some 18), .bin .eql (.t 12) (.t 17), (some (9, true))⟩, [], []⟩,
 ⟨14, q5 19 (.pick (.t 9) (.t 18) (.c (.b false))), [], []⟩,
 ⟨15, q5 20 (.mv (.t 19)), [], []⟩,
 ⟨16, ⟨(some 21), .faddr 1 (.t 3), (some (20, true))⟩, [], []⟩,
 ⟨17, ⟨(some 22), .load none (.t 21), (some (20, true))⟩, [], []⟩,
 ⟨18, ⟨(some 23), .mkf (.func 386) [] [(.t 2)], (some (20, true))⟩, [], []⟩,
 ⟨19, ⟨(some 24), .call 368 [(.t 22), (.t 23)], (some (20, true))⟩, [], []⟩,
 ⟨20, q5 25 (.pick (.t 20) (.t 24) (.c (.b false))), [], []⟩,
 ⟨21, q5 4 (.mv (.t 25)), [], []⟩])
 .ret))
theorem ree384 : Tryz.f384.body.bind (res Tryz.prog Tryz.f384.ntmps [] []) = some (erase ae384) := by kernel_rfl
def fs384 : FnS := .fn 26 ae384 [.t 4]
theorem fsok384 : FnOk Tryz.prog 384 fs384 := fun _ _ _ hn h => ctr_of_resC Tryz.func384 (by kernel_rfl) ree384 (by kernel_rfl) hn h
abbrev ae383 : ACode := (.seq [0, 3] (.reg [q5 3 (.box (.t 1)),
 q5 4 (.mv (.c (.b false)))])
 (.seq [4] (.reg [q5 5 (.mv (.t 0)),
 q5 6 (.mkf (.func 393) [] [(.t 3)]),
 q5 7 (.call 392 [(.t 5), (.t 6)]),
 q5 8 (.not (.t 7)),
 q5 4 (.mv (.t 8))])
 .ret))
theorem ree383 : Tryz.f383.body.bind (res Tryz.prog Tryz.f383.ntmps [] []) = some (erase ae383) := by kernel_rfl
def fs383 : FnS := .fn 9 ae383 [.t 4]
theorem fsok383 : FnOk Tryz.prog 383 fs383 := fun _ _ _ hn h => ctr_of_resC Tryz.func383 (by kernel_rfl) ree383 (by kernel_rfl) hn h
abbrev ae370 : ACode := (.seq [1, 2] (.reg [q5 2 (.box (.t 0)),
 q5 4 (.mv (.c (.b false)))])
 (.seq [1, 2] (.seq [1, 2, 6] (.reg [q5 5 (.faddr 0 (.t 2)),
 q5 6 (.load none (.t 5))])
 (.block 0 (.seq [1, 2, 6, 7] (.reg [q5 8 (.bin .eql (.t 6) (.c (.i .i64 1))),
 q5 7 (.mv (.t 8))])
 (.cond (.t 7)
 (.seq [4] (.reg [q5 9 (.faddr 1 (.t 2)),
 q5 10 (.load none (.t 9)),
 q5 11 (.bin .geq (.t 10) (.c (.i .i64 (-1000000000)))),
 q5 12 (.mv (.t 11)),
 ⟨(some 13), .faddr 1 (.t 2), (some (12, true))⟩,
 ⟨(some 14), .load none (.t 13), (some (12, true))⟩,
 ⟨(some 15), .bin .leq (.t 14) (.c (.i .i64 1000000000)), (some (12, true))⟩,
 q5 16 (.pick (.t 12) (.t 15) (.c (.b false))),
 q5 4 (.mv (.t 16))])
 .ret)
 (.seq [1, 2, 17] (.reg [q5 18 (.bin .eql (.t 6) (.c (.i .i64 2))),
 q5 17 (.mv (.t 18))])
 (.cond (.t 17)
 (.seq [4] (.reg [q5 19 (.faddr 1 (.t 2)),
 q5 20 (.load none (.t 19)),
 q5 21 (.bin .eql (.t 20) (.c (.i .i64 0))),
 q5 4 (.mv (.t 21))])
 .ret)
 .skip))))))
 (.seq [4] (.reg [q5 22 (.faddr 0 (.t 2)),
 q5 23 (.load none (.t 22)),
 q5 24 (.bin .eql (.t 23) (.c (.i .i64 3))),
 q5 25 (.mv (.t 24)),
 ⟨(some 26), .faddr 1 (.t 2), (some (25, true))⟩,
 ⟨(some 27), .load none (.t 26), (some (25, true))⟩,
 ⟨(some 28), .bin .geq (.t 27) (.c (.i .i64 0)), (some (25, true))⟩,
 q5 29 (.pick (.t 25) (.t 28) (.c (.b false))),
 q5 30 (.mv (.t 29)),
 ⟨(some 31), .faddr 1 (.t 2), (some (30, true))⟩,
 ⟨(some 32), .load none (.t 31), (some (30, true))⟩,
 ⟨(some 33), .mv (.t 1), (some (30, true))⟩,
 ⟨(some 34), .bin .lss (.t 32) (.t 33), (some (30, true))⟩,
 q5 35 (.pick (.t 30) (.t 34) (.c (.b false))),
 q5 4 (.mv (.t 35))])
 .ret)))
theorem ree370 : Tryz.f370.body.bind (res Tryz.prog Tryz.f370.ntmps [] []) = some (erase ae370) := by kernel_rfl
def fs370 : FnS := .fn 36 ae370 [.t 4]
theorem fsok370 : FnOk Tryz.prog 370 fs370 := fun _ _ _ hn h => ctr_of_resC Tryz.func370 (by kernel_rfl) ree370 (by kernel_rfl) hn h
abbrev ae387 : ACode := (.seq [1, 2] (.reg [q5 2 (.box (.t 0)),
 q5 3 (.mv (.c (.b false)))])
 (.seq [3] (.reg [q5 4 (.load none (.t 1)),
 q5 5 (.load (some 2) (.t 2)),
 q5 6 (.callv (.t 4) [(.t 5)]),
 q5 7 (.not (.t 6)),
 q5 3 (.mv (.t 7))])
 .ret))
theorem ree387 : Tryz.f387.body.bind (res Tryz.prog Tryz.f387.ntmps [] []) = some (erase ae387) := by kernel_rfl
def fs387 : FnS := .fn 8 ae387 [.t 3]
theorem fsok387 : FnOk Tryz.prog 387 fs387 := fun _ _ _ hn h => ctr_of_resC Tryz.func387 (by kernel_rfl) ree387 (by kernel_rfl) hn h
abbrev ae388 : ACode := (.seq [0, 1, 2] (.reg [q5 6 (.mv (.c (.b false)))])
 (.seq [6] (.dreg [6] [⟨0, q5 7 (.mv (.t 0)), [], []⟩,
 ⟨1, q5 8 (.mv (.t 1)), [], []⟩,
 ⟨2, q5 9 (.nilck (.t 7)), [], []⟩,
 ⟨3, q5 10 (.faddr 2 (.t 9)), [], []⟩,
 ⟨4, q5 11 (.iaddr 1 (some 63) (.t 10) (.t 8)), [], []⟩,
 ⟨5, q5 12 (.load none (.t 11)), [], []⟩,
 ⟨6, q5 13 (.mv (.t 0)), [], []⟩,
 ⟨7, q5 14 (.nilck (.t 13)), [], []⟩,
 ⟨8, q5 15 (.faddr 0 (.t 14)), [], []⟩,
 ⟨9, q5 16 (.faddr 1 (.t 15)), [], []⟩,
 ⟨10, q5 17 (.load none (.t 16)), [], []⟩,
 ⟨11, q5 18 (.mv (.t 2)), [], []⟩,
 ⟨12, q5 19 (.iaddr 1 none (.t 17) (.t 18)), [], []⟩,
 ⟨13, q5 20 (.load none (.t 19)), [], []⟩,
 ⟨14, q5 21 (.call 372 [(.t 12), (.t 20)]), [], []⟩,
 ⟨15, q5 6 (.mv (.t 21)), [], []⟩])
 .ret))
theorem ree388 : Tryz.f388.body.bind (res Tryz.prog Tryz.f388.ntmps [] []) = some (erase ae388) := by kernel_rfl
def fs388 : FnS := .fn 22 ae388 [.t 6]
theorem fsok388 : FnOk Tryz.prog 388 fs388 := fun _ _ _ hn h => ctr_of_resC Tryz.func388 (by kernel_rfl) ree388 (by kernel_rfl) hn h
abbrev ae385 : ACode := (.seq [0, 1] (.reg [q5 4 (.mv (.c (.l [] true)))])
 (.seq [0, 1, 5] (.reg [q5 5 (.mv (.c (.l [] true)))])
 (.seq [5] (.seq [0, 1, 5, 12, 13] (.reg [q5 7 (.mv (.t 0)),
 q5 8 (.nilck (.t 7)),
 q5 9 (.faddr 0 (.t 8)),
 q5 10 (.faddr 1 (.t 9)),
 q5 11 (.load none (.t 10)),
 q5 12 (.len (.t 11)),
 q5 13 (.mv (.c (.i .i64 0)))])
 (.block 0 (.loop [0, 1, 5, 12, 13] (.seq [0, 1, 5, 12, 13, 14] (.reg [q5 14 (.bin .lss (.t 13) (.t 12))])
 (.seq [0, 1, 5, 12, 13] (.cond (.t 14)
 .skip
 (.exit 0))
 (.seq [0, 1, 5, 12, 13] (.block 1 (.seq [0, 1, 5, 6, 12, 13] (.reg [q5 15 (.mv (.t 13)),
 q5 6 (.mv (.t 15))])
 (.seq [0, 1, 5, 6, 12, 13, 19] (.reg [q5 16 (.mv (.t 0)),
 q5 17 (.mv (.t 1)),
 q5 18 (.mv (.t 6)),
 q5 19 (.call 388 [(.t 16), (.t 17), (.t 18)])])
 (.cond (.t 19)
 (.reg [q5 20 (.mv (.t 5)),
 q5 21 (.mv (.t 6)),
 q5 22 (.bslice 1 1 [(.i .i64 0)] [(0, (.t 21))]),
 q5 23 (.append 1 8 (.t 20) (.t 22)),
 q5 5 (.mv (.t 23))])
 .skip))))
 (.reg [q5 24 (.bin .add (.t 13) (.c (.i .i64 1))),
 q5 13 (.mv (.t 24))])))))))
 (.seq [4] (.reg [q5 25 (.mv (.t 5)),
 q5 4 (.mv (.t 25))])
 .ret))))
theorem ree385 : Tryz.f385.body.bind (res Tryz.prog Tryz.f385.ntmps [] []) = some (erase ae385) := by kernel_rfl
def fs385 : FnS := .fn 26 ae385 [.t 4]
theorem fsok385 : FnOk Tryz.prog 385 fs385 := fun _ _ _ hn h => ctr_of_resC Tryz.func385 (by kernel_rfl) ree385 (by kernel_rfl) hn h
abbrev ae273 : ACode := (.seq [2, 3] (.reg [q5 2 (.box (.t 0)),
 q5 3 (.box (.t 1)),
 q5 4 (.mv (.c .fnil))])
 (.seq [4] (.reg [q5 5 (.mkf (.func 302) [] [(.t 2), (.t 3)]),
 q5 4 (.mv (.t 5))])
 .ret))
theorem ree273 : Tryz.f273.body.bind (res Tryz.prog Tryz.f273.ntmps [] []) = some (erase ae273) := by kernel_rfl
def fs273 : FnS := .fn 6 ae273 [.t 4]
theorem fsok273 : FnOk Tryz.prog 273 fs273 := fun _ _ _ hn h => ctr_of_resC Tryz.func273 (by kernel_rfl) ree273 (by kernel_rfl) hn h
abbrev acAe274 : ACode := (.reg [q5 4 (.alloc [(.b false)])])
def ose274 : List AOper := [q5 5 (.mkf (.func 307) [] [(.t 4)])]
abbrev acCe274 : ACode := (.seq [4] (.reg [q5 6 (.mv (.t 0)),
 q5 7 (.mv (.t 1)),
 q5 8 (.call 308 [(.t 6), (.t 7)]),
 q5 9 (.call 309 [(.t 8)])])
 (.seq [4] (.reg [⟨none, .store 1 (.t 4) (.c (.b true)), none⟩])
 .ret))
theorem rese274 : Tryz.f274.body.bind (resDfr Tryz.prog Tryz.f274.ntmps [] []) = some (erase acAe274, ose274, (.t 5), erase acCe274) := by kernel_rfl
def fs274 : FnS := .dfr 10 acAe274 ose274 (.t 5) acCe274 [.c 4 none] [0, 1, 4] [0, 1, 4]
theorem fsok274 : FnOk Tryz.prog 274 fs274 := fun _ _ _ hn h => ctr_of_dfr Tryz.func274 (by kernel_rfl) rese274 (by kernel_rfl) hn h
abbrev ae389 : ACode := (.seq [0, 1, 2, 3] (.reg [q5 8 (.mv (.c (.i .i64 0))),
 q5 9 (.mv (.c (.i .i64 0)))])
 (.seq [1, 2] (.seq [1, 2, 3, 18] (.dreg [1, 2, 3, 18] [⟨0, q5 10 (.mv (.t 0)), [], []⟩,
 ⟨1, q5 11 (.mv (.t 2)), [], []⟩,
 ⟨2, q5 12 (.iaddr 1 none (.t 10) (.t 11)), [], []⟩,
 ⟨3, q5 13 (.load none (.t 12)), [], []⟩,
 ⟨4, q5 14 (.mv (.t 0)), [], []⟩,
 ⟨5, q5 15 (.mv (.t 1)), [], []⟩,
 ⟨6, q5 16 (.iaddr 1 none (.t 14) (.t 15)), [], []⟩,
 ⟨7, q5 17 (.load none (.t 16)), [], []⟩,
 ⟨8, q5 18 (.call 350 [(.t 13), (.t 17)]), [], []⟩])
 (.cond (.t 18)
 (.seq [1, 2] (.reg [q5 19 (.mv (.t 3)),
 q5 20 (.nilck (.t 19)),
 q5 21 (.load none (.t 20)),
 q5 22 (.bin .add (.t 21) (.c (.i .i64 1))),
 q5 23 (.nilck (.t 19)),
 ⟨none, .store 1 (.t 23) (.t 22), none⟩])
 (.seq [8, 9] (.reg [q5 24 (.mv (.t 2)),
 q5 25 (.mv (.t 1)),
 q5 8 (.mv (.t 24)),
 q5 9 (.mv (.t 25))])
 .ret))
 .skip))
 (.seq [8, 9] (.reg [q5 26 (.mv (.t 1)),
 q5 27 (.mv (.t 2)),
 q5 8 (.mv (.t 26)),
 q5 9 (.mv (.t 27))])
 .ret)))
theorem ree389 : Tryz.f389.body.bind (res Tryz.prog Tryz.f389.ntmps [] []) = some (erase ae389) := by kernel_rfl
def fs389 : FnS := .fn 28 ae389 [.t 8, .t 9]
theorem fsok389 : FnOk Tryz.prog 389 fs389 := fun _ _ _ hn h => ctr_of_resC Tryz.func389 (by kernel_rfl) ree389 (by kernel_rfl) hn h
abbrev ae390 : ACode := (.seq [0] (.reg [q5 2 (.mv (.c (.b false)))])
 (.seq [2] (.reg [q5 3 (.mv (.t 0)),
 q5 4 (.bin .neq (.t 3) (.c (.i .i64 0))),
 q5 2 (.mv (.t 4))])
 .ret))
theorem ree390 : Tryz.f390.body.bind (res Tryz.prog Tryz.f390.ntmps [] []) = some (erase ae390) := by kernel_rfl
def fs390 : FnS := .fn 5 ae390 [.t 2]
theorem fsok390 : FnOk Tryz.prog 390 fs390 := fun _ _ _ hn h => ctr_of_resC Tryz.func390 (by kernel_rfl) ree390 (by kernel_rfl) hn h
abbrev ae301 : ACode := (.seq [0, 1] (.reg [q5 4 (.mv (.c (.b false)))])
 (.seq [4] (.reg [q5 5 (.mv (.t 1)),
 q5 6 (.bin .geq (.t 5) (.c (.i .i64 0))),
 q5 7 (.mv (.t 6)),
 ⟨(some 8), .mv (.t 1), (some (7, true))⟩,
 ⟨(some 9), .mv (.t 0), (some (7, true))⟩,
 ⟨(some 10), .nilck (.t 9), (some (7, true))⟩,
 ⟨(some 11), .faddr 0 (.t 10), (some (7, true))⟩,
 ⟨(some 12), .faddr 1 (.t 11), (some (7, true))⟩,
 ⟨(some 13), .load none (.t 12), (some (7, true))⟩,
 ⟨(some 14), .len (.t 13), (some (7, true))⟩,
 ⟨(some 15), .bin .lss (.t 8) (.t 14), (some (7, true))⟩,
 q5 16 (.pick (.t 7) (.t 15) (.c (.b false))),
 q5 4 (.mv (.t 16))])
 .ret))
theorem ree301 : Tryz.f301.body.bind (res Tryz.prog Tryz.f301.ntmps [] []) = some (erase ae301) := by kernel_rfl
def fs301 : FnS := .fn 17 ae301 [.t 4]
theorem fsok301 : FnOk Tryz.prog 301 fs301 := fun _ _ _ hn h => ctr_of_resC Tryz.func301 (by kernel_rfl) ree301 (by kernel_rfl) hn h
abbrev ae386 : ACode := (.seq [1, 2] (.reg [q5 2 (.box (.t 0)),
 q5 3 (.mv (.c (.b false)))])
 (.seq [3] (.reg [q5 4 (.load (some 2) (.t 2)),
 q5 5 (.load none (.t 1)),
 q5 6 (.len (.t 5)),
 q5 7 (.call 370 [(.t 4), (.t 6)]),
 q5 3 (.mv (.t 7))])
 .ret))
theorem ree386 : Tryz.f386.body.bind (res Tryz.prog Tryz.f386.ntmps [] []) = some (erase ae386) := by kernel_rfl
def fs386 : FnS := .fn 8 ae386 [.t 3]
theorem fsok386 : FnOk Tryz.prog 386 fs386 := fun _ _ _ hn h => ctr_of_resC Tryz.func386 (by kernel_rfl) ree386 (by kernel_rfl) hn h
abbrev ae393 : ACode := (.seq [1, 2] (.reg [q5 2 (.box (.t 0)),
 q5 3 (.mv (.c (.b false)))])
 (.seq [3] (.reg [q5 4 (.load none (.t 1)),
 q5 5 (.load (some 2) (.t 2)),
 q5 6 (.callv (.t 4) [(.t 5)]),
 q5 7 (.not (.t 6)),
 q5 3 (.mv (.t 7))])
 .ret))
theorem ree393 : Tryz.f393.body.bind (res Tryz.prog Tryz.f393.ntmps [] []) = some (erase ae393) := by kernel_rfl
def fs393 : FnS := .fn 8 ae393 [.t 3]
theorem fsok393 : FnOk Tryz.prog 393 fs393 := fun _ _ _ hn h => ctr_of_resC Tryz.func393 (by kernel_rfl) ree393 (by kernel_rfl) hn h
abbrev ae392 : ACode := (.seq [0, 1] (.reg [q5 4 (.mv (.c (.b false)))])
 (.seq [4] (.reg [q5 5 (.mv (.t 0)),
 q5 6 (.mv (.t 1)),
 q5 7 (.call 395 [(.t 5), (.t 6)]),
 q5 8 (.bin .geq (.t 7) (.c (.i .i64 0))),
 q5 4 (.mv (.t 8))])
 .ret))
theorem ree392 : Tryz.f392.body.bind (res Tryz.prog Tryz.f392.ntmps [] []) = some (erase ae392) := by kernel_rfl
def fs392 : FnS := .fn 9 ae392 [.t 4]
theorem fsok392 : FnOk Tryz.prog 392 fs392 := fun _ _ _ hn h => ctr_of_resC Tryz.func392 (by kernel_rfl) ree392 (by kernel_rfl) hn h
abbrev ae302 : ACode := (.seq [0, 1, 2, 4] (.reg [q5 4 (.alloc [.fnil])])
 (.seq [0, 1, 2, 4] (.reg [q5 5 (.mkf (.func 303) [] [(.t 4)]),
 ⟨none, .store 1 (.t 4) (.t 5), none⟩])
 (.reg [q5 6 (.load none (.t 4)),
 q5 7 (.load (some 6) (.t 1)),
 q5 8 (.load none (.t 2)),
 q5 9 (.mv (.t 0)),
 q5 10 (.callv (.t 6) [(.t 7), (.t 8), (.t 9)])])))
theorem ree302 : Tryz.f302.body.bind (res Tryz.prog Tryz.f302.ntmps [] []) = some (erase ae302) := by kernel_rfl
def fs302 : FnS := .fn 11 ae302 []
theorem fsok302 : FnOk Tryz.prog 302 fs302 := fun _ _ _ hn h => ctr_of_resC Tryz.func302 (by kernel_rfl) ree302 (by kernel_rfl) hn h
def ose307 : List AOper := [q5 5 (.tas 379 (.a []) true (.t 4)),
 q5 3 (.mv (.t 5)),
 q5 6 (.extract 0 (.t 3)),
 q5 7 (.extract 1 (.t 3)),
 q5 1 (.alloc []),
 ⟨none, .store 0 (.t 1) (.t 6), none⟩,
 q5 2 (.mv (.t 7))]
abbrev acCe307 : ACode := (.seq [0, 8] (.reg [q5 8 (.mv (.t 2))])
 (.cond (.t 8)
 (.reg [⟨none, .store 1 (.t 0) (.c (.b false)), none⟩])
 .skip))
theorem rese307 : Tryz.f307.body.bind (resRec Tryz.prog Tryz.f307.ntmps [] []) = some (4, ose307, erase acCe307) := by kernel_rfl
def fs307 : FnS := .rcv 9 4 ose307 acCe307 [0, 2]
theorem fsok307 : FnOk Tryz.prog 307 fs307 := fun _ _ _ _ hn h => ctrD_of_T Tryz.func307 (by kernel_rfl) rese307 rfl hn h
abbrev ae308 : ACode := (.seq [0, 1] (.reg [q5 4 (.mv (.c .pn))])
 (.seq [1, 5] (.reg [q5 8 (.mv (.t 0)),
 q5 9 (.mkmap),
 q5 10 (.build [.pn, .mn] [(0, 1, (.t 8)), (1, 1, (.t 9))]),
 q5 11 (.box (.t 10)),
 q5 5 (.mv (.t 11))])
 (.seq [5] (.seq [5, 12, 13, 14] (.reg [q5 12 (.mv (.t 1)),
 q5 13 (.len (.t 12)),
 q5 14 (.mv (.c (.i .i64 0)))])
 (.block 0 (.loop [5, 12, 13, 14] (.seq [5, 12, 13, 14, 15] (.reg [q5 15 (.bin .lss (.t 14) (.t 13))])
 (.seq [5, 12, 13, 14] (.cond (.t 15)
 .skip
 (.exit 0))
 (.seq [5, 12, 13, 14] (.block 1 (.seq [5, 7, 12, 13, 14] (.reg [q5 16 (.iaddr 7 none (.t 12) (.t 14)),
 q5 17 (.load (some 7) (.t 16)),
 q5 7 (.alloc [(.i .i64 0), (.i .i64 0), (.l [] true), (.i .i64 0), (.i .i64 0), (.l [] true), (.b false)]),
 ⟨none, .store 7 (.t 7) (.t 17), none⟩])
 (.reg [q5 18 (.mv (.t 5)),
 q5 19 (.load (some 7) (.t 7)),
 q5 20 (.call 337 [(.t 18), (.t 19)])])))
 (.reg [q5 21 (.bin .add (.t 14) (.c (.i .i64 1))),
 q5 14 (.mv (.t 21))])))))))
 (.seq [4] (.reg [q5 22 (.mv (.t 5)),
 q5 4 (.mv (.t 22))])
 .ret))))
theorem ree308 : Tryz.f308.body.bind (res Tryz.prog Tryz.f308.ntmps [] []) = some (erase ae308) := by kernel_rfl
def fs308 : FnS := .fn 23 ae308 [.t 4]
theorem fsok308 : FnOk Tryz.prog 308 fs308 := fun _ _ _ hn h => ctr_of_resC Tryz.func308 (by kernel_rfl) ree308 (by kernel_rfl) hn h
abbrev ae309 : ACode := (.seq [0, 3] (.reg [q5 3 (.mv (.c (.i .i64 0)))])
 (.block 0 (.loop [0, 3] (.seq [0, 3, 4] (.reg [q5 4 (.bin .lss (.t 3) (.c (.i .i64 3)))])
 (.seq [0, 3] (.cond (.t 4)
 .skip
 (.exit 0))
 (.seq [0, 3] (.block 1 (.seq [0, 2, 3] (.reg [q5 5 (.mv (.t 3)),
 q5 2 (.mv (.t 5))])
 (.seq [0, 3, 10] (.reg [q5 6 (.mv (.t 0)),
 q5 7 (.mv (.t 2)),
 q5 8 (.build [(.i .i64 0), (.i .i64 0), (.i .i64 0), (.i .i64 0)] [(0, 1, (.t 7))]),
 q5 9 (.call 338 [(.t 6), (.t 8)]),
 q5 10 (.not (.t 9))])
 (.cond (.t 10)
 (.reg [q5 11 (.build [] []),
 q5 12 (.mkifc 379 (.t 11)),
 ⟨none, .panic (.t 12), none⟩])
 .skip))))
 (.reg [q5 13 (.bin .add (.t 3) (.c (.i .i64 1))),
 q5 3 (.mv (.t 13))])))))))
theorem ree309 : Tryz.f309.body.bind (res Tryz.prog Tryz.f309.ntmps [] []) = some (erase ae309) := by kernel_rfl
def fs309 : FnS := .fn 14 ae309 []
theorem fsok309 : FnOk Tryz.prog 309 fs309 := fun _ _ _ hn h => ctr_of_resC Tryz.func309 (by kernel_rfl) ree309 (by kernel_rfl) hn h
abbrev ae395 : ACode := (.seq [0, 1] (.reg [q5 4 (.mv (.c (.i .i64 0)))])
 (.seq [] (.seq [0, 1, 7, 8] (.reg [q5 6 (.mv (.t 0)),
 q5 7 (.len (.t 6)),
 q5 8 (.mv (.c (.i .i64 0)))])
 (.block 0 (.loop [0, 1, 7, 8] (.seq [0, 1, 7, 8, 9] (.reg [q5 9 (.bin .lss (.t 8) (.t 7))])
 (.seq [0, 1, 7, 8] (.cond (.t 9)
 .skip
 (.exit 0))
 (.seq [0, 1, 7, 8] (.block 1 (.seq [0, 1, 5, 7, 8] (.reg [q5 10 (.mv (.t 8)),
 q5 5 (.mv (.t 10))])
 (.seq [0, 1, 5, 7, 8, 16] (.reg [q5 11 (.mv (.t 1)),
 q5 12 (.mv (.t 0)),
 q5 13 (.mv (.t 5)),
 q5 14 (.iaddr 2 none (.t 12) (.t 13)),
 q5 15 (.load (some 2) (.t 14)),
 q5 16 (.callv (.t 11) [(.t 15)])])
 (.cond (.t 16)
 (.seq [4] (.reg [q5 17 (.mv (.t 5)),
 q5 4 (.mv (.t 17))])
 .ret)
 .skip))))
 (.reg [q5 18 (.bin .add (.t 8) (.c (.i .i64 1))),
 q5 8 (.mv (.t 18))])))))))
 (.seq [4] (.reg [q5 4 (.mv (.c (.i .i64 (-1))))])
 .ret)))
theorem ree395 : Tryz.f395.body.bind (res Tryz.prog Tryz.f395.ntmps [] []) = some (erase ae395) := by kernel_rfl
def fs395 : FnS := .fn 19 ae395 [.t 4]
theorem fsok395 : FnOk Tryz.prog 395 fs395 := fun _ _ _ hn h => ctr_of_resC Tryz.func395 (by kernel_rfl) ree395 (by kernel_rfl) hn h
abbrev ae303 : ACode := (.seq [3, 4, 5, 6] (.reg [q5 4 (.box (.t 0)),
 q5 5 (.box (.t 1)),
 q5 6 (.box (.t 2)),
 q5 7 (.mv (.c (.b false)))])
 (.seq [3, 4, 5, 6] (.block 0 (.seq [3, 4, 5, 6, 8] (.reg [q5 9 (.faddr 0 (.t 4)),
 q5 10 (.load none (.t 9)),
 q5 11 (.bin .eql (.t 10) (.c (.i .i64 1))),
 q5 8 (.mv (.t 11))])
 (.cond (.t 8)
 (.seq [7] (.reg [q5 12 (.load none (.t 5)),
 q5 13 (.mv (.t 12)),
 ⟨(some 14), .load none (.t 6), (some (13, false))⟩,
 ⟨(some 15), .callv (.t 14) [(.c (.l [] true))], (some (13, false))⟩,
 q5 16 (.pick (.t 13) (.c (.b true)) (.t 15)),
 q5 7 (.mv (.t 16))])
 .ret)
 (.seq [3, 4, 5, 6, 17] (.reg [q5 18 (.faddr 0 (.t 4)),
 q5 19 (.load none (.t 18)),
 q5 20 (.bin .eql (.t 19) (.c (.i .i64 5))),
 q5 17 (.mv (.t 20))])
 (.cond (.t 17)
 (.seq [7] (.dreg [7] [⟨0, q5 21 (.load none (.t 3)), [], []⟩,
 ⟨1, q5 22 (.faddr 5 (.t 4)), [], []⟩,
 ⟨2, q5 23 (.load none (.t 22)), [], []⟩,
 ⟨3, q5 24 (.iaddr 6 none (.t 23) (.c (.i .i64 0))), [], []⟩,
 ⟨4, q5 25 (.load (some 6) (.t 24)), [], []⟩,
 ⟨5, q5 26 (.load none (.t 5)), [], []⟩,
 ⟨6, q5 27 (.not (.t 26)), [], []⟩,
 ⟨7, q5 28 (.load none (.t 6)), [], []⟩,
 ⟨8, q5 29 (.callv (.t 21) [(.t 25), (.t 27), (.t 28)]), [], []⟩,
 ⟨9, q5 7 (.mv (.t 29)), [], []⟩])
 .ret)
 (.seq [3, 4, 5, 6, 30] (.reg [q5 31 (.load (some 6) (.t 4)),
 q5 32 (.call 268 [(.t 31)]),
 q5 30 (.mv (.t 32))])
 (.cond (.t 30)
 (.seq [7] (.reg [q5 33 (.load none (.t 6)),
 q5 34 (.load (some 6) (.t 4)),
 q5 35 (.load none (.t 5)),
 q5 36 (.build [(.i .i64 0), (.i .i64 0), (.l [] true), (.i .i64 0), (.i .i64 0), (.l [] true), (.b false)] [(0, 6, (.t 34)), (6, 1, (.t 35))]),
 q5 37 (.bslice 7 1 [(.i .i64 0), (.i .i64 0), (.l [] true), (.i .i64 0), (.i .i64 0), (.l [] true), (.b false)] [(0, (.t 36))]),
 q5 38 (.callv (.t 33) [(.t 37)]),
 q5 7 (.mv (.t 38))])
 .ret)
 (.seq [3, 4, 5, 6, 39] (.reg [q5 40 (.load none (.t 5)),
 q5 41 (.faddr 0 (.t 4)),
 q5 42 (.load none (.t 41)),
 q5 43 (.bin .eql (.t 42) (.c (.i .i64 6))),
 q5 44 (.eqb false (.t 40) (.t 43)),
 q5 39 (.mv (.t 44))])
 (.cond (.t 39)
 (.seq [7] (.dreg [7] [⟨0, q5 45 (.load none (.t 3)), [], []⟩,
 ⟨1, q5 46 (.faddr 5 (.t 4)), [], []⟩,
 ⟨2, q5 47 (.load none (.t 46)), [], []⟩,
 ⟨3, q5 48 (.iaddr 6 none (.t 47) (.c (.i .i64 0))), [], []⟩,
 ⟨4, q5 49 (.load (some 6) (.t 48)), [], []⟩,
 ⟨5, q5 50 (.load none (.t 5)), [], []⟩,
 ⟨6, q5 51 (.load none (.t 6)), [], []⟩,
 ⟨7, q5 52 (.callv (.t 45) [(.t 49), (.t 50), (.t 51)]), [], []⟩,
 ⟨8, q5 53 (.mv (.t 52)), [], []⟩,
 ⟨9, ⟨(some 54), .load none (.t 3), (some (53, true))⟩, [], []⟩,
 ⟨10, ⟨(some 55), .faddr 5 (.t 4), (some (53, true))⟩, [], []⟩,
 ⟨11, ⟨(some 56), .load none (.t 55), (some (53, true))⟩, [], []⟩,
 ⟨12, ⟨(some 57), .iaddr 6 none (.t 56) (.c (.i .i64 1)), (some (53, true))⟩, [], []⟩,
 ⟨13, ⟨(some 58), .load (some 6) (.t 57), (some (53, true))⟩, [], []⟩,
 ⟨14, ⟨(some 59), .load none (.t 5), (some (53, true))⟩, [], []⟩,
 ⟨15, ⟨(some 60), .load none (.t 6), (some (53, true))⟩, [], []⟩,
 ⟨16, ⟨(some 61), .callv (.t 54) [(.t 58), (.t 59), (.t 60)], (some (53, true))⟩, [], []⟩,
 ⟨17, q5 62 (.pick (.t 53) (.t 61) (.c (.b false))), [], []⟩,
 ⟨18, q5 7 (.mv (.t 62)), [], []⟩])
 .ret)
 .skip)))))))))
 (.seq [7] (.dreg [7] [⟨0, q5 63 (.load none (.t 3)), [], []⟩,
 ⟨1, q5 64 (.faddr 5 (.t 4)), [], []⟩,
 ⟨2, q5 65 (.load none (.t 64)), [], []⟩,
 ⟨3, q5 66 (.iaddr 6 none (.t 65) (.c (.i .i64 0))), [], []⟩,
 ⟨4, q5 67 (.load (some 6) (.t 66)), [], []⟩,
 ⟨5, q5 68 (.load none (.t 5)), [], []⟩,
 ⟨6, q5 69 (.mkf (.func 304) [] [(.t 3), (.t 4), (.t 5), (.t 6)]), [], []⟩,
 ⟨7, q5 70 (.callv (.t 63) [(.t 67), (.t 68), (.t 69)]), [], []⟩,
 ⟨8, q5 7 (.mv (.t 70)), [], []⟩])
 .ret)))
theorem ree303 : Tryz.f303.body.bind (res Tryz.prog Tryz.f303.ntmps [] []) = some (erase ae303) := by kernel_rfl
def fs303 : FnS := .fn 71 ae303 [.t 7]
theorem fsok303 : FnOk Tryz.prog 303 fs303 := fun _ _ _ hn h => ctr_of_resC Tryz.func303 (by kernel_rfl) ree303 (by kernel_rfl) hn h
abbrev ae337 : ACode := (.seq [0, 3] (.reg [q5 3 (.box (.t 1))])
 (.seq [0, 3, 4] (.reg [q5 8 (.faddr 0 (.t 3)),
 q5 9 (.faddr 1 (.t 8)),
 q5 10 (.load none (.t 9)),
 q5 11 (.build [(.i .i64 0), (.i .i64 0), (.i .i64 0), (.i .i64 0)] [(0, 1, (.t 10))]),
 q5 4 (.alloc [(.i .i64 0), (.i .i64 0), (.i .i64 0), (.i .i64 0)]),
 ⟨none, .store 4 (.t 4) (.t 11), none⟩])
 (.seq [0, 3, 4, 5] (.reg [q5 12 (.mv (.t 0)),
 q5 13 (.load (some 4) (.t 4)),
 q5 14 (.call 361 [(.t 12), (.t 13)]),
 q5 5 (.mv (.t 14))])
 (.seq [0, 3, 4, 5] (.reg [q5 15 (.mv (.t 5)),
 q5 16 (.mv (.t 5)),
 q5 17 (.nilck (.t 16)),
 q5 18 (.faddr 6 (.t 17)),
 q5 19 (.load none (.t 18)),
 q5 20 (.mv (.t 19)),
 ⟨(some 21), .faddr 6 (.t 3), (some (20, false))⟩,
 ⟨(some 22), .load none (.t 21), (some (20, false))⟩,
 ⟨(some 23), .not (.t 22), (some (20, false))⟩,
 q5 24 (.pick (.t 20) (.c (.b true)) (.t 23)),
 q5 25 (.nilck (.t 15)),
 q5 26 (.faddr 6 (.t 25)),
 ⟨none, .store 1 (.t 26) (.t 24), none⟩])
 (.seq [3, 5] (.seq [0, 3, 4, 5, 29, 30, 31] (.reg [q5 27 (.faddr 0 (.t 3)),
 q5 28 (.faddr 2 (.t 27)),
 q5 29 (.load none (.t 28)),
 q5 30 (.len (.t 29)),
 q5 31 (.mv (.c (.i .i64 0)))])
 (.block 0 (.loop [0, 3, 4, 5, 29, 30, 31] (.seq [0, 3, 4, 5, 29, 30, 31, 32] (.reg [q5 32 (.bin .lss (.t 31) (.t 30))])
 (.seq [0, 3, 4, 5, 29, 30, 31] (.cond (.t 32)
 .skip
 (.exit 0))
 (.seq [0, 3, 4, 5, 29, 30, 31] (.block 1 (.seq [0, 3, 4, 5, 7, 29, 30, 31] (.reg [q5 33 (.iaddr 1 none (.t 29) (.t 31)),
 q5 34 (.load none (.t 33)),
 q5 7 (.mv (.t 34))])
 (.seq [0, 3, 4, 7, 29, 30, 31] (.seq [0, 3, 4, 5, 7, 29, 30, 31, 41] (.reg [q5 35 (.mv (.t 5)),
 q5 36 (.nilck (.t 35)),
 q5 37 (.faddr 7 (.t 36)),
 q5 38 (.load none (.t 37)),
 q5 39 (.mv (.t 7)),
 q5 40 (.call 67 [(.t 38), (.t 39)]),
 q5 41 (.not (.t 40))])
 (.cond (.t 41)
 (.seq [0, 3, 4, 5, 7, 29, 30, 31] (.reg [q5 42 (.mv (.t 5)),
 q5 43 (.mv (.t 5)),
 q5 44 (.nilck (.t 43)),
 q5 45 (.faddr 7 (.t 44)),
 q5 46 (.load none (.t 45)),
 q5 47 (.mv (.t 7)),
 q5 48 (.bslice 1 1 [(.i .i64 0)] [(0, (.t 47))]),
 q5 49 (.append 1 8 (.t 46) (.t 48)),
 q5 50 (.nilck (.t 42)),
 q5 51 (.faddr 7 (.t 50)),
 ⟨none, .store 1 (.t 51) (.t 49), none⟩])
 (.reg [q5 52 (.mv (.t 5)),
 q5 53 (.nilck (.t 52)),
 q5 54 (.faddr 7 (.t 53)),
 q5 55 (.load none (.t 54)),
 q5 56 (.call 291 [(.t 55)])]))
 .skip))
 (.seq [0, 3, 4, 29, 30, 31] (.reg [q5 57 (.load (some 4) (.t 4)),
 q5 58 (.mv (.t 7)),
 q5 59 (.call 362 [(.t 57), (.t 58)]),
 ⟨none, .store 4 (.t 4) (.t 59), none⟩])
 (.seq [0, 3, 4, 5, 29, 30, 31] (.reg [q5 60 (.mv (.t 0)),
 q5 61 (.load (some 4) (.t 4)),
 q5 62 (.call 361 [(.t 60), (.t 61)]),
 q5 5 (.mv (.t 62))])
 (.reg [q5 63 (.mv (.t 5)),
 q5 64 (.mv (.t 5)),
 q5 65 (.nilck (.t 64)),
 q5 66 (.faddr 6 (.t 65)),
 q5 67 (.load none (.t 66)),
 q5 68 (.mv (.t 67)),
 ⟨(some 69), .faddr 6 (.t 3), (some (68, false))⟩,
 ⟨(some 70), .load none (.t 69), (some (68, false))⟩,
 ⟨(some 71), .not (.t 70), (some (68, false))⟩,
 q5 72 (.pick (.t 68) (.c (.b true)) (.t 71)),
 q5 73 (.nilck (.t 63)),
 q5 74 (.faddr 6 (.t 73)),
 ⟨none, .store 1 (.t 74) (.t 72), none⟩]))))))
 (.reg [q5 75 (.bin .add (.t 31) (.c (.i .i64 1))),
 q5 31 (.mv (.t 75))])))))))
 (.reg [q5 76 (.mv (.t 5)),
 q5 77 (.load (some 7) (.t 3)),
 q5 78 (.call 363 [(.t 76), (.t 77)])]))))))
theorem ree337 : Tryz.f337.body.bind (res Tryz.prog Tryz.f337.ntmps [] []) = some (erase ae337) := by kernel_rfl
def fs337 : FnS := .fn 79 ae337 []
theorem fsok337 : FnOk Tryz.prog 337 fs337 := fun _ _ _ hn h => ctr_of_resC Tryz.func337 (by kernel_rfl) ree337 (by kernel_rfl) hn h
abbrev ae338 : ACode := (.seq [0, 3] (.reg [q5 3 (.box (.t 1)),
 q5 4 (.mv (.c (.b false)))])
 (.seq [0, 3] (.seq [0, 3, 6] (.reg [q5 10 (.mv (.t 0)),
 q5 11 (.load (some 4) (.t 3)),
 q5 12 (.call 364 [(.t 10), (.t 11)]),
 q5 9 (.mv (.t 12)),
 q5 13 (.extract 0 (.t 9)),
 q5 14 (.extract 1 (.t 9)),
 q5 5 (.mv (.t 13)),
 q5 6 (.mv (.t 14))])
 (.seq [0, 3, 20] (.reg [q5 15 (.mv (.t 6)),
 q5 16 (.mv (.t 15)),
 ⟨(some 17), .mv (.t 0), (some (16, false))⟩,
 ⟨(some 18), .load (some 4) (.t 3), (some (16, false))⟩,
 ⟨(some 19), .call 365 [(.t 17), (.t 18)], (some (16, false))⟩,
 q5 20 (.pick (.t 16) (.c (.b true)) (.t 19))])
 (.cond (.t 20)
 (.seq [4] (.reg [q5 4 (.mv (.c (.b true)))])
 .ret)
 .skip)))
 (.seq [8] (.reg [q5 22 (.mv (.t 0)),
 q5 23 (.load (some 4) (.t 3)),
 q5 24 (.call 366 [(.t 22), (.t 23)]),
 q5 21 (.mv (.t 24)),
 q5 25 (.extract 0 (.t 21)),
 q5 26 (.extract 1 (.t 21)),
 q5 7 (.mv (.t 25)),
 q5 8 (.mv (.t 26))])
 (.seq [4] (.reg [q5 27 (.mv (.t 8)),
 q5 4 (.mv (.t 27))])
 .ret))))
theorem ree338 : Tryz.f338.body.bind (res Tryz.prog Tryz.f338.ntmps [] []) = some (erase ae338) := by kernel_rfl
def fs338 : FnS := .fn 28 ae338 [.t 4]
theorem fsok338 : FnOk Tryz.prog 338 fs338 := fun _ _ _ hn h => ctr_of_resC Tryz.func338 (by kernel_rfl) ree338 (by kernel_rfl) hn h
abbrev ae304 : ACode := (.seq [1, 2, 3, 4, 5] (.reg [q5 5 (.box (.t 0)),
 q5 6 (.mv (.c (.b false)))])
 (.seq [6] (.dreg [6] [⟨0, q5 7 (.load none (.t 1)), [], []⟩,
 ⟨1, q5 8 (.faddr 5 (.t 2)), [], []⟩,
 ⟨2, q5 9 (.load none (.t 8)), [], []⟩,
 ⟨3, q5 10 (.iaddr 6 none (.t 9) (.c (.i .i64 1))), [], []⟩,
 ⟨4, q5 11 (.load (some 6) (.t 10)), [], []⟩,
 ⟨5, q5 12 (.load none (.t 3)), [], []⟩,
 ⟨6, q5 13 (.mkf (.func 305) [] [(.t 4), (.t 5)]), [], []⟩,
 ⟨7, q5 14 (.callv (.t 7) [(.t 11), (.t 12), (.t 13)]), [], []⟩,
 ⟨8, q5 6 (.mv (.t 14)), [], []⟩])
 .ret))
theorem ree304 : Tryz.f304.body.bind (res Tryz.prog Tryz.f304.ntmps [] []) = some (erase ae304) := by kernel_rfl
def fs304 : FnS := .fn 15 ae304 [.t 6]
theorem fsok304 : FnOk Tryz.prog 304 fs304 := fun _ _ _ hn h => ctr_of_resC Tryz.func304 (by kernel_rfl) ree304 (by kernel_rfl) hn h
abbrev ae361 : ACode := (.seq [0, 3] (.reg [q5 3 (.box (.t 1)),
 q5 4 (.mv (.c .pn))])
 (.seq [0, 3, 5, 6] (.dreg [0, 3, 5, 6] [⟨0, q5 8 (.mv (.t 0)), [], []⟩,
 ⟨1, q5 9 (.nilck (.t 8)), [], []⟩,
 ⟨2, q5 10 (.faddr 1 (.t 9)), [], []⟩,
 ⟨3, q5 11 (.load none (.t 10)), [], []⟩,
 ⟨4, q5 12 (.load (some 4) (.t 3)), [], []⟩,
 ⟨5, q5 13 (.lookup (.a [.i64, .i64, .i64, .i64]) .pn true (.t 11) (.t 12)), [], []⟩,
 ⟨6, q5 7 (.mv (.t 13)), [], []⟩,
 ⟨7, q5 14 (.extract 0 (.t 7)), [], []⟩,
 ⟨8, q5 15 (.extract 1 (.t 7)), [], []⟩,
 ⟨9, q5 5 (.mv (.t 14)), [], []⟩,
 ⟨10, q5 6 (.mv (.t 15)), [], []⟩])
 (.seq [5] (.seq [0, 3, 5, 17] (.reg [q5 16 (.mv (.t 6)),
 q5 17 (.not (.t 16))])
 (.cond (.t 17)
 (.seq [0, 3, 5] (.reg [q5 18 (.build [(.i .i64 0), (.i .i64 0), (.l [] true)] [(0, 1, (.c (.i .i64 (-1000000000)))), (1, 1, (.c (.i .i64 1000000000)))]),
 q5 19 (.build [(.i .i64 0), (.i .i64 0), (.l [] true), (.i .u64 0), (.i .u64 0), (.b false), (.b false), (.l [] true)] [(0, 3, (.t 18))]),
 q5 20 (.box (.t 19)),
 q5 5 (.mv (.t 20))])
 (.dreg [5] [⟨0, q5 21 (.mv (.t 0)), [], []⟩,
 ⟨1, q5 22 (.nilck (.t 21)), [], []⟩,
 ⟨2, q5 23 (.faddr 1 (.t 22)), [], []⟩,
 ⟨3, q5 24 (.load none (.t 23)), [], []⟩,
 ⟨4, q5 25 (.load (some 4) (.t 3)), [], []⟩,
 ⟨5, q5 26 (.mv (.t 5)), [], []⟩,
 ⟨6, ⟨none, .mapset (.a [.i64, .i64, .i64, .i64]) (.t 24) (.t 25) (.t 26), none⟩, [], []⟩]))
 .skip))
 (.seq [4] (.reg [q5 27 (.mv (.t 5)),
 q5 4 (.mv (.t 27))])
 .ret))))
theorem ree361 : Tryz.f361.body.bind (res Tryz.prog Tryz.f361.ntmps [] []) = some (erase ae361) := by kernel_rfl
def fs361 : FnS := .fn 28 ae361 [.t 4]
theorem fsok361 : FnOk Tryz.prog 361 fs361 := fun _ _ _ hn h => ctr_of_resC Tryz.func361 (by kernel_rfl) ree361 (by kernel_rfl) hn h
abbrev ae362 : ACode := (.seq [1, 2, 4] (.reg [q5 2 (.box (.t 0)),
 q5 4 (.alloc [(.i .i64 0), (.i .i64 0), (.i .i64 0), (.i .i64 0)])])
 (.seq [2, 4] (.reg [q5 5 (.faddr 1 (.t 2)),
 q5 6 (.load none (.t 5)),
 q5 7 (.mv (.t 1)),
 q5 8 (.faddr 2 (.t 2)),
 q5 9 (.iaddr 1 (some 2) (.t 8) (.t 6)),
 ⟨none, .store 1 (.t 9) (.t 7), none⟩])
 (.seq [2, 4] (.reg [q5 10 (.faddr 1 (.t 2)),
 q5 11 (.load none (.t 10)),
 q5 12 (.bin .add (.t 11) (.c (.i .i64 1))),
 q5 13 (.faddr 1 (.t 2)),
 ⟨none, .store 1 (.t 13) (.t 12), none⟩])
 (.seq [4] (.reg [q5 14 (.load (some 4) (.t 2)),
 ⟨none, .store 4 (.t 4) (.t 14), none⟩])
 .ret))))
theorem ree362 : Tryz.f362.body.bind (res Tryz.prog Tryz.f362.ntmps [] []) = some (erase ae362) := by kernel_rfl
def fs362 : FnS := .fn 15 ae362 [.c 4 (some 4)]
theorem fsok362 : FnOk Tryz.prog 362 fs362 := fun _ _ _ hn h => ctr_of_resC Tryz.func362 (by kernel_rfl) ree362 (by kernel_rfl) hn h
end Go.Gl
