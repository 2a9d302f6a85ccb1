/-
 The code of functions of the program, resolved, for the evaluator (printed by wip/gen/mkclosed.py)
-/
import Derived.Test.YtfbhfdaljendcaaGreatEv7
import Derived.Test.YtfbhfdaljendcaaGreatProg
import Derived.KernelRfl
set_option linter.all false
set_option linter.unusedVariables false
set_option linter.unusedSimpArgs false
namespace Go.Gl
abbrev q1 (n : Nat) (x : AOp) : AOper := ⟨some n, x, none⟩
open Go.Proofs
abbrev ae20 : ACode := (.seq [] (.reg [q1 0 (.mv (.c (.b false)))])
 (.seq [1] (.reg [q1 15 (.call 29 [(.c (.b false))]),
 q1 1 (.alloc [(.l [] true), (.i .i64 0), (.l [] true), (.l [] true), (.l [] true), (.i .i64 0)]),
 ⟨none, .store 6 (.t 1) (.t 15), none⟩])
 (.seq [1, 2, 3] (.reg [q1 17 (.load (some 6) (.t 1)),
 q1 18 (.call 36 [(.t 17)]),
 q1 16 (.mv (.t 18)),
 q1 19 (.extract 0 (.t 16)),
 q1 20 (.extract 1 (.t 16)),
 q1 2 (.alloc [(.l [] true), (.l [] true), (.l [] true)]),
 ⟨none, .store 3 (.t 2) (.t 19), none⟩,
 q1 3 (.mv (.t 20))])
 (.seq [1, 3, 4, 5] (.reg [q1 22 (.load (some 6) (.t 1)),
 q1 23 (.load (some 3) (.t 2)),
 q1 24 (.call 30 [(.t 22), (.t 23), (.c (.i .i64 9))]),
 q1 21 (.mv (.t 24)),
 q1 25 (.extract 0 (.t 21)),
 q1 26 (.extract 1 (.t 21)),
 q1 4 (.alloc [(.i .i64 0), (.i .i64 0), (.i .i64 0), (.l [] true), (.l [] true), (.i .i64 0)]),
 ⟨none, .store 6 (.t 4) (.t 25), none⟩,
 q1 5 (.mv (.t 26))])
 (.seq [1, 3, 4, 5, 6, 7] (.dreg [1, 3, 4, 5, 6, 7] [⟨0, q1 28 (.load (some 6) (.t 1)), [], []⟩,
 ⟨1, q1 29 (.build [(.i .i64 0), (.i .i64 0), (.i .i64 0)] [(0, 1, (.c (.i .i64 1))), (2, 1, (.c (.i .i64 2)))]), [], []⟩,
 ⟨2, q1 30 (.bslice 1 2 [(.i .i64 0)] [(0, (.c (.i .i64 (-1)))), (1, (.c (.i .i64 (-1))))]), [], []⟩,
 ⟨3, q1 31 (.callp 31 [(.t 29), (.t 30)]), [], []⟩,
 ⟨4, q1 32 (.call 30 [(.t 28), (.t 31), (.c (.i .i64 9))]), [], []⟩,
 ⟨5, q1 27 (.mv (.t 32)), [], []⟩,
 ⟨6, q1 33 (.extract 0 (.t 27)), [], []⟩,
 ⟨7, q1 34 (.extract 1 (.t 27)), [], []⟩,
 ⟨8, q1 6 (.alloc [(.i .i64 0), (.i .i64 0), (.i .i64 0), (.l [] true), (.l [] true), (.i .i64 0)]), [], []⟩,
 ⟨9, ⟨none, .store 6 (.t 6) (.t 33), none⟩, [], []⟩,
 ⟨10, q1 7 (.mv (.t 34)), [], []⟩])
 (.seq [1, 3, 4, 5, 6, 7, 8, 9] (.dreg [1, 3, 4, 5, 6, 7, 8, 9] [⟨0, q1 36 (.load (some 6) (.t 1)), [], []⟩,
 ⟨1, q1 37 (.build [(.i .i64 0), (.i .i64 0), (.i .i64 0)] [(0, 1, (.c (.i .i64 2))), (2, 1, (.c (.i .i64 1)))]), [], []⟩,
 ⟨2, q1 38 (.bslice 1 2 [(.i .i64 0)] [(0, (.c (.i .i64 (-1)))), (1, (.c (.i .i64 (-1))))]), [], []⟩,
 ⟨3, q1 39 (.callp 31 [(.t 37), (.t 38)]), [], []⟩,
 ⟨4, q1 40 (.call 30 [(.t 36), (.t 39), (.c (.i .i64 9))]), [], []⟩,
 ⟨5, q1 35 (.mv (.t 40)), [], []⟩,
 ⟨6, q1 41 (.extract 0 (.t 35)), [], []⟩,
 ⟨7, q1 42 (.extract 1 (.t 35)), [], []⟩,
 ⟨8, q1 8 (.alloc [(.i .i64 0), (.i .i64 0), (.i .i64 0), (.l [] true), (.l [] true), (.i .i64 0)]), [], []⟩,
 ⟨9, ⟨none, .store 6 (.t 8) (.t 41), none⟩, [], []⟩,
 ⟨10, q1 9 (.mv (.t 42)), [], []⟩])
 (.seq [1] (.seq [1, 94] (.dreg [1, 94] [⟨0, q1 43 (.mv (.t 3)), [], []⟩,
 ⟨1, q1 44 (.bin .neq (.t 43) (.c (.i .i64 0))), [], []⟩,
 ⟨2, q1 45 (.mv (.t 44)), [], []⟩,
 ⟨3, ⟨(some 46), .mv (.t 5), (some (45, false))⟩, [], []⟩,
 ⟨4, ⟨(some 47), .bin .neq (.t 46) (.c (.i .i64 0)), (some (45, false))⟩, [], []⟩,
 ⟨5, q1 48 (.pick (.t 45) (.c (.b true)) (.t 47)), [], []⟩,
 ⟨6, q1 49 (.mv (.t 48)), [], []⟩,
 ⟨7, ⟨(some 50), .mv (.t 7), (some (49, false))⟩, [], []⟩,
 ⟨8, ⟨(some 51), .bin .neq (.t 50) (.c (.i .i64 0)), (some (49, false))⟩, [], []⟩,
 ⟨9, q1 52 (.pick (.t 49) (.c (.b true)) (.t 51)), [], []⟩,
 ⟨10, q1 53 (.mv (.t 52)), [], []⟩,
 ⟨11, ⟨(some 54), .mv (.t 9), (some (53, false))⟩, [], []⟩,
 ⟨12, ⟨(some 55), .bin .neq (.t 54) (.c (.i .i64 0)), (some (53, false))⟩, [], []⟩,
 ⟨13, q1 56 (.pick (.t 53) (.c (.b true)) (.t 55)), [], []⟩,
 ⟨14, q1 57 (.mv (.t 56)), [], []⟩,
 ⟨15, ⟨(some 58), .faddr 1 (.t 4), (some (57, false))⟩, [], []⟩,
 ⟨16, ⟨(some 59), .load (some 2) (.t 58), (some (57, false))⟩, [], []⟩,
 ⟨17, ⟨(some 60), .call 26 [(.c (.i .i64 5))], (some (57, false))⟩, [16], [⟨(some 59), .load (some 2) (.t 58), (some (57, false))⟩]⟩,
 ⟨18, ⟨(some 61), .eqf 2 true (.t 59) (.t 60), (some (57, false))⟩, [], []⟩,
 ⟨19, q1 62 (.pick (.t 57) (.c (.b true)) (.t 61)), [], []⟩,
 ⟨20, q1 63 (.mv (.t 62)), [], []⟩,
 ⟨21, ⟨(some 64), .faddr 3 (.t 4), (some (63, false))⟩, [], []⟩,
 ⟨22, ⟨(some 65), .load none (.t 64), (some (63, false))⟩, [], []⟩,
 ⟨23, ⟨(some 66), .len (.t 65), (some (63, false))⟩, [], []⟩,
 ⟨24, ⟨(some 67), .bin .neq (.t 66) (.c (.i .i64 1)), (some (63, false))⟩, [], []⟩,
 ⟨25, q1 68 (.pick (.t 63) (.c (.b true)) (.t 67)), [], []⟩,
 ⟨26, q1 69 (.mv (.t 68)), [], []⟩,
 ⟨27, ⟨(some 70), .faddr 1 (.t 6), (some (69, false))⟩, [], []⟩,
 ⟨28, ⟨(some 71), .load (some 2) (.t 70), (some (69, false))⟩, [], []⟩,
 ⟨29, ⟨(some 72), .call 26 [(.c (.i .i64 15))], (some (69, false))⟩, [28], [⟨(some 71), .load (some 2) (.t 70), (some (69, false))⟩]⟩,
 ⟨30, ⟨(some 73), .eqf 2 true (.t 71) (.t 72), (some (69, false))⟩, [], []⟩,
 ⟨31, q1 74 (.pick (.t 69) (.c (.b true)) (.t 73)), [], []⟩,
 ⟨32, q1 75 (.mv (.t 74)), [], []⟩,
 ⟨33, ⟨(some 76), .faddr 3 (.t 6), (some (75, false))⟩, [], []⟩,
 ⟨34, ⟨(some 77), .load none (.t 76), (some (75, false))⟩, [], []⟩,
 ⟨35, ⟨(some 78), .len (.t 77), (some (75, false))⟩, [], []⟩,
 ⟨36, ⟨(some 79), .bin .neq (.t 78) (.c (.i .i64 2)), (some (75, false))⟩, [], []⟩,
 ⟨37, q1 80 (.pick (.t 75) (.c (.b true)) (.t 79)), [], []⟩,
 ⟨38, q1 81 (.mv (.t 80)), [], []⟩,
 ⟨39, ⟨(some 82), .faddr 3 (.t 6), (some (81, false))⟩, [], []⟩,
 ⟨40, ⟨(some 83), .load none (.t 82), (some (81, false))⟩, [], []⟩,
 ⟨41, ⟨(some 84), .iaddr 3 none (.t 83) (.c (.i .i64 1)), (some (81, false))⟩, [], []⟩,
 ⟨42, ⟨(some 85), .faddr 1 (.t 84), (some (81, false))⟩, [], []⟩,
 ⟨43, ⟨(some 86), .load none (.t 85), (some (81, false))⟩, [], []⟩,
 ⟨44, ⟨(some 87), .bin .neq (.t 86) (.c (.i .i64 0)), (some (81, false))⟩, [], []⟩,
 ⟨45, q1 88 (.pick (.t 81) (.c (.b true)) (.t 87)), [], []⟩,
 ⟨46, q1 89 (.mv (.t 88)), [], []⟩,
 ⟨47, ⟨(some 90), .faddr 1 (.t 8), (some (89, false))⟩, [], []⟩,
 ⟨48, ⟨(some 91), .load (some 2) (.t 90), (some (89, false))⟩, [], []⟩,
 ⟨49, ⟨(some 92), .call 26 [(.c (.i .i64 10))], (some (89, false))⟩, [48], [⟨(some 91), .load (some 2) (.t 90), (some (89, false))⟩]⟩,
 ⟨50, ⟨(some 93), .eqf 2 true (.t 91) (.t 92), (some (89, false))⟩, [], []⟩,
 ⟨51, q1 94 (.pick (.t 89) (.c (.b true)) (.t 93)), [], []⟩])
 (.cond (.t 94)
 (.seq [0] (.reg [q1 0 (.mv (.c (.b false)))])
 .ret)
 .skip))
 (.seq [1, 3, 10] (.reg [q1 96 (.call 29 [(.c (.b true))]),
 q1 97 (.call 32 []),
 q1 98 (.bslice 1 2 [(.i .i64 0)] [(0, (.c (.i .i64 (-1)))), (1, (.c (.i .i64 0)))]),
 q1 99 (.callp 31 [(.t 97), (.t 98)]),
 q1 100 (.call 30 [(.t 96), (.t 99), (.c (.i .i64 9))]),
 q1 95 (.mv (.t 100)),
 q1 101 (.extract 0 (.t 95)),
 q1 102 (.extract 1 (.t 95)),
 q1 10 (.alloc [(.i .i64 0), (.i .i64 0), (.i .i64 0), (.l [] true), (.l [] true), (.i .i64 0)]),
 ⟨none, .store 6 (.t 10) (.t 101), none⟩,
 q1 3 (.mv (.t 102))])
 (.seq [3, 5, 10, 11, 12] (.dreg [3, 5, 10, 11, 12] [⟨0, q1 104 (.load (some 6) (.t 1)), [], []⟩,
 ⟨1, q1 105 (.build [(.i .i64 0), (.i .i64 0), (.i .i64 0)] [(0, 1, (.c (.i .i64 2))), (1, 1, (.c (.i .i64 1))), (2, 1, (.c (.i .i64 1)))]), [], []⟩,
 ⟨2, q1 106 (.bslice 1 2 [(.i .i64 0)] [(0, (.c (.i .i64 (-1)))), (1, (.c (.i .i64 (-1))))]), [], []⟩,
 ⟨3, q1 107 (.callp 31 [(.t 105), (.t 106)]), [], []⟩,
 ⟨4, q1 108 (.bslice 1 2 [(.i .i64 0)] [(0, (.c (.i .i64 0))), (1, (.c (.i .i64 1)))]), [], []⟩,
 ⟨5, q1 109 (.call 34 [(.t 104), (.t 107), (.t 108)]), [], []⟩,
 ⟨6, q1 103 (.mv (.t 109)), [], []⟩,
 ⟨7, q1 110 (.extract 0 (.t 103)), [], []⟩,
 ⟨8, q1 111 (.extract 1 (.t 103)), [], []⟩,
 ⟨9, q1 112 (.extract 2 (.t 103)), [], []⟩,
 ⟨10, q1 11 (.mv (.t 110)), [], []⟩,
 ⟨11, q1 12 (.mv (.t 111)), [], []⟩,
 ⟨12, q1 5 (.mv (.t 112)), [], []⟩])
 (.seq [3, 5, 7, 10, 11, 12, 13, 14] (.reg [q1 114 (.call 26 [(.c (.i .i64 4))]),
 q1 115 (.call 33 []),
 q1 116 (.call 26 [(.c (.i .i64 2))]),
 q1 117 (.bslice 2 3 [(.i .i64 0), (.i .i64 0)] [(0, (.t 114)), (1, (.t 115)), (2, (.t 116))]),
 q1 118 (.call 21 [(.c (.i .i64 5)), (.t 117)]),
 q1 113 (.mv (.t 118)),
 q1 119 (.extract 0 (.t 113)),
 q1 120 (.extract 1 (.t 113)),
 q1 121 (.extract 2 (.t 113)),
 q1 13 (.alloc [(.i .i64 0), (.i .i64 0)]),
 ⟨none, .store 2 (.t 13) (.t 119), none⟩,
 q1 14 (.mv (.t 120)),
 q1 7 (.mv (.t 121))])
 (.seq [0] (.dreg [0] [⟨0, q1 122 (.mv (.t 3)), [], []⟩,
 ⟨1, q1 123 (.bin .eql (.t 122) (.c (.i .i64 0))), [], []⟩,
 ⟨2, q1 124 (.mv (.t 123)), [], []⟩,
 ⟨3, ⟨(some 125), .mv (.t 5), (some (124, true))⟩, [], []⟩,
 ⟨4, ⟨(some 126), .bin .eql (.t 125) (.c (.i .i64 0)), (some (124, true))⟩, [], []⟩,
 ⟨5, q1 127 (.pick (.t 124) (.t 126) (.c (.b false))), [], []⟩,
 ⟨6, q1 128 (.mv (.t 127)), [], []⟩,
 ⟨7, ⟨(some 129), .mv (.t 7), (some (128, true))⟩, [], []⟩,
 ⟨8, ⟨(some 130), .bin .eql (.t 129) (.c (.i .i64 0)), (some (128, true))⟩, [], []⟩,
 ⟨9, q1 131 (.pick (.t 128) (.t 130) (.c (.b false))), [], []⟩,
 ⟨10, q1 132 (.mv (.t 131)), [], []⟩,
 ⟨11, ⟨(some 133), .faddr 1 (.t 10), (some (132, true))⟩, [], []⟩,
 ⟨12, ⟨(some 134), .load (some 2) (.t 133), (some (132, true))⟩, [], []⟩,
 ⟨13, ⟨(some 135), .call 26 [(.c (.i .i64 101))], (some (132, true))⟩, [12], [⟨(some 134), .load (some 2) (.t 133), (some (132, true))⟩]⟩,
 ⟨14, ⟨(some 136), .eqf 2 false (.t 134) (.t 135), (some (132, true))⟩, [], []⟩,
 ⟨15, q1 137 (.pick (.t 132) (.t 136) (.c (.b false))), [], []⟩,
 ⟨16, q1 138 (.mv (.t 137)), [], []⟩,
 ⟨17, ⟨(some 139), .faddr 3 (.t 10), (some (138, true))⟩, [], []⟩,
 ⟨18, ⟨(some 140), .load none (.t 139), (some (138, true))⟩, [], []⟩,
 ⟨19, ⟨(some 141), .len (.t 140), (some (138, true))⟩, [], []⟩,
 ⟨20, ⟨(some 142), .bin .eql (.t 141) (.c (.i .i64 1)), (some (138, true))⟩, [], []⟩,
 ⟨21, q1 143 (.pick (.t 138) (.t 142) (.c (.b false))), [], []⟩,
 ⟨22, q1 144 (.mv (.t 143)), [], []⟩,
 ⟨23, ⟨(some 145), .faddr 3 (.t 10), (some (144, true))⟩, [], []⟩,
 ⟨24, ⟨(some 146), .load none (.t 145), (some (144, true))⟩, [], []⟩,
 ⟨25, ⟨(some 147), .iaddr 3 none (.t 146) (.c (.i .i64 0)), (some (144, true))⟩, [], []⟩,
 ⟨26, ⟨(some 148), .faddr 1 (.t 147), (some (144, true))⟩, [], []⟩,
 ⟨27, ⟨(some 149), .load none (.t 148), (some (144, true))⟩, [], []⟩,
 ⟨28, ⟨(some 150), .bin .eql (.t 149) (.c (.i .i64 2)), (some (144, true))⟩, [], []⟩,
 ⟨29, q1 151 (.pick (.t 144) (.t 150) (.c (.b false))), [], []⟩,
 ⟨30, q1 152 (.mv (.t 151)), [], []⟩,
 ⟨31, ⟨(some 153), .mv (.t 11), (some (152, true))⟩, [], []⟩,
 ⟨32, ⟨(some 154), .bslice 1 1 [(.i .i64 0)] [(0, (.c (.i .i64 0)))], (some (152, true))⟩, [], []⟩,
 ⟨33, ⟨(some 155), .call 71 [(.t 153), (.t 154)], (some (152, true))⟩, [], []⟩,
 ⟨34, q1 156 (.pick (.t 152) (.t 155) (.c (.b false))), [], []⟩,
 ⟨35, q1 157 (.mv (.t 156)), [], []⟩,
 ⟨36, ⟨(some 158), .mv (.t 12), (some (157, true))⟩, [], []⟩,
 ⟨37, ⟨(some 159), .not (.t 158), (some (157, true))⟩, [], []⟩,
 ⟨38, q1 160 (.pick (.t 157) (.t 159) (.c (.b false))), [], []⟩,
 ⟨39, q1 161 (.mv (.t 160)), [], []⟩,
 ⟨40, ⟨(some 162), .load (some 2) (.t 13), (some (161, true))⟩, [], []⟩,
 ⟨41, ⟨(some 163), .call 33 [], (some (161, true))⟩, [40], [⟨(some 162), .load (some 2) (.t 13), (some (161, true))⟩]⟩,
 ⟨42, ⟨(some 164), .eqf 2 false (.t 162) (.t 163), (some (161, true))⟩, [], []⟩,
 ⟨43, q1 165 (.pick (.t 161) (.t 164) (.c (.b false))), [], []⟩,
 ⟨44, q1 166 (.mv (.t 165)), [], []⟩,
 ⟨45, ⟨(some 167), .mv (.t 14), (some (166, true))⟩, [], []⟩,
 ⟨46, ⟨(some 168), .bin .eql (.t 167) (.c (.i .i64 2)), (some (166, true))⟩, [], []⟩,
 ⟨47, q1 169 (.pick (.t 166) (.t 168) (.c (.b false))), [], []⟩,
 ⟨48, q1 0 (.mv (.t 169)), [], []⟩])
 .ret)))))))))))
theorem ree20 : Tryz.f20.body.bind (res Tryz.prog Tryz.f20.ntmps [31] []) = some (erase ae20) := by kernel_rfl
def fs20 : FnS := .fn 170 ae20 [.t 0]
theorem fsok20 : FnOk Tryz.prog 20 fs20 := fun _ _ _ hn h => ctr_of_resC Tryz.func20 (by kernel_rfl) ree20 (by kernel_rfl) hn h
abbrev ae29 : ACode := (.seq [0, 2] (.reg [q1 2 (.alloc [(.l [] true), (.i .i64 0), (.l [] true), (.l [] true), (.l [] true), (.i .i64 0)])])
 (.seq [0, 2, 3] (.reg [q1 4 (.bslice 1 1 [(.i .i64 0)] [(0, (.c (.i .i64 6)))]),
 q1 5 (.build [(.i .i64 0), (.i .i64 0), (.l [] true)] [(0, 1, (.c (.i .i64 5))), (2, 1, (.t 4))]),
 q1 3 (.alloc [(.i .i64 0), (.i .i64 0), (.l [] true)]),
 ⟨none, .store 3 (.t 3) (.t 5), none⟩])
 (.seq [2, 3] (.seq [2, 3, 6] (.reg [q1 6 (.mv (.t 0))])
 (.cond (.t 6)
 (.reg [q1 7 (.faddr 0 (.t 3)),
 ⟨none, .store 1 (.t 7) (.c (.i .i64 4)), none⟩])
 .skip))
 (.seq [2] (.reg [q1 8 (.bslice 1 1 [(.i .i64 0)] [(0, (.c (.i .i64 0)))]),
 q1 9 (.build [(.i .i64 0), (.i .i64 0)] [(1, 1, (.c (.i .i64 1)))]),
 q1 10 (.bslice 2 1 [(.i .i64 0), (.i .i64 0)] [(0, (.t 9))]),
 q1 11 (.build [(.l [] true), (.l [] true), (.l [] true)] [(1, 1, (.t 8)), (2, 1, (.t 10))]),
 q1 12 (.bslice 1 1 [(.i .i64 0)] [(0, (.c (.i .i64 3)))]),
 q1 13 (.build [(.l [] true), (.l [] true), (.l [] true)] [(0, 1, (.t 12))]),
 q1 14 (.bslice 3 2 [(.l [] true), (.l [] true), (.l [] true)] [(0, (.t 11)), (1, (.t 13))]),
 q1 15 (.bslice 1 2 [(.i .i64 0)] [(0, (.c (.i .i64 1))), (1, (.c (.i .i64 2)))]),
 q1 16 (.build [(.i .i64 0), (.i .i64 0), (.l [] true), (.i .i64 0), (.i .i64 0), (.l [] true)] [(0, 1, (.c (.i .i64 2))), (3, 1, (.c (.i .i64 3)))]),
 q1 17 (.build [(.i .i64 0), (.i .i64 0), (.i .i64 0), (.i .i64 0), (.l [] true), (.i .i64 0), (.i .i64 0), (.l [] true), (.i .i64 0)] [(0, 1, (.c (.i .i64 1))), (2, 6, (.t 16))]),
 q1 18 (.build [(.i .i64 0), (.i .i64 0), (.l [] true), (.i .i64 0), (.i .i64 0), (.l [] true)] [(0, 1, (.c (.i .i64 2))), (3, 1, (.c (.i .i64 4)))]),
 q1 19 (.build [(.i .i64 0), (.i .i64 0), (.i .i64 0), (.i .i64 0), (.l [] true), (.i .i64 0), (.i .i64 0), (.l [] true), (.i .i64 0)] [(0, 1, (.c (.i .i64 1))), (2, 6, (.t 18)), (8, 1, (.c (.i .i64 1)))]),
 q1 20 (.build [(.i .i64 0), (.i .i64 0), (.l [] true), (.i .i64 0), (.i .i64 0), (.l [] true)] [(0, 1, (.c (.i .i64 1)))]),
 q1 21 (.build [(.i .i64 0), (.i .i64 0), (.i .i64 0), (.i .i64 0), (.l [] true), (.i .i64 0), (.i .i64 0), (.l [] true), (.i .i64 0)] [(0, 1, (.c (.i .i64 1))), (1, 1, (.c (.i .i64 1))), (2, 6, (.t 20)), (8, 1, (.c (.i .i64 2)))]),
 q1 22 (.bslice 9 3 [(.i .i64 0), (.i .i64 0), (.i .i64 0), (.i .i64 0), (.l [] true), (.i .i64 0), (.i .i64 0), (.l [] true), (.i .i64 0)] [(0, (.t 17)), (1, (.t 19)), (2, (.t 21))]),
 q1 23 (.build [(.i .i64 0), (.i .i64 0), (.l [] true)] [(0, 1, (.c (.i .i64 1))), (1, 1, (.c (.i .i64 10)))]),
 q1 24 (.build [(.i .i64 0), (.i .i64 0), (.l [] true)] [(0, 1, (.c (.i .i64 1))), (1, 1, (.c (.i .i64 5)))]),
 q1 25 (.bslice 1 2 [(.i .i64 0)] [(0, (.c (.i .i64 3))), (1, (.c (.i .i64 4)))]),
 q1 26 (.build [(.i .i64 0), (.i .i64 0), (.l [] true)] [(0, 1, (.c (.i .i64 12))), (2, 1, (.t 25))]),
 q1 27 (.build [(.i .i64 0), (.i .i64 0), (.l [] true)] [(0, 1, (.c (.i .i64 3))), (1, 1, (.c (.i .i64 1)))]),
 q1 28 (.build [(.i .i64 0), (.i .i64 0), (.l [] true)] [(0, 1, (.c (.i .i64 1))), (1, 1, (.c (.i .i64 100)))]),
 q1 29 (.load (some 3) (.t 3)),
 q1 30 (.build [(.i .i64 0), (.i .i64 0), (.l [] true)] [(0, 1, (.c (.i .i64 6))), (1, 1, (.c (.i .i64 4)))]),
 q1 31 (.bslice 3 7 [(.i .i64 0), (.i .i64 0), (.l [] true)] [(0, (.t 23)), (1, (.t 24)), (2, (.t 26)), (3, (.t 27)), (4, (.t 28)), (5, (.t 29)), (6, (.t 30))]),
 q1 32 (.build [(.l [] true), (.i .i64 0), (.l [] true), (.l [] true), (.l [] true), (.i .i64 0)] [(0, 1, (.t 14)), (1, 1, (.c (.i .i64 1))), (2, 1, (.t 15)), (3, 1, (.t 22)), (4, 1, (.t 31)), (5, 1, (.c (.i .i64 5)))]),
 ⟨none, .store 6 (.t 2) (.t 32), none⟩])
 .ret))))
theorem ree29 : Tryz.f29.body.bind (res Tryz.prog Tryz.f29.ntmps [] []) = some (erase ae29) := by kernel_rfl
def fs29 : FnS := .fnz 33 ae29 [.c 2 (some 6)]
theorem fsok29 : FnOk Tryz.prog 29 fs29 := fun _ _ _ hn h => ctr_of_resC Tryz.func29 (by kernel_rfl) ree29 (by kernel_rfl) hn h
abbrev ae36 : ACode := (.seq [1, 2] (.reg [q1 1 (.box (.t 0)),
 q1 2 (.alloc [(.l [] true), (.l [] true), (.l [] true)]),
 q1 3 (.mv (.c (.i .i64 0)))])
 (.seq [1, 2] (.seq [1, 2, 7] (.reg [q1 5 (.load (some 6) (.t 1)),
 q1 6 (.call 94 [(.t 5)]),
 q1 7 (.bin .neq (.t 6) (.c (.i .i64 0)))])
 (.cond (.t 7)
 (.seq [2, 3] (.reg [q1 8 (.build [(.l [] true), (.l [] true), (.l [] true)] []),
 ⟨none, .store 3 (.t 2) (.t 8), none⟩,
 q1 3 (.mv (.c (.i .i64 2)))])
 .ret)
 .skip))
 (.seq [1, 2, 4] (.reg [q1 4 (.alloc [(.l [] true), (.l [] true), (.l [] true)])])
 (.seq [1, 2, 4] (.seq [1, 2, 4, 11, 12] (.reg [q1 9 (.faddr 2 (.t 1)),
 q1 10 (.load none (.t 9)),
 q1 11 (.len (.t 10)),
 q1 12 (.mv (.c (.i .i64 0)))])
 (.block 0 (.loop [1, 2, 4, 11, 12] (.seq [1, 2, 4, 11, 12, 13] (.reg [q1 13 (.bin .lss (.t 12) (.t 11))])
 (.seq [1, 2, 4, 11, 12] (.cond (.t 13)
 .skip
 (.exit 0))
 (.seq [1, 2, 4, 11, 12] (.block 1 (.reg [q1 14 (.faddr 0 (.t 4)),
 q1 15 (.load none (.t 14)),
 q1 16 (.build [(.i .i64 0), (.i .i64 0), (.i .i64 0)] [(0, 1, (.c (.i .i64 1))), (2, 1, (.c (.i .i64 1)))]),
 q1 17 (.bslice 3 1 [(.i .i64 0), (.i .i64 0), (.i .i64 0)] [(0, (.t 16))]),
 q1 18 (.append 3 24 (.t 15) (.t 17)),
 q1 19 (.faddr 0 (.t 4)),
 ⟨none, .store 1 (.t 19) (.t 18), none⟩]))
 (.reg [q1 20 (.bin .add (.t 12) (.c (.i .i64 1))),
 q1 12 (.mv (.t 20))])))))))
 (.seq [2, 4] (.seq [2, 4, 23, 24] (.reg [q1 21 (.faddr 0 (.t 1)),
 q1 22 (.load none (.t 21)),
 q1 23 (.len (.t 22)),
 q1 24 (.mv (.c (.i .i64 0)))])
 (.block 2 (.loop [2, 4, 23, 24] (.seq [2, 4, 23, 24, 25] (.reg [q1 25 (.bin .lss (.t 24) (.t 23))])
 (.seq [2, 4, 23, 24] (.cond (.t 25)
 .skip
 (.exit 2))
 (.seq [2, 4, 23, 24] (.block 3 (.reg [q1 26 (.faddr 2 (.t 4)),
 q1 27 (.load none (.t 26)),
 q1 28 (.bslice 1 1 [(.i .i64 0)] [(0, (.c (.i .i64 (-1))))]),
 q1 29 (.append 1 8 (.t 27) (.t 28)),
 q1 30 (.faddr 2 (.t 4)),
 ⟨none, .store 1 (.t 30) (.t 29), none⟩]))
 (.reg [q1 31 (.bin .add (.t 24) (.c (.i .i64 1))),
 q1 24 (.mv (.t 31))])))))))
 (.seq [2, 3] (.reg [q1 32 (.load (some 3) (.t 4)),
 ⟨none, .store 3 (.t 2) (.t 32), none⟩,
 q1 3 (.mv (.c (.i .i64 0)))])
 .ret))))))
theorem ree36 : Tryz.f36.body.bind (res Tryz.prog Tryz.f36.ntmps [] []) = some (erase ae36) := by kernel_rfl
def fs36 : FnS := .fn 33 ae36 [.c 2 (some 3), .t 3]
theorem fsok36 : FnOk Tryz.prog 36 fs36 := fun _ _ _ hn h => ctr_of_resC Tryz.func36 (by kernel_rfl) ree36 (by kernel_rfl) hn h
abbrev ae30 : ACode := (.seq [2, 3, 4, 6] (.reg [q1 3 (.box (.t 0)),
 q1 4 (.box (.t 1)),
 q1 6 (.alloc [(.i .i64 0), (.i .i64 0), (.i .i64 0), (.l [] true), (.l [] true), (.i .i64 0)]),
 q1 7 (.mv (.c (.i .i64 0)))])
 (.seq [2, 3, 4, 6] (.seq [2, 3, 4, 6, 13] (.reg [q1 10 (.load (some 6) (.t 3)),
 q1 11 (.load (some 3) (.t 4)),
 q1 12 (.call 40 [(.t 10), (.t 11)]),
 q1 13 (.bin .neq (.t 12) (.c (.i .i64 0)))])
 (.cond (.t 13)
 (.seq [6, 7] (.reg [q1 14 (.build [(.i .i64 0), (.i .i64 0), (.i .i64 0), (.l [] true), (.l [] true), (.i .i64 0)] []),
 ⟨none, .store 6 (.t 6) (.t 14), none⟩,
 q1 7 (.mv (.c (.i .i64 2)))])
 .ret)
 .skip))
 (.seq [2, 3, 4, 6] (.seq [2, 3, 4, 6, 8] (.reg [q1 15 (.mv (.t 2)),
 q1 16 (.call 86 [(.t 15)]),
 q1 8 (.mv (.t 16))])
 (.seq [2, 3, 4, 6, 8, 18] (.reg [q1 17 (.mv (.t 8)),
 q1 18 (.bin .neq (.t 17) (.c (.i .i64 0)))])
 (.cond (.t 18)
 (.seq [6, 7] (.reg [q1 19 (.build [(.i .i64 0), (.i .i64 0), (.i .i64 0), (.l [] true), (.l [] true), (.i .i64 0)] []),
 q1 20 (.mv (.t 8)),
 ⟨none, .store 6 (.t 6) (.t 19), none⟩,
 q1 7 (.mv (.t 20))])
 .ret)
 .skip)))
 (.seq [3, 6, 9] (.reg [q1 21 (.load (some 6) (.t 3)),
 q1 22 (.load (some 3) (.t 4)),
 q1 23 (.mv (.t 2)),
 q1 24 (.call 87 [(.t 21), (.t 22), (.c (.l [] true)), (.c (.i .i64 0)), (.t 23)]),
 q1 9 (.alloc [.pn]),
 ⟨none, .store 1 (.t 9) (.t 24), none⟩])
 (.seq [6, 7] (.reg [q1 25 (.load none (.t 9)),
 q1 26 (.mkf (.func 89) [] [(.t 9), (.t 3)]),
 q1 27 (.call 88 [(.t 25), (.t 26)]),
 ⟨none, .store 6 (.t 6) (.t 27), none⟩,
 q1 7 (.mv (.c (.i .i64 0)))])
 .ret)))))
theorem ree30 : Tryz.f30.body.bind (res Tryz.prog Tryz.f30.ntmps [] []) = some (erase ae30) := by kernel_rfl
def fs30 : FnS := .fn 28 ae30 [.c 6 (some 6), .t 7]
theorem fsok30 : FnOk Tryz.prog 30 fs30 := fun _ _ _ hn h => ctr_of_resC Tryz.func30 (by kernel_rfl) ree30 (by kernel_rfl) hn h
abbrev ae31 : ACode := (.seq [1, 2, 4] (.reg [q1 2 (.box (.t 0)),
 q1 4 (.alloc [(.l [] true), (.l [] true), (.l [] true)])])
 (.seq [4] (.dreg [4] [⟨0, q1 5 (.load (some 3) (.t 2)), [], []⟩,
 ⟨3, q1 8 (.build [(.i .i64 0), (.i .i64 0), (.i .i64 0), (.i .i64 0)] [(0, 1, (.c (.i .i64 (-1)))), (1, 1, (.c (.i .i64 1))), (2, 1, (.c (.i .i64 (-1)))), (3, 1, (.c (.i .i64 (-1))))]), [], []⟩,
 ⟨4, q1 9 (.bslice 4 1 [(.i .i64 0), (.i .i64 0), (.i .i64 0), (.i .i64 0)] [(0, (.t 8))]), [], []⟩,
 ⟨5, q1 10 (.mv (.t 1)), [], []⟩,
 ⟨1, q1 6 (.call 32 []), [0], [q1 5 (.load (some 3) (.t 2))]⟩,
 ⟨2, q1 7 (.bslice 3 2 [(.i .i64 0), (.i .i64 0), (.i .i64 0)] [(0, (.t 5)), (1, (.t 6))]), [], []⟩,
 ⟨6, q1 11 (.build [(.l [] true), (.l [] true), (.l [] true)] [(0, 1, (.t 7)), (1, 1, (.t 9)), (2, 1, (.t 10))]), [], []⟩,
 ⟨7, ⟨none, .store 3 (.t 4) (.t 11), none⟩, [], []⟩])
 .ret))
theorem ree31 : Tryz.f31.body.bind (res Tryz.prog Tryz.f31.ntmps [] []) = some (erase ae31) := by kernel_rfl
def fs31 : FnS := .fnz 12 ae31 [.c 4 (some 3)]
theorem fsok31 : FnOk Tryz.prog 31 fs31 := fun _ _ _ hn h => ctr_of_resC Tryz.func31 (by kernel_rfl) ree31 (by kernel_rfl) hn h
abbrev ae26 : ACode := (.seq [0, 2] (.reg [q1 2 (.alloc [(.i .i64 0), (.i .i64 0)])])
 (.seq [2] (.reg [q1 3 (.mv (.t 0)),
 q1 4 (.build [(.i .i64 0), (.i .i64 0)] [(0, 1, (.c (.i .i64 1))), (1, 1, (.t 3))]),
 ⟨none, .store 2 (.t 2) (.t 4), none⟩])
 .ret))
theorem ree26 : Tryz.f26.body.bind (res Tryz.prog Tryz.f26.ntmps [] []) = some (erase ae26) := by kernel_rfl
def fs26 : FnS := .fn 5 ae26 [.c 2 (some 2)]
theorem fsok26 : FnOk Tryz.prog 26 fs26 := fun _ _ _ hn h => ctr_of_resC Tryz.func26 (by kernel_rfl) ree26 (by kernel_rfl) hn h
abbrev ae32 : ACode := (.seq [0] (.reg [q1 0 (.alloc [(.i .i64 0), (.i .i64 0), (.i .i64 0)])])
 (.seq [0] (.reg [q1 1 (.build [(.i .i64 0), (.i .i64 0), (.i .i64 0)] [(0, 1, (.c (.i .i64 1))), (2, 1, (.c (.i .i64 1)))]),
 ⟨none, .store 3 (.t 0) (.t 1), none⟩])
 .ret))
theorem ree32 : Tryz.f32.body.bind (res Tryz.prog Tryz.f32.ntmps [] []) = some (erase ae32) := by kernel_rfl
def fs32 : FnS := .fn 2 ae32 [.c 0 (some 3)]
theorem fsok32 : FnOk Tryz.prog 32 fs32 := fun _ _ _ hn h => ctr_of_resC Tryz.func32 (by kernel_rfl) ree32 (by kernel_rfl) hn h
abbrev ae34 : ACode := (.seq [2, 3, 4] (.reg [q1 3 (.box (.t 0)),
 q1 4 (.box (.t 1)),
 q1 6 (.mv (.c (.l [] true))),
 q1 7 (.mv (.c (.b false))),
 q1 8 (.mv (.c (.i .i64 0)))])
 (.seq [2, 3, 4] (.seq [2, 3, 4, 16] (.reg [q1 13 (.load (some 6) (.t 3)),
 q1 14 (.load (some 3) (.t 4)),
 q1 15 (.call 40 [(.t 13), (.t 14)]),
 q1 16 (.bin .neq (.t 15) (.c (.i .i64 0)))])
 (.cond (.t 16)
 (.seq [6, 7, 8] (.reg [q1 6 (.mv (.c (.l [] true))),
 q1 7 (.mv (.c (.b false))),
 q1 8 (.mv (.c (.i .i64 2)))])
 .ret)
 .skip))
 (.seq [2, 3, 4, 9, 10] (.reg [q1 18 (.load (some 6) (.t 3)),
 q1 19 (.mv (.t 2)),
 q1 20 (.call 92 [(.t 18), (.t 19)]),
 q1 17 (.mv (.t 20)),
 q1 21 (.extract 0 (.t 17)),
 q1 22 (.extract 1 (.t 17)),
 q1 9 (.alloc [(.l [] true), (.b false), (.l [] true), (.l [] true), (.b false), (.l [] true)]),
 ⟨none, .store 6 (.t 9) (.t 21), none⟩,
 q1 10 (.mv (.t 22))])
 (.seq [2, 3, 4, 9] (.seq [2, 3, 4, 9, 10, 24] (.reg [q1 23 (.mv (.t 10)),
 q1 24 (.bin .neq (.t 23) (.c (.i .i64 0)))])
 (.cond (.t 24)
 (.seq [6, 7, 8] (.reg [q1 25 (.mv (.t 10)),
 q1 6 (.mv (.c (.l [] true))),
 q1 7 (.mv (.c (.b false))),
 q1 8 (.mv (.t 25))])
 .ret)
 .skip))
 (.seq [11, 12] (.dreg [11, 12] [⟨0, q1 27 (.faddr 0 (.t 4)), [], []⟩,
 ⟨1, q1 28 (.load none (.t 27)), [], []⟩,
 ⟨2, q1 29 (.faddr 3 (.t 3)), [], []⟩,
 ⟨3, q1 30 (.load none (.t 29)), [], []⟩,
 ⟨4, q1 31 (.mv (.t 2)), [], []⟩,
 ⟨5, q1 32 (.iaddr 1 none (.t 31) (.c (.i .i64 0))), [], []⟩,
 ⟨6, q1 33 (.load none (.t 32)), [], []⟩,
 ⟨7, q1 34 (.iaddr 9 none (.t 30) (.t 33)), [], []⟩,
 ⟨8, q1 35 (.faddr 1 (.t 34)), [], []⟩,
 ⟨9, q1 36 (.load none (.t 35)), [], []⟩,
 ⟨10, q1 37 (.iaddr 3 none (.t 28) (.t 36)), [], []⟩,
 ⟨11, q1 38 (.load (some 3) (.t 37)), [], []⟩,
 ⟨12, q1 39 (.load (some 6) (.t 9)), [], []⟩,
 ⟨13, q1 40 (.call 93 [(.t 38), (.t 39)]), [], []⟩,
 ⟨14, q1 26 (.mv (.t 40)), [], []⟩,
 ⟨15, q1 41 (.extract 0 (.t 26)), [], []⟩,
 ⟨16, q1 42 (.extract 1 (.t 26)), [], []⟩,
 ⟨17, q1 11 (.mv (.t 41)), [], []⟩,
 ⟨18, q1 12 (.mv (.t 42)), [], []⟩])
 (.seq [6, 7, 8] (.reg [q1 43 (.mv (.t 11)),
 q1 44 (.mv (.t 12)),
 q1 6 (.mv (.t 43)),
 q1 7 (.mv (.t 44)),
 q1 8 (.mv (.c (.i .i64 0)))])
 .ret))))))
theorem ree34 : Tryz.f34.body.bind (res Tryz.prog Tryz.f34.ntmps [] []) = some (erase ae34) := by kernel_rfl
def fs34 : FnS := .fn 45 ae34 [.t 6, .t 7, .t 8]
theorem fsok34 : FnOk Tryz.prog 34 fs34 := fun _ _ _ hn h => ctr_of_resC Tryz.func34 (by kernel_rfl) ree34 (by kernel_rfl) hn h
abbrev ae33 : ACode := (.seq [0] (.reg [q1 0 (.alloc [(.i .i64 0), (.i .i64 0)])])
 (.seq [0] (.reg [q1 1 (.build [(.i .i64 0), (.i .i64 0)] [(0, 1, (.c (.i .i64 2)))]),
 ⟨none, .store 2 (.t 0) (.t 1), none⟩])
 .ret))
theorem ree33 : Tryz.f33.body.bind (res Tryz.prog Tryz.f33.ntmps [] []) = some (erase ae33) := by kernel_rfl
def fs33 : FnS := .fn 2 ae33 [.c 0 (some 2)]
theorem fsok33 : FnOk Tryz.prog 33 fs33 := fun _ _ _ hn h => ctr_of_resC Tryz.func33 (by kernel_rfl) ree33 (by kernel_rfl) hn h
abbrev ae21 : ACode := (.seq [1, 2, 4] (.reg [q1 2 (.box (.t 0)),
 q1 4 (.alloc [(.i .i64 0), (.i .i64 0)]),
 q1 5 (.mv (.c (.i .i64 0))),
 q1 6 (.mv (.c (.i .i64 0)))])
 (.seq [1, 2, 4] (.seq [1, 2, 4, 14] (.reg [q1 8 (.load none (.t 2)),
 q1 9 (.call 76 [(.t 8)]),
 q1 10 (.not (.t 9)),
 q1 11 (.mv (.t 10)),
 ⟨(some 12), .mv (.t 1), (some (11, false))⟩,
 ⟨(some 13), .call 24 [(.t 12), (.c (.f (.func 77) [] []))], (some (11, false))⟩,
 q1 14 (.pick (.t 11) (.c (.b true)) (.t 13))])
 (.cond (.t 14)
 (.seq [4, 5, 6] (.reg [q1 15 (.build [(.i .i64 0), (.i .i64 0)] []),
 ⟨none, .store 2 (.t 4) (.t 15), none⟩,
 q1 5 (.mv (.c (.i .i64 0))),
 q1 6 (.mv (.c (.i .i64 2)))])
 .ret)
 .skip))
 (.seq [1, 2, 4] (.seq [1, 2, 4, 18] (.reg [q1 16 (.mv (.t 1)),
 q1 17 (.len (.t 16)),
 q1 18 (.bin .eql (.t 17) (.c (.i .i64 0)))])
 (.cond (.t 18)
 (.seq [4, 5, 6] (.reg [q1 19 (.build [(.i .i64 0), (.i .i64 0)] []),
 ⟨none, .store 2 (.t 4) (.t 19), none⟩,
 q1 5 (.mv (.c (.i .i64 0))),
 q1 6 (.mv (.c (.i .i64 5)))])
 .ret)
 .skip))
 (.seq [1, 2, 4, 7] (.reg [q1 20 (.mv (.t 1)),
 q1 21 (.mkf (.func 80) [] [(.t 2)]),
 q1 22 (.call 79 [(.t 20), (.t 21)]),
 q1 23 (.bin .add (.t 22) (.c (.i .i64 1))),
 q1 7 (.mv (.t 23))])
 (.seq [1, 2, 4, 7] (.seq [1, 2, 4, 7, 25] (.reg [q1 24 (.mv (.t 7)),
 q1 25 (.bin .eql (.t 24) (.c (.i .i64 0)))])
 (.cond (.t 25)
 (.reg [q1 26 (.mv (.t 1)),
 q1 27 (.len (.t 26)),
 q1 7 (.mv (.t 27))])
 .skip))
 (.seq [4, 5, 6] (.dreg [4, 5, 6] [⟨0, q1 28 (.load none (.t 2)), [], []⟩,
 ⟨1, q1 29 (.mv (.t 1)), [], []⟩,
 ⟨2, q1 30 (.mv (.t 7)), [], []⟩,
 ⟨3, q1 31 (.slice 2 (.t 29) none (some (.t 30)) none), [], []⟩,
 ⟨5, q1 33 (.mv (.t 7)), [], []⟩,
 ⟨4, q1 32 (.call 82 [(.t 28), (.t 31)]), [], []⟩,
 ⟨6, ⟨none, .store 2 (.t 4) (.t 32), none⟩, [], []⟩,
 ⟨7, q1 5 (.mv (.t 33)), [], []⟩,
 ⟨8, q1 6 (.mv (.c (.i .i64 0))), [], []⟩])
 .ret))))))
theorem ree21 : Tryz.f21.body.bind (res Tryz.prog Tryz.f21.ntmps [] []) = some (erase ae21) := by kernel_rfl
def fs21 : FnS := .fn 34 ae21 [.c 4 (some 2), .t 5, .t 6]
theorem fsok21 : FnOk Tryz.prog 21 fs21 := fun _ _ _ hn h => ctr_of_resC Tryz.func21 (by kernel_rfl) ree21 (by kernel_rfl) hn h
abbrev ae71 : ACode := (.seq [0, 1] (.reg [q1 4 (.mv (.c (.b false)))])
 (.seq [0, 1] (.seq [0, 1, 10] (.reg [q1 6 (.mv (.t 0)),
 q1 7 (.len (.t 6)),
 q1 8 (.mv (.t 1)),
 q1 9 (.len (.t 8)),
 q1 10 (.bin .neq (.t 7) (.t 9))])
 (.cond (.t 10)
 (.seq [4] (.reg [q1 4 (.mv (.c (.b false)))])
 .ret)
 .skip))
 (.seq [] (.seq [0, 1, 12, 13] (.reg [q1 11 (.mv (.t 0)),
 q1 12 (.len (.t 11)),
 q1 13 (.mv (.c (.i .i64 0)))])
 (.block 0 (.loop [0, 1, 12, 13] (.seq [0, 1, 12, 13, 14] (.reg [q1 14 (.bin .lss (.t 13) (.t 12))])
 (.seq [0, 1, 12, 13] (.cond (.t 14)
 .skip
 (.exit 0))
 (.seq [0, 1, 12, 13] (.block 1 (.seq [0, 1, 5, 12, 13] (.reg [q1 15 (.mv (.t 13)),
 q1 5 (.mv (.t 15))])
 (.seq [0, 1, 12, 13, 24] (.dreg [0, 1, 12, 13, 24] [⟨0, q1 16 (.mv (.t 0)), [], []⟩,
 ⟨1, q1 17 (.mv (.t 5)), [], []⟩,
 ⟨2, q1 18 (.iaddr 1 none (.t 16) (.t 17)), [], []⟩,
 ⟨3, q1 19 (.load none (.t 18)), [], []⟩,
 ⟨4, q1 20 (.mv (.t 1)), [], []⟩,
 ⟨5, q1 21 (.mv (.t 5)), [], []⟩,
 ⟨6, q1 22 (.iaddr 1 none (.t 20) (.t 21)), [], []⟩,
 ⟨7, q1 23 (.load none (.t 22)), [], []⟩,
 ⟨8, q1 24 (.bin .neq (.t 19) (.t 23)), [], []⟩])
 (.cond (.t 24)
 (.seq [4] (.reg [q1 4 (.mv (.c (.b false)))])
 .ret)
 .skip))))
 (.reg [q1 25 (.bin .add (.t 13) (.c (.i .i64 1))),
 q1 13 (.mv (.t 25))])))))))
 (.seq [4] (.reg [q1 4 (.mv (.c (.b true)))])
 .ret))))
theorem ree71 : Tryz.f71.body.bind (res Tryz.prog Tryz.f71.ntmps [] []) = some (erase ae71) := by kernel_rfl
def fs71 : FnS := .fn 26 ae71 [.t 4]
theorem fsok71 : FnOk Tryz.prog 71 fs71 := fun _ _ _ hn h => ctr_of_resC Tryz.func71 (by kernel_rfl) ree71 (by kernel_rfl) hn h
abbrev ae94 : ACode := (.seq [1] (.reg [q1 1 (.box (.t 0)),
 q1 2 (.mv (.c (.i .i64 0)))])
 (.seq [] (.seq [4] (.reg [q1 6 (.load (some 6) (.t 1)),
 q1 7 (.call 151 [(.t 6)]),
 q1 5 (.mv (.t 7)),
 q1 8 (.extract 0 (.t 5)),
 q1 9 (.extract 1 (.t 5)),
 q1 3 (.mv (.t 8)),
 q1 4 (.mv (.t 9))])
 (.seq [11] (.reg [q1 10 (.mv (.t 4)),
 q1 11 (.not (.t 10))])
 (.cond (.t 11)
 (.seq [2] (.reg [q1 2 (.mv (.c (.i .i64 2)))])
 .ret)
 .skip)))
 (.seq [2] (.reg [q1 2 (.mv (.c (.i .i64 0)))])
 .ret)))
theorem ree94 : Tryz.f94.body.bind (res Tryz.prog Tryz.f94.ntmps [] []) = some (erase ae94) := by kernel_rfl
def fs94 : FnS := .fn 12 ae94 [.t 2]
theorem fsok94 : FnOk Tryz.prog 94 fs94 := fun _ _ _ hn h => ctr_of_resC Tryz.func94 (by kernel_rfl) ree94 (by kernel_rfl) hn h
abbrev ae40 : ACode := (.seq [2, 3] (.reg [q1 2 (.box (.t 0)),
 q1 3 (.box (.t 1)),
 q1 4 (.mv (.c (.i .i64 0)))])
 (.seq [] (.seq [13] (.reg [q1 5 (.load (some 6) (.t 2)),
 q1 6 (.call 94 [(.t 5)]),
 q1 7 (.bin .neq (.t 6) (.c (.i .i64 0))),
 q1 8 (.mv (.t 7)),
 ⟨(some 9), .load (some 6) (.t 2), (some (8, false))⟩,
 ⟨(some 10), .load (some 3) (.t 3), (some (8, false))⟩,
 ⟨(some 11), .call 101 [(.t 9), (.t 10)], (some (8, false))⟩,
 ⟨(some 12), .not (.t 11), (some (8, false))⟩,
 q1 13 (.pick (.t 8) (.c (.b true)) (.t 12))])
 (.cond (.t 13)
 (.seq [4] (.reg [q1 4 (.mv (.c (.i .i64 2)))])
 .ret)
 .skip))
 (.seq [4] (.reg [q1 4 (.mv (.c (.i .i64 0)))])
 .ret)))
theorem ree40 : Tryz.f40.body.bind (res Tryz.prog Tryz.f40.ntmps [] []) = some (erase ae40) := by kernel_rfl
def fs40 : FnS := .fn 14 ae40 [.t 4]
theorem fsok40 : FnOk Tryz.prog 40 fs40 := fun _ _ _ hn h => ctr_of_resC Tryz.func40 (by kernel_rfl) ree40 (by kernel_rfl) hn h
abbrev ae86 : ACode := (.seq [0] (.reg [q1 2 (.mv (.c (.i .i64 0)))])
 (.seq [] (.block 0 (.seq [0, 3] (.reg [q1 4 (.mv (.t 0)),
 q1 5 (.bin .lss (.t 4) (.c (.i .i64 0))),
 q1 3 (.mv (.t 5))])
 (.cond (.t 3)
 (.seq [2] (.reg [q1 2 (.mv (.c (.i .i64 2)))])
 .ret)
 (.seq [6] (.reg [q1 7 (.mv (.t 0)),
 q1 8 (.bin .gtr (.t 7) (.c (.i .i64 300))),
 q1 6 (.mv (.t 8))])
 (.cond (.t 6)
 (.seq [2] (.reg [q1 2 (.mv (.c (.i .i64 3)))])
 .ret)
 .skip)))))
 (.seq [2] (.reg [q1 2 (.mv (.c (.i .i64 0)))])
 .ret)))
theorem ree86 : Tryz.f86.body.bind (res Tryz.prog Tryz.f86.ntmps [] []) = some (erase ae86) := by kernel_rfl
def fs86 : FnS := .fn 9 ae86 [.t 2]
theorem fsok86 : FnOk Tryz.prog 86 fs86 := fun _ _ _ hn h => ctr_of_resC Tryz.func86 (by kernel_rfl) ree86 (by kernel_rfl) hn h
abbrev ae87 : ACode := (.seq [2, 3, 4, 5, 6] (.reg [q1 5 (.box (.t 0)),
 q1 6 (.box (.t 1)),
 q1 10 (.mv (.c .pn))])
 (.seq [2, 4, 11] (.reg [q1 14 (.load (some 6) (.t 5)),
 q1 15 (.load (some 3) (.t 6)),
 q1 16 (.mv (.t 3)),
 q1 17 (.mmin (.t 16) (.c (.i .i64 4))),
 q1 18 (.mkmap),
 q1 19 (.build [(.i .i64 0), (.i .i64 0), (.i .i64 0), (.l [] true), (.l [] true), (.i .i64 0), (.l [] true), (.i .i64 0), (.l [] true), (.l [] true), (.l [] true), (.i .i64 0), (.l [] true), (.l [] true), (.l [] true), (.i .i64 0), .mn, .mn] [(6, 6, (.t 14)), (12, 3, (.t 15)), (15, 1, (.t 17)), (16, 1, (.t 18))]),
 q1 20 (.box (.t 19)),
 q1 11 (.mv (.t 20))])
 (.seq [2, 11] (.reg [q1 21 (.mv (.t 11)),
 q1 22 (.mv (.t 4)),
 q1 23 (.nilck (.t 21)),
 q1 24 (.faddr 0 (.t 23)),
 q1 25 (.faddr 5 (.t 24)),
 ⟨none, .store 1 (.t 25) (.t 22), none⟩])
 (.seq [11] (.seq [11, 26, 27, 28] (.reg [q1 26 (.mv (.t 2)),
 q1 27 (.len (.t 26)),
 q1 28 (.mv (.c (.i .i64 0)))])
 (.block 0 (.loop [11, 26, 27, 28] (.seq [11, 26, 27, 28, 29] (.reg [q1 29 (.bin .lss (.t 28) (.t 27))])
 (.seq [11, 26, 27, 28] (.cond (.t 29)
 .skip
 (.exit 0))
 (.seq [11, 26, 27, 28] (.block 1 (.seq [11, 13, 26, 27, 28] (.reg [q1 30 (.iaddr 2 none (.t 26) (.t 28)),
 q1 31 (.load (some 2) (.t 30)),
 q1 13 (.alloc [(.i .i64 0), (.l [] true)]),
 ⟨none, .store 2 (.t 13) (.t 31), none⟩])
 (.dreg [11, 26, 27, 28] [⟨0, q1 32 (.mv (.t 11)), [], []⟩,
 ⟨1, q1 33 (.mv (.t 11)), [], []⟩,
 ⟨2, q1 34 (.nilck (.t 33)), [], []⟩,
 ⟨3, q1 35 (.faddr 0 (.t 34)), [], []⟩,
 ⟨4, q1 36 (.faddr 4 (.t 35)), [], []⟩,
 ⟨5, q1 37 (.load none (.t 36)), [], []⟩,
 ⟨6, q1 38 (.faddr 0 (.t 13)), [], []⟩,
 ⟨7, q1 39 (.load none (.t 38)), [], []⟩,
 ⟨8, q1 40 (.faddr 1 (.t 13)), [], []⟩,
 ⟨9, q1 41 (.load none (.t 40)), [], []⟩,
 ⟨10, q1 42 (.call 129 [(.t 41)]), [7, 5], [q1 39 (.load none (.t 38)), q1 37 (.load none (.t 36))]⟩,
 ⟨11, q1 43 (.build [(.i .i64 0), (.l [] true)] [(0, 1, (.t 39)), (1, 1, (.t 42))]), [], []⟩,
 ⟨12, q1 44 (.bslice 2 1 [(.i .i64 0), (.l [] true)] [(0, (.t 43))]), [], []⟩,
 ⟨13, q1 45 (.append 2 32 (.t 37) (.t 44)), [], []⟩,
 ⟨14, q1 46 (.nilck (.t 32)), [], []⟩,
 ⟨15, q1 47 (.faddr 0 (.t 46)), [], []⟩,
 ⟨16, q1 48 (.faddr 4 (.t 47)), [], []⟩,
 ⟨17, ⟨none, .store 1 (.t 48) (.t 45), none⟩, [], []⟩])))
 (.reg [q1 49 (.bin .add (.t 28) (.c (.i .i64 1))),
 q1 28 (.mv (.t 49))])))))))
 (.seq [11] (.reg [q1 50 (.mv (.t 11)),
 q1 51 (.mkmap),
 ⟨none, .mapset (.i .i64) (.t 51) (.c (.i .i64 1)) (.c (.f (.func 130) [] [])), none⟩,
 ⟨none, .mapset (.i .i64) (.t 51) (.c (.i .i64 2)) (.c (.f (.func 131) [] [])), none⟩,
 ⟨none, .mapset (.i .i64) (.t 51) (.c (.i .i64 3)) (.c (.f (.func 132) [] [])), none⟩,
 ⟨none, .mapset (.i .i64) (.t 51) (.c (.i .i64 4)) (.c (.f (.func 133) [] [])), none⟩,
 ⟨none, .mapset (.i .i64) (.t 51) (.c (.i .i64 5)) (.c (.f (.func 134) [] [])), none⟩,
 ⟨none, .mapset (.i .i64) (.t 51) (.c (.i .i64 6)) (.c (.f (.func 135) [] [])), none⟩,
 ⟨none, .mapset (.i .i64) (.t 51) (.c (.i .i64 7)) (.c (.f (.func 136) [] [])), none⟩,
 ⟨none, .mapset (.i .i64) (.t 51) (.c (.i .i64 8)) (.c (.f (.func 137) [] [])), none⟩,
 ⟨none, .mapset (.i .i64) (.t 51) (.c (.i .i64 9)) (.c (.f (.func 138) [] [])), none⟩,
 ⟨none, .mapset (.i .i64) (.t 51) (.c (.i .i64 10)) (.c (.f (.func 139) [] [])), none⟩,
 ⟨none, .mapset (.i .i64) (.t 51) (.c (.i .i64 11)) (.c (.f (.func 140) [] [])), none⟩,
 ⟨none, .mapset (.i .i64) (.t 51) (.c (.i .i64 17)) (.c (.f (.func 141) [] [])), none⟩,
 ⟨none, .mapset (.i .i64) (.t 51) (.c (.i .i64 18)) (.c (.f (.func 142) [] [])), none⟩,
 ⟨none, .mapset (.i .i64) (.t 51) (.c (.i .i64 12)) (.c (.f (.func 143) [] [])), none⟩,
 ⟨none, .mapset (.i .i64) (.t 51) (.c (.i .i64 13)) (.c (.f (.func 143) [] [])), none⟩,
 ⟨none, .mapset (.i .i64) (.t 51) (.c (.i .i64 14)) (.c (.f (.func 143) [] [])), none⟩,
 ⟨none, .mapset (.i .i64) (.t 51) (.c (.i .i64 15)) (.c (.f (.func 143) [] [])), none⟩,
 ⟨none, .mapset (.i .i64) (.t 51) (.c (.i .i64 16)) (.c (.f (.func 143) [] [])), none⟩,
 q1 52 (.mv (.t 51)),
 q1 53 (.nilck (.t 50)),
 q1 54 (.faddr 17 (.t 53)),
 ⟨none, .store 1 (.t 54) (.t 52), none⟩])
 (.seq [10] (.reg [q1 55 (.mv (.t 11)),
 q1 10 (.mv (.t 55))])
 .ret))))))
theorem ree87 : Tryz.f87.body.bind (res Tryz.prog Tryz.f87.ntmps [] []) = some (erase ae87) := by kernel_rfl
def fs87 : FnS := .fn 56 ae87 [.t 10]
theorem fsok87 : FnOk Tryz.prog 87 fs87 := fun _ _ _ hn h => ctr_of_resC Tryz.func87 (by kernel_rfl) ree87 (by kernel_rfl) hn h
abbrev ae89 : ACode := (.seq [0, 1, 2] (.reg [q1 2 (.alloc [(.i .i64 0), (.i .i64 0)])])
 (.seq [2] (.reg [q1 3 (.load none (.t 0)),
 q1 4 (.faddr 5 (.t 1)),
 q1 5 (.load none (.t 4)),
 q1 6 (.load none (.t 0)),
 q1 7 (.mkf (.func 91) [(.t 6)] []),
 q1 8 (.call 90 [(.t 3), (.t 5), (.c (.l [] true)), (.t 7)]),
 ⟨none, .store 2 (.t 2) (.t 8), none⟩])
 .ret))
theorem ree89 : Tryz.f89.body.bind (res Tryz.prog Tryz.f89.ntmps [] []) = some (erase ae89) := by kernel_rfl
def fs89 : FnS := .fn 9 ae89 [.c 2 (some 2)]
theorem fsok89 : FnOk Tryz.prog 89 fs89 := fun _ _ _ hn h => ctr_of_resC Tryz.func89 (by kernel_rfl) ree89 (by kernel_rfl) hn h
abbrev acAe88 : ACode := (.reg [q1 2 (.box (.t 0)),
 q1 4 (.alloc [(.i .i64 0), (.i .i64 0), (.i .i64 0), (.l [] true), (.l [] true), (.i .i64 0)])])
def ose88 : List AOper := [q1 6 (.mkf (.func 144) [] [(.t 2), (.t 4)])]
abbrev acCe88 : ACode := (.seq [2, 4, 5] (.reg [q1 7 (.mv (.t 1)),
 q1 8 (.callv (.t 7) []),
 q1 5 (.alloc [(.i .i64 0), (.i .i64 0)]),
 ⟨none, .store 2 (.t 5) (.t 8), none⟩])
 (.seq [2, 4] (.dreg [2, 4] [⟨0, q1 9 (.load none (.t 2)), [], []⟩,
 ⟨1, q1 10 (.load none (.t 2)), [], []⟩,
 ⟨2, q1 11 (.load (some 2) (.t 5)), [], []⟩,
 ⟨3, q1 12 (.nilck (.t 9)), [], []⟩,
 ⟨4, q1 13 (.faddr 0 (.t 12)), [], []⟩,
 ⟨5, q1 14 (.faddr 0 (.t 13)), [], []⟩,
 ⟨6, ⟨none, .store 1 (.t 14) (.c (.i .i64 1)), none⟩, [2, 1], [q1 11 (.load (some 2) (.t 5)), q1 10 (.load none (.t 2))]⟩,
 ⟨7, q1 15 (.nilck (.t 10)), [], []⟩,
 ⟨8, q1 16 (.faddr 0 (.t 15)), [], []⟩,
 ⟨9, q1 17 (.faddr 1 (.t 16)), [], []⟩,
 ⟨10, ⟨none, .store 2 (.t 17) (.t 11), none⟩, [], []⟩])
 (.seq [4] (.reg [q1 18 (.load none (.t 2)),
 q1 19 (.nilck (.t 18)),
 q1 20 (.faddr 0 (.t 19)),
 q1 21 (.load (some 6) (.t 20)),
 ⟨none, .store 6 (.t 4) (.t 21), none⟩])
 .ret)))
theorem rese88 : Tryz.f88.body.bind (resDfr Tryz.prog Tryz.f88.ntmps [] []) = some (erase acAe88, ose88, (.t 6), erase acCe88) := by kernel_rfl
def fs88 : FnS := .dfr 22 acAe88 ose88 (.t 6) acCe88 [.c 4 (some 6)] [1, 2, 4] [1, 2, 4]
theorem fsok88 : FnOk Tryz.prog 88 fs88 := fun _ _ _ hn h => ctr_of_dfr Tryz.func88 (by kernel_rfl) rese88 (by kernel_rfl) hn h
abbrev ae92 : ACode := (.seq [1, 2, 4] (.reg [q1 2 (.box (.t 0)),
 q1 4 (.alloc [(.l [] true), (.b false), (.l [] true), (.l [] true), (.b false), (.l [] true)]),
 q1 5 (.mv (.c (.i .i64 0)))])
 (.seq [1, 4, 6] (.reg [q1 9 (.load (some 6) (.t 2)),
 q1 10 (.call 146 [(.t 9)]),
 q1 6 (.mv (.t 10))])
 (.seq [1, 4, 6] (.seq [1, 4, 6, 14] (.reg [q1 11 (.mv (.t 6)),
 q1 12 (.mv (.t 1)),
 q1 13 (.call 147 [(.t 11), (.t 12), (.c (.b false))]),
 q1 14 (.not (.t 13))])
 (.cond (.t 14)
 (.seq [4, 5] (.reg [q1 15 (.build [(.l [] true), (.b false), (.l [] true), (.l [] true), (.b false), (.l [] true)] []),
 ⟨none, .store 6 (.t 4) (.t 15), none⟩,
 q1 5 (.mv (.c (.i .i64 2)))])
 .ret)
 .skip))
 (.seq [4, 7, 8] (.reg [q1 17 (.mv (.t 6)),
 q1 18 (.mv (.t 1)),
 q1 19 (.call 148 [(.t 17), (.t 18)]),
 q1 16 (.mv (.t 19)),
 q1 20 (.extract 0 (.t 16)),
 q1 21 (.extract 1 (.t 16)),
 q1 7 (.alloc [(.l [] true), (.b false), (.l [] true), (.l [] true), (.b false), (.l [] true)]),
 ⟨none, .store 6 (.t 7) (.t 20), none⟩,
 q1 8 (.mv (.t 21))])
 (.seq [4, 7] (.seq [4, 7, 23] (.reg [q1 22 (.mv (.t 8)),
 q1 23 (.not (.t 22))])
 (.cond (.t 23)
 (.seq [4, 5] (.reg [q1 24 (.build [(.l [] true), (.b false), (.l [] true), (.l [] true), (.b false), (.l [] true)] []),
 ⟨none, .store 6 (.t 4) (.t 24), none⟩,
 q1 5 (.mv (.c (.i .i64 5)))])
 .ret)
 .skip))
 (.seq [4, 5] (.reg [q1 25 (.load (some 6) (.t 7)),
 ⟨none, .store 6 (.t 4) (.t 25), none⟩,
 q1 5 (.mv (.c (.i .i64 0)))])
 .ret))))))
theorem ree92 : Tryz.f92.body.bind (res Tryz.prog Tryz.f92.ntmps [] []) = some (erase ae92) := by kernel_rfl
def fs92 : FnS := .fn 26 ae92 [.c 4 (some 6), .t 5]
theorem fsok92 : FnOk Tryz.prog 92 fs92 := fun _ _ _ hn h => ctr_of_resC Tryz.func92 (by kernel_rfl) ree92 (by kernel_rfl) hn h
abbrev ae93 : ACode := (.seq [2, 3] (.reg [q1 2 (.box (.t 0)),
 q1 3 (.box (.t 1)),
 q1 4 (.mv (.c (.l [] true))),
 q1 5 (.mv (.c (.b false)))])
 (.seq [2, 3, 6] (.reg [q1 7 (.faddr 3 (.t 3)),
 q1 8 (.load none (.t 7)),
 q1 9 (.call 149 [(.t 8)]),
 q1 6 (.mv (.t 9))])
 (.seq [2, 3, 6] (.seq [2, 3, 6, 12] (.reg [q1 10 (.faddr 0 (.t 2)),
 q1 11 (.load none (.t 10)),
 q1 12 (.bin .eql (.t 11) (.c (.i .i64 2)))])
 (.cond (.t 12)
 (.seq [2, 3, 6] (.seq [2, 3, 6, 14] (.reg [q1 13 (.faddr 4 (.t 3)),
 q1 14 (.load none (.t 13))])
 (.cond (.t 14)
 (.reg [q1 6 (.mv (.c (.l [] true)))])
 .skip))
 (.reg [q1 15 (.mv (.t 6)),
 q1 16 (.call 150 [(.t 15)])]))
 .skip))
 (.seq [3, 6] (.seq [2, 3, 6, 26] (.reg [q1 17 (.faddr 1 (.t 2)),
 q1 18 (.load none (.t 17)),
 q1 19 (.bin .gtr (.t 18) (.c (.i .i64 0))),
 q1 20 (.mv (.t 19)),
 ⟨(some 21), .faddr 1 (.t 2), (some (20, true))⟩,
 ⟨(some 22), .load none (.t 21), (some (20, true))⟩,
 ⟨(some 23), .mv (.t 6), (some (20, true))⟩,
 ⟨(some 24), .len (.t 23), (some (20, true))⟩,
 ⟨(some 25), .bin .lss (.t 22) (.t 24), (some (20, true))⟩,
 q1 26 (.pick (.t 20) (.t 25) (.c (.b false)))])
 (.cond (.t 26)
 (.seq [4, 5] (.reg [q1 27 (.mv (.t 6)),
 q1 28 (.faddr 1 (.t 2)),
 q1 29 (.load none (.t 28)),
 q1 30 (.slice 1 (.t 27) none (some (.t 29)) none),
 q1 4 (.mv (.t 30)),
 q1 5 (.mv (.c (.b false)))])
 .ret)
 .skip))
 (.seq [4, 5] (.dreg [4, 5] [⟨0, q1 31 (.mv (.t 6)), [], []⟩,
 ⟨1, q1 32 (.faddr 4 (.t 3)), [], []⟩,
 ⟨2, q1 33 (.load none (.t 32)), [], []⟩,
 ⟨3, q1 4 (.mv (.t 31)), [], []⟩,
 ⟨4, q1 5 (.mv (.t 33)), [], []⟩])
 .ret)))))
theorem ree93 : Tryz.f93.body.bind (res Tryz.prog Tryz.f93.ntmps [] []) = some (erase ae93) := by kernel_rfl
def fs93 : FnS := .fn 34 ae93 [.t 4, .t 5]
theorem fsok93 : FnOk Tryz.prog 93 fs93 := fun _ _ _ hn h => ctr_of_resC Tryz.func93 (by kernel_rfl) ree93 (by kernel_rfl) hn h
abbrev ae76 : ACode := (.seq [0] (.reg [q1 2 (.mv (.c (.b false)))])
 (.seq [2] (.reg [q1 3 (.mv (.t 0)),
 q1 4 (.bin .geq (.t 3) (.c (.i .i64 1))),
 q1 5 (.mv (.t 4)),
 ⟨(some 6), .mv (.t 0), (some (5, true))⟩,
 ⟨(some 7), .bin .leq (.t 6) (.c (.i .i64 6)), (some (5, true))⟩,
 q1 8 (.pick (.t 5) (.t 7) (.c (.b false))),
 q1 2 (.mv (.t 8))])
 .ret))
theorem ree76 : Tryz.f76.body.bind (res Tryz.prog Tryz.f76.ntmps [] []) = some (erase ae76) := by kernel_rfl
def fs76 : FnS := .fn 9 ae76 [.t 2]
theorem fsok76 : FnOk Tryz.prog 76 fs76 := fun _ _ _ hn h => ctr_of_resC Tryz.func76 (by kernel_rfl) ree76 (by kernel_rfl) hn h
abbrev ae24 : ACode := (.seq [0, 1] (.reg [q1 4 (.mv (.c (.b false)))])
 (.seq [4] (.reg [q1 5 (.mv (.t 0)),
 q1 6 (.mv (.t 1)),
 q1 7 (.call 79 [(.t 5), (.t 6)]),
 q1 8 (.bin .geq (.t 7) (.c (.i .i64 0))),
 q1 4 (.mv (.t 8))])
 .ret))
theorem ree24 : Tryz.f24.body.bind (res Tryz.prog Tryz.f24.ntmps [] []) = some (erase ae24) := by kernel_rfl
def fs24 : FnS := .fn 9 ae24 [.t 4]
theorem fsok24 : FnOk Tryz.prog 24 fs24 := fun _ _ _ hn h => ctr_of_resC Tryz.func24 (by kernel_rfl) ree24 (by kernel_rfl) hn h
abbrev ae80 : ACode := (.seq [1, 2] (.reg [q1 2 (.box (.t 0)),
 q1 3 (.mv (.c (.b false)))])
 (.seq [3] (.reg [q1 4 (.load none (.t 1)),
 q1 5 (.load (some 2) (.t 2)),
 q1 6 (.call 81 [(.t 4), (.t 5)]),
 q1 3 (.mv (.t 6))])
 .ret))
theorem ree80 : Tryz.f80.body.bind (res Tryz.prog Tryz.f80.ntmps [] []) = some (erase ae80) := by kernel_rfl
def fs80 : FnS := .fn 7 ae80 [.t 3]
theorem fsok80 : FnOk Tryz.prog 80 fs80 := fun _ _ _ hn h => ctr_of_resC Tryz.func80 (by kernel_rfl) ree80 (by kernel_rfl) hn h
abbrev ae79 : ACode := (.seq [0, 1] (.reg [q1 4 (.mv (.c (.i .i64 0)))])
 (.seq [] (.seq [0, 1, 7, 8] (.reg [q1 6 (.mv (.t 0)),
 q1 7 (.len (.t 6)),
 q1 8 (.mv (.c (.i .i64 0)))])
 (.block 0 (.loop [0, 1, 7, 8] (.seq [0, 1, 7, 8, 9] (.reg [q1 9 (.bin .lss (.t 8) (.t 7))])
 (.seq [0, 1, 7, 8] (.cond (.t 9)
 .skip
 (.exit 0))
 (.seq [0, 1, 7, 8] (.block 1 (.seq [0, 1, 5, 7, 8] (.reg [q1 10 (.mv (.t 8)),
 q1 5 (.mv (.t 10))])
 (.seq [0, 1, 5, 7, 8, 16] (.reg [q1 11 (.mv (.t 1)),
 q1 12 (.mv (.t 0)),
 q1 13 (.mv (.t 5)),
 q1 14 (.iaddr 2 none (.t 12) (.t 13)),
 q1 15 (.load (some 2) (.t 14)),
 q1 16 (.callv (.t 11) [(.t 15)])])
 (.cond (.t 16)
 (.seq [4] (.reg [q1 17 (.mv (.t 5)),
 q1 4 (.mv (.t 17))])
 .ret)
 .skip))))
 (.reg [q1 18 (.bin .add (.t 8) (.c (.i .i64 1))),
 q1 8 (.mv (.t 18))])))))))
 (.seq [4] (.reg [q1 4 (.mv (.c (.i .i64 (-1))))])
 .ret)))
theorem ree79 : Tryz.f79.body.bind (res Tryz.prog Tryz.f79.ntmps [] []) = some (erase ae79) := by kernel_rfl
def fs79 : FnS := .fn 19 ae79 [.t 4]
theorem fsok79 : FnOk Tryz.prog 79 fs79 := fun _ _ _ hn h => ctr_of_resC Tryz.func79 (by kernel_rfl) ree79 (by kernel_rfl) hn h
abbrev ae82 : ACode := (.seq [0, 1, 4] (.reg [q1 4 (.alloc [(.i .i64 0), (.i .i64 0)])])
 (.seq [0, 1, 4, 5] (.reg [q1 10 (.build [.fnil, .fnil, .fnil, .fnil, .fnil, .fnil, .fnil] [(2, 1, (.c (.f (.func 125) [] []))), (3, 1, (.c (.f (.func 127) [] []))), (4, 1, (.c (.f (.func 128) [] []))), (6, 1, (.c .fnil))]),
 q1 5 (.alloc [.fnil, .fnil, .fnil, .fnil, .fnil, .fnil, .fnil]),
 ⟨none, .store 7 (.t 5) (.t 10), none⟩])
 (.seq [1, 4, 6] (.reg [q1 11 (.mv (.t 0)),
 q1 12 (.iaddr 1 (some 7) (.t 5) (.t 11)),
 q1 13 (.load none (.t 12)),
 q1 6 (.mv (.t 13))])
 (.seq [1, 4, 6] (.seq [1, 4, 6, 15] (.reg [q1 14 (.mv (.t 6)),
 q1 15 (.eqn 4 false (.t 14))])
 (.cond (.t 15)
 (.seq [4] (.reg [q1 16 (.mv (.t 1)),
 q1 17 (.mv (.t 1)),
 q1 18 (.len (.t 17)),
 q1 19 (.bin .sub (.t 18) (.c (.i .i64 1))),
 q1 20 (.iaddr 2 none (.t 16) (.t 19)),
 q1 21 (.load (some 2) (.t 20)),
 ⟨none, .store 2 (.t 4) (.t 21), none⟩])
 .ret)
 .skip))
 (.seq [1, 4, 6, 7] (.reg [q1 22 (.mv (.t 1)),
 q1 23 (.iaddr 2 none (.t 22) (.c (.i .i64 0))),
 q1 24 (.load (some 2) (.t 23)),
 q1 25 (.call 124 [(.t 24)]),
 q1 7 (.mv (.t 25))])
 (.seq [4, 7] (.seq [4, 6, 7, 27, 28, 29] (.reg [q1 26 (.mv (.t 1)),
 q1 27 (.slice 2 (.t 26) (some (.c (.i .i64 1))) none none),
 q1 28 (.len (.t 27)),
 q1 29 (.mv (.c (.i .i64 0)))])
 (.block 0 (.loop [4, 6, 7, 27, 28, 29] (.seq [4, 6, 7, 27, 28, 29, 30] (.reg [q1 30 (.bin .lss (.t 29) (.t 28))])
 (.seq [4, 6, 7, 27, 28, 29] (.cond (.t 30)
 .skip
 (.exit 0))
 (.seq [4, 6, 7, 27, 28, 29] (.block 1 (.seq [4, 6, 7, 9, 27, 28, 29] (.reg [q1 31 (.iaddr 2 none (.t 27) (.t 29)),
 q1 32 (.load (some 2) (.t 31)),
 q1 9 (.alloc [(.i .i64 0), (.i .i64 0)]),
 ⟨none, .store 2 (.t 9) (.t 32), none⟩])
 (.reg [q1 33 (.mv (.t 6)),
 q1 34 (.mv (.t 7)),
 q1 35 (.load (some 2) (.t 9)),
 q1 36 (.call 124 [(.t 35)]),
 q1 37 (.callv (.t 33) [(.t 34), (.t 36)]),
 q1 7 (.mv (.t 37))])))
 (.reg [q1 38 (.bin .add (.t 29) (.c (.i .i64 1))),
 q1 29 (.mv (.t 38))])))))))
 (.seq [4] (.reg [q1 39 (.mv (.t 7)),
 q1 40 (.call 126 [(.t 39)]),
 ⟨none, .store 2 (.t 4) (.t 40), none⟩])
 .ret)))))))
theorem ree82 : Tryz.f82.body.bind (res Tryz.prog Tryz.f82.ntmps [] []) = some (erase ae82) := by kernel_rfl
def fs82 : FnS := .fn 41 ae82 [.c 4 (some 2)]
theorem fsok82 : FnOk Tryz.prog 82 fs82 := fun _ _ _ hn h => ctr_of_resC Tryz.func82 (by kernel_rfl) ree82 (by kernel_rfl) hn h
abbrev ae77 : ACode := (.seq [1] (.reg [q1 1 (.box (.t 0)),
 q1 2 (.mv (.c (.b false)))])
 (.seq [2] (.reg [q1 3 (.load (some 2) (.t 1)),
 q1 4 (.call 78 [(.t 3)]),
 q1 5 (.not (.t 4)),
 q1 2 (.mv (.t 5))])
 .ret))
theorem ree77 : Tryz.f77.body.bind (res Tryz.prog Tryz.f77.ntmps [] []) = some (erase ae77) := by kernel_rfl
def fs77 : FnS := .fn 6 ae77 [.t 2]
theorem fsok77 : FnOk Tryz.prog 77 fs77 := fun _ _ _ hn h => ctr_of_resC Tryz.func77 (by kernel_rfl) ree77 (by kernel_rfl) hn h
abbrev ae151 : ACode := (.seq [1] (.reg [q1 1 (.box (.t 0)),
 q1 2 (.mv (.c (.l [] true))),
 q1 3 (.mv (.c (.b false)))])
 (.seq [1, 4] (.reg [q1 4 (.alloc [(.l [] true)])])
 (.seq [4, 5] (.reg [q1 6 (.mkf (.func 195) [] [(.t 1), (.t 4)]),
 q1 7 (.call 194 [(.t 6)]),
 q1 5 (.mv (.t 7))])
 (.seq [2, 3] (.reg [q1 8 (.load none (.t 4)),
 q1 9 (.mv (.t 5)),
 q1 2 (.mv (.t 8)),
 q1 3 (.mv (.t 9))])
 .ret))))
theorem ree151 : Tryz.f151.body.bind (res Tryz.prog Tryz.f151.ntmps [] []) = some (erase ae151) := by kernel_rfl
def fs151 : FnS := .fn 10 ae151 [.t 2, .t 3]
theorem fsok151 : FnOk Tryz.prog 151 fs151 := fun _ _ _ hn h => ctr_of_resC Tryz.func151 (by kernel_rfl) ree151 (by kernel_rfl) hn h
abbrev ae101 : ACode := (.seq [2, 3] (.reg [q1 2 (.box (.t 0)),
 q1 3 (.box (.t 1)),
 q1 4 (.mv (.c (.b false)))])
 (.seq [2, 3] (.seq [2, 3, 31] (.reg [q1 10 (.faddr 0 (.t 3)),
 q1 11 (.load none (.t 10)),
 q1 12 (.len (.t 11)),
 q1 13 (.faddr 2 (.t 2)),
 q1 14 (.load none (.t 13)),
 q1 15 (.len (.t 14)),
 q1 16 (.bin .neq (.t 12) (.t 15)),
 q1 17 (.mv (.t 16)),
 ⟨(some 18), .faddr 1 (.t 3), (some (17, false))⟩,
 ⟨(some 19), .load none (.t 18), (some (17, false))⟩,
 ⟨(some 20), .len (.t 19), (some (17, false))⟩,
 ⟨(some 21), .bin .gtr (.t 20) (.c (.i .i64 4)), (some (17, false))⟩,
 q1 22 (.pick (.t 17) (.c (.b true)) (.t 21)),
 q1 23 (.mv (.t 22)),
 ⟨(some 24), .faddr 2 (.t 3), (some (23, false))⟩,
 ⟨(some 25), .load none (.t 24), (some (23, false))⟩,
 ⟨(some 26), .len (.t 25), (some (23, false))⟩,
 ⟨(some 27), .faddr 0 (.t 2), (some (23, false))⟩,
 ⟨(some 28), .load none (.t 27), (some (23, false))⟩,
 ⟨(some 29), .len (.t 28), (some (23, false))⟩,
 ⟨(some 30), .bin .neq (.t 26) (.t 29), (some (23, false))⟩,
 q1 31 (.pick (.t 23) (.c (.b true)) (.t 30))])
 (.cond (.t 31)
 (.seq [4] (.reg [q1 4 (.mv (.c (.b false)))])
 .ret)
 .skip))
 (.seq [2, 3] (.seq [2, 3, 33, 34, 35] (.reg [q1 32 (.faddr 0 (.t 3)),
 q1 33 (.load none (.t 32)),
 q1 34 (.len (.t 33)),
 q1 35 (.mv (.c (.i .i64 0)))])
 (.block 0 (.loop [2, 3, 33, 34, 35] (.seq [2, 3, 33, 34, 35, 36] (.reg [q1 36 (.bin .lss (.t 35) (.t 34))])
 (.seq [2, 3, 33, 34, 35] (.cond (.t 36)
 .skip
 (.exit 0))
 (.seq [2, 3, 33, 34, 35] (.block 1 (.seq [2, 3, 6, 33, 34, 35] (.reg [q1 37 (.iaddr 3 none (.t 33) (.t 35)),
 q1 38 (.load (some 3) (.t 37)),
 q1 6 (.alloc [(.i .i64 0), (.i .i64 0), (.i .i64 0)]),
 ⟨none, .store 3 (.t 6) (.t 38), none⟩])
 (.seq [2, 3, 33, 34, 35, 62] (.reg [q1 39 (.faddr 0 (.t 6)),
 q1 40 (.load none (.t 39)),
 q1 41 (.bin .lss (.t 40) (.c (.i .i64 1))),
 q1 42 (.mv (.t 41)),
 ⟨(some 43), .faddr 0 (.t 6), (some (42, false))⟩,
 ⟨(some 44), .load none (.t 43), (some (42, false))⟩,
 ⟨(some 45), .bin .gtr (.t 44) (.c (.i .i64 2)), (some (42, false))⟩,
 q1 46 (.pick (.t 42) (.c (.b true)) (.t 45)),
 q1 47 (.mv (.t 46)),
 ⟨(some 48), .faddr 2 (.t 6), (some (47, false))⟩,
 ⟨(some 49), .load none (.t 48), (some (47, false))⟩,
 ⟨(some 50), .call 76 [(.t 49)], (some (47, false))⟩,
 ⟨(some 51), .not (.t 50), (some (47, false))⟩,
 q1 52 (.pick (.t 47) (.c (.b true)) (.t 51)),
 q1 53 (.mv (.t 52)),
 ⟨(some 54), .faddr 1 (.t 6), (some (53, false))⟩,
 ⟨(some 55), .load none (.t 54), (some (53, false))⟩,
 ⟨(some 56), .bin .lss (.t 55) (.c (.i .i64 0)), (some (53, false))⟩,
 q1 57 (.pick (.t 53) (.c (.b true)) (.t 56)),
 q1 58 (.mv (.t 57)),
 ⟨(some 59), .faddr 1 (.t 6), (some (58, false))⟩,
 ⟨(some 60), .load none (.t 59), (some (58, false))⟩,
 ⟨(some 61), .bin .gtr (.t 60) (.c (.i .i64 16)), (some (58, false))⟩,
 q1 62 (.pick (.t 58) (.c (.b true)) (.t 61))])
 (.cond (.t 62)
 (.seq [4] (.reg [q1 4 (.mv (.c (.b false)))])
 .ret)
 .skip))))
 (.reg [q1 63 (.bin .add (.t 35) (.c (.i .i64 1))),
 q1 35 (.mv (.t 63))])))))))
 (.seq [3, 7] (.reg [q1 64 (.mkf (.func 155) [] [(.t 2)]),
 q1 7 (.mv (.t 64))])
 (.seq [3] (.seq [3, 7, 66, 67, 68] (.reg [q1 65 (.faddr 1 (.t 3)),
 q1 66 (.load none (.t 65)),
 q1 67 (.len (.t 66)),
 q1 68 (.mv (.c (.i .i64 0)))])
 (.block 2 (.loop [3, 7, 66, 67, 68] (.seq [3, 7, 66, 67, 68, 69] (.reg [q1 69 (.bin .lss (.t 68) (.t 67))])
 (.seq [3, 7, 66, 67, 68] (.cond (.t 69)
 .skip
 (.exit 2))
 (.seq [3, 7, 66, 67, 68] (.block 3 (.seq [3, 7, 8, 9, 66, 67, 68] (.reg [q1 70 (.mv (.t 68)),
 q1 71 (.iaddr 4 none (.t 66) (.t 68)),
 q1 72 (.load (some 4) (.t 71)),
 q1 9 (.alloc [(.i .i64 0), (.i .i64 0), (.i .i64 0), (.i .i64 0)]),
 q1 8 (.mv (.t 70)),
 ⟨none, .store 4 (.t 9) (.t 72), none⟩])
 (.seq [3, 7, 66, 67, 68, 102] (.reg [q1 73 (.faddr 0 (.t 9)),
 q1 74 (.load none (.t 73)),
 q1 75 (.bin .lss (.t 74) (.c (.i .i64 (-1)))),
 q1 76 (.mv (.t 75)),
 ⟨(some 77), .faddr 0 (.t 9), (some (76, false))⟩,
 ⟨(some 78), .load none (.t 77), (some (76, false))⟩,
 ⟨(some 79), .mv (.t 8), (some (76, false))⟩,
 ⟨(some 80), .bin .geq (.t 78) (.t 79), (some (76, false))⟩,
 q1 81 (.pick (.t 76) (.c (.b true)) (.t 80)),
 q1 82 (.mv (.t 81)),
 ⟨(some 83), .mv (.t 7), (some (82, false))⟩,
 ⟨(some 84), .faddr 1 (.t 9), (some (82, false))⟩,
 ⟨(some 85), .load none (.t 84), (some (82, false))⟩,
 ⟨(some 86), .callv (.t 83) [(.t 85), (.c (.i .i64 2))], (some (82, false))⟩,
 ⟨(some 87), .not (.t 86), (some (82, false))⟩,
 q1 88 (.pick (.t 82) (.c (.b true)) (.t 87)),
 q1 89 (.mv (.t 88)),
 ⟨(some 90), .mv (.t 7), (some (89, false))⟩,
 ⟨(some 91), .faddr 2 (.t 9), (some (89, false))⟩,
 ⟨(some 92), .load none (.t 91), (some (89, false))⟩,
 ⟨(some 93), .callv (.t 90) [(.t 92), (.c (.i .i64 2))], (some (89, false))⟩,
 ⟨(some 94), .not (.t 93), (some (89, false))⟩,
 q1 95 (.pick (.t 89) (.c (.b true)) (.t 94)),
 q1 96 (.mv (.t 95)),
 ⟨(some 97), .mv (.t 7), (some (96, false))⟩,
 ⟨(some 98), .faddr 3 (.t 9), (some (96, false))⟩,
 ⟨(some 99), .load none (.t 98), (some (96, false))⟩,
 ⟨(some 100), .callv (.t 97) [(.t 99), (.c (.i .i64 1))], (some (96, false))⟩,
 ⟨(some 101), .not (.t 100), (some (96, false))⟩,
 q1 102 (.pick (.t 96) (.c (.b true)) (.t 101))])
 (.cond (.t 102)
 (.seq [4] (.reg [q1 4 (.mv (.c (.b false)))])
 .ret)
 .skip))))
 (.reg [q1 103 (.bin .add (.t 68) (.c (.i .i64 1))),
 q1 68 (.mv (.t 103))])))))))
 (.seq [4] (.reg [q1 104 (.faddr 2 (.t 3)),
 q1 105 (.load none (.t 104)),
 q1 106 (.mkf (.func 156) [] [(.t 3)]),
 q1 107 (.call 46 [(.t 105), (.t 106)]),
 q1 108 (.not (.t 107)),
 q1 4 (.mv (.t 108))])
 .ret))))))
theorem ree101 : Tryz.f101.body.bind (res Tryz.prog Tryz.f101.ntmps [] []) = some (erase ae101) := by kernel_rfl
def fs101 : FnS := .fn 109 ae101 [.t 4]
theorem fsok101 : FnOk Tryz.prog 101 fs101 := fun _ _ _ hn h => ctr_of_resC Tryz.func101 (by kernel_rfl) ree101 (by kernel_rfl) hn h
abbrev ae129 : ACode := (.seq [0] (.reg [q1 2 (.mv (.c (.l [] true)))])
 (.seq [2] (.reg [q1 3 (.mv (.t 0)),
 q1 4 (.append 2 16 (.c (.l [] true)) (.t 3)),
 q1 2 (.mv (.t 4))])
 .ret))
theorem ree129 : Tryz.f129.body.bind (res Tryz.prog Tryz.f129.ntmps [] []) = some (erase ae129) := by kernel_rfl
def fs129 : FnS := .fn 5 ae129 [.t 2]
theorem fsok129 : FnOk Tryz.prog 129 fs129 := fun _ _ _ hn h => ctr_of_resC Tryz.func129 (by kernel_rfl) ree129 (by kernel_rfl) hn h
abbrev ae130 : ACode := (.seq [3, 4] (.reg [q1 3 (.box (.t 1)),
 q1 4 (.alloc [(.i .i64 0), (.i .i64 0)])])
 (.seq [4] (.reg [q1 5 (.faddr 0 (.t 3)),
 q1 6 (.faddr 1 (.t 5)),
 q1 7 (.load none (.t 6)),
 q1 8 (.call 126 [(.t 7)]),
 ⟨none, .store 2 (.t 4) (.t 8), none⟩])
 .ret))
theorem ree130 : Tryz.f130.body.bind (res Tryz.prog Tryz.f130.ntmps [] []) = some (erase ae130) := by kernel_rfl
def fs130 : FnS := .fn 9 ae130 [.c 4 (some 2)]
theorem fsok130 : FnOk Tryz.prog 130 fs130 := fun _ _ _ hn h => ctr_of_resC Tryz.func130 (by kernel_rfl) ree130 (by kernel_rfl) hn h
abbrev ae131 : ACode := (.seq [4] (.reg [q1 3 (.box (.t 1)),
 q1 4 (.alloc [(.i .i64 0), (.i .i64 0)])])
 (.seq [4] (.reg [q1 5 (.build [(.i .i64 0), (.i .i64 0)] [(0, 1, (.c (.i .i64 2)))]),
 ⟨none, .store 2 (.t 4) (.t 5), none⟩])
 .ret))
theorem ree131 : Tryz.f131.body.bind (res Tryz.prog Tryz.f131.ntmps [] []) = some (erase ae131) := by kernel_rfl
def fs131 : FnS := .fn 6 ae131 [.c 4 (some 2)]
theorem fsok131 : FnOk Tryz.prog 131 fs131 := fun _ _ _ hn h => ctr_of_resC Tryz.func131 (by kernel_rfl) ree131 (by kernel_rfl) hn h
abbrev ae132 : ACode := (.seq [3, 4] (.reg [q1 3 (.box (.t 1)),
 q1 4 (.alloc [(.i .i64 0), (.i .i64 0)])])
 (.seq [4] (.reg [q1 5 (.faddr 3 (.t 3)),
 q1 6 (.load none (.t 5)),
 q1 7 (.faddr 0 (.t 3)),
 q1 8 (.faddr 1 (.t 7)),
 q1 9 (.load none (.t 8)),
 q1 10 (.iaddr 2 none (.t 6) (.t 9)),
 q1 11 (.load (some 2) (.t 10)),
 ⟨none, .store 2 (.t 4) (.t 11), none⟩])
 .ret))
theorem ree132 : Tryz.f132.body.bind (res Tryz.prog Tryz.f132.ntmps [] []) = some (erase ae132) := by kernel_rfl
def fs132 : FnS := .fn 12 ae132 [.c 4 (some 2)]
theorem fsok132 : FnOk Tryz.prog 132 fs132 := fun _ _ _ hn h => ctr_of_resC Tryz.func132 (by kernel_rfl) ree132 (by kernel_rfl) hn h
abbrev ae133 : ACode := (.seq [0, 3, 4] (.reg [q1 3 (.box (.t 1)),
 q1 4 (.alloc [(.i .i64 0), (.i .i64 0)])])
 (.seq [0, 3, 4, 5] (.reg [q1 10 (.mv (.t 0)),
 q1 11 (.load (some 5) (.t 3)),
 q1 12 (.call 182 [(.t 10), (.t 11), (.c (.i .i64 0))]),
 q1 5 (.alloc [(.i .i64 0), (.i .i64 0)]),
 ⟨none, .store 2 (.t 5) (.t 12), none⟩])
 (.seq [0, 4, 5, 6] (.reg [q1 13 (.mv (.t 0)),
 q1 14 (.load (some 2) (.t 5)),
 q1 15 (.faddr 0 (.t 3)),
 q1 16 (.faddr 1 (.t 15)),
 q1 17 (.load none (.t 16)),
 q1 18 (.call 183 [(.t 13), (.t 14), (.t 17)]),
 q1 6 (.mv (.t 18))])
 (.seq [0, 4, 5, 7] (.dreg [0, 4, 5, 7] [⟨0, q1 19 (.mv (.t 0)), [], []⟩,
 ⟨1, q1 20 (.nilck (.t 19)), [], []⟩,
 ⟨2, q1 21 (.faddr 0 (.t 20)), [], []⟩,
 ⟨3, q1 22 (.faddr 4 (.t 21)), [], []⟩,
 ⟨4, q1 23 (.load none (.t 22)), [], []⟩,
 ⟨5, q1 24 (.faddr 1 (.t 5)), [], []⟩,
 ⟨6, q1 25 (.load none (.t 24)), [], []⟩,
 ⟨7, q1 26 (.iaddr 2 none (.t 23) (.t 25)), [], []⟩,
 ⟨8, q1 27 (.faddr 1 (.t 26)), [], []⟩,
 ⟨9, q1 28 (.load none (.t 27)), [], []⟩,
 ⟨10, q1 29 (.mv (.t 6)), [], []⟩,
 ⟨11, q1 30 (.iaddr 2 none (.t 28) (.t 29)), [], []⟩,
 ⟨12, q1 31 (.load (some 2) (.t 30)), [], []⟩,
 ⟨13, q1 7 (.alloc [(.i .i64 0), (.i .i64 0)]), [], []⟩,
 ⟨14, ⟨none, .store 2 (.t 7) (.t 31), none⟩, [], []⟩])
 (.seq [4, 7] (.seq [0, 4, 5, 7, 8, 9] (.reg [q1 33 (.mv (.t 0)),
 q1 34 (.load (some 2) (.t 5)),
 q1 35 (.call 184 [(.t 33), (.t 34)]),
 q1 32 (.mv (.t 35)),
 q1 36 (.extract 0 (.t 32)),
 q1 37 (.extract 1 (.t 32)),
 q1 8 (.alloc [(.i .i64 0), (.i .i64 0), (.i .i64 0), (.i .i64 0)]),
 ⟨none, .store 4 (.t 8) (.t 36), none⟩,
 q1 9 (.mv (.t 37))])
 (.seq [0, 4, 5, 7, 8, 43] (.reg [q1 38 (.mv (.t 9)),
 q1 39 (.mv (.t 38)),
 ⟨(some 40), .faddr 1 (.t 8), (some (39, true))⟩,
 ⟨(some 41), .load none (.t 40), (some (39, true))⟩,
 ⟨(some 42), .bin .geq (.t 41) (.c (.i .i64 0)), (some (39, true))⟩,
 q1 43 (.pick (.t 39) (.t 42) (.c (.b false)))])
 (.cond (.t 43)
 (.seq [4] (.reg [q1 44 (.mv (.t 0)),
 q1 45 (.faddr 1 (.t 8)),
 q1 46 (.load none (.t 45)),
 q1 47 (.load (some 2) (.t 5)),
 q1 48 (.load (some 2) (.t 7)),
 q1 49 (.bslice 2 2 [(.i .i64 0), (.i .i64 0)] [(0, (.t 47)), (1, (.t 48))]),
 q1 50 (.call 185 [(.t 44), (.t 46), (.t 49)]),
 ⟨none, .store 2 (.t 4) (.t 50), none⟩])
 .ret)
 .skip)))
 (.seq [4] (.reg [q1 51 (.load (some 2) (.t 7)),
 ⟨none, .store 2 (.t 4) (.t 51), none⟩])
 .ret))))))
theorem ree133 : Tryz.f133.body.bind (res Tryz.prog Tryz.f133.ntmps [] []) = some (erase ae133) := by kernel_rfl
def fs133 : FnS := .fn 52 ae133 [.c 4 (some 2)]
theorem fsok133 : FnOk Tryz.prog 133 fs133 := fun _ _ _ hn h => ctr_of_resC Tryz.func133 (by kernel_rfl) ree133 (by kernel_rfl) hn h
abbrev ae134 : ACode := (.seq [0, 3, 4] (.reg [q1 3 (.box (.t 1)),
 q1 4 (.alloc [(.i .i64 0), (.i .i64 0)])])
 (.seq [0, 3, 4, 5] (.reg [q1 5 (.mv (.c (.l [] true)))])
 (.seq [0, 3, 4, 5] (.seq [0, 3, 4, 5, 10, 11] (.reg [q1 7 (.faddr 0 (.t 3)),
 q1 8 (.faddr 2 (.t 7)),
 q1 9 (.load none (.t 8)),
 q1 10 (.len (.t 9)),
 q1 11 (.mv (.c (.i .i64 0)))])
 (.block 0 (.loop [0, 3, 4, 5, 10, 11] (.seq [0, 3, 4, 5, 10, 11, 12] (.reg [q1 12 (.bin .lss (.t 11) (.t 10))])
 (.seq [0, 3, 4, 5, 10, 11] (.cond (.t 12)
 .skip
 (.exit 0))
 (.seq [0, 3, 4, 5, 10, 11] (.block 1 (.seq [0, 3, 4, 5, 6, 10, 11] (.reg [q1 13 (.mv (.t 11)),
 q1 6 (.mv (.t 13))])
 (.reg [q1 14 (.mv (.t 5)),
 q1 15 (.mv (.t 0)),
 q1 16 (.load (some 5) (.t 3)),
 q1 17 (.mv (.t 6)),
 q1 18 (.call 182 [(.t 15), (.t 16), (.t 17)]),
 q1 19 (.bslice 2 1 [(.i .i64 0), (.i .i64 0)] [(0, (.t 18))]),
 q1 20 (.append 2 16 (.t 14) (.t 19)),
 q1 5 (.mv (.t 20))])))
 (.reg [q1 21 (.bin .add (.t 11) (.c (.i .i64 1))),
 q1 11 (.mv (.t 21))])))))))
 (.seq [4] (.reg [q1 22 (.mv (.t 0)),
 q1 23 (.faddr 0 (.t 3)),
 q1 24 (.faddr 1 (.t 23)),
 q1 25 (.load none (.t 24)),
 q1 26 (.mv (.t 5)),
 q1 27 (.call 186 [(.t 22), (.t 25), (.t 26)]),
 ⟨none, .store 2 (.t 4) (.t 27), none⟩])
 .ret))))
theorem ree134 : Tryz.f134.body.bind (res Tryz.prog Tryz.f134.ntmps [] []) = some (erase ae134) := by kernel_rfl
def fs134 : FnS := .fn 28 ae134 [.c 4 (some 2)]
theorem fsok134 : FnOk Tryz.prog 134 fs134 := fun _ _ _ hn h => ctr_of_resC Tryz.func134 (by kernel_rfl) ree134 (by kernel_rfl) hn h
abbrev ae135 : ACode := (.seq [0, 3, 4] (.reg [q1 3 (.box (.t 1)),
 q1 4 (.alloc [(.i .i64 0), (.i .i64 0)])])
 (.seq [0, 3, 4] (.seq [0, 3, 4, 16] (.reg [q1 10 (.mv (.t 0)),
 q1 11 (.nilck (.t 10)),
 q1 12 (.faddr 0 (.t 11)),
 q1 13 (.faddr 4 (.t 12)),
 q1 14 (.load none (.t 13)),
 q1 15 (.len (.t 14)),
 q1 16 (.bin .geq (.t 15) (.c (.i .i64 40)))])
 (.cond (.t 16)
 (.reg [q1 17 (.mv (.t 0)),
 q1 18 (.call 145 [(.t 17), (.c (.i .i64 8))])])
 .skip))
 (.seq [0, 4, 5] (.dreg [0, 4, 5] [⟨0, q1 20 (.mv (.t 0)), [], []⟩,
 ⟨1, q1 21 (.nilck (.t 20)), [], []⟩,
 ⟨2, q1 22 (.faddr 6 (.t 21)), [], []⟩,
 ⟨3, q1 23 (.load (some 6) (.t 22)), [], []⟩,
 ⟨4, q1 24 (.faddr 0 (.t 3)), [], []⟩,
 ⟨5, q1 25 (.faddr 1 (.t 24)), [], []⟩,
 ⟨6, q1 26 (.load none (.t 25)), [], []⟩,
 ⟨7, q1 27 (.call 187 [(.t 23), (.t 26)]), [], []⟩,
 ⟨8, q1 19 (.mv (.t 27)), [], []⟩,
 ⟨9, q1 28 (.extract 0 (.t 19)), [], []⟩,
 ⟨10, q1 29 (.extract 1 (.t 19)), [], []⟩,
 ⟨11, q1 5 (.alloc [(.i .i64 0), (.l [] true)]), [], []⟩,
 ⟨12, ⟨none, .store 2 (.t 5) (.t 28), none⟩, [], []⟩,
 ⟨13, q1 6 (.mv (.t 29)), [], []⟩])
 (.seq [0, 4] (.dreg [0, 4] [⟨0, q1 30 (.mv (.t 0)), [], []⟩,
 ⟨1, q1 31 (.mv (.t 0)), [], []⟩,
 ⟨2, q1 32 (.nilck (.t 31)), [], []⟩,
 ⟨3, q1 33 (.faddr 0 (.t 32)), [], []⟩,
 ⟨4, q1 34 (.faddr 4 (.t 33)), [], []⟩,
 ⟨5, q1 35 (.load none (.t 34)), [], []⟩,
 ⟨6, q1 36 (.load (some 2) (.t 5)), [], []⟩,
 ⟨7, q1 37 (.bslice 2 1 [(.i .i64 0), (.l [] true)] [(0, (.t 36))]), [], []⟩,
 ⟨8, q1 38 (.append 2 32 (.t 35) (.t 37)), [], []⟩,
 ⟨9, q1 39 (.nilck (.t 30)), [], []⟩,
 ⟨10, q1 40 (.faddr 0 (.t 39)), [], []⟩,
 ⟨11, q1 41 (.faddr 4 (.t 40)), [], []⟩,
 ⟨12, ⟨none, .store 1 (.t 41) (.t 38), none⟩, [], []⟩])
 (.seq [0, 4, 7] (.reg [q1 42 (.mv (.t 0)),
 q1 43 (.nilck (.t 42)),
 q1 44 (.faddr 0 (.t 43)),
 q1 45 (.faddr 4 (.t 44)),
 q1 46 (.load none (.t 45)),
 q1 47 (.len (.t 46)),
 q1 48 (.bin .sub (.t 47) (.c (.i .i64 1))),
 q1 49 (.build [(.i .i64 0), (.i .i64 0)] [(0, 1, (.c (.i .i64 3))), (1, 1, (.t 48))]),
 q1 7 (.alloc [(.i .i64 0), (.i .i64 0)]),
 ⟨none, .store 2 (.t 7) (.t 49), none⟩])
 (.seq [4, 7] (.seq [0, 4, 7, 8, 9] (.reg [q1 51 (.mv (.t 0)),
 q1 52 (.load (some 2) (.t 7)),
 q1 53 (.call 184 [(.t 51), (.t 52)]),
 q1 50 (.mv (.t 53)),
 q1 54 (.extract 0 (.t 50)),
 q1 55 (.extract 1 (.t 50)),
 q1 8 (.alloc [(.i .i64 0), (.i .i64 0), (.i .i64 0), (.i .i64 0)]),
 ⟨none, .store 4 (.t 8) (.t 54), none⟩,
 q1 9 (.mv (.t 55))])
 (.seq [0, 4, 7, 8, 61] (.reg [q1 56 (.mv (.t 9)),
 q1 57 (.mv (.t 56)),
 ⟨(some 58), .faddr 3 (.t 8), (some (57, true))⟩,
 ⟨(some 59), .load none (.t 58), (some (57, true))⟩,
 ⟨(some 60), .bin .geq (.t 59) (.c (.i .i64 0)), (some (57, true))⟩,
 q1 61 (.pick (.t 57) (.t 60) (.c (.b false)))])
 (.cond (.t 61)
 (.reg [q1 62 (.mv (.t 0)),
 q1 63 (.faddr 3 (.t 8)),
 q1 64 (.load none (.t 63)),
 q1 65 (.load (some 2) (.t 7)),
 q1 66 (.bslice 2 1 [(.i .i64 0), (.i .i64 0)] [(0, (.t 65))]),
 q1 67 (.call 185 [(.t 62), (.t 64), (.t 66)])])
 .skip)))
 (.seq [4] (.reg [q1 68 (.load (some 2) (.t 7)),
 ⟨none, .store 2 (.t 4) (.t 68), none⟩])
 .ret)))))))
theorem ree135 : Tryz.f135.body.bind (res Tryz.prog Tryz.f135.ntmps [] []) = some (erase ae135) := by kernel_rfl
def fs135 : FnS := .fn 69 ae135 [.c 4 (some 2)]
theorem fsok135 : FnOk Tryz.prog 135 fs135 := fun _ _ _ hn h => ctr_of_resC Tryz.func135 (by kernel_rfl) ree135 (by kernel_rfl) hn h
abbrev ae136 : ACode := (.seq [0, 3, 4] (.reg [q1 3 (.box (.t 1)),
 q1 4 (.alloc [(.i .i64 0), (.i .i64 0)])])
 (.seq [0, 3, 4, 5] (.reg [q1 10 (.mv (.t 0)),
 q1 11 (.load (some 5) (.t 3)),
 q1 12 (.call 182 [(.t 10), (.t 11), (.c (.i .i64 0))]),
 q1 5 (.alloc [(.i .i64 0), (.i .i64 0)]),
 ⟨none, .store 2 (.t 5) (.t 12), none⟩])
 (.seq [0, 3, 4, 5, 6] (.reg [q1 13 (.mv (.t 0)),
 q1 14 (.load (some 5) (.t 3)),
 q1 15 (.call 182 [(.t 13), (.t 14), (.c (.i .i64 1))]),
 q1 6 (.alloc [(.i .i64 0), (.i .i64 0)]),
 ⟨none, .store 2 (.t 6) (.t 15), none⟩])
 (.seq [0, 3, 4, 5, 6] (.reg [q1 16 (.mv (.t 0)),
 q1 17 (.load (some 2) (.t 5)),
 q1 18 (.faddr 0 (.t 3)),
 q1 19 (.faddr 1 (.t 18)),
 q1 20 (.load none (.t 19)),
 q1 21 (.call 183 [(.t 16), (.t 17), (.t 20)])])
 (.seq [0, 3, 4, 5, 6] (.seq [0, 3, 4, 5, 6, 7, 8] (.reg [q1 23 (.mv (.t 0)),
 q1 24 (.load (some 2) (.t 5)),
 q1 25 (.call 184 [(.t 23), (.t 24)]),
 q1 22 (.mv (.t 25)),
 q1 26 (.extract 0 (.t 22)),
 q1 27 (.extract 1 (.t 22)),
 q1 7 (.alloc [(.i .i64 0), (.i .i64 0), (.i .i64 0), (.i .i64 0)]),
 ⟨none, .store 4 (.t 7) (.t 26), none⟩,
 q1 8 (.mv (.t 27))])
 (.seq [0, 3, 4, 5, 6, 7, 33] (.reg [q1 28 (.mv (.t 8)),
 q1 29 (.mv (.t 28)),
 ⟨(some 30), .faddr 2 (.t 7), (some (29, true))⟩,
 ⟨(some 31), .load none (.t 30), (some (29, true))⟩,
 ⟨(some 32), .bin .geq (.t 31) (.c (.i .i64 0)), (some (29, true))⟩,
 q1 33 (.pick (.t 29) (.t 32) (.c (.b false)))])
 (.cond (.t 33)
 (.reg [q1 34 (.mv (.t 0)),
 q1 35 (.faddr 2 (.t 7)),
 q1 36 (.load none (.t 35)),
 q1 37 (.load (some 2) (.t 5)),
 q1 38 (.load (some 2) (.t 6)),
 q1 39 (.bslice 2 2 [(.i .i64 0), (.i .i64 0)] [(0, (.t 37)), (1, (.t 38))]),
 q1 40 (.call 185 [(.t 34), (.t 36), (.t 39)]),
 ⟨none, .store 2 (.t 6) (.t 40), none⟩])
 .skip)))
 (.seq [0, 4, 5, 6, 9] (.reg [q1 41 (.mv (.t 0)),
 q1 42 (.load (some 2) (.t 5)),
 q1 43 (.faddr 0 (.t 3)),
 q1 44 (.faddr 1 (.t 43)),
 q1 45 (.load none (.t 44)),
 q1 46 (.call 183 [(.t 41), (.t 42), (.t 45)]),
 q1 9 (.mv (.t 46))])
 (.seq [4, 6] (.dreg [4, 6] [⟨0, q1 47 (.mv (.t 0)), [], []⟩,
 ⟨1, q1 48 (.nilck (.t 47)), [], []⟩,
 ⟨2, q1 49 (.faddr 0 (.t 48)), [], []⟩,
 ⟨3, q1 50 (.faddr 4 (.t 49)), [], []⟩,
 ⟨4, q1 51 (.load none (.t 50)), [], []⟩,
 ⟨5, q1 52 (.faddr 1 (.t 5)), [], []⟩,
 ⟨6, q1 53 (.load none (.t 52)), [], []⟩,
 ⟨7, q1 54 (.iaddr 2 none (.t 51) (.t 53)), [], []⟩,
 ⟨8, q1 55 (.faddr 1 (.t 54)), [], []⟩,
 ⟨9, q1 56 (.load none (.t 55)), [], []⟩,
 ⟨10, q1 57 (.mv (.t 9)), [], []⟩,
 ⟨11, q1 58 (.load (some 2) (.t 6)), [], []⟩,
 ⟨12, q1 59 (.iaddr 2 none (.t 56) (.t 57)), [], []⟩,
 ⟨13, ⟨none, .store 2 (.t 59) (.t 58), none⟩, [], []⟩])
 (.seq [4] (.reg [q1 60 (.load (some 2) (.t 6)),
 ⟨none, .store 2 (.t 4) (.t 60), none⟩])
 .ret))))))))
theorem ree136 : Tryz.f136.body.bind (res Tryz.prog Tryz.f136.ntmps [] []) = some (erase ae136) := by kernel_rfl
def fs136 : FnS := .fn 61 ae136 [.c 4 (some 2)]
theorem fsok136 : FnOk Tryz.prog 136 fs136 := fun _ _ _ hn h => ctr_of_resC Tryz.func136 (by kernel_rfl) ree136 (by kernel_rfl) hn h
abbrev ae137 : ACode := (.seq [0, 3, 4] (.reg [q1 3 (.box (.t 1)),
 q1 4 (.alloc [(.i .i64 0), (.i .i64 0)])])
 (.seq [0, 3, 4, 5] (.reg [q1 6 (.mv (.t 0)),
 q1 7 (.load (some 5) (.t 3)),
 q1 8 (.call 182 [(.t 6), (.t 7), (.c (.i .i64 0))]),
 q1 5 (.alloc [(.i .i64 0), (.i .i64 0)]),
 ⟨none, .store 2 (.t 5) (.t 8), none⟩])
 (.seq [0, 3, 4, 5] (.seq [0, 3, 4, 5, 11] (.reg [q1 9 (.faddr 0 (.t 5)),
 q1 10 (.load none (.t 9)),
 q1 11 (.bin .neq (.t 10) (.c (.i .i64 3)))])
 (.cond (.t 11)
 (.reg [q1 12 (.mv (.t 0)),
 q1 13 (.call 145 [(.t 12), (.c (.i .i64 6))])])
 .skip))
 (.seq [4, 5] (.dreg [4, 5] [⟨0, q1 15 (.mv (.t 0)), [], []⟩,
 ⟨1, q1 16 (.mv (.t 0)), [], []⟩,
 ⟨2, q1 17 (.nilck (.t 16)), [], []⟩,
 ⟨3, q1 18 (.faddr 6 (.t 17)), [], []⟩,
 ⟨4, q1 19 (.load (some 6) (.t 18)), [], []⟩,
 ⟨5, q1 20 (.mv (.t 0)), [], []⟩,
 ⟨6, q1 21 (.nilck (.t 20)), [], []⟩,
 ⟨7, q1 22 (.faddr 0 (.t 21)), [], []⟩,
 ⟨8, q1 23 (.faddr 4 (.t 22)), [], []⟩,
 ⟨9, q1 24 (.load none (.t 23)), [], []⟩,
 ⟨10, q1 25 (.faddr 1 (.t 5)), [], []⟩,
 ⟨11, q1 26 (.load none (.t 25)), [], []⟩,
 ⟨12, q1 27 (.faddr 0 (.t 3)), [], []⟩,
 ⟨13, q1 28 (.faddr 1 (.t 27)), [], []⟩,
 ⟨14, q1 29 (.load none (.t 28)), [], []⟩,
 ⟨15, q1 30 (.call 188 [(.t 19), (.t 24), (.t 26), (.t 29)]), [], []⟩,
 ⟨16, q1 14 (.mv (.t 30)), [], []⟩,
 ⟨17, q1 31 (.extract 0 (.t 14)), [], []⟩,
 ⟨18, q1 32 (.extract 1 (.t 14)), [], []⟩,
 ⟨19, q1 33 (.nilck (.t 15)), [], []⟩,
 ⟨20, q1 34 (.faddr 0 (.t 33)), [], []⟩,
 ⟨21, q1 35 (.faddr 4 (.t 34)), [], []⟩,
 ⟨22, ⟨none, .store 1 (.t 35) (.t 31), none⟩, [], []⟩])
 (.seq [4] (.reg [q1 36 (.load (some 2) (.t 5)),
 ⟨none, .store 2 (.t 4) (.t 36), none⟩])
 .ret)))))
theorem ree137 : Tryz.f137.body.bind (res Tryz.prog Tryz.f137.ntmps [] []) = some (erase ae137) := by kernel_rfl
def fs137 : FnS := .fn 37 ae137 [.c 4 (some 2)]
theorem fsok137 : FnOk Tryz.prog 137 fs137 := fun _ _ _ hn h => ctr_of_resC Tryz.func137 (by kernel_rfl) ree137 (by kernel_rfl) hn h
abbrev ae138 : ACode := (.seq [0, 3, 4] (.reg [q1 3 (.box (.t 1)),
 q1 4 (.alloc [(.i .i64 0), (.i .i64 0)])])
 (.seq [0, 3, 4, 5] (.reg [q1 6 (.mv (.t 0)),
 q1 7 (.load (some 5) (.t 3)),
 q1 8 (.call 182 [(.t 6), (.t 7), (.c (.i .i64 0))]),
 q1 5 (.alloc [(.i .i64 0), (.i .i64 0)]),
 ⟨none, .store 2 (.t 5) (.t 8), none⟩])
 (.seq [4] (.dreg [4] [⟨0, q1 9 (.mv (.t 0)), [], []⟩,
 ⟨1, q1 10 (.faddr 0 (.t 3)), [], []⟩,
 ⟨2, q1 11 (.faddr 2 (.t 10)), [], []⟩,
 ⟨3, q1 12 (.load none (.t 11)), [], []⟩,
 ⟨4, q1 13 (.iaddr 1 none (.t 12) (.c (.i .i64 1))), [], []⟩,
 ⟨5, q1 14 (.load none (.t 13)), [], []⟩,
 ⟨6, q1 15 (.faddr 3 (.t 3)), [], []⟩,
 ⟨7, q1 16 (.load none (.t 15)), [], []⟩,
 ⟨9, q1 18 (.load (some 2) (.t 5)), [], []⟩,
 ⟨10, q1 19 (.bslice 2 1 [(.i .i64 0), (.i .i64 0)] [(0, (.t 18))]), [], []⟩,
 ⟨12, q1 21 (.faddr 4 (.t 3)), [], []⟩,
 ⟨13, q1 22 (.load none (.t 21)), [], []⟩,
 ⟨8, q1 17 (.call 189 [(.t 16)]), [13, 9, 5, 3], [q1 22 (.load none (.t 21)), q1 18 (.load (some 2) (.t 5)), q1 14 (.load none (.t 13)), q1 12 (.load none (.t 11))]⟩,
 ⟨11, q1 20 (.append 2 16 (.t 17) (.t 19)), [13, 5, 3], [q1 22 (.load none (.t 21)), q1 14 (.load none (.t 13)), q1 12 (.load none (.t 11))]⟩,
 ⟨14, q1 23 (.call 90 [(.t 9), (.t 14), (.t 20), (.t 22)]), [], []⟩,
 ⟨15, ⟨none, .store 2 (.t 4) (.t 23), none⟩, [], []⟩])
 .ret)))
theorem ree138 : Tryz.f138.body.bind (res Tryz.prog Tryz.f138.ntmps [] []) = some (erase ae138) := by kernel_rfl
def fs138 : FnS := .fn 24 ae138 [.c 4 (some 2)]
theorem fsok138 : FnOk Tryz.prog 138 fs138 := fun _ _ _ hn h => ctr_of_resC Tryz.func138 (by kernel_rfl) ree138 (by kernel_rfl) hn h
abbrev ae139 : ACode := (.seq [0, 3, 4] (.reg [q1 3 (.box (.t 1)),
 q1 4 (.alloc [(.i .i64 0), (.i .i64 0)])])
 (.seq [0, 3, 4] (.seq [0, 3, 4, 9] (.reg [q1 5 (.mv (.t 0)),
 q1 6 (.load (some 5) (.t 3)),
 q1 7 (.call 182 [(.t 5), (.t 6), (.c (.i .i64 0))]),
 q1 8 (.call 124 [(.t 7)]),
 q1 9 (.bin .neq (.t 8) (.c (.i .i64 0)))])
 (.cond (.t 9)
 (.seq [4] (.reg [q1 10 (.mv (.t 0)),
 q1 11 (.load (some 5) (.t 3)),
 q1 12 (.call 182 [(.t 10), (.t 11), (.c (.i .i64 1))]),
 ⟨none, .store 2 (.t 4) (.t 12), none⟩])
 .ret)
 .skip))
 (.seq [4] (.reg [q1 13 (.mv (.t 0)),
 q1 14 (.load (some 5) (.t 3)),
 q1 15 (.call 182 [(.t 13), (.t 14), (.c (.i .i64 2))]),
 ⟨none, .store 2 (.t 4) (.t 15), none⟩])
 .ret)))
theorem ree139 : Tryz.f139.body.bind (res Tryz.prog Tryz.f139.ntmps [] []) = some (erase ae139) := by kernel_rfl
def fs139 : FnS := .fn 16 ae139 [.c 4 (some 2)]
theorem fsok139 : FnOk Tryz.prog 139 fs139 := fun _ _ _ hn h => ctr_of_resC Tryz.func139 (by kernel_rfl) ree139 (by kernel_rfl) hn h
abbrev ae140 : ACode := (.seq [0, 3, 4] (.reg [q1 3 (.box (.t 1)),
 q1 4 (.alloc [(.i .i64 0), (.i .i64 0)])])
 (.seq [0, 3, 4] (.reg [q1 5 (.mv (.t 0)),
 q1 6 (.load (some 5) (.t 3)),
 q1 7 (.call 182 [(.t 5), (.t 6), (.c (.i .i64 0))])])
 (.seq [4] (.reg [q1 8 (.mv (.t 0)),
 q1 9 (.load (some 5) (.t 3)),
 q1 10 (.call 182 [(.t 8), (.t 9), (.c (.i .i64 1))]),
 ⟨none, .store 2 (.t 4) (.t 10), none⟩])
 .ret)))
theorem ree140 : Tryz.f140.body.bind (res Tryz.prog Tryz.f140.ntmps [] []) = some (erase ae140) := by kernel_rfl
def fs140 : FnS := .fn 11 ae140 [.c 4 (some 2)]
theorem fsok140 : FnOk Tryz.prog 140 fs140 := fun _ _ _ hn h => ctr_of_resC Tryz.func140 (by kernel_rfl) ree140 (by kernel_rfl) hn h
abbrev ae141 : ACode := (.seq [0, 3, 4] (.reg [q1 3 (.box (.t 1)),
 q1 4 (.alloc [(.i .i64 0), (.i .i64 0)])])
 (.seq [0, 4, 5] (.reg [q1 6 (.mv (.t 0)),
 q1 7 (.load (some 5) (.t 3)),
 q1 8 (.call 182 [(.t 6), (.t 7), (.c (.i .i64 0))]),
 q1 5 (.alloc [(.i .i64 0), (.i .i64 0)]),
 ⟨none, .store 2 (.t 5) (.t 8), none⟩])
 (.seq [4, 5] (.dreg [4, 5] [⟨0, q1 9 (.mv (.t 0)), [], []⟩,
 ⟨1, q1 10 (.mv (.t 0)), [], []⟩,
 ⟨2, q1 11 (.nilck (.t 10)), [], []⟩,
 ⟨3, q1 12 (.faddr 0 (.t 11)), [], []⟩,
 ⟨4, q1 13 (.faddr 3 (.t 12)), [], []⟩,
 ⟨5, q1 14 (.load none (.t 13)), [], []⟩,
 ⟨6, q1 15 (.load (some 2) (.t 5)), [], []⟩,
 ⟨7, q1 16 (.bslice 2 1 [(.i .i64 0), (.i .i64 0)] [(0, (.t 15))]), [], []⟩,
 ⟨8, q1 17 (.build [(.i .i64 0), (.i .i64 0), (.l [] true)] [(0, 1, (.c (.i .i64 2))), (2, 1, (.t 16))]), [], []⟩,
 ⟨9, q1 18 (.bslice 3 1 [(.i .i64 0), (.i .i64 0), (.l [] true)] [(0, (.t 17))]), [], []⟩,
 ⟨10, q1 19 (.append 3 40 (.t 14) (.t 18)), [], []⟩,
 ⟨11, q1 20 (.nilck (.t 9)), [], []⟩,
 ⟨12, q1 21 (.faddr 0 (.t 20)), [], []⟩,
 ⟨13, q1 22 (.faddr 3 (.t 21)), [], []⟩,
 ⟨14, ⟨none, .store 1 (.t 22) (.t 19), none⟩, [], []⟩])
 (.seq [4] (.reg [q1 23 (.load (some 2) (.t 5)),
 ⟨none, .store 2 (.t 4) (.t 23), none⟩])
 .ret))))
theorem ree141 : Tryz.f141.body.bind (res Tryz.prog Tryz.f141.ntmps [] []) = some (erase ae141) := by kernel_rfl
def fs141 : FnS := .fn 24 ae141 [.c 4 (some 2)]
theorem fsok141 : FnOk Tryz.prog 141 fs141 := fun _ _ _ hn h => ctr_of_resC Tryz.func141 (by kernel_rfl) ree141 (by kernel_rfl) hn h
abbrev ae142 : ACode := (.seq [3, 4] (.reg [q1 3 (.box (.t 1)),
 q1 4 (.alloc [(.i .i64 0), (.i .i64 0)])])
 (.seq [4] (.reg [q1 5 (.faddr 4 (.t 3)),
 q1 6 (.load none (.t 5)),
 q1 7 (.callv (.t 6) []),
 ⟨none, .store 2 (.t 4) (.t 7), none⟩])
 .ret))
theorem ree142 : Tryz.f142.body.bind (res Tryz.prog Tryz.f142.ntmps [] []) = some (erase ae142) := by kernel_rfl
def fs142 : FnS := .fn 8 ae142 [.c 4 (some 2)]
theorem fsok142 : FnOk Tryz.prog 142 fs142 := fun _ _ _ hn h => ctr_of_resC Tryz.func142 (by kernel_rfl) ree142 (by kernel_rfl) hn h
abbrev ae143 : ACode := (.seq [0, 3, 4] (.reg [q1 3 (.box (.t 1)),
 q1 4 (.alloc [(.i .i64 0), (.i .i64 0)])])
 (.seq [0, 3, 4, 5] (.reg [q1 8 (.mv (.t 0)),
 q1 9 (.load (some 5) (.t 3)),
 q1 10 (.call 182 [(.t 8), (.t 9), (.c (.i .i64 0))]),
 q1 5 (.alloc [(.i .i64 0), (.i .i64 0)]),
 ⟨none, .store 2 (.t 5) (.t 10), none⟩])
 (.seq [3, 4, 5, 6] (.reg [q1 11 (.mv (.t 0)),
 q1 12 (.load (some 5) (.t 3)),
 q1 13 (.call 182 [(.t 11), (.t 12), (.c (.i .i64 1))]),
 q1 6 (.alloc [(.i .i64 0), (.i .i64 0)]),
 ⟨none, .store 2 (.t 6) (.t 13), none⟩])
 (.seq [3, 4, 5, 6, 7] (.reg [q1 7 (.mv (.c (.b false)))])
 (.seq [4, 7] (.seq [4, 5, 6, 7, 16] (.reg [q1 14 (.faddr 0 (.t 3)),
 q1 15 (.faddr 0 (.t 14)),
 q1 16 (.load none (.t 15))])
 (.block 0 (.seq [4, 5, 6, 7, 16, 17] (.reg [q1 18 (.bin .eql (.t 16) (.c (.i .i64 12))),
 q1 17 (.mv (.t 18))])
 (.cond (.t 17)
 (.seq [4] (.dreg [4] [⟨0, q1 19 (.load (some 2) (.t 5)), [], []⟩,
 ⟨2, q1 21 (.load (some 2) (.t 6)), [], []⟩,
 ⟨1, q1 20 (.call 124 [(.t 19)]), [2], [q1 21 (.load (some 2) (.t 6))]⟩,
 ⟨3, q1 22 (.call 124 [(.t 21)]), [], []⟩,
 ⟨4, q1 23 (.bin .add (.t 20) (.t 22)), [], []⟩,
 ⟨5, q1 24 (.call 126 [(.t 23)]), [], []⟩,
 ⟨6, ⟨none, .store 2 (.t 4) (.t 24), none⟩, [], []⟩])
 .ret)
 (.seq [4, 5, 6, 7, 16, 25] (.reg [q1 26 (.bin .eql (.t 16) (.c (.i .i64 13))),
 q1 25 (.mv (.t 26))])
 (.cond (.t 25)
 (.seq [4] (.dreg [4] [⟨0, q1 27 (.load (some 2) (.t 5)), [], []⟩,
 ⟨2, q1 29 (.load (some 2) (.t 6)), [], []⟩,
 ⟨1, q1 28 (.call 124 [(.t 27)]), [2], [q1 29 (.load (some 2) (.t 6))]⟩,
 ⟨3, q1 30 (.call 124 [(.t 29)]), [], []⟩,
 ⟨4, q1 31 (.bin .sub (.t 28) (.t 30)), [], []⟩,
 ⟨5, q1 32 (.call 126 [(.t 31)]), [], []⟩,
 ⟨6, ⟨none, .store 2 (.t 4) (.t 32), none⟩, [], []⟩])
 .ret)
 (.seq [4, 5, 6, 7, 16, 33] (.reg [q1 34 (.bin .eql (.t 16) (.c (.i .i64 14))),
 q1 33 (.mv (.t 34))])
 (.cond (.t 33)
 (.seq [4] (.dreg [4] [⟨0, q1 35 (.load (some 2) (.t 5)), [], []⟩,
 ⟨2, q1 37 (.load (some 2) (.t 6)), [], []⟩,
 ⟨1, q1 36 (.call 124 [(.t 35)]), [2], [q1 37 (.load (some 2) (.t 6))]⟩,
 ⟨3, q1 38 (.call 124 [(.t 37)]), [], []⟩,
 ⟨4, q1 39 (.bin .mul (.t 36) (.t 38)), [], []⟩,
 ⟨5, q1 40 (.call 126 [(.t 39)]), [], []⟩,
 ⟨6, ⟨none, .store 2 (.t 4) (.t 40), none⟩, [], []⟩])
 .ret)
 (.seq [4, 5, 6, 7, 16, 41] (.reg [q1 42 (.bin .eql (.t 16) (.c (.i .i64 15))),
 q1 41 (.mv (.t 42))])
 (.cond (.t 41)
 (.dreg [4, 7] [⟨0, q1 43 (.load (some 2) (.t 5)), [], []⟩,
 ⟨2, q1 45 (.load (some 2) (.t 6)), [], []⟩,
 ⟨1, q1 44 (.call 124 [(.t 43)]), [2], [q1 45 (.load (some 2) (.t 6))]⟩,
 ⟨3, q1 46 (.call 124 [(.t 45)]), [], []⟩,
 ⟨4, q1 47 (.bin .lss (.t 44) (.t 46)), [], []⟩,
 ⟨5, q1 7 (.mv (.t 47)), [], []⟩])
 (.seq [4, 5, 6, 7, 48] (.reg [q1 49 (.bin .eql (.t 16) (.c (.i .i64 16))),
 q1 48 (.mv (.t 49))])
 (.cond (.t 48)
 (.reg [q1 50 (.load (some 2) (.t 5)),
 q1 51 (.load (some 2) (.t 6)),
 q1 52 (.eqf 2 false (.t 50) (.t 51)),
 q1 7 (.mv (.t 52))])
 .skip))))))))))))
 (.seq [4] (.seq [4, 53] (.reg [q1 53 (.mv (.t 7))])
 (.cond (.t 53)
 (.seq [4] (.reg [q1 54 (.call 126 [(.c (.i .i64 1))]),
 ⟨none, .store 2 (.t 4) (.t 54), none⟩])
 .ret)
 .skip))
 (.seq [4] (.reg [q1 55 (.call 126 [(.c (.i .i64 0))]),
 ⟨none, .store 2 (.t 4) (.t 55), none⟩])
 .ret)))))))
theorem ree143 : Tryz.f143.body.bind (res Tryz.prog Tryz.f143.ntmps [] []) = some (erase ae143) := by kernel_rfl
def fs143 : FnS := .fn 56 ae143 [.c 4 (some 2)]
theorem fsok143 : FnOk Tryz.prog 143 fs143 := fun _ _ _ hn h => ctr_of_resC Tryz.func143 (by kernel_rfl) ree143 (by kernel_rfl) hn h
abbrev ae91 : ACode := (.seq [0, 2] (.reg [q1 2 (.alloc [(.i .i64 0), (.i .i64 0)])])
 (.seq [2] (.reg [q1 3 (.mv (.t 0)),
 q1 4 (.call 145 [(.t 3), (.c (.i .i64 4))]),
 ⟨none, .store 2 (.t 2) (.t 4), none⟩])
 .ret))
theorem ree91 : Tryz.f91.body.bind (res Tryz.prog Tryz.f91.ntmps [] []) = some (erase ae91) := by kernel_rfl
def fs91 : FnS := .fn 5 ae91 [.c 2 (some 2)]
theorem fsok91 : FnOk Tryz.prog 91 fs91 := fun _ _ _ hn h => ctr_of_resC Tryz.func91 (by kernel_rfl) ree91 (by kernel_rfl) hn h
abbrev ae90 : ACode := (.seq [0, 1, 2, 3, 8] (.reg [q1 8 (.alloc [(.i .i64 0), (.i .i64 0)])])
 (.seq [0, 2, 3, 8, 9] (.reg [q1 10 (.mv (.t 0)),
 q1 11 (.nilck (.t 10)),
 q1 12 (.faddr 6 (.t 11)),
 q1 13 (.faddr 4 (.t 12)),
 q1 14 (.load none (.t 13)),
 q1 15 (.mv (.t 1)),
 q1 16 (.iaddr 3 none (.t 14) (.t 15)),
 q1 17 (.load (some 3) (.t 16)),
 q1 9 (.alloc [(.i .i64 0), (.i .i64 0), (.l [] true)]),
 ⟨none, .store 3 (.t 9) (.t 17), none⟩])
 (.seq [8] (.dreg [8] [⟨0, q1 18 (.mv (.t 0)), [], []⟩,
 ⟨1, q1 19 (.nilck (.t 18)), [], []⟩,
 ⟨2, q1 20 (.faddr 17 (.t 19)), [], []⟩,
 ⟨3, q1 21 (.load none (.t 20)), [], []⟩,
 ⟨4, q1 22 (.faddr 0 (.t 9)), [], []⟩,
 ⟨5, q1 23 (.load none (.t 22)), [], []⟩,
 ⟨6, q1 24 (.lookup (.i .i64) .fnil false (.t 21) (.t 23)), [], []⟩,
 ⟨7, q1 25 (.mv (.t 0)), [], []⟩,
 ⟨8, q1 26 (.load (some 3) (.t 9)), [], []⟩,
 ⟨9, q1 27 (.mv (.t 2)), [], []⟩,
 ⟨10, q1 28 (.mv (.t 3)), [], []⟩,
 ⟨11, q1 29 (.build [(.i .i64 0), (.i .i64 0), (.l [] true), (.l [] true), .fnil] [(0, 3, (.t 26)), (3, 1, (.t 27)), (4, 1, (.t 28))]), [], []⟩,
 ⟨12, q1 30 (.callv (.t 24) [(.t 25), (.t 29)]), [], []⟩,
 ⟨13, ⟨none, .store 2 (.t 8) (.t 30), none⟩, [], []⟩])
 .ret)))
theorem ree90 : Tryz.f90.body.bind (res Tryz.prog Tryz.f90.ntmps [] []) = some (erase ae90) := by kernel_rfl
def fs90 : FnS := .fn 31 ae90 [.c 8 (some 2)]
theorem fsok90 : FnOk Tryz.prog 90 fs90 := fun _ _ _ hn h => ctr_of_resC Tryz.func90 (by kernel_rfl) ree90 (by kernel_rfl) hn h
def ose144 : List AOper := [q1 2 (.mv (.t 5))]
abbrev acCe144 : ACode := (.seq [0, 1] (.seq [0, 1, 2, 4] (.reg [q1 7 (.mv (.t 2)),
 q1 8 (.tas 216 (.a []) true (.t 7)),
 q1 6 (.mv (.t 8)),
 q1 9 (.extract 0 (.t 6)),
 q1 10 (.extract 1 (.t 6)),
 q1 3 (.alloc []),
 ⟨none, .store 0 (.t 3) (.t 9), none⟩,
 q1 4 (.mv (.t 10))])
 (.seq [0, 1, 2, 16] (.reg [q1 11 (.mv (.t 2)),
 q1 12 (.eqn 2 true (.t 11)),
 q1 13 (.mv (.t 12)),
 ⟨(some 14), .mv (.t 4), (some (13, true))⟩,
 ⟨(some 15), .not (.t 14), (some (13, true))⟩,
 q1 16 (.pick (.t 13) (.t 15) (.c (.b false)))])
 (.cond (.t 16)
 (.reg [q1 17 (.mv (.t 2)),
 ⟨none, .panic (.t 17), none⟩])
 .skip)))
 (.reg [q1 18 (.load none (.t 0)),
 q1 19 (.nilck (.t 18)),
 q1 20 (.faddr 0 (.t 19)),
 q1 21 (.load (some 6) (.t 20)),
 ⟨none, .store 6 (.t 1) (.t 21), none⟩]))
theorem rese144 : Tryz.f144.body.bind (resRec Tryz.prog Tryz.f144.ntmps [] []) = some (5, ose144, erase acCe144) := by kernel_rfl
def fs144 : FnS := .rcv 22 5 ose144 acCe144 [0, 1, 2]
theorem fsok144 : FnOk Tryz.prog 144 fs144 := fun _ _ _ _ hn h => ctrD_of_T Tryz.func144 (by kernel_rfl) rese144 rfl hn h
abbrev ae146 : ACode := (.seq [1] (.reg [q1 1 (.box (.t 0)),
 q1 2 (.mv (.c .pn))])
 (.seq [1, 3, 4] (.reg [q1 6 (.load (some 6) (.t 1)),
 q1 7 (.call 64 [(.t 6)]),
 q1 5 (.mv (.t 7)),
 q1 8 (.extract 0 (.t 5)),
 q1 9 (.extract 1 (.t 5)),
 q1 3 (.alloc [(.l [] true), (.l [] true)]),
 ⟨none, .store 2 (.t 3) (.t 8), none⟩,
 q1 4 (.mv (.t 9))])
 (.seq [1, 3] (.seq [1, 3, 11] (.reg [q1 10 (.mv (.t 4)),
 q1 11 (.bin .neq (.t 10) (.c (.i .i64 0)))])
 (.cond (.t 11)
 (.seq [2] (.reg [q1 2 (.mv (.c .pn))])
 .ret)
 .skip))
 (.seq [2] (.reg [q1 12 (.load (some 6) (.t 1)),
 q1 13 (.load (some 2) (.t 3)),
 q1 14 (.mkmap),
 q1 15 (.build [(.l [] true), (.i .i64 0), (.l [] true), (.l [] true), (.l [] true), (.i .i64 0), (.l [] true), (.l [] true), .mn] [(0, 6, (.t 12)), (6, 2, (.t 13)), (8, 1, (.t 14))]),
 q1 16 (.box (.t 15)),
 q1 2 (.mv (.t 16))])
 .ret))))
theorem ree146 : Tryz.f146.body.bind (res Tryz.prog Tryz.f146.ntmps [] []) = some (erase ae146) := by kernel_rfl
def fs146 : FnS := .fn 17 ae146 [.t 2]
theorem fsok146 : FnOk Tryz.prog 146 fs146 := fun _ _ _ hn h => ctr_of_resC Tryz.func146 (by kernel_rfl) ree146 (by kernel_rfl) hn h
end Go.Gl
