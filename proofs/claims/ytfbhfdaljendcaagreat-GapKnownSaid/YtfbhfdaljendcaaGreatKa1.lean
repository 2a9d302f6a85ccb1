/-
  The code of functions of the program, resolved, for the evaluator (printed by wip/gen/mkclosed.py)
-/
import Derived.Test.YtfbhfdaljendcaaGreatEv7
import Derived.Test.YtfbhfdaljendcaaGreatProg
import Derived.KernelRfl
set_option linter.all false
set_option linter.unusedVariables false
set_option linter.unusedSimpArgs false
namespace Go.Gl
open Go.Proofs
abbrev ae3 : ACode := (.seq [] (.reg [⟨(some 0), .mv (.c (.b false)), none⟩])
  (.seq [1] (.reg [⟨(some 16), .call 7 [(.c (.l [] true))], none⟩,
    ⟨(some 1), .alloc [(.l [] true), (.i .i64 0), (.l [] true), (.l [] true), (.l [] true), (.i .i64 0)], none⟩,
    ⟨none, .store 6 (.t 1) (.t 16), none⟩])
  (.seq [1, 2, 3] (.reg [⟨(some 18), .load (some 6) (.t 1), none⟩,
    ⟨(some 19), .bslice 1 1 [(.i .i64 0)] [(0, (.c (.i .i64 1)))], none⟩,
    ⟨(some 20), .call 8 [(.t 18), (.c (.i .i64 0)), (.t 19)], none⟩,
    ⟨(some 17), .mv (.t 20), none⟩,
    ⟨(some 21), .extract 0 (.t 17), none⟩,
    ⟨(some 22), .extract 1 (.t 17), none⟩,
    ⟨(some 2), .mv (.t 21), none⟩,
    ⟨(some 3), .mv (.t 22), none⟩])
  (.seq [1, 2, 3, 5] (.reg [⟨(some 24), .load (some 6) (.t 1), none⟩,
    ⟨(some 25), .bslice 1 1 [(.i .i64 0)] [(0, (.c (.i .i64 4)))], none⟩,
    ⟨(some 26), .call 8 [(.t 24), (.c (.i .i64 1)), (.t 25)], none⟩,
    ⟨(some 23), .mv (.t 26), none⟩,
    ⟨(some 27), .extract 0 (.t 23), none⟩,
    ⟨(some 28), .extract 1 (.t 23), none⟩,
    ⟨(some 4), .mv (.t 27), none⟩,
    ⟨(some 5), .mv (.t 28), none⟩])
  (.seq [1, 2, 3, 5, 6, 7, 8] (.reg [⟨(some 30), .load (some 6) (.t 1), none⟩,
    ⟨(some 31), .call 9 [(.t 30), (.c (.i .i64 0))], none⟩,
    ⟨(some 29), .mv (.t 31), none⟩,
    ⟨(some 32), .extract 0 (.t 29), none⟩,
    ⟨(some 33), .extract 1 (.t 29), none⟩,
    ⟨(some 34), .extract 2 (.t 29), none⟩,
    ⟨(some 6), .mv (.t 32), none⟩,
    ⟨(some 7), .mv (.t 33), none⟩,
    ⟨(some 8), .mv (.t 34), none⟩])
  (.seq [1, 2, 3, 5, 6, 7, 8, 9, 10] (.reg [⟨(some 36), .load (some 6) (.t 1), none⟩,
    ⟨(some 37), .bslice 1 2 [(.i .i64 0)] [(0, (.c (.i .i64 1))), (1, (.c (.i .i64 2)))], none⟩,
    ⟨(some 38), .call 10 [(.t 36), (.c (.i .i64 0)), (.t 37)], none⟩,
    ⟨(some 35), .mv (.t 38), none⟩,
    ⟨(some 39), .extract 0 (.t 35), none⟩,
    ⟨(some 40), .extract 1 (.t 35), none⟩,
    ⟨(some 9), .mv (.t 39), none⟩,
    ⟨(some 10), .mv (.t 40), none⟩])
  (.seq [1] (.seq [1, 71] (.reg [⟨(some 41), .mv (.t 3), none⟩,
    ⟨(some 42), .bin .neq (.t 41) (.c (.i .i64 0)), none⟩,
    ⟨(some 43), .mv (.t 42), none⟩,
    ⟨(some 44), .mv (.t 5), (some (43, false))⟩,
    ⟨(some 45), .bin .neq (.t 44) (.c (.i .i64 2)), (some (43, false))⟩,
    ⟨(some 46), .pick (.t 43) (.c (.b true)) (.t 45), none⟩,
    ⟨(some 47), .mv (.t 46), none⟩,
    ⟨(some 48), .mv (.t 8), (some (47, false))⟩,
    ⟨(some 49), .bin .neq (.t 48) (.c (.i .i64 0)), (some (47, false))⟩,
    ⟨(some 50), .pick (.t 47) (.c (.b true)) (.t 49), none⟩,
    ⟨(some 51), .mv (.t 50), none⟩,
    ⟨(some 52), .mv (.t 10), (some (51, false))⟩,
    ⟨(some 53), .bin .neq (.t 52) (.c (.i .i64 0)), (some (51, false))⟩,
    ⟨(some 54), .pick (.t 51) (.c (.b true)) (.t 53), none⟩,
    ⟨(some 55), .mv (.t 54), none⟩,
    ⟨(some 56), .mv (.t 6), (some (55, false))⟩,
    ⟨(some 57), .pick (.t 55) (.c (.b true)) (.t 56), none⟩,
    ⟨(some 58), .mv (.t 57), none⟩,
    ⟨(some 59), .mv (.t 7), (some (58, false))⟩,
    ⟨(some 60), .pick (.t 58) (.c (.b true)) (.t 59), none⟩,
    ⟨(some 61), .mv (.t 60), none⟩,
    ⟨(some 62), .mv (.t 9), (some (61, false))⟩,
    ⟨(some 63), .bin .neq (.t 62) (.c (.i .i64 3)), (some (61, false))⟩,
    ⟨(some 64), .pick (.t 61) (.c (.b true)) (.t 63), none⟩,
    ⟨(some 65), .mv (.t 64), none⟩,
    ⟨(some 66), .mv (.t 2), (some (65, false))⟩,
    ⟨(some 67), .build [(.l [] true), (.i .i64 0)] [(1, 1, (.c (.i .i64 4)))], (some (65, false))⟩,
    ⟨(some 68), .bslice 2 1 [(.l [] true), (.i .i64 0)] [(0, (.t 67))], (some (65, false))⟩,
    ⟨(some 69), .call 11 [(.t 66), (.t 68)], (some (65, false))⟩,
    ⟨(some 70), .not (.t 69), (some (65, false))⟩,
    ⟨(some 71), .pick (.t 65) (.c (.b true)) (.t 70), none⟩])
  (.cond (.t 71)
  (.seq [0] (.reg [⟨(some 0), .mv (.c (.b false)), none⟩])
  .ret)
  .skip))
  (.seq [1] (.reg [⟨(some 72), .bslice 1 2 [(.i .i64 0)] [(0, (.c (.i .i64 1))), (1, (.c (.i .i64 2)))], none⟩,
    ⟨(some 73), .faddr 2 (.t 1), none⟩,
    ⟨none, .store 1 (.t 73) (.t 72), none⟩])
  (.seq [1, 3, 11] (.reg [⟨(some 75), .load (some 6) (.t 1), none⟩,
    ⟨(some 76), .call 12 [(.t 75), (.c (.i .i64 1))], none⟩,
    ⟨(some 74), .mv (.t 76), none⟩,
    ⟨(some 77), .extract 0 (.t 74), none⟩,
    ⟨(some 78), .extract 1 (.t 74), none⟩,
    ⟨(some 11), .mv (.t 77), none⟩,
    ⟨(some 3), .mv (.t 78), none⟩])
  (.seq [1, 3, 5, 11, 12] (.reg [⟨(some 80), .load (some 6) (.t 1), none⟩,
    ⟨(some 81), .call 13 [(.t 80), (.c (.i .i64 1)), (.c (.i .i64 4))], none⟩,
    ⟨(some 79), .mv (.t 81), none⟩,
    ⟨(some 82), .extract 0 (.t 79), none⟩,
    ⟨(some 83), .extract 1 (.t 79), none⟩,
    ⟨(some 12), .mv (.t 82), none⟩,
    ⟨(some 5), .mv (.t 83), none⟩])
  (.seq [1, 3, 5, 8, 11, 12, 13] (.reg [⟨(some 85), .load (some 6) (.t 1), none⟩,
    ⟨(some 86), .call 14 [(.t 85), (.c (.i .i64 1))], none⟩,
    ⟨(some 84), .mv (.t 86), none⟩,
    ⟨(some 87), .extract 0 (.t 84), none⟩,
    ⟨(some 88), .extract 1 (.t 84), none⟩,
    ⟨(some 13), .alloc [(.i .i64 0), (.i .i64 0), (.l [] true), (.i .i64 0), (.i .i64 0), (.l [] true)], none⟩,
    ⟨none, .store 6 (.t 13) (.t 87), none⟩,
    ⟨(some 8), .mv (.t 88), none⟩])
  (.seq [3, 5, 8, 10, 11, 12, 13, 14] (.reg [⟨(some 90), .load (some 6) (.t 1), none⟩,
    ⟨(some 91), .call 15 [(.t 90), (.c (.i .i64 1)), (.c (.l [] true))], none⟩,
    ⟨(some 89), .mv (.t 91), none⟩,
    ⟨(some 92), .extract 0 (.t 89), none⟩,
    ⟨(some 93), .extract 1 (.t 89), none⟩,
    ⟨(some 14), .alloc [(.i .i64 0), (.i .i64 0), (.l [] true), (.i .i64 0), (.i .i64 0), (.l [] true)], none⟩,
    ⟨none, .store 6 (.t 14) (.t 92), none⟩,
    ⟨(some 10), .mv (.t 93), none⟩])
  (.seq [] (.seq [130] (.reg [⟨(some 94), .mv (.t 3), none⟩,
    ⟨(some 95), .bin .neq (.t 94) (.c (.i .i64 0)), none⟩,
    ⟨(some 96), .mv (.t 95), none⟩,
    ⟨(some 97), .mv (.t 5), (some (96, false))⟩,
    ⟨(some 98), .bin .neq (.t 97) (.c (.i .i64 0)), (some (96, false))⟩,
    ⟨(some 99), .pick (.t 96) (.c (.b true)) (.t 98), none⟩,
    ⟨(some 100), .mv (.t 99), none⟩,
    ⟨(some 101), .mv (.t 8), (some (100, false))⟩,
    ⟨(some 102), .bin .neq (.t 101) (.c (.i .i64 0)), (some (100, false))⟩,
    ⟨(some 103), .pick (.t 100) (.c (.b true)) (.t 102), none⟩,
    ⟨(some 104), .mv (.t 103), none⟩,
    ⟨(some 105), .mv (.t 10), (some (104, false))⟩,
    ⟨(some 106), .bin .neq (.t 105) (.c (.i .i64 0)), (some (104, false))⟩,
    ⟨(some 107), .pick (.t 104) (.c (.b true)) (.t 106), none⟩,
    ⟨(some 108), .mv (.t 107), none⟩,
    ⟨(some 109), .mv (.t 11), (some (108, false))⟩,
    ⟨(some 110), .build [(.l [] true), (.i .i64 0)] [(1, 1, (.c (.i .i64 4)))], (some (108, false))⟩,
    ⟨(some 111), .bslice 2 1 [(.l [] true), (.i .i64 0)] [(0, (.t 110))], (some (108, false))⟩,
    ⟨(some 112), .call 11 [(.t 109), (.t 111)], (some (108, false))⟩,
    ⟨(some 113), .not (.t 112), (some (108, false))⟩,
    ⟨(some 114), .pick (.t 108) (.c (.b true)) (.t 113), none⟩,
    ⟨(some 115), .mv (.t 114), none⟩,
    ⟨(some 116), .mv (.t 12), (some (115, false))⟩,
    ⟨(some 117), .bslice 1 2 [(.i .i64 0)] [(0, (.c (.i .i64 1))), (1, (.c (.i .i64 1)))], (some (115, false))⟩,
    ⟨(some 118), .call 16 [(.t 116), (.t 117)], (some (115, false))⟩,
    ⟨(some 119), .not (.t 118), (some (115, false))⟩,
    ⟨(some 120), .pick (.t 115) (.c (.b true)) (.t 119), none⟩,
    ⟨(some 121), .mv (.t 120), none⟩,
    ⟨(some 122), .faddr 0 (.t 13), (some (121, false))⟩,
    ⟨(some 123), .load none (.t 122), (some (121, false))⟩,
    ⟨(some 124), .bin .neq (.t 123) (.c (.i .i64 1)), (some (121, false))⟩,
    ⟨(some 125), .pick (.t 121) (.c (.b true)) (.t 124), none⟩,
    ⟨(some 126), .mv (.t 125), none⟩,
    ⟨(some 127), .faddr 0 (.t 14), (some (126, false))⟩,
    ⟨(some 128), .load none (.t 127), (some (126, false))⟩,
    ⟨(some 129), .bin .neq (.t 128) (.c (.i .i64 1)), (some (126, false))⟩,
    ⟨(some 130), .pick (.t 126) (.c (.b true)) (.t 129), none⟩])
  (.cond (.t 130)
  (.seq [0] (.reg [⟨(some 0), .mv (.c (.b false)), none⟩])
  .ret)
  .skip))
  (.seq [15] (.reg [⟨(some 131), .call 17 [], none⟩,
    ⟨(some 132), .build [(.i .i64 0), (.i .i64 0), (.i .i64 0), (.i .i64 0), (.l [] true), (.i .i64 0), (.i .i64 0), (.l [] true), (.i .i64 0)] [(0, 1, (.c (.i .i64 1))), (2, 6, (.t 131))], none⟩,
    ⟨(some 133), .bslice 9 1 [(.i .i64 0), (.i .i64 0), (.i .i64 0), (.i .i64 0), (.l [] true), (.i .i64 0), (.i .i64 0), (.l [] true), (.i .i64 0)] [(0, (.t 132))], none⟩,
    ⟨(some 134), .call 7 [(.t 133)], none⟩,
    ⟨(some 15), .alloc [(.l [] true), (.i .i64 0), (.l [] true), (.l [] true), (.l [] true), (.i .i64 0)], none⟩,
    ⟨none, .store 6 (.t 15) (.t 134), none⟩])
  (.seq [3, 6, 7, 15] (.reg [⟨(some 136), .load (some 6) (.t 15), none⟩,
    ⟨(some 137), .call 9 [(.t 136), (.c (.i .i64 0))], none⟩,
    ⟨(some 135), .mv (.t 137), none⟩,
    ⟨(some 138), .extract 0 (.t 135), none⟩,
    ⟨(some 139), .extract 1 (.t 135), none⟩,
    ⟨(some 140), .extract 2 (.t 135), none⟩,
    ⟨(some 6), .mv (.t 138), none⟩,
    ⟨(some 7), .mv (.t 139), none⟩,
    ⟨(some 3), .mv (.t 140), none⟩])
  (.seq [3, 5, 6, 7, 12] (.reg [⟨(some 142), .load (some 6) (.t 15), none⟩,
    ⟨(some 143), .call 13 [(.t 142), (.c (.i .i64 0)), (.c (.i .i64 1))], none⟩,
    ⟨(some 141), .mv (.t 143), none⟩,
    ⟨(some 144), .extract 0 (.t 141), none⟩,
    ⟨(some 145), .extract 1 (.t 141), none⟩,
    ⟨(some 12), .mv (.t 144), none⟩,
    ⟨(some 5), .mv (.t 145), none⟩])
  (.seq [0] (.reg [⟨(some 146), .mv (.t 3), none⟩,
    ⟨(some 147), .bin .eql (.t 146) (.c (.i .i64 0)), none⟩,
    ⟨(some 148), .mv (.t 147), none⟩,
    ⟨(some 149), .mv (.t 5), (some (148, true))⟩,
    ⟨(some 150), .bin .eql (.t 149) (.c (.i .i64 0)), (some (148, true))⟩,
    ⟨(some 151), .pick (.t 148) (.t 150) (.c (.b false)), none⟩,
    ⟨(some 152), .mv (.t 151), none⟩,
    ⟨(some 153), .mv (.t 6), (some (152, true))⟩,
    ⟨(some 154), .not (.t 153), (some (152, true))⟩,
    ⟨(some 155), .pick (.t 152) (.t 154) (.c (.b false)), none⟩,
    ⟨(some 156), .mv (.t 155), none⟩,
    ⟨(some 157), .mv (.t 7), (some (156, true))⟩,
    ⟨(some 158), .pick (.t 156) (.t 157) (.c (.b false)), none⟩,
    ⟨(some 159), .mv (.t 158), none⟩,
    ⟨(some 160), .mv (.t 12), (some (159, true))⟩,
    ⟨(some 161), .bslice 1 1 [(.i .i64 0)] [(0, (.c (.i .i64 1)))], (some (159, true))⟩,
    ⟨(some 162), .call 16 [(.t 160), (.t 161)], (some (159, true))⟩,
    ⟨(some 163), .pick (.t 159) (.t 162) (.c (.b false)), none⟩,
    ⟨(some 164), .mv (.t 163), none⟩,
    ⟨(some 165), .call 18 [], (some (164, true))⟩,
    ⟨(some 166), .pick (.t 164) (.t 165) (.c (.b false)), none⟩,
    ⟨(some 0), .mv (.t 166), none⟩])
  .ret)))))))))))))))))
theorem ree3 : Tryz.f3.body.bind (res Tryz.prog Tryz.f3.ntmps [] []) = some (erase ae3) := by kernel_rfl
def fs3 : FnS := .fn 167 ae3 [.t 0]
theorem fsok3 : FnOk Tryz.prog 3 fs3 := fun _ _ _ hn h => ctr_of_resC Tryz.func3 (by kernel_rfl) ree3 (by kernel_rfl) hn h
abbrev ae7 : ACode := (.seq [0, 2] (.reg [⟨(some 2), .alloc [(.l [] true), (.i .i64 0), (.l [] true), (.l [] true), (.l [] true), (.i .i64 0)], none⟩])
  (.seq [0, 2, 3] (.reg [⟨(some 6), .build [(.l [] true), (.l [] true), (.l [] true)] [], none⟩,
    ⟨(some 7), .bslice 1 1 [(.i .i64 0)] [(0, (.c (.i .i64 3)))], none⟩,
    ⟨(some 8), .build [(.l [] true), (.l [] true), (.l [] true)] [(0, 1, (.t 7))], none⟩,
    ⟨(some 9), .bslice 1 1 [(.i .i64 0)] [(0, (.c (.i .i64 3)))], none⟩,
    ⟨(some 10), .build [(.l [] true), (.l [] true), (.l [] true)] [(0, 1, (.t 9))], none⟩,
    ⟨(some 11), .bslice 3 3 [(.l [] true), (.l [] true), (.l [] true)] [(0, (.t 6)), (1, (.t 8)), (2, (.t 10))], none⟩,
    ⟨(some 12), .bslice 1 1 [(.i .i64 0)] [(0, (.c (.i .i64 1)))], none⟩,
    ⟨(some 13), .build [(.l [] true), (.i .i64 0), (.l [] true), (.l [] true), (.l [] true), (.i .i64 0)] [(0, 1, (.t 11)), (2, 1, (.t 12))], none⟩,
    ⟨(some 3), .alloc [(.l [] true), (.i .i64 0), (.l [] true), (.l [] true), (.l [] true), (.i .i64 0)], none⟩,
    ⟨none, .store 6 (.t 3) (.t 13), none⟩])
  (.seq [0, 2, 3] (.seq [0, 2, 3, 4] (.reg [⟨(some 4), .mv (.c (.i .i64 0)), none⟩])
  (.block 0 (.loop [0, 2, 3, 4] (.seq [0, 2, 3, 4] (.seq [0, 2, 3, 4, 15] (.reg [⟨(some 14), .mv (.t 4), none⟩,
    ⟨(some 15), .bin .lss (.t 14) (.c (.i .i64 3)), none⟩])
  (.cond (.t 15)
  .skip
  (.exit 0)))
  (.seq [0, 2, 3, 4] (.block 1 (.dreg [0, 2, 3, 4] [⟨0, ⟨(some 18), .faddr 3 (.t 3), none⟩, [], []⟩,
    ⟨1, ⟨(some 19), .load none (.t 18), none⟩, [], []⟩,
    ⟨2, ⟨(some 20), .mv (.t 4), none⟩, [], []⟩,
    ⟨3, ⟨(some 21), .bin .add (.c (.i .i64 3)) (.t 20), none⟩, [], []⟩,
    ⟨4, ⟨(some 22), .call 43 [(.t 21)], none⟩, [1], [⟨(some 19), .load none (.t 18), none⟩]⟩,
    ⟨5, ⟨(some 23), .build [(.i .i64 0), (.i .i64 0), (.i .i64 0), (.i .i64 0), (.l [] true), (.i .i64 0), (.i .i64 0), (.l [] true), (.i .i64 0)] [(0, 1, (.c (.i .i64 1))), (2, 6, (.t 22))], none⟩, [], []⟩,
    ⟨6, ⟨(some 24), .bslice 9 1 [(.i .i64 0), (.i .i64 0), (.i .i64 0), (.i .i64 0), (.l [] true), (.i .i64 0), (.i .i64 0), (.l [] true), (.i .i64 0)] [(0, (.t 23))], none⟩, [], []⟩,
    ⟨7, ⟨(some 25), .append 9 104 (.t 19) (.t 24), none⟩, [], []⟩,
    ⟨8, ⟨(some 26), .faddr 3 (.t 3), none⟩, [], []⟩,
    ⟨9, ⟨none, .store 1 (.t 26) (.t 25), none⟩, [], []⟩]))
  (.reg [⟨(some 16), .mv (.t 4), none⟩,
    ⟨(some 17), .bin .add (.t 16) (.c (.i .i64 1)), none⟩,
    ⟨(some 4), .mv (.t 17), none⟩]))))))
  (.seq [2, 3] (.reg [⟨(some 27), .faddr 3 (.t 3), none⟩,
    ⟨(some 28), .load none (.t 27), none⟩,
    ⟨(some 29), .mv (.t 0), none⟩,
    ⟨(some 30), .append 9 104 (.t 28) (.t 29), none⟩,
    ⟨(some 31), .faddr 3 (.t 3), none⟩,
    ⟨none, .store 1 (.t 31) (.t 30), none⟩])
  (.seq [2, 3] (.seq [2, 3, 5] (.reg [⟨(some 5), .mv (.c (.i .i64 0)), none⟩])
  (.block 2 (.loop [2, 3, 5] (.seq [2, 3, 5] (.seq [2, 3, 5, 36] (.reg [⟨(some 32), .mv (.t 5), none⟩,
    ⟨(some 33), .faddr 3 (.t 3), none⟩,
    ⟨(some 34), .load none (.t 33), none⟩,
    ⟨(some 35), .len (.t 34), none⟩,
    ⟨(some 36), .bin .lss (.t 32) (.t 35), none⟩])
  (.cond (.t 36)
  .skip
  (.exit 2)))
  (.seq [2, 3, 5] (.block 3 (.seq [2, 3, 5] (.reg [⟨(some 39), .faddr 3 (.t 3), none⟩,
    ⟨(some 40), .load none (.t 39), none⟩,
    ⟨(some 41), .mv (.t 5), none⟩,
    ⟨(some 42), .mv (.t 5), none⟩,
    ⟨(some 43), .iaddr 9 none (.t 40) (.t 41), none⟩,
    ⟨(some 44), .faddr 8 (.t 43), none⟩,
    ⟨none, .store 1 (.t 44) (.t 42), none⟩])
  (.reg [⟨(some 45), .faddr 4 (.t 3), none⟩,
    ⟨(some 46), .load none (.t 45), none⟩,
    ⟨(some 47), .build [(.i .i64 0), (.i .i64 0), (.l [] true)] [(0, 1, (.c (.i .i64 2)))], none⟩,
    ⟨(some 48), .bslice 3 1 [(.i .i64 0), (.i .i64 0), (.l [] true)] [(0, (.t 47))], none⟩,
    ⟨(some 49), .append 3 40 (.t 46) (.t 48), none⟩,
    ⟨(some 50), .faddr 4 (.t 3), none⟩,
    ⟨none, .store 1 (.t 50) (.t 49), none⟩])))
  (.reg [⟨(some 37), .mv (.t 5), none⟩,
    ⟨(some 38), .bin .add (.t 37) (.c (.i .i64 1)), none⟩,
    ⟨(some 5), .mv (.t 38), none⟩]))))))
  (.seq [2, 3] (.reg [⟨(some 51), .faddr 4 (.t 3), none⟩,
    ⟨(some 52), .load none (.t 51), none⟩,
    ⟨(some 53), .len (.t 52), none⟩,
    ⟨(some 54), .faddr 5 (.t 3), none⟩,
    ⟨none, .store 1 (.t 54) (.t 53), none⟩])
  (.seq [2, 3] (.reg [⟨(some 55), .faddr 4 (.t 3), none⟩,
    ⟨(some 56), .load none (.t 55), none⟩,
    ⟨(some 57), .build [(.i .i64 0), (.i .i64 0), (.l [] true)] [(0, 1, (.c (.i .i64 2)))], none⟩,
    ⟨(some 58), .bslice 3 1 [(.i .i64 0), (.i .i64 0), (.l [] true)] [(0, (.t 57))], none⟩,
    ⟨(some 59), .append 3 40 (.t 56) (.t 58), none⟩,
    ⟨(some 60), .faddr 4 (.t 3), none⟩,
    ⟨none, .store 1 (.t 60) (.t 59), none⟩])
  (.seq [2] (.reg [⟨(some 61), .load (some 6) (.t 3), none⟩,
    ⟨none, .store 6 (.t 2) (.t 61), none⟩])
  .ret))))))))
theorem ree7 : Tryz.f7.body.bind (res Tryz.prog Tryz.f7.ntmps [] []) = some (erase ae7) := by kernel_rfl
def fs7 : FnS := .fnz 62 ae7 [.c 2 (some 6)]
theorem fsok7 : FnOk Tryz.prog 7 fs7 := fun _ _ _ hn h => ctr_of_resC Tryz.func7 (by kernel_rfl) ree7 (by kernel_rfl) hn h
abbrev ae8 : ACode := (.seq [3, 4, 5] (.reg [⟨(some 3), .box (.t 0), none⟩,
    ⟨(some 4), .box (.t 1), none⟩,
    ⟨(some 5), .box (.t 2), none⟩,
    ⟨(some 6), .mv (.c (.l [] true)), none⟩,
    ⟨(some 7), .mv (.c (.i .i64 0)), none⟩])
  (.seq [5, 8, 9] (.reg [⟨(some 11), .load (some 6) (.t 3), none⟩,
    ⟨(some 12), .load none (.t 4), none⟩,
    ⟨(some 13), .mkf (.func 45) [] [(.t 5), (.t 3), (.t 4)], none⟩,
    ⟨(some 14), .call 44 [(.t 11), (.t 12), (.t 13)], none⟩,
    ⟨(some 10), .mv (.t 14), none⟩,
    ⟨(some 15), .extract 0 (.t 10), none⟩,
    ⟨(some 16), .extract 1 (.t 10), none⟩,
    ⟨(some 8), .alloc [(.l [] true), (.i .i64 0), (.l [] true), (.l [] true), (.l [] true), (.i .i64 0), (.i .i64 0), (.l [] true)], none⟩,
    ⟨none, .store 8 (.t 8) (.t 15), none⟩,
    ⟨(some 9), .mv (.t 16), none⟩])
  (.seq [5, 8] (.seq [5, 8, 9, 18] (.reg [⟨(some 17), .mv (.t 9), none⟩,
    ⟨(some 18), .bin .neq (.t 17) (.c (.i .i64 0)), none⟩])
  (.cond (.t 18)
  (.seq [6, 7] (.reg [⟨(some 19), .mv (.t 9), none⟩,
    ⟨(some 6), .mv (.c (.l [] true)), none⟩,
    ⟨(some 7), .mv (.t 19), none⟩])
  .ret)
  .skip))
  (.seq [6, 7] (.dreg [6, 7] [⟨0, ⟨(some 20), .load (some 8) (.t 8), none⟩, [], []⟩,
    ⟨1, ⟨(some 21), .load (some 8) (.t 8), none⟩, [], []⟩,
    ⟨2, ⟨(some 22), .load none (.t 5), none⟩, [], []⟩,
    ⟨3, ⟨(some 23), .call 49 [(.t 21), (.t 22)], none⟩, [0], [⟨(some 20), .load (some 8) (.t 8), none⟩]⟩,
    ⟨4, ⟨(some 24), .call 48 [(.t 20), (.t 23)], none⟩, [], []⟩,
    ⟨5, ⟨(some 6), .mv (.t 24), none⟩, [], []⟩,
    ⟨6, ⟨(some 7), .mv (.c (.i .i64 0)), none⟩, [], []⟩])
  .ret))))
theorem ree8 : Tryz.f8.body.bind (res Tryz.prog Tryz.f8.ntmps [] []) = some (erase ae8) := by kernel_rfl
def fs8 : FnS := .fn 25 ae8 [.t 6, .t 7]
theorem fsok8 : FnOk Tryz.prog 8 fs8 := fun _ _ _ hn h => ctr_of_resC Tryz.func8 (by kernel_rfl) ree8 (by kernel_rfl) hn h
abbrev ae9 : ACode := (.seq [1, 2] (.reg [⟨(some 2), .box (.t 0), none⟩,
    ⟨(some 4), .mv (.c (.b false)), none⟩,
    ⟨(some 5), .mv (.c (.b false)), none⟩,
    ⟨(some 6), .mv (.c (.i .i64 0)), none⟩])
  (.seq [6, 7] (.reg [⟨(some 9), .load (some 6) (.t 2), none⟩,
    ⟨(some 10), .mv (.t 1), none⟩,
    ⟨(some 11), .call 44 [(.t 9), (.t 10), (.c (.f (.func 50) [] []))], none⟩,
    ⟨(some 8), .mv (.t 11), none⟩,
    ⟨(some 12), .extract 0 (.t 8), none⟩,
    ⟨(some 13), .extract 1 (.t 8), none⟩,
    ⟨(some 7), .alloc [(.l [] true), (.i .i64 0), (.l [] true), (.l [] true), (.l [] true), (.i .i64 0), (.i .i64 0), (.l [] true)], none⟩,
    ⟨none, .store 8 (.t 7) (.t 12), none⟩,
    ⟨(some 6), .mv (.t 13), none⟩])
  (.seq [7] (.seq [6, 7, 15] (.reg [⟨(some 14), .mv (.t 6), none⟩,
    ⟨(some 15), .bin .neq (.t 14) (.c (.i .i64 0)), none⟩])
  (.cond (.t 15)
  (.seq [4, 5, 6] (.reg [⟨(some 16), .mv (.t 6), none⟩,
    ⟨(some 4), .mv (.c (.b false)), none⟩,
    ⟨(some 5), .mv (.c (.b false)), none⟩,
    ⟨(some 6), .mv (.t 16), none⟩])
  .ret)
  .skip))
  (.seq [4, 5, 6] (.dreg [4, 5, 6] [⟨0, ⟨(some 17), .load (some 8) (.t 7), none⟩, [], []⟩,
    ⟨1, ⟨(some 18), .load (some 8) (.t 7), none⟩, [], []⟩,
    ⟨4, ⟨(some 21), .load (some 8) (.t 7), none⟩, [], []⟩,
    ⟨5, ⟨(some 22), .load (some 8) (.t 7), none⟩, [], []⟩,
    ⟨2, ⟨(some 19), .call 52 [(.t 18)], none⟩, [5, 4, 0], [⟨(some 22), .load (some 8) (.t 7), none⟩, ⟨(some 21), .load (some 8) (.t 7), none⟩, ⟨(some 17), .load (some 8) (.t 7), none⟩]⟩,
    ⟨3, ⟨(some 20), .call 51 [(.t 17), (.t 19)], none⟩, [5, 4], [⟨(some 22), .load (some 8) (.t 7), none⟩, ⟨(some 21), .load (some 8) (.t 7), none⟩]⟩,
    ⟨6, ⟨(some 23), .call 49 [(.t 22), (.c (.l [] true))], none⟩, [4], [⟨(some 21), .load (some 8) (.t 7), none⟩]⟩,
    ⟨7, ⟨(some 24), .call 51 [(.t 21), (.t 23)], none⟩, [], []⟩,
    ⟨8, ⟨(some 4), .mv (.t 20), none⟩, [], []⟩,
    ⟨9, ⟨(some 5), .mv (.t 24), none⟩, [], []⟩,
    ⟨10, ⟨(some 6), .mv (.c (.i .i64 0)), none⟩, [], []⟩])
  .ret))))
theorem ree9 : Tryz.f9.body.bind (res Tryz.prog Tryz.f9.ntmps [] []) = some (erase ae9) := by kernel_rfl
def fs9 : FnS := .fn 25 ae9 [.t 4, .t 5, .t 6]
theorem fsok9 : FnOk Tryz.prog 9 fs9 := fun _ _ _ hn h => ctr_of_resC Tryz.func9 (by kernel_rfl) ree9 (by kernel_rfl) hn h
abbrev ae10 : ACode := (.seq [1, 3, 5] (.reg [⟨(some 3), .box (.t 0), none⟩,
    ⟨(some 5), .box (.t 2), none⟩,
    ⟨(some 6), .mv (.c (.i .i64 0)), none⟩,
    ⟨(some 7), .mv (.c (.i .i64 0)), none⟩])
  (.seq [5, 8, 9] (.reg [⟨(some 11), .load (some 6) (.t 3), none⟩,
    ⟨(some 12), .mv (.t 1), none⟩,
    ⟨(some 13), .mkf (.func 53) [] [(.t 5)], none⟩,
    ⟨(some 14), .call 44 [(.t 11), (.t 12), (.t 13)], none⟩,
    ⟨(some 10), .mv (.t 14), none⟩,
    ⟨(some 15), .extract 0 (.t 10), none⟩,
    ⟨(some 16), .extract 1 (.t 10), none⟩,
    ⟨(some 8), .alloc [(.l [] true), (.i .i64 0), (.l [] true), (.l [] true), (.l [] true), (.i .i64 0), (.i .i64 0), (.l [] true)], none⟩,
    ⟨none, .store 8 (.t 8) (.t 15), none⟩,
    ⟨(some 9), .mv (.t 16), none⟩])
  (.seq [5, 8] (.seq [5, 8, 9, 18] (.reg [⟨(some 17), .mv (.t 9), none⟩,
    ⟨(some 18), .bin .neq (.t 17) (.c (.i .i64 0)), none⟩])
  (.cond (.t 18)
  (.seq [6, 7] (.reg [⟨(some 19), .mv (.t 9), none⟩,
    ⟨(some 6), .mv (.c (.i .i64 0)), none⟩,
    ⟨(some 7), .mv (.t 19), none⟩])
  .ret)
  .skip))
  (.seq [6, 7] (.reg [⟨(some 20), .load (some 8) (.t 8), none⟩,
    ⟨(some 21), .load none (.t 5), none⟩,
    ⟨(some 22), .call 55 [(.t 20), (.t 21)], none⟩,
    ⟨(some 6), .mv (.t 22), none⟩,
    ⟨(some 7), .mv (.c (.i .i64 0)), none⟩])
  .ret))))
theorem ree10 : Tryz.f10.body.bind (res Tryz.prog Tryz.f10.ntmps [] []) = some (erase ae10) := by kernel_rfl
def fs10 : FnS := .fn 23 ae10 [.t 6, .t 7]
theorem fsok10 : FnOk Tryz.prog 10 fs10 := fun _ _ _ hn h => ctr_of_resC Tryz.func10 (by kernel_rfl) ree10 (by kernel_rfl) hn h
abbrev ae11 : ACode := (.seq [0, 1] (.reg [⟨(some 4), .mv (.c (.b false)), none⟩])
  (.seq [4] (.reg [⟨(some 5), .mv (.t 0), none⟩,
    ⟨(some 6), .mv (.t 1), none⟩,
    ⟨(some 7), .call 56 [(.t 5), (.t 6), (.c (.f (.func 57) [] []))], none⟩,
    ⟨(some 4), .mv (.t 7), none⟩])
  .ret))
theorem ree11 : Tryz.f11.body.bind (res Tryz.prog Tryz.f11.ntmps [] []) = some (erase ae11) := by kernel_rfl
def fs11 : FnS := .fn 8 ae11 [.t 4]
theorem fsok11 : FnOk Tryz.prog 11 fs11 := fun _ _ _ hn h => ctr_of_resC Tryz.func11 (by kernel_rfl) ree11 (by kernel_rfl) hn h
abbrev ae12 : ACode := (.seq [1, 2] (.reg [⟨(some 2), .box (.t 0), none⟩,
    ⟨(some 4), .mv (.c (.l [] true)), none⟩,
    ⟨(some 5), .mv (.c (.i .i64 0)), none⟩])
  (.seq [6, 7] (.reg [⟨(some 9), .load (some 6) (.t 2), none⟩,
    ⟨(some 10), .mv (.t 1), none⟩,
    ⟨(some 11), .call 44 [(.t 9), (.t 10), (.c (.f (.func 50) [] []))], none⟩,
    ⟨(some 8), .mv (.t 11), none⟩,
    ⟨(some 12), .extract 0 (.t 8), none⟩,
    ⟨(some 13), .extract 1 (.t 8), none⟩,
    ⟨(some 6), .alloc [(.l [] true), (.i .i64 0), (.l [] true), (.l [] true), (.l [] true), (.i .i64 0), (.i .i64 0), (.l [] true)], none⟩,
    ⟨none, .store 8 (.t 6) (.t 12), none⟩,
    ⟨(some 7), .mv (.t 13), none⟩])
  (.seq [6] (.seq [6, 7, 15] (.reg [⟨(some 14), .mv (.t 7), none⟩,
    ⟨(some 15), .bin .neq (.t 14) (.c (.i .i64 0)), none⟩])
  (.cond (.t 15)
  (.seq [4, 5] (.reg [⟨(some 16), .mv (.t 7), none⟩,
    ⟨(some 4), .mv (.c (.l [] true)), none⟩,
    ⟨(some 5), .mv (.t 16), none⟩])
  .ret)
  .skip))
  (.seq [4, 5] (.dreg [4, 5] [⟨0, ⟨(some 17), .load (some 8) (.t 6), none⟩, [], []⟩,
    ⟨1, ⟨(some 18), .load (some 8) (.t 6), none⟩, [], []⟩,
    ⟨2, ⟨(some 19), .call 52 [(.t 18)], none⟩, [0], [⟨(some 17), .load (some 8) (.t 6), none⟩]⟩,
    ⟨3, ⟨(some 20), .call 48 [(.t 17), (.t 19)], none⟩, [], []⟩,
    ⟨4, ⟨(some 4), .mv (.t 20), none⟩, [], []⟩,
    ⟨5, ⟨(some 5), .mv (.c (.i .i64 0)), none⟩, [], []⟩])
  .ret))))
theorem ree12 : Tryz.f12.body.bind (res Tryz.prog Tryz.f12.ntmps [] []) = some (erase ae12) := by kernel_rfl
def fs12 : FnS := .fn 21 ae12 [.t 4, .t 5]
theorem fsok12 : FnOk Tryz.prog 12 fs12 := fun _ _ _ hn h => ctr_of_resC Tryz.func12 (by kernel_rfl) ree12 (by kernel_rfl) hn h
abbrev ae13 : ACode := (.seq [1, 3, 5] (.reg [⟨(some 3), .box (.t 0), none⟩,
    ⟨(some 5), .box (.t 2), none⟩,
    ⟨(some 6), .mv (.c (.l [] true)), none⟩,
    ⟨(some 7), .mv (.c (.i .i64 0)), none⟩])
  (.scope (.seq [1, 3, 5, 8, 9] (.reg [⟨(some 16), .load (some 6) (.t 3), none⟩,
    ⟨(some 17), .mv (.t 1), none⟩,
    ⟨(some 18), .mkf (.func 58) [] [(.t 5)], none⟩,
    ⟨(some 19), .call 44 [(.t 16), (.t 17), (.t 18)], none⟩,
    ⟨(some 15), .mv (.t 19), none⟩,
    ⟨(some 20), .extract 0 (.t 15), none⟩,
    ⟨(some 21), .extract 1 (.t 15), none⟩,
    ⟨(some 8), .alloc [(.l [] true), (.i .i64 0), (.l [] true), (.l [] true), (.l [] true), (.i .i64 0), (.i .i64 0), (.l [] true)], none⟩,
    ⟨none, .store 8 (.t 8) (.t 20), none⟩,
    ⟨(some 9), .mv (.t 21), none⟩])
  (.seq [1, 3, 5, 8] (.seq [1, 3, 5, 8, 9, 23] (.reg [⟨(some 22), .mv (.t 9), none⟩,
    ⟨(some 23), .bin .neq (.t 22) (.c (.i .i64 0)), none⟩])
  (.cond (.t 23)
  (.seq [6, 7] (.reg [⟨(some 24), .mv (.t 9), none⟩,
    ⟨(some 6), .mv (.c (.l [] true)), none⟩,
    ⟨(some 7), .mv (.t 24), none⟩])
  .ret)
  .skip))
  (.seq [1, 3, 5, 8, 10] (.reg [⟨(some 25), .mkmap, none⟩,
    ⟨(some 10), .alloc [.mn], none⟩,
    ⟨none, .store 1 (.t 10) (.t 25), none⟩])
  (.seq [1, 3, 8, 10] (.seq [1, 3, 5, 8, 10, 27] (.reg [⟨(some 26), .load (some 8) (.t 8), none⟩,
    ⟨(some 27), .call 49 [(.t 26), (.c (.l [] true))], none⟩])
  (.block 0 (.rangef [5, 8, 10] (.t 27) [28]
  (.reg [⟨(some 11), .mv (.t 28), none⟩])
  (.block 1 (.seq [10, 11, 35] (.dreg [10, 11, 35] [⟨0, ⟨(some 29), .load (some 8) (.t 8), none⟩, [], []⟩,
    ⟨1, ⟨(some 30), .load (some 8) (.t 8), none⟩, [], []⟩,
    ⟨2, ⟨(some 31), .mv (.t 11), none⟩, [], []⟩,
    ⟨5, ⟨(some 34), .load none (.t 5), none⟩, [], []⟩,
    ⟨3, ⟨(some 32), .call 59 [(.t 30), (.t 31)], none⟩, [5, 0], [⟨(some 34), .load none (.t 5), none⟩, ⟨(some 29), .load (some 8) (.t 8), none⟩]⟩,
    ⟨4, ⟨(some 33), .call 55 [(.t 29), (.t 32)], none⟩, [5], [⟨(some 34), .load none (.t 5), none⟩]⟩,
    ⟨6, ⟨(some 35), .bin .eql (.t 33) (.t 34), none⟩, [], []⟩])
  (.cond (.t 35)
  (.reg [⟨(some 36), .load none (.t 10), none⟩,
    ⟨(some 37), .mv (.t 11), none⟩,
    ⟨none, .mapset (.i .u64) (.t 36) (.t 37) (.c (.b true)), none⟩])
  .skip))))))
  (.seq [1, 3, 8, 10] (.seq [1, 3, 8, 10, 40] (.reg [⟨(some 38), .load none (.t 10), none⟩,
    ⟨(some 39), .lenm (.t 38), none⟩,
    ⟨(some 40), .bin .eql (.t 39) (.c (.i .i64 0)), none⟩])
  (.cond (.t 40)
  (.seq [6, 7] (.reg [⟨(some 6), .mv (.c (.l [] true)), none⟩,
    ⟨(some 7), .mv (.c (.i .i64 5)), none⟩])
  .ret)
  .skip))
  (.seq [3, 8, 10, 12] (.reg [⟨(some 41), .bslice 1 1 [(.i .i64 0)] [(0, (.c (.i .i64 1)))], none⟩,
    ⟨(some 42), .faddr 2 (.t 3), none⟩,
    ⟨(some 43), .load none (.t 42), none⟩,
    ⟨(some 44), .mv (.t 1), none⟩,
    ⟨(some 45), .iaddr 1 none (.t 43) (.t 44), none⟩,
    ⟨(some 46), .load none (.t 45), none⟩,
    ⟨(some 47), .call 60 [(.t 41), (.t 46)], none⟩,
    ⟨(some 12), .mv (.t 47), none⟩])
  (.seq [3, 8, 10, 12, 13] (.reg [⟨(some 48), .mv (.t 12), none⟩,
    ⟨(some 49), .len (.t 48), none⟩,
    ⟨(some 13), .mv (.t 49), none⟩])
  (.seq [3, 8, 10, 12, 13] .skip
  (.seq [12] (.block 2 (.loop [3, 8, 10, 12, 13] (.seq [3, 8, 10, 12] (.seq [3, 8, 10, 12, 51] (.reg [⟨(some 50), .mv (.t 13), none⟩,
    ⟨(some 51), .bin .geq (.t 50) (.c (.i .i64 0)), none⟩])
  (.cond (.t 51)
  .skip
  (.exit 2)))
  (.block 3 (.seq [3, 8, 10, 12] (.seq [3, 8, 10, 12, 54] (.reg [⟨(some 52), .load (some 8) (.t 8), none⟩,
    ⟨(some 53), .mv (.t 12), none⟩,
    ⟨(some 54), .call 49 [(.t 52), (.t 53)], none⟩])
  (.block 4 (.rangef [10] (.t 54) [55]
  (.reg [⟨(some 14), .mv (.t 55), none⟩])
  (.block 5 (.seq [58] (.reg [⟨(some 56), .load none (.t 10), none⟩,
    ⟨(some 57), .mv (.t 14), none⟩,
    ⟨(some 58), .lookup (.i .u64) (.b false) false (.t 56) (.t 57), none⟩])
  (.cond (.t 58)
  (.exit 2)
  .skip))))))
  (.seq [3, 8, 10, 12, 13] (.reg [⟨(some 59), .mv (.t 12), none⟩,
    ⟨(some 60), .len (.t 59), none⟩,
    ⟨(some 61), .bin .sub (.t 60) (.c (.i .i64 1)), none⟩,
    ⟨(some 13), .mv (.t 61), none⟩])
  (.block 6 (.loop [3, 8, 10, 12, 13] (.seq [3, 8, 10, 12, 13] (.seq [3, 8, 10, 12, 13, 63] (.reg [⟨(some 62), .mv (.t 13), none⟩,
    ⟨(some 63), .bin .geq (.t 62) (.c (.i .i64 0)), none⟩])
  (.cond (.t 63)
  .skip
  (.exit 6)))
  (.seq [3, 8, 10, 12, 13] (.block 7 (.seq [3, 8, 10, 12, 13] (.reg [⟨(some 66), .mv (.t 12), none⟩,
    ⟨(some 67), .mv (.t 13), none⟩,
    ⟨(some 68), .iaddr 1 none (.t 66) (.t 67), none⟩,
    ⟨(some 69), .load none (.t 68), none⟩,
    ⟨(some 70), .bin .add (.t 69) (.c (.i .i64 1)), none⟩,
    ⟨(some 71), .iaddr 1 none (.t 66) (.t 67), none⟩,
    ⟨none, .store 1 (.t 71) (.t 70), none⟩])
  (.seq [3, 8, 10, 12, 13] (.seq [3, 8, 10, 12, 13, 80] (.dreg [3, 8, 10, 12, 13, 80] [⟨0, ⟨(some 72), .mv (.t 12), none⟩, [], []⟩,
    ⟨1, ⟨(some 73), .mv (.t 13), none⟩, [], []⟩,
    ⟨2, ⟨(some 74), .iaddr 1 none (.t 72) (.t 73), none⟩, [], []⟩,
    ⟨3, ⟨(some 75), .load none (.t 74), none⟩, [], []⟩,
    ⟨4, ⟨(some 76), .faddr 0 (.t 3), none⟩, [], []⟩,
    ⟨5, ⟨(some 77), .load none (.t 76), none⟩, [], []⟩,
    ⟨6, ⟨(some 78), .len (.t 77), none⟩, [], []⟩,
    ⟨7, ⟨(some 79), .bin .add (.c (.i .i64 3)) (.t 78), none⟩, [], []⟩,
    ⟨8, ⟨(some 80), .bin .lss (.t 75) (.t 79), none⟩, [], []⟩])
  (.cond (.t 80)
  (.exit 6)
  .skip))
  (.reg [⟨(some 81), .mv (.t 12), none⟩,
    ⟨(some 82), .mv (.t 13), none⟩,
    ⟨(some 83), .iaddr 1 none (.t 81) (.t 82), none⟩,
    ⟨none, .store 1 (.t 83) (.c (.i .i64 1)), none⟩]))))
  (.reg [⟨(some 64), .mv (.t 13), none⟩,
    ⟨(some 65), .bin .sub (.t 64) (.c (.i .i64 1)), none⟩,
    ⟨(some 13), .mv (.t 65), none⟩])))))))))))
  (.seq [6, 7] (.reg [⟨(some 84), .mv (.t 12), none⟩,
    ⟨(some 6), .mv (.t 84), none⟩,
    ⟨(some 7), .mv (.c (.i .i64 0)), none⟩])
  .ret))))))))))))
theorem ree13 : Tryz.f13.body.bind (res Tryz.prog Tryz.f13.ntmps [] []) = some (erase ae13) := by kernel_rfl
def fs13 : FnS := .fn 85 ae13 [.t 6, .t 7]
theorem fsok13 : FnOk Tryz.prog 13 fs13 := fun _ _ _ hn h => ctr_of_resC Tryz.func13 (by kernel_rfl) ree13 (by kernel_rfl) hn h
abbrev ae14 : ACode := (.seq [1, 2, 4] (.reg [⟨(some 2), .box (.t 0), none⟩,
    ⟨(some 4), .alloc [(.i .i64 0), (.i .i64 0), (.l [] true), (.i .i64 0), (.i .i64 0), (.l [] true)], none⟩,
    ⟨(some 5), .mv (.c (.i .i64 0)), none⟩])
  (.seq [2, 4, 6, 7] (.reg [⟨(some 15), .load (some 6) (.t 2), none⟩,
    ⟨(some 16), .mv (.t 1), none⟩,
    ⟨(some 17), .call 44 [(.t 15), (.t 16), (.c (.f (.func 50) [] []))], none⟩,
    ⟨(some 14), .mv (.t 17), none⟩,
    ⟨(some 18), .extract 0 (.t 14), none⟩,
    ⟨(some 19), .extract 1 (.t 14), none⟩,
    ⟨(some 6), .alloc [(.l [] true), (.i .i64 0), (.l [] true), (.l [] true), (.l [] true), (.i .i64 0), (.i .i64 0), (.l [] true)], none⟩,
    ⟨none, .store 8 (.t 6) (.t 18), none⟩,
    ⟨(some 7), .mv (.t 19), none⟩])
  (.seq [2, 4, 6] (.seq [2, 4, 6, 7, 21] (.reg [⟨(some 20), .mv (.t 7), none⟩,
    ⟨(some 21), .bin .neq (.t 20) (.c (.i .i64 0)), none⟩])
  (.cond (.t 21)
  (.seq [4, 5] (.reg [⟨(some 22), .build [(.i .i64 0), (.i .i64 0), (.l [] true), (.i .i64 0), (.i .i64 0), (.l [] true)] [], none⟩,
    ⟨(some 23), .mv (.t 7), none⟩,
    ⟨none, .store 6 (.t 4) (.t 22), none⟩,
    ⟨(some 5), .mv (.t 23), none⟩])
  .ret)
  .skip))
  (.seq [2, 4, 6, 8] (.reg [⟨(some 8), .mv (.c (.l [] true)), none⟩])
  (.seq [2, 4, 6, 8] (.seq [2, 4, 6, 8, 25, 26, 27] (.reg [⟨(some 24), .faddr 7 (.t 6), none⟩,
    ⟨(some 25), .load none (.t 24), none⟩,
    ⟨(some 26), .len (.t 25), none⟩,
    ⟨(some 27), .mv (.c (.i .i64 0)), none⟩])
  (.block 0 (.loop [2, 4, 6, 8, 25, 26, 27] (.seq [2, 4, 6, 8, 25, 26, 27, 28] (.reg [⟨(some 28), .bin .lss (.t 27) (.t 26), none⟩])
  (.seq [2, 4, 6, 8, 25, 26, 27] (.cond (.t 28)
  .skip
  (.exit 0))
  (.seq [2, 4, 6, 8, 25, 26, 27] (.block 1 (.seq [2, 4, 6, 8, 10, 25, 26, 27] (.reg [⟨(some 29), .iaddr 1 none (.t 25) (.t 27), none⟩,
    ⟨(some 30), .load none (.t 29), none⟩,
    ⟨(some 10), .mv (.t 30), none⟩])
  (.seq [2, 4, 6, 8, 10, 25, 26, 27, 37] (.reg [⟨(some 31), .faddr 3 (.t 2), none⟩,
    ⟨(some 32), .load none (.t 31), none⟩,
    ⟨(some 33), .mv (.t 10), none⟩,
    ⟨(some 34), .iaddr 9 none (.t 32) (.t 33), none⟩,
    ⟨(some 35), .faddr 0 (.t 34), none⟩,
    ⟨(some 36), .load none (.t 35), none⟩,
    ⟨(some 37), .bin .eql (.t 36) (.c (.i .i64 1)), none⟩])
  (.cond (.t 37)
  (.reg [⟨(some 38), .mv (.t 8), none⟩,
    ⟨(some 39), .faddr 3 (.t 2), none⟩,
    ⟨(some 40), .load none (.t 39), none⟩,
    ⟨(some 41), .mv (.t 10), none⟩,
    ⟨(some 42), .iaddr 9 none (.t 40) (.t 41), none⟩,
    ⟨(some 43), .faddr 2 (.t 42), none⟩,
    ⟨(some 44), .load (some 6) (.t 43), none⟩,
    ⟨(some 45), .bslice 6 1 [(.i .i64 0), (.i .i64 0), (.l [] true), (.i .i64 0), (.i .i64 0), (.l [] true)] [(0, (.t 44))], none⟩,
    ⟨(some 46), .append 6 80 (.t 38) (.t 45), none⟩,
    ⟨(some 8), .mv (.t 46), none⟩])
  .skip))))
  (.reg [⟨(some 47), .bin .add (.t 27) (.c (.i .i64 1)), none⟩,
    ⟨(some 27), .mv (.t 47), none⟩])))))))
  (.seq [2, 4, 6, 8, 11] (.reg [⟨(some 48), .mv (.t 8), none⟩,
    ⟨(some 49), .call 61 [(.c (.i .i64 7)), (.t 48)], none⟩,
    ⟨(some 11), .alloc [(.i .i64 0), (.i .i64 0), (.l [] true), (.i .i64 0), (.i .i64 0), (.l [] true)], none⟩,
    ⟨none, .store 6 (.t 11) (.t 49), none⟩])
  (.seq [2, 4, 6, 11] (.seq [2, 4, 6, 11, 52] (.reg [⟨(some 50), .mv (.t 8), none⟩,
    ⟨(some 51), .len (.t 50), none⟩,
    ⟨(some 52), .bin .gtr (.t 51) (.c (.i .i64 0)), none⟩])
  (.cond (.t 52)
  (.reg [⟨(some 53), .load (some 6) (.t 11), none⟩,
    ⟨(some 54), .call 62 [(.t 53)], none⟩,
    ⟨none, .store 6 (.t 11) (.t 54), none⟩])
  .skip))
  (.seq [2, 4, 7, 11] (.reg [⟨(some 56), .load (some 8) (.t 6), none⟩,
    ⟨(some 57), .load (some 6) (.t 11), none⟩,
    ⟨(some 58), .call 63 [(.t 56), (.t 57)], none⟩,
    ⟨(some 55), .mv (.t 58), none⟩,
    ⟨(some 59), .extract 0 (.t 55), none⟩,
    ⟨(some 60), .extract 1 (.t 55), none⟩,
    ⟨none, .store 6 (.t 11) (.t 59), none⟩,
    ⟨(some 7), .mv (.t 60), none⟩])
  (.seq [2, 4, 11] (.seq [2, 4, 7, 11, 62] (.reg [⟨(some 61), .mv (.t 7), none⟩,
    ⟨(some 62), .bin .neq (.t 61) (.c (.i .i64 0)), none⟩])
  (.cond (.t 62)
  (.seq [4, 5] (.reg [⟨(some 63), .build [(.i .i64 0), (.i .i64 0), (.l [] true), (.i .i64 0), (.i .i64 0), (.l [] true)] [], none⟩,
    ⟨(some 64), .mv (.t 7), none⟩,
    ⟨none, .store 6 (.t 4) (.t 63), none⟩,
    ⟨(some 5), .mv (.t 64), none⟩])
  .ret)
  .skip))
  (.seq [4, 11, 12] (.reg [⟨(some 66), .load (some 6) (.t 2), none⟩,
    ⟨(some 67), .call 64 [(.t 66)], none⟩,
    ⟨(some 65), .mv (.t 67), none⟩,
    ⟨(some 68), .extract 0 (.t 65), none⟩,
    ⟨(some 69), .extract 1 (.t 65), none⟩,
    ⟨(some 12), .alloc [(.l [] true), (.l [] true)], none⟩,
    ⟨none, .store 2 (.t 12) (.t 68), none⟩,
    ⟨(some 13), .mv (.t 69), none⟩])
  (.seq [4, 5] (.reg [⟨(some 70), .load (some 2) (.t 12), none⟩,
    ⟨(some 71), .load (some 6) (.t 11), none⟩,
    ⟨(some 72), .call 65 [(.t 70), (.t 71)], none⟩,
    ⟨(some 73), .extract 0 (.t 72), none⟩,
    ⟨(some 74), .extract 1 (.t 72), none⟩,
    ⟨none, .store 6 (.t 4) (.t 73), none⟩,
    ⟨(some 5), .mv (.t 74), none⟩])
  .ret)))))))))))
theorem ree14 : Tryz.f14.body.bind (res Tryz.prog Tryz.f14.ntmps [] []) = some (erase ae14) := by kernel_rfl
def fs14 : FnS := .fn 75 ae14 [.c 4 (some 6), .t 5]
theorem fsok14 : FnOk Tryz.prog 14 fs14 := fun _ _ _ hn h => ctr_of_resC Tryz.func14 (by kernel_rfl) ree14 (by kernel_rfl) hn h
abbrev ae15 : ACode := (.seq [1, 3, 5, 6] (.reg [⟨(some 3), .box (.t 0), none⟩,
    ⟨(some 5), .box (.t 2), none⟩,
    ⟨(some 6), .alloc [(.i .i64 0), (.i .i64 0), (.l [] true), (.i .i64 0), (.i .i64 0), (.l [] true)], none⟩,
    ⟨(some 7), .mv (.c (.i .i64 0)), none⟩])
  (.seq [3, 5, 6, 8, 9] (.reg [⟨(some 15), .load (some 6) (.t 3), none⟩,
    ⟨(some 16), .mv (.t 1), none⟩,
    ⟨(some 17), .mkf (.func 66) [] [(.t 5)], none⟩,
    ⟨(some 18), .call 44 [(.t 15), (.t 16), (.t 17)], none⟩,
    ⟨(some 14), .mv (.t 18), none⟩,
    ⟨(some 19), .extract 0 (.t 14), none⟩,
    ⟨(some 20), .extract 1 (.t 14), none⟩,
    ⟨(some 8), .alloc [(.l [] true), (.i .i64 0), (.l [] true), (.l [] true), (.l [] true), (.i .i64 0), (.i .i64 0), (.l [] true)], none⟩,
    ⟨none, .store 8 (.t 8) (.t 19), none⟩,
    ⟨(some 9), .mv (.t 20), none⟩])
  (.seq [3, 5, 6, 8] (.seq [3, 5, 6, 8, 9, 22] (.reg [⟨(some 21), .mv (.t 9), none⟩,
    ⟨(some 22), .bin .neq (.t 21) (.c (.i .i64 0)), none⟩])
  (.cond (.t 22)
  (.seq [6, 7] (.reg [⟨(some 23), .build [(.i .i64 0), (.i .i64 0), (.l [] true), (.i .i64 0), (.i .i64 0), (.l [] true)] [], none⟩,
    ⟨(some 24), .mv (.t 9), none⟩,
    ⟨none, .store 6 (.t 6) (.t 23), none⟩,
    ⟨(some 7), .mv (.t 24), none⟩])
  .ret)
  .skip))
  (.seq [3, 5, 6, 8, 10] (.reg [⟨(some 10), .mv (.c (.l [] true)), none⟩])
  (.seq [6, 8, 10] (.seq [3, 5, 6, 8, 10, 26, 27, 28] (.reg [⟨(some 25), .faddr 7 (.t 8), none⟩,
    ⟨(some 26), .load none (.t 25), none⟩,
    ⟨(some 27), .len (.t 26), none⟩,
    ⟨(some 28), .mv (.c (.i .i64 0)), none⟩])
  (.block 0 (.loop [3, 5, 6, 8, 10, 26, 27, 28] (.seq [3, 5, 6, 8, 10, 26, 27, 28, 29] (.reg [⟨(some 29), .bin .lss (.t 28) (.t 27), none⟩])
  (.seq [3, 5, 6, 8, 10, 26, 27, 28] (.cond (.t 29)
  .skip
  (.exit 0))
  (.seq [3, 5, 6, 8, 10, 26, 27, 28] (.block 1 (.seq [3, 5, 6, 8, 10, 12, 26, 27, 28] (.reg [⟨(some 30), .iaddr 1 none (.t 26) (.t 28), none⟩,
    ⟨(some 31), .load none (.t 30), none⟩,
    ⟨(some 12), .mv (.t 31), none⟩])
  (.seq [3, 5, 6, 8, 10, 12, 13, 26, 27, 28] (.reg [⟨(some 32), .faddr 3 (.t 3), none⟩,
    ⟨(some 33), .load none (.t 32), none⟩,
    ⟨(some 34), .mv (.t 12), none⟩,
    ⟨(some 35), .iaddr 9 none (.t 33) (.t 34), none⟩,
    ⟨(some 36), .faddr 2 (.t 35), none⟩,
    ⟨(some 37), .load (some 6) (.t 36), none⟩,
    ⟨(some 13), .alloc [(.i .i64 0), (.i .i64 0), (.l [] true), (.i .i64 0), (.i .i64 0), (.l [] true)], none⟩,
    ⟨none, .store 6 (.t 13) (.t 37), none⟩])
  (.seq [3, 5, 6, 8, 10, 13, 26, 27, 28] (.seq [3, 5, 6, 8, 10, 13, 26, 27, 28, 41] (.reg [⟨(some 38), .load none (.t 5), none⟩,
    ⟨(some 39), .mv (.t 12), none⟩,
    ⟨(some 40), .call 67 [(.t 38), (.t 39)], none⟩,
    ⟨(some 41), .not (.t 40), none⟩])
  (.cond (.t 41)
  (.reg [⟨(some 42), .load (some 6) (.t 13), none⟩,
    ⟨(some 43), .call 62 [(.t 42)], none⟩,
    ⟨none, .store 6 (.t 13) (.t 43), none⟩])
  .skip))
  (.reg [⟨(some 44), .mv (.t 10), none⟩,
    ⟨(some 45), .load (some 6) (.t 13), none⟩,
    ⟨(some 46), .bslice 6 1 [(.i .i64 0), (.i .i64 0), (.l [] true), (.i .i64 0), (.i .i64 0), (.l [] true)] [(0, (.t 45))], none⟩,
    ⟨(some 47), .append 6 80 (.t 44) (.t 46), none⟩,
    ⟨(some 10), .mv (.t 47), none⟩])))))
  (.reg [⟨(some 48), .bin .add (.t 28) (.c (.i .i64 1)), none⟩,
    ⟨(some 28), .mv (.t 48), none⟩])))))))
  (.seq [6, 7] (.dreg [6, 7] [⟨0, ⟨(some 49), .load (some 8) (.t 8), none⟩, [], []⟩,
    ⟨1, ⟨(some 50), .mv (.t 10), none⟩, [], []⟩,
    ⟨2, ⟨(some 51), .call 61 [(.c (.i .i64 6)), (.t 50)], none⟩, [0], [⟨(some 49), .load (some 8) (.t 8), none⟩]⟩,
    ⟨3, ⟨(some 52), .call 63 [(.t 49), (.t 51)], none⟩, [], []⟩,
    ⟨4, ⟨(some 53), .extract 0 (.t 52), none⟩, [], []⟩,
    ⟨5, ⟨(some 54), .extract 1 (.t 52), none⟩, [], []⟩,
    ⟨6, ⟨none, .store 6 (.t 6) (.t 53), none⟩, [], []⟩,
    ⟨7, ⟨(some 7), .mv (.t 54), none⟩, [], []⟩])
  .ret))))))
theorem ree15 : Tryz.f15.body.bind (res Tryz.prog Tryz.f15.ntmps [] []) = some (erase ae15) := by kernel_rfl
def fs15 : FnS := .fn 55 ae15 [.c 6 (some 6), .t 7]
theorem fsok15 : FnOk Tryz.prog 15 fs15 := fun _ _ _ hn h => ctr_of_resC Tryz.func15 (by kernel_rfl) ree15 (by kernel_rfl) hn h
abbrev ae16 : ACode := (.seq [0, 1] (.reg [⟨(some 4), .mv (.c (.b false)), none⟩])
  (.seq [0, 1] (.seq [0, 1, 10] (.reg [⟨(some 6), .mv (.t 0), none⟩,
    ⟨(some 7), .len (.t 6), none⟩,
    ⟨(some 8), .mv (.t 1), none⟩,
    ⟨(some 9), .len (.t 8), none⟩,
    ⟨(some 10), .bin .neq (.t 7) (.t 9), none⟩])
  (.cond (.t 10)
  (.seq [4] (.reg [⟨(some 4), .mv (.c (.b false)), none⟩])
  .ret)
  .skip))
  (.seq [] (.seq [0, 1, 12, 13] (.reg [⟨(some 11), .mv (.t 0), none⟩,
    ⟨(some 12), .len (.t 11), none⟩,
    ⟨(some 13), .mv (.c (.i .i64 0)), none⟩])
  (.block 0 (.loop [0, 1, 12, 13] (.seq [0, 1, 12, 13, 14] (.reg [⟨(some 14), .bin .lss (.t 13) (.t 12), none⟩])
  (.seq [0, 1, 12, 13] (.cond (.t 14)
  .skip
  (.exit 0))
  (.seq [0, 1, 12, 13] (.block 1 (.seq [0, 1, 5, 12, 13] (.reg [⟨(some 15), .mv (.t 13), none⟩,
    ⟨(some 5), .mv (.t 15), none⟩])
  (.seq [0, 1, 12, 13, 24] (.dreg [0, 1, 12, 13, 24] [⟨0, ⟨(some 16), .mv (.t 0), none⟩, [], []⟩,
    ⟨1, ⟨(some 17), .mv (.t 5), none⟩, [], []⟩,
    ⟨2, ⟨(some 18), .iaddr 1 none (.t 16) (.t 17), none⟩, [], []⟩,
    ⟨3, ⟨(some 19), .load none (.t 18), none⟩, [], []⟩,
    ⟨4, ⟨(some 20), .mv (.t 1), none⟩, [], []⟩,
    ⟨5, ⟨(some 21), .mv (.t 5), none⟩, [], []⟩,
    ⟨6, ⟨(some 22), .iaddr 1 none (.t 20) (.t 21), none⟩, [], []⟩,
    ⟨7, ⟨(some 23), .load none (.t 22), none⟩, [], []⟩,
    ⟨8, ⟨(some 24), .bin .neq (.t 19) (.t 23), none⟩, [], []⟩])
  (.cond (.t 24)
  (.seq [4] (.reg [⟨(some 4), .mv (.c (.b false)), none⟩])
  .ret)
  .skip))))
  (.reg [⟨(some 25), .bin .add (.t 13) (.c (.i .i64 1)), none⟩,
    ⟨(some 13), .mv (.t 25), none⟩])))))))
  (.seq [4] (.reg [⟨(some 4), .mv (.c (.b true)), none⟩])
  .ret))))
theorem ree16 : Tryz.f16.body.bind (res Tryz.prog Tryz.f16.ntmps [] []) = some (erase ae16) := by kernel_rfl
def fs16 : FnS := .fn 26 ae16 [.t 4]
theorem fsok16 : FnOk Tryz.prog 16 fs16 := fun _ _ _ hn h => ctr_of_resC Tryz.func16 (by kernel_rfl) ree16 (by kernel_rfl) hn h
abbrev ae17 : ACode := (.seq [0] (.reg [⟨(some 0), .alloc [(.i .i64 0), (.i .i64 0), (.l [] true), (.i .i64 0), (.i .i64 0), (.l [] true)], none⟩])
  (.seq [0] (.reg [⟨(some 1), .build [(.i .i64 0), (.i .i64 0), (.l [] true), (.i .i64 0), (.i .i64 0), (.l [] true)] [(0, 1, (.c (.i .i64 1)))], none⟩,
    ⟨none, .store 6 (.t 0) (.t 1), none⟩])
  .ret))
theorem ree17 : Tryz.f17.body.bind (res Tryz.prog Tryz.f17.ntmps [] []) = some (erase ae17) := by kernel_rfl
def fs17 : FnS := .fn 2 ae17 [.c 0 (some 6)]
theorem fsok17 : FnOk Tryz.prog 17 fs17 := fun _ _ _ hn h => ctr_of_resC Tryz.func17 (by kernel_rfl) ree17 (by kernel_rfl) hn h
abbrev ae18 : ACode := (.seq [] (.reg [⟨(some 0), .mv (.c (.b false)), none⟩])
  (.seq [1] (.reg [⟨(some 16), .call 7 [(.c (.l [] true))], none⟩,
    ⟨(some 1), .alloc [(.l [] true), (.i .i64 0), (.l [] true), (.l [] true), (.l [] true), (.i .i64 0)], none⟩,
    ⟨none, .store 6 (.t 1) (.t 16), none⟩])
  (.seq [1, 2, 3] (.reg [⟨(some 18), .load (some 6) (.t 1), none⟩,
    ⟨(some 19), .call 12 [(.t 18), (.c (.i .i64 0))], none⟩,
    ⟨(some 17), .mv (.t 19), none⟩,
    ⟨(some 20), .extract 0 (.t 17), none⟩,
    ⟨(some 21), .extract 1 (.t 17), none⟩,
    ⟨(some 2), .mv (.t 20), none⟩,
    ⟨(some 3), .mv (.t 21), none⟩])
  (.seq [1, 2, 3, 4, 5] (.reg [⟨(some 23), .load (some 6) (.t 1), none⟩,
    ⟨(some 24), .call 68 [(.t 23), (.c (.i .i64 0))], none⟩,
    ⟨(some 22), .mv (.t 24), none⟩,
    ⟨(some 25), .extract 0 (.t 22), none⟩,
    ⟨(some 26), .extract 1 (.t 22), none⟩,
    ⟨(some 4), .mv (.t 25), none⟩,
    ⟨(some 5), .mv (.t 26), none⟩])
  (.seq [1, 2, 3, 4, 5, 6, 7] (.reg [⟨(some 28), .load (some 6) (.t 1), none⟩,
    ⟨(some 29), .bslice 1 1 [(.i .i64 0)] [(0, (.c (.i .i64 4)))], none⟩,
    ⟨(some 30), .call 8 [(.t 28), (.c (.i .i64 0)), (.t 29)], none⟩,
    ⟨(some 27), .mv (.t 30), none⟩,
    ⟨(some 31), .extract 0 (.t 27), none⟩,
    ⟨(some 32), .extract 1 (.t 27), none⟩,
    ⟨(some 6), .mv (.t 31), none⟩,
    ⟨(some 7), .mv (.t 32), none⟩])
  (.seq [1, 2, 3, 4, 5, 6, 7, 9] (.reg [⟨(some 34), .load (some 6) (.t 1), none⟩,
    ⟨(some 35), .bslice 1 1 [(.i .i64 0)] [(0, (.c (.i .i64 0)))], none⟩,
    ⟨(some 36), .call 8 [(.t 34), (.c (.i .i64 0)), (.t 35)], none⟩,
    ⟨(some 33), .mv (.t 36), none⟩,
    ⟨(some 37), .extract 0 (.t 33), none⟩,
    ⟨(some 38), .extract 1 (.t 33), none⟩,
    ⟨(some 8), .mv (.t 37), none⟩,
    ⟨(some 9), .mv (.t 38), none⟩])
  (.seq [1, 2, 4, 6] (.seq [1, 2, 4, 6, 52] (.reg [⟨(some 39), .mv (.t 3), none⟩,
    ⟨(some 40), .bin .neq (.t 39) (.c (.i .i64 0)), none⟩,
    ⟨(some 41), .mv (.t 40), none⟩,
    ⟨(some 42), .mv (.t 5), (some (41, false))⟩,
    ⟨(some 43), .bin .neq (.t 42) (.c (.i .i64 0)), (some (41, false))⟩,
    ⟨(some 44), .pick (.t 41) (.c (.b true)) (.t 43), none⟩,
    ⟨(some 45), .mv (.t 44), none⟩,
    ⟨(some 46), .mv (.t 7), (some (45, false))⟩,
    ⟨(some 47), .bin .neq (.t 46) (.c (.i .i64 0)), (some (45, false))⟩,
    ⟨(some 48), .pick (.t 45) (.c (.b true)) (.t 47), none⟩,
    ⟨(some 49), .mv (.t 48), none⟩,
    ⟨(some 50), .mv (.t 9), (some (49, false))⟩,
    ⟨(some 51), .bin .neq (.t 50) (.c (.i .i64 2)), (some (49, false))⟩,
    ⟨(some 52), .pick (.t 49) (.c (.b true)) (.t 51), none⟩])
  (.cond (.t 52)
  (.seq [0] (.reg [⟨(some 0), .mv (.c (.b false)), none⟩])
  .ret)
  .skip))
  (.seq [1, 2, 4, 6, 10] (.reg [⟨(some 53), .build [(.l [] true), (.i .i64 0)] [(1, 1, (.c (.i .i64 4)))], none⟩,
    ⟨(some 54), .bslice 1 1 [(.i .i64 0)] [(0, (.c (.i .i64 0)))], none⟩,
    ⟨(some 55), .build [(.l [] true), (.i .i64 0)] [(0, 1, (.t 54)), (1, 1, (.c (.i .i64 1)))], none⟩,
    ⟨(some 56), .bslice 1 2 [(.i .i64 0)] [(0, (.c (.i .i64 0))), (1, (.c (.i .i64 2)))], none⟩,
    ⟨(some 57), .build [(.l [] true), (.i .i64 0)] [(0, 1, (.t 56)), (1, 1, (.c (.i .i64 1)))], none⟩,
    ⟨(some 58), .bslice 1 2 [(.i .i64 0)] [(0, (.c (.i .i64 0))), (1, (.c (.i .i64 1)))], none⟩,
    ⟨(some 59), .build [(.l [] true), (.i .i64 0)] [(0, 1, (.t 58)), (1, 1, (.c (.i .i64 1)))], none⟩,
    ⟨(some 60), .bslice 1 3 [(.i .i64 0)] [(0, (.c (.i .i64 0))), (1, (.c (.i .i64 1))), (2, (.c (.i .i64 2)))], none⟩,
    ⟨(some 61), .build [(.l [] true), (.i .i64 0)] [(0, 1, (.t 60)), (1, 1, (.c (.i .i64 3)))], none⟩,
    ⟨(some 62), .bslice 2 5 [(.l [] true), (.i .i64 0)] [(0, (.t 53)), (1, (.t 55)), (2, (.t 57)), (3, (.t 59)), (4, (.t 61))], none⟩,
    ⟨(some 10), .mv (.t 62), none⟩])
  (.seq [1] (.seq [1, 80] (.reg [⟨(some 63), .mv (.t 2), none⟩,
    ⟨(some 64), .mv (.t 10), none⟩,
    ⟨(some 65), .call 69 [(.t 63), (.t 64)], none⟩,
    ⟨(some 66), .not (.t 65), none⟩,
    ⟨(some 67), .mv (.t 66), none⟩,
    ⟨(some 68), .mv (.t 4), (some (67, false))⟩,
    ⟨(some 69), .mv (.t 10), (some (67, false))⟩,
    ⟨(some 70), .slice 2 (.t 69) none (some (.c (.i .i64 4))) none, (some (67, false))⟩,
    ⟨(some 71), .call 69 [(.t 68), (.t 70)], (some (67, false))⟩,
    ⟨(some 72), .not (.t 71), (some (67, false))⟩,
    ⟨(some 73), .pick (.t 67) (.c (.b true)) (.t 72), none⟩,
    ⟨(some 74), .mv (.t 73), none⟩,
    ⟨(some 75), .mv (.t 6), (some (74, false))⟩,
    ⟨(some 76), .mv (.t 10), (some (74, false))⟩,
    ⟨(some 77), .slice 2 (.t 76) (some (.c (.i .i64 3))) (some (.c (.i .i64 4))) none, (some (74, false))⟩,
    ⟨(some 78), .call 69 [(.t 75), (.t 77)], (some (74, false))⟩,
    ⟨(some 79), .not (.t 78), (some (74, false))⟩,
    ⟨(some 80), .pick (.t 74) (.c (.b true)) (.t 79), none⟩])
  (.cond (.t 80)
  (.seq [0] (.reg [⟨(some 0), .mv (.c (.b false)), none⟩])
  .ret)
  .skip))
  (.seq [1, 3, 11] (.reg [⟨(some 82), .load (some 6) (.t 1), none⟩,
    ⟨(some 83), .call 13 [(.t 82), (.c (.i .i64 0)), (.c (.i .i64 4))], none⟩,
    ⟨(some 81), .mv (.t 83), none⟩,
    ⟨(some 84), .extract 0 (.t 81), none⟩,
    ⟨(some 85), .extract 1 (.t 81), none⟩,
    ⟨(some 11), .mv (.t 84), none⟩,
    ⟨(some 3), .mv (.t 85), none⟩])
  (.seq [1, 3, 5, 11] (.reg [⟨(some 87), .load (some 6) (.t 1), none⟩,
    ⟨(some 88), .call 13 [(.t 87), (.c (.i .i64 0)), (.c (.i .i64 3))], none⟩,
    ⟨(some 86), .mv (.t 88), none⟩,
    ⟨(some 89), .extract 0 (.t 86), none⟩,
    ⟨(some 90), .extract 1 (.t 86), none⟩,
    ⟨(some 5), .mv (.t 90), none⟩])
  (.seq [1, 3, 5, 7, 11, 12] (.reg [⟨(some 92), .load (some 6) (.t 1), none⟩,
    ⟨(some 93), .call 13 [(.t 92), (.c (.i .i64 0)), (.c (.i .i64 1))], none⟩,
    ⟨(some 91), .mv (.t 93), none⟩,
    ⟨(some 94), .extract 0 (.t 91), none⟩,
    ⟨(some 95), .extract 1 (.t 91), none⟩,
    ⟨(some 12), .mv (.t 94), none⟩,
    ⟨(some 7), .mv (.t 95), none⟩])
  (.seq [1, 3, 5, 7, 9, 11, 12, 13] (.reg [⟨(some 97), .call 70 [], none⟩,
    ⟨(some 98), .bslice 1 4 [(.i .i64 0)] [(0, (.c (.i .i64 0))), (1, (.c (.i .i64 1))), (2, (.c (.i .i64 2))), (3, (.c (.i .i64 3)))], none⟩,
    ⟨(some 99), .call 10 [(.t 97), (.c (.i .i64 0)), (.t 98)], none⟩,
    ⟨(some 96), .mv (.t 99), none⟩,
    ⟨(some 100), .extract 0 (.t 96), none⟩,
    ⟨(some 101), .extract 1 (.t 96), none⟩,
    ⟨(some 13), .mv (.t 100), none⟩,
    ⟨(some 9), .mv (.t 101), none⟩])
  (.seq [1] (.seq [1, 131] (.reg [⟨(some 102), .mv (.t 3), none⟩,
    ⟨(some 103), .bin .neq (.t 102) (.c (.i .i64 0)), none⟩,
    ⟨(some 104), .mv (.t 103), none⟩,
    ⟨(some 105), .mv (.t 5), (some (104, false))⟩,
    ⟨(some 106), .bin .neq (.t 105) (.c (.i .i64 5)), (some (104, false))⟩,
    ⟨(some 107), .pick (.t 104) (.c (.b true)) (.t 106), none⟩,
    ⟨(some 108), .mv (.t 107), none⟩,
    ⟨(some 109), .mv (.t 7), (some (108, false))⟩,
    ⟨(some 110), .bin .neq (.t 109) (.c (.i .i64 0)), (some (108, false))⟩,
    ⟨(some 111), .pick (.t 108) (.c (.b true)) (.t 110), none⟩,
    ⟨(some 112), .mv (.t 111), none⟩,
    ⟨(some 113), .mv (.t 9), (some (112, false))⟩,
    ⟨(some 114), .bin .neq (.t 113) (.c (.i .i64 0)), (some (112, false))⟩,
    ⟨(some 115), .pick (.t 112) (.c (.b true)) (.t 114), none⟩,
    ⟨(some 116), .mv (.t 115), none⟩,
    ⟨(some 117), .mv (.t 11), (some (116, false))⟩,
    ⟨(some 118), .bslice 1 1 [(.i .i64 0)] [(0, (.c (.i .i64 1)))], (some (116, false))⟩,
    ⟨(some 119), .call 71 [(.t 117), (.t 118)], (some (116, false))⟩,
    ⟨(some 120), .not (.t 119), (some (116, false))⟩,
    ⟨(some 121), .pick (.t 116) (.c (.b true)) (.t 120), none⟩,
    ⟨(some 122), .mv (.t 121), none⟩,
    ⟨(some 123), .mv (.t 12), (some (122, false))⟩,
    ⟨(some 124), .bslice 1 1 [(.i .i64 0)] [(0, (.c (.i .i64 3)))], (some (122, false))⟩,
    ⟨(some 125), .call 71 [(.t 123), (.t 124)], (some (122, false))⟩,
    ⟨(some 126), .not (.t 125), (some (122, false))⟩,
    ⟨(some 127), .pick (.t 122) (.c (.b true)) (.t 126), none⟩,
    ⟨(some 128), .mv (.t 127), none⟩,
    ⟨(some 129), .mv (.t 13), (some (128, false))⟩,
    ⟨(some 130), .bin .neq (.t 129) (.c (.i .i64 2)), (some (128, false))⟩,
    ⟨(some 131), .pick (.t 128) (.c (.b true)) (.t 130), none⟩])
  (.cond (.t 131)
  (.seq [0] (.reg [⟨(some 0), .mv (.c (.b false)), none⟩])
  .ret)
  .skip))
  (.seq [1, 3, 14] (.reg [⟨(some 133), .load (some 6) (.t 1), none⟩,
    ⟨(some 134), .call 14 [(.t 133), (.c (.i .i64 0))], none⟩,
    ⟨(some 132), .mv (.t 134), none⟩,
    ⟨(some 135), .extract 0 (.t 132), none⟩,
    ⟨(some 136), .extract 1 (.t 132), none⟩,
    ⟨(some 14), .alloc [(.i .i64 0), (.i .i64 0), (.l [] true), (.i .i64 0), (.i .i64 0), (.l [] true)], none⟩,
    ⟨none, .store 6 (.t 14) (.t 135), none⟩,
    ⟨(some 3), .mv (.t 136), none⟩])
  (.seq [3, 5, 14, 15] (.reg [⟨(some 138), .load (some 6) (.t 1), none⟩,
    ⟨(some 139), .bslice 1 2 [(.i .i64 0)] [(0, (.c (.i .i64 0))), (1, (.c (.i .i64 1)))], none⟩,
    ⟨(some 140), .call 15 [(.t 138), (.c (.i .i64 0)), (.t 139)], none⟩,
    ⟨(some 137), .mv (.t 140), none⟩,
    ⟨(some 141), .extract 0 (.t 137), none⟩,
    ⟨(some 142), .extract 1 (.t 137), none⟩,
    ⟨(some 15), .alloc [(.i .i64 0), (.i .i64 0), (.l [] true), (.i .i64 0), (.i .i64 0), (.l [] true)], none⟩,
    ⟨none, .store 6 (.t 15) (.t 141), none⟩,
    ⟨(some 5), .mv (.t 142), none⟩])
  (.seq [0] (.dreg [0] [⟨0, ⟨(some 143), .mv (.t 3), none⟩, [], []⟩,
    ⟨1, ⟨(some 144), .bin .eql (.t 143) (.c (.i .i64 0)), none⟩, [], []⟩,
    ⟨2, ⟨(some 145), .mv (.t 144), none⟩, [], []⟩,
    ⟨3, ⟨(some 146), .mv (.t 5), (some (145, true))⟩, [], []⟩,
    ⟨4, ⟨(some 147), .bin .eql (.t 146) (.c (.i .i64 0)), (some (145, true))⟩, [], []⟩,
    ⟨5, ⟨(some 148), .pick (.t 145) (.t 147) (.c (.b false)), none⟩, [], []⟩,
    ⟨6, ⟨(some 149), .mv (.t 148), none⟩, [], []⟩,
    ⟨7, ⟨(some 150), .load (some 6) (.t 14), (some (149, true))⟩, [], []⟩,
    ⟨8, ⟨(some 151), .call 43 [(.c (.i .i64 3))], (some (149, true))⟩, [7], [⟨(some 150), .load (some 6) (.t 14), (some (149, true))⟩]⟩,
    ⟨9, ⟨(some 152), .call 73 [(.t 151)], (some (149, true))⟩, [7], [⟨(some 150), .load (some 6) (.t 14), (some (149, true))⟩]⟩,
    ⟨10, ⟨(some 153), .call 72 [(.t 150), (.t 152)], (some (149, true))⟩, [], []⟩,
    ⟨11, ⟨(some 154), .pick (.t 149) (.t 153) (.c (.b false)), none⟩, [], []⟩,
    ⟨12, ⟨(some 155), .mv (.t 154), none⟩, [], []⟩,
    ⟨13, ⟨(some 156), .load (some 6) (.t 15), (some (155, true))⟩, [], []⟩,
    ⟨14, ⟨(some 157), .call 43 [(.c (.i .i64 3))], (some (155, true))⟩, [13], [⟨(some 156), .load (some 6) (.t 15), (some (155, true))⟩]⟩,
    ⟨15, ⟨(some 158), .call 43 [(.c (.i .i64 4))], (some (155, true))⟩, [13], [⟨(some 156), .load (some 6) (.t 15), (some (155, true))⟩]⟩,
    ⟨16, ⟨(some 159), .call 43 [(.c (.i .i64 5))], (some (155, true))⟩, [13], [⟨(some 156), .load (some 6) (.t 15), (some (155, true))⟩]⟩,
    ⟨17, ⟨(some 160), .call 73 [(.t 159)], (some (155, true))⟩, [13], [⟨(some 156), .load (some 6) (.t 15), (some (155, true))⟩]⟩,
    ⟨18, ⟨(some 161), .call 74 [(.t 158), (.t 160)], (some (155, true))⟩, [13], [⟨(some 156), .load (some 6) (.t 15), (some (155, true))⟩]⟩,
    ⟨19, ⟨(some 162), .call 74 [(.t 157), (.t 161)], (some (155, true))⟩, [13], [⟨(some 156), .load (some 6) (.t 15), (some (155, true))⟩]⟩,
    ⟨20, ⟨(some 163), .call 72 [(.t 156), (.t 162)], (some (155, true))⟩, [], []⟩,
    ⟨21, ⟨(some 164), .pick (.t 155) (.t 163) (.c (.b false)), none⟩, [], []⟩,
    ⟨22, ⟨(some 0), .mv (.t 164), none⟩, [], []⟩])
  .ret)))))))))))))))))
theorem ree18 : Tryz.f18.body.bind (res Tryz.prog Tryz.f18.ntmps [] []) = some (erase ae18) := by kernel_rfl
def fs18 : FnS := .fn 165 ae18 [.t 0]
theorem fsok18 : FnOk Tryz.prog 18 fs18 := fun _ _ _ hn h => ctr_of_resC Tryz.func18 (by kernel_rfl) ree18 (by kernel_rfl) hn h
abbrev ae43 : ACode := (.seq [0, 2] (.reg [⟨(some 2), .alloc [(.i .i64 0), (.i .i64 0), (.l [] true), (.i .i64 0), (.i .i64 0), (.l [] true)], none⟩])
  (.seq [2] (.reg [⟨(some 3), .mv (.t 0), none⟩,
    ⟨(some 4), .build [(.i .i64 0), (.i .i64 0), (.l [] true), (.i .i64 0), (.i .i64 0), (.l [] true)] [(0, 1, (.c (.i .i64 2))), (3, 1, (.t 3))], none⟩,
    ⟨none, .store 6 (.t 2) (.t 4), none⟩])
  .ret))
theorem ree43 : Tryz.f43.body.bind (res Tryz.prog Tryz.f43.ntmps [] []) = some (erase ae43) := by kernel_rfl
def fs43 : FnS := .fn 5 ae43 [.c 2 (some 6)]
theorem fsok43 : FnOk Tryz.prog 43 fs43 := fun _ _ _ hn h => ctr_of_resC Tryz.func43 (by kernel_rfl) ree43 (by kernel_rfl) hn h
abbrev ae45 : ACode := (.seq [1, 2, 3] (.reg [⟨(some 4), .box (.t 0), none⟩,
    ⟨(some 5), .mv (.c (.b false)), none⟩])
  (.seq [5] (.dreg [5] [⟨0, ⟨(some 6), .load none (.t 1), none⟩, [], []⟩,
    ⟨1, ⟨(some 7), .len (.t 6), none⟩, [], []⟩,
    ⟨2, ⟨(some 8), .faddr 2 (.t 2), none⟩, [], []⟩,
    ⟨3, ⟨(some 9), .load none (.t 8), none⟩, [], []⟩,
    ⟨4, ⟨(some 10), .load none (.t 3), none⟩, [], []⟩,
    ⟨5, ⟨(some 11), .iaddr 1 none (.t 9) (.t 10), none⟩, [], []⟩,
    ⟨6, ⟨(some 12), .load none (.t 11), none⟩, [], []⟩,
    ⟨7, ⟨(some 13), .bin .eql (.t 7) (.t 12), none⟩, [], []⟩,
    ⟨8, ⟨(some 14), .mv (.t 13), none⟩, [], []⟩,
    ⟨9, ⟨(some 15), .load none (.t 1), (some (14, true))⟩, [], []⟩,
    ⟨10, ⟨(some 16), .mkf (.func 47) [] [(.t 2)], (some (14, true))⟩, [], []⟩,
    ⟨11, ⟨(some 17), .call 46 [(.t 15), (.t 16)], (some (14, true))⟩, [], []⟩,
    ⟨12, ⟨(some 18), .not (.t 17), (some (14, true))⟩, [], []⟩,
    ⟨13, ⟨(some 19), .pick (.t 14) (.t 18) (.c (.b false)), none⟩, [], []⟩,
    ⟨14, ⟨(some 5), .mv (.t 19), none⟩, [], []⟩])
  .ret))
theorem ree45 : Tryz.f45.body.bind (res Tryz.prog Tryz.f45.ntmps [] []) = some (erase ae45) := by kernel_rfl
def fs45 : FnS := .fn 20 ae45 [.t 5]
theorem fsok45 : FnOk Tryz.prog 45 fs45 := fun _ _ _ hn h => ctr_of_resC Tryz.func45 (by kernel_rfl) ree45 (by kernel_rfl) hn h
abbrev ae44 : ACode := (.seq [1, 2, 3, 6] (.reg [⟨(some 3), .box (.t 0), none⟩,
    ⟨(some 6), .alloc [(.l [] true), (.i .i64 0), (.l [] true), (.l [] true), (.l [] true), (.i .i64 0), (.i .i64 0), (.l [] true)], none⟩,
    ⟨(some 7), .mv (.c (.i .i64 0)), none⟩])
  (.seq [2, 6, 8, 9] (.reg [⟨(some 11), .load (some 6) (.t 3), none⟩,
    ⟨(some 12), .mv (.t 1), none⟩,
    ⟨(some 13), .call 102 [(.t 11), (.t 12)], none⟩,
    ⟨(some 10), .mv (.t 13), none⟩,
    ⟨(some 14), .extract 0 (.t 10), none⟩,
    ⟨(some 15), .extract 1 (.t 10), none⟩,
    ⟨(some 8), .alloc [(.l [] true), (.i .i64 0), (.l [] true), (.l [] true), (.l [] true), (.i .i64 0), (.i .i64 0), (.l [] true)], none⟩,
    ⟨none, .store 8 (.t 8) (.t 14), none⟩,
    ⟨(some 9), .mv (.t 15), none⟩])
  (.seq [6, 8] (.seq [6, 8, 23] (.reg [⟨(some 16), .mv (.t 9), none⟩,
    ⟨(some 17), .not (.t 16), none⟩,
    ⟨(some 18), .mv (.t 17), none⟩,
    ⟨(some 19), .mv (.t 2), (some (18, false))⟩,
    ⟨(some 20), .load (some 8) (.t 8), (some (18, false))⟩,
    ⟨(some 21), .callv (.t 19) [(.t 20)], (some (18, false))⟩,
    ⟨(some 22), .not (.t 21), (some (18, false))⟩,
    ⟨(some 23), .pick (.t 18) (.c (.b true)) (.t 22), none⟩])
  (.cond (.t 23)
  (.seq [6, 7] (.reg [⟨(some 24), .build [(.l [] true), (.i .i64 0), (.l [] true), (.l [] true), (.l [] true), (.i .i64 0), (.i .i64 0), (.l [] true)] [], none⟩,
    ⟨none, .store 8 (.t 6) (.t 24), none⟩,
    ⟨(some 7), .mv (.c (.i .i64 2)), none⟩])
  .ret)
  .skip))
  (.seq [6, 7] (.dreg [6, 7] [⟨0, ⟨(some 25), .load (some 8) (.t 8), none⟩, [], []⟩,
    ⟨1, ⟨(some 26), .load (some 8) (.t 8), none⟩, [], []⟩,
    ⟨2, ⟨(some 27), .call 103 [(.t 26)], none⟩, [0], [⟨(some 25), .load (some 8) (.t 8), none⟩]⟩,
    ⟨3, ⟨none, .store 8 (.t 6) (.t 25), none⟩, [], []⟩,
    ⟨4, ⟨(some 7), .mv (.t 27), none⟩, [], []⟩])
  .ret))))
theorem ree44 : Tryz.f44.body.bind (res Tryz.prog Tryz.f44.ntmps [] []) = some (erase ae44) := by kernel_rfl
def fs44 : FnS := .fn 28 ae44 [.c 6 (some 8), .t 7]
theorem fsok44 : FnOk Tryz.prog 44 fs44 := fun _ _ _ hn h => ctr_of_resC Tryz.func44 (by kernel_rfl) ree44 (by kernel_rfl) hn h
abbrev ae49 : ACode := (.seq [2, 3] (.reg [⟨(some 2), .box (.t 0), none⟩,
    ⟨(some 3), .box (.t 1), none⟩,
    ⟨(some 4), .mv (.c .fnil), none⟩])
  (.seq [2, 3, 5] (.reg [⟨(some 6), .load (some 8) (.t 2), none⟩,
    ⟨(some 7), .call 105 [(.t 6)], none⟩,
    ⟨(some 5), .alloc [.pn], none⟩,
    ⟨none, .store 1 (.t 5) (.t 7), none⟩])
  (.seq [4] (.reg [⟨(some 8), .load (some 8) (.t 2), none⟩,
    ⟨(some 9), .mkf (.func 107) [] [(.t 5), (.t 3)], none⟩,
    ⟨(some 10), .call 106 [(.t 8), (.t 9)], none⟩,
    ⟨(some 4), .mv (.t 10), none⟩])
  .ret)))
theorem ree49 : Tryz.f49.body.bind (res Tryz.prog Tryz.f49.ntmps [] []) = some (erase ae49) := by kernel_rfl
def fs49 : FnS := .fn 11 ae49 [.t 4]
theorem fsok49 : FnOk Tryz.prog 49 fs49 := fun _ _ _ hn h => ctr_of_resC Tryz.func49 (by kernel_rfl) ree49 (by kernel_rfl) hn h
abbrev ae48 : ACode := (.seq [1, 2] (.reg [⟨(some 2), .box (.t 0), none⟩,
    ⟨(some 4), .mv (.c (.l [] true)), none⟩])
  (.seq [1, 2, 5] (.reg [⟨(some 5), .alloc [(.l [] true)], none⟩])
  (.seq [5] (.seq [2, 5, 8] (.reg [⟨(some 8), .mv (.t 1), none⟩])
  (.block 0 (.rangef [2, 5] (.t 8) [9]
  (.reg [⟨(some 6), .mv (.t 9), none⟩])
  (.block 1 (.seq [2, 5, 7] (.reg [⟨(some 10), .load (some 8) (.t 2), none⟩,
    ⟨(some 11), .mv (.t 6), none⟩,
    ⟨(some 12), .call 59 [(.t 10), (.t 11)], none⟩,
    ⟨(some 7), .mv (.t 12), none⟩])
  (.dreg [] [⟨0, ⟨(some 13), .load none (.t 5), none⟩, [], []⟩,
    ⟨1, ⟨(some 14), .mv (.t 7), none⟩, [], []⟩,
    ⟨2, ⟨(some 15), .load (some 8) (.t 2), none⟩, [], []⟩,
    ⟨3, ⟨(some 16), .mv (.t 7), none⟩, [], []⟩,
    ⟨4, ⟨(some 17), .call 55 [(.t 15), (.t 16)], none⟩, [0], [⟨(some 13), .load none (.t 5), none⟩]⟩,
    ⟨5, ⟨(some 18), .build [(.l [] true), (.i .i64 0)] [(0, 1, (.t 14)), (1, 1, (.t 17))], none⟩, [], []⟩,
    ⟨6, ⟨(some 19), .bslice 2 1 [(.l [] true), (.i .i64 0)] [(0, (.t 18))], none⟩, [], []⟩,
    ⟨7, ⟨(some 20), .append 2 32 (.t 13) (.t 19), none⟩, [], []⟩,
    ⟨8, ⟨none, .store 1 (.t 5) (.t 20), none⟩, [], []⟩]))))))
  (.seq [4] (.reg [⟨(some 21), .load none (.t 5), none⟩,
    ⟨(some 4), .mv (.t 21), none⟩])
  .ret))))
theorem ree48 : Tryz.f48.body.bind (res Tryz.prog Tryz.f48.ntmps [] []) = some (erase ae48) := by kernel_rfl
def fs48 : FnS := .fn 22 ae48 [.t 4]
theorem fsok48 : FnOk Tryz.prog 48 fs48 := fun _ _ _ hn h => ctr_of_resC Tryz.func48 (by kernel_rfl) ree48 (by kernel_rfl) hn h
abbrev ae52 : ACode := (.seq [1] (.reg [⟨(some 1), .box (.t 0), none⟩,
    ⟨(some 2), .mv (.c .fnil), none⟩])
  (.seq [1, 3] (.reg [⟨(some 4), .load (some 8) (.t 1), none⟩,
    ⟨(some 5), .call 105 [(.t 4)], none⟩,
    ⟨(some 3), .alloc [.pn], none⟩,
    ⟨none, .store 1 (.t 3) (.t 5), none⟩])
  (.seq [2] (.reg [⟨(some 6), .load (some 8) (.t 1), none⟩,
    ⟨(some 7), .mkf (.func 111) [] [(.t 3)], none⟩,
    ⟨(some 8), .call 106 [(.t 6), (.t 7)], none⟩,
    ⟨(some 2), .mv (.t 8), none⟩])
  .ret)))
theorem ree52 : Tryz.f52.body.bind (res Tryz.prog Tryz.f52.ntmps [] []) = some (erase ae52) := by kernel_rfl
def fs52 : FnS := .fn 9 ae52 [.t 2]
theorem fsok52 : FnOk Tryz.prog 52 fs52 := fun _ _ _ hn h => ctr_of_resC Tryz.func52 (by kernel_rfl) ree52 (by kernel_rfl) hn h
abbrev ae51 : ACode := (.seq [1, 2, 4] (.reg [⟨(some 2), .box (.t 0), none⟩,
    ⟨(some 4), .alloc [(.b false)], none⟩])
  (.seq [4] (.seq [2, 4, 6] (.reg [⟨(some 6), .mv (.t 1), none⟩])
  (.block 0 (.rangef [2, 4] (.t 6) [7]
  (.reg [⟨(some 5), .mv (.t 7), none⟩])
  (.block 1 (.seq [4, 13] (.dreg [4, 13] [⟨0, ⟨(some 8), .load (some 8) (.t 2), none⟩, [], []⟩,
    ⟨1, ⟨(some 9), .load (some 8) (.t 2), none⟩, [], []⟩,
    ⟨2, ⟨(some 10), .mv (.t 5), none⟩, [], []⟩,
    ⟨3, ⟨(some 11), .call 59 [(.t 9), (.t 10)], none⟩, [0], [⟨(some 8), .load (some 8) (.t 2), none⟩]⟩,
    ⟨4, ⟨(some 12), .call 55 [(.t 8), (.t 11)], none⟩, [], []⟩,
    ⟨5, ⟨(some 13), .bin .neq (.t 12) (.c (.i .i64 1)), none⟩, [], []⟩])
  (.cond (.t 13)
  (.seq [] (.reg [⟨none, .store 1 (.t 4) (.c (.b false)), none⟩])
  .ret)
  .skip))))))
  (.seq [4] (.reg [⟨none, .store 1 (.t 4) (.c (.b true)), none⟩])
  .ret)))
theorem ree51 : Tryz.f51.body.bind (res Tryz.prog Tryz.f51.ntmps [] []) = some (erase ae51) := by kernel_rfl
def fs51 : FnS := .fn 14 ae51 [.c 4 none]
theorem fsok51 : FnOk Tryz.prog 51 fs51 := fun _ _ _ hn h => ctr_of_resC Tryz.func51 (by kernel_rfl) ree51 (by kernel_rfl) hn h
abbrev ae50 : ACode := (.seq [] (.reg [⟨(some 1), .box (.t 0), none⟩,
    ⟨(some 2), .mv (.c (.b false)), none⟩])
  (.seq [2] (.reg [⟨(some 2), .mv (.c (.b true)), none⟩])
  .ret))
theorem ree50 : Tryz.f50.body.bind (res Tryz.prog Tryz.f50.ntmps [] []) = some (erase ae50) := by kernel_rfl
def fs50 : FnS := .fn 3 ae50 [.t 2]
theorem fsok50 : FnOk Tryz.prog 50 fs50 := fun _ _ _ hn h => ctr_of_resC Tryz.func50 (by kernel_rfl) ree50 (by kernel_rfl) hn h
abbrev ae53 : ACode := (.seq [1, 2] (.reg [⟨(some 2), .box (.t 0), none⟩,
    ⟨(some 3), .mv (.c (.b false)), none⟩])
  (.seq [3] (.reg [⟨(some 4), .load (some 8) (.t 2), none⟩,
    ⟨(some 5), .load none (.t 1), none⟩,
    ⟨(some 6), .call 54 [(.t 4), (.t 5)], none⟩,
    ⟨(some 3), .mv (.t 6), none⟩])
  .ret))
theorem ree53 : Tryz.f53.body.bind (res Tryz.prog Tryz.f53.ntmps [] []) = some (erase ae53) := by kernel_rfl
def fs53 : FnS := .fn 7 ae53 [.t 3]
theorem fsok53 : FnOk Tryz.prog 53 fs53 := fun _ _ _ hn h => ctr_of_resC Tryz.func53 (by kernel_rfl) ree53 (by kernel_rfl) hn h
abbrev ae55 : ACode := (.seq [1, 2] (.reg [⟨(some 2), .box (.t 0), none⟩,
    ⟨(some 4), .mv (.c (.i .i64 0)), none⟩])
  (.seq [5, 6] (.reg [⟨(some 9), .faddr 0 (.t 2), none⟩,
    ⟨(some 10), .load (some 6) (.t 9), none⟩,
    ⟨(some 11), .mv (.t 1), none⟩,
    ⟨(some 12), .call 92 [(.t 10), (.t 11)], none⟩,
    ⟨(some 8), .mv (.t 12), none⟩,
    ⟨(some 13), .extract 0 (.t 8), none⟩,
    ⟨(some 14), .extract 1 (.t 8), none⟩,
    ⟨(some 5), .alloc [(.l [] true), (.b false), (.l [] true), (.l [] true), (.b false), (.l [] true)], none⟩,
    ⟨none, .store 6 (.t 5) (.t 13), none⟩,
    ⟨(some 6), .mv (.t 14), none⟩])
  (.seq [5] (.seq [5, 16] (.reg [⟨(some 15), .mv (.t 6), none⟩,
    ⟨(some 16), .bin .neq (.t 15) (.c (.i .i64 0)), none⟩])
  (.cond (.t 16)
  (.seq [4] (.reg [⟨(some 17), .call 113 [(.c (.b true)), (.c (.b false)), (.c (.b false))], none⟩,
    ⟨(some 4), .mv (.t 17), none⟩])
  .ret)
  .skip))
  (.seq [5, 7] (.reg [⟨(some 18), .faddr 0 (.t 5), none⟩,
    ⟨(some 19), .load none (.t 18), none⟩,
    ⟨(some 20), .len (.t 19), none⟩,
    ⟨(some 21), .bin .eql (.t 20) (.c (.i .i64 0)), none⟩,
    ⟨(some 22), .mv (.t 21), none⟩,
    ⟨(some 23), .faddr 1 (.t 5), (some (22, true))⟩,
    ⟨(some 24), .load none (.t 23), (some (22, true))⟩,
    ⟨(some 25), .mv (.t 24), (some (22, true))⟩,
    ⟨(some 26), .faddr 3 (.t 5), (some (25, false))⟩,
    ⟨(some 27), .load none (.t 26), (some (25, false))⟩,
    ⟨(some 28), .len (.t 27), (some (25, false))⟩,
    ⟨(some 29), .bin .eql (.t 28) (.c (.i .i64 0)), (some (25, false))⟩,
    ⟨(some 30), .pick (.t 25) (.c (.b true)) (.t 29), (some (22, true))⟩,
    ⟨(some 31), .pick (.t 22) (.t 30) (.c (.b false)), none⟩,
    ⟨(some 7), .mv (.t 31), none⟩])
  (.seq [4] (.reg [⟨(some 32), .mv (.t 7), none⟩,
    ⟨(some 33), .faddr 1 (.t 5), none⟩,
    ⟨(some 34), .load none (.t 33), none⟩,
    ⟨(some 35), .mv (.t 34), none⟩,
    ⟨(some 36), .faddr 4 (.t 5), (some (35, false))⟩,
    ⟨(some 37), .load none (.t 36), (some (35, false))⟩,
    ⟨(some 38), .pick (.t 35) (.c (.b true)) (.t 37), none⟩,
    ⟨(some 39), .call 113 [(.c (.b false)), (.t 32), (.t 38)], none⟩,
    ⟨(some 4), .mv (.t 39), none⟩])
  .ret)))))
theorem ree55 : Tryz.f55.body.bind (res Tryz.prog Tryz.f55.ntmps [] []) = some (erase ae55) := by kernel_rfl
def fs55 : FnS := .fn 40 ae55 [.t 4]
theorem fsok55 : FnOk Tryz.prog 55 fs55 := fun _ _ _ hn h => ctr_of_resC Tryz.func55 (by kernel_rfl) ree55 (by kernel_rfl) hn h
abbrev ae56 : ACode := (.seq [0, 1, 2] (.reg [⟨(some 6), .mv (.c (.b false)), none⟩])
  (.seq [0, 1, 2] (.seq [0, 1, 2, 14] (.reg [⟨(some 10), .mv (.t 0), none⟩,
    ⟨(some 11), .len (.t 10), none⟩,
    ⟨(some 12), .mv (.t 1), none⟩,
    ⟨(some 13), .len (.t 12), none⟩,
    ⟨(some 14), .bin .neq (.t 11) (.t 13), none⟩])
  (.cond (.t 14)
  (.seq [6] (.reg [⟨(some 6), .mv (.c (.b false)), none⟩])
  .ret)
  .skip))
  (.seq [] (.seq [1, 2, 15, 16, 17] (.reg [⟨(some 15), .mv (.t 0), none⟩,
    ⟨(some 16), .len (.t 15), none⟩,
    ⟨(some 17), .mv (.c (.i .i64 0)), none⟩])
  (.block 0 (.loop [1, 2, 15, 16, 17] (.seq [1, 2, 15, 16, 17, 18] (.reg [⟨(some 18), .bin .lss (.t 17) (.t 16), none⟩])
  (.seq [1, 2, 15, 16, 17] (.cond (.t 18)
  .skip
  (.exit 0))
  (.seq [1, 2, 15, 16, 17] (.block 1 (.seq [1, 2, 7, 8, 15, 16, 17] (.reg [⟨(some 19), .mv (.t 17), none⟩,
    ⟨(some 20), .iaddr 2 none (.t 15) (.t 17), none⟩,
    ⟨(some 21), .load (some 2) (.t 20), none⟩,
    ⟨(some 8), .alloc [(.l [] true), (.i .i64 0)], none⟩,
    ⟨(some 7), .mv (.t 19), none⟩,
    ⟨none, .store 2 (.t 8) (.t 21), none⟩])
  (.seq [1, 2, 8, 9, 15, 16, 17] (.reg [⟨(some 22), .mv (.t 1), none⟩,
    ⟨(some 23), .mv (.t 7), none⟩,
    ⟨(some 24), .iaddr 2 none (.t 22) (.t 23), none⟩,
    ⟨(some 25), .load (some 2) (.t 24), none⟩,
    ⟨(some 9), .alloc [(.l [] true), (.i .i64 0)], none⟩,
    ⟨none, .store 2 (.t 9) (.t 25), none⟩])
  (.seq [1, 2, 15, 16, 17, 30] (.reg [⟨(some 26), .mv (.t 2), none⟩,
    ⟨(some 27), .load (some 2) (.t 8), none⟩,
    ⟨(some 28), .load (some 2) (.t 9), none⟩,
    ⟨(some 29), .callv (.t 26) [(.t 27), (.t 28)], none⟩,
    ⟨(some 30), .not (.t 29), none⟩])
  (.cond (.t 30)
  (.seq [6] (.reg [⟨(some 6), .mv (.c (.b false)), none⟩])
  .ret)
  .skip)))))
  (.reg [⟨(some 31), .bin .add (.t 17) (.c (.i .i64 1)), none⟩,
    ⟨(some 17), .mv (.t 31), none⟩])))))))
  (.seq [6] (.reg [⟨(some 6), .mv (.c (.b true)), none⟩])
  .ret))))
theorem ree56 : Tryz.f56.body.bind (res Tryz.prog Tryz.f56.ntmps [] []) = some (erase ae56) := by kernel_rfl
def fs56 : FnS := .fn 32 ae56 [.t 6]
theorem fsok56 : FnOk Tryz.prog 56 fs56 := fun _ _ _ hn h => ctr_of_resC Tryz.func56 (by kernel_rfl) ree56 (by kernel_rfl) hn h
abbrev ae57 : ACode := (.seq [2, 3] (.reg [⟨(some 2), .box (.t 0), none⟩,
    ⟨(some 3), .box (.t 1), none⟩,
    ⟨(some 4), .mv (.c (.b false)), none⟩])
  (.seq [4] (.reg [⟨(some 5), .faddr 1 (.t 2), none⟩,
    ⟨(some 6), .load none (.t 5), none⟩,
    ⟨(some 7), .faddr 1 (.t 3), none⟩,
    ⟨(some 8), .load none (.t 7), none⟩,
    ⟨(some 9), .bin .eql (.t 6) (.t 8), none⟩,
    ⟨(some 10), .mv (.t 9), none⟩,
    ⟨(some 11), .faddr 0 (.t 2), (some (10, true))⟩,
    ⟨(some 12), .load none (.t 11), (some (10, true))⟩,
    ⟨(some 13), .faddr 0 (.t 3), (some (10, true))⟩,
    ⟨(some 14), .load none (.t 13), (some (10, true))⟩,
    ⟨(some 15), .call 16 [(.t 12), (.t 14)], (some (10, true))⟩,
    ⟨(some 16), .pick (.t 10) (.t 15) (.c (.b false)), none⟩,
    ⟨(some 4), .mv (.t 16), none⟩])
  .ret))
theorem ree57 : Tryz.f57.body.bind (res Tryz.prog Tryz.f57.ntmps [] []) = some (erase ae57) := by kernel_rfl
def fs57 : FnS := .fn 17 ae57 [.t 4]
theorem fsok57 : FnOk Tryz.prog 57 fs57 := fun _ _ _ hn h => ctr_of_resC Tryz.func57 (by kernel_rfl) ree57 (by kernel_rfl) hn h
abbrev ae58 : ACode := (.seq [1] (.reg [⟨(some 2), .box (.t 0), none⟩,
    ⟨(some 3), .mv (.c (.b false)), none⟩])
  (.seq [3] (.reg [⟨(some 4), .load none (.t 1), none⟩,
    ⟨(some 5), .bin .geq (.t 4) (.c (.i .i64 1)), none⟩,
    ⟨(some 6), .mv (.t 5), none⟩,
    ⟨(some 7), .load none (.t 1), (some (6, true))⟩,
    ⟨(some 8), .bin .leq (.t 7) (.c (.i .i64 4)), (some (6, true))⟩,
    ⟨(some 9), .pick (.t 6) (.t 8) (.c (.b false)), none⟩,
    ⟨(some 3), .mv (.t 9), none⟩])
  .ret))
theorem ree58 : Tryz.f58.body.bind (res Tryz.prog Tryz.f58.ntmps [] []) = some (erase ae58) := by kernel_rfl
def fs58 : FnS := .fn 10 ae58 [.t 3]
theorem fsok58 : FnOk Tryz.prog 58 fs58 := fun _ _ _ hn h => ctr_of_resC Tryz.func58 (by kernel_rfl) ree58 (by kernel_rfl) hn h
abbrev ae59 : ACode := (.seq [1, 2] (.reg [⟨(some 2), .box (.t 0), none⟩,
    ⟨(some 4), .mv (.c (.l [] true)), none⟩])
  (.seq [1, 2, 5] (.reg [⟨(some 5), .mv (.c (.l [] true)), none⟩])
  (.seq [5] (.seq [1, 5, 9, 10, 11] (.reg [⟨(some 8), .faddr 7 (.t 2), none⟩,
    ⟨(some 9), .load none (.t 8), none⟩,
    ⟨(some 10), .len (.t 9), none⟩,
    ⟨(some 11), .mv (.c (.i .i64 0)), none⟩])
  (.block 0 (.loop [1, 5, 9, 10, 11] (.seq [1, 5, 9, 10, 11, 12] (.reg [⟨(some 12), .bin .lss (.t 11) (.t 10), none⟩])
  (.seq [1, 5, 9, 10, 11] (.cond (.t 12)
  .skip
  (.exit 0))
  (.seq [1, 5, 9, 10, 11] (.block 1 (.seq [1, 5, 6, 7, 9, 10, 11] (.reg [⟨(some 13), .mv (.t 11), none⟩,
    ⟨(some 14), .iaddr 1 none (.t 9) (.t 11), none⟩,
    ⟨(some 15), .load none (.t 14), none⟩,
    ⟨(some 6), .mv (.t 13), none⟩,
    ⟨(some 7), .mv (.t 15), none⟩])
  (.seq [1, 5, 7, 9, 10, 11, 18] (.reg [⟨(some 16), .mv (.t 1), none⟩,
    ⟨(some 17), .mv (.t 6), none⟩,
    ⟨(some 18), .call 114 [(.t 16), (.t 17)], none⟩])
  (.cond (.t 18)
  (.reg [⟨(some 19), .mv (.t 5), none⟩,
    ⟨(some 20), .mv (.t 7), none⟩,
    ⟨(some 21), .bslice 1 1 [(.i .i64 0)] [(0, (.t 20))], none⟩,
    ⟨(some 22), .append 1 8 (.t 19) (.t 21), none⟩,
    ⟨(some 5), .mv (.t 22), none⟩])
  .skip))))
  (.reg [⟨(some 23), .bin .add (.t 11) (.c (.i .i64 1)), none⟩,
    ⟨(some 11), .mv (.t 23), none⟩])))))))
  (.seq [4] (.reg [⟨(some 24), .mv (.t 5), none⟩,
    ⟨(some 4), .mv (.t 24), none⟩])
  .ret))))
theorem ree59 : Tryz.f59.body.bind (res Tryz.prog Tryz.f59.ntmps [] []) = some (erase ae59) := by kernel_rfl
def fs59 : FnS := .fnz 25 ae59 [.t 4]
theorem fsok59 : FnOk Tryz.prog 59 fs59 := fun _ _ _ hn h => ctr_of_resC Tryz.func59 (by kernel_rfl) ree59 (by kernel_rfl) hn h
abbrev ae60 : ACode := (.seq [0, 1] (.reg [⟨(some 4), .mv (.c (.l [] true)), none⟩])
  (.seq [0, 1] (.seq [0, 1, 10] (.reg [⟨(some 9), .mv (.t 1), none⟩,
    ⟨(some 10), .bin .lss (.t 9) (.c (.i .i64 0)), none⟩])
  (.cond (.t 10)
  (.reg [⟨(some 11), .mkifc 9 (.c (.s ⟨#[99, 97, 110, 110, 111, 116, 32, 98, 101, 32, 110, 101, 103, 97, 116, 105, 118, 101]⟩)), none⟩,
    ⟨none, .panic (.t 11), none⟩])
  .skip))
  (.seq [0, 5, 6] (.reg [⟨(some 13), .mv (.t 0), none⟩,
    ⟨(some 14), .len (.t 13), none⟩,
    ⟨(some 15), .conv .u64 (.t 14), none⟩,
    ⟨(some 16), .mv (.t 1), none⟩,
    ⟨(some 17), .conv .u64 (.t 16), none⟩,
    ⟨(some 18), .call 115 [(.t 15), (.t 17)], none⟩,
    ⟨(some 12), .mv (.t 18), none⟩,
    ⟨(some 19), .extract 0 (.t 12), none⟩,
    ⟨(some 20), .extract 1 (.t 12), none⟩,
    ⟨(some 5), .mv (.t 19), none⟩,
    ⟨(some 6), .mv (.t 20), none⟩])
  (.seq [0, 6] (.seq [0, 6, 26] (.reg [⟨(some 21), .mv (.t 5), none⟩,
    ⟨(some 22), .bin .gtr (.t 21) (.c (.i .u64 0)), none⟩,
    ⟨(some 23), .mv (.t 22), none⟩,
    ⟨(some 24), .mv (.t 6), (some (23, false))⟩,
    ⟨(some 25), .bin .gtr (.t 24) (.c (.i .u64 9223372036854775807)), (some (23, false))⟩,
    ⟨(some 26), .pick (.t 23) (.c (.b true)) (.t 25), none⟩])
  (.cond (.t 26)
  (.reg [⟨(some 27), .mkifc 9 (.c (.s ⟨#[116, 104, 101, 32, 114, 101, 115, 117, 108, 116, 32, 111, 102, 32, 40, 108, 101, 110, 40, 120, 41, 32, 42, 32, 99, 111, 117, 110, 116, 41, 32, 111, 118, 101, 114, 102, 108, 111, 119, 115]⟩)), none⟩,
    ⟨none, .panic (.t 27), none⟩])
  .skip))
  (.seq [0, 7] (.reg [⟨(some 28), .mv (.t 6), none⟩,
    ⟨(some 29), .conv .i64 (.t 28), none⟩,
    ⟨(some 30), .mkslice 1 8 [(.i .i64 0)] (.t 29) (.t 29), none⟩,
    ⟨(some 7), .mv (.t 30), none⟩])
  (.seq [7, 8] (.reg [⟨(some 31), .mv (.t 7), none⟩,
    ⟨(some 32), .mv (.t 0), none⟩,
    ⟨(some 33), .copy 1 (.t 31) (.t 32), none⟩,
    ⟨(some 8), .mv (.t 33), none⟩])
  (.seq [7] (.block 0 (.loop [7, 8] (.seq [7, 8] (.seq [7, 8, 37] (.reg [⟨(some 34), .mv (.t 8), none⟩,
    ⟨(some 35), .mv (.t 7), none⟩,
    ⟨(some 36), .len (.t 35), none⟩,
    ⟨(some 37), .bin .lss (.t 34) (.t 36), none⟩])
  (.cond (.t 37)
  .skip
  (.exit 0)))
  (.block 1 (.dreg [7, 8] [⟨0, ⟨(some 38), .mv (.t 8), none⟩, [], []⟩,
    ⟨1, ⟨(some 39), .mv (.t 7), none⟩, [], []⟩,
    ⟨2, ⟨(some 40), .mv (.t 8), none⟩, [], []⟩,
    ⟨3, ⟨(some 41), .slice 1 (.t 39) (some (.t 40)) none none, none⟩, [], []⟩,
    ⟨4, ⟨(some 42), .mv (.t 7), none⟩, [], []⟩,
    ⟨5, ⟨(some 43), .mv (.t 8), none⟩, [], []⟩,
    ⟨6, ⟨(some 44), .slice 1 (.t 42) none (some (.t 43)) none, none⟩, [], []⟩,
    ⟨7, ⟨(some 45), .copy 1 (.t 41) (.t 44), none⟩, [], []⟩,
    ⟨8, ⟨(some 46), .bin .add (.t 38) (.t 45), none⟩, [], []⟩,
    ⟨9, ⟨(some 8), .mv (.t 46), none⟩, [], []⟩])))))
  (.seq [4] (.reg [⟨(some 47), .mv (.t 7), none⟩,
    ⟨(some 4), .mv (.t 47), none⟩])
  .ret))))))))
theorem ree60 : Tryz.f60.body.bind (res Tryz.prog Tryz.f60.ntmps [] []) = some (erase ae60) := by kernel_rfl
def fs60 : FnS := .fn 48 ae60 [.t 4]
theorem fsok60 : FnOk Tryz.prog 60 fs60 := fun _ _ _ hn h => ctr_of_resC Tryz.func60 (by kernel_rfl) ree60 (by kernel_rfl) hn h
abbrev ae61 : ACode := (.seq [0, 1, 4] (.reg [⟨(some 4), .alloc [(.i .i64 0), (.i .i64 0), (.l [] true), (.i .i64 0), (.i .i64 0), (.l [] true)], none⟩])
  (.seq [0, 1, 4] (.seq [0, 1, 4, 6] (.reg [⟨(some 5), .mv (.t 1), none⟩,
    ⟨(some 6), .len (.t 5), none⟩])
  (.block 0 (.seq [0, 1, 4, 6, 7] (.reg [⟨(some 8), .bin .eql (.t 6) (.c (.i .i64 0)), none⟩,
    ⟨(some 7), .mv (.t 8), none⟩])
  (.cond (.t 7)
  (.seq [4] (.reg [⟨(some 9), .build [(.i .i64 0), (.i .i64 0), (.l [] true), (.i .i64 0), (.i .i64 0), (.l [] true)] [(0, 1, (.c (.i .i64 1)))], none⟩,
    ⟨none, .store 6 (.t 4) (.t 9), none⟩])
  .ret)
  (.seq [0, 1, 4, 10] (.reg [⟨(some 11), .bin .eql (.t 6) (.c (.i .i64 1)), none⟩,
    ⟨(some 10), .mv (.t 11), none⟩])
  (.cond (.t 10)
  (.seq [4] (.reg [⟨(some 12), .mv (.t 1), none⟩,
    ⟨(some 13), .iaddr 6 none (.t 12) (.c (.i .i64 0)), none⟩,
    ⟨(some 14), .load (some 6) (.t 13), none⟩,
    ⟨none, .store 6 (.t 4) (.t 14), none⟩])
  .ret)
  .skip))))))
  (.seq [4] (.dreg [4] [⟨0, ⟨(some 15), .mv (.t 0), none⟩, [], []⟩,
    ⟨1, ⟨(some 16), .mv (.t 1), none⟩, [], []⟩,
    ⟨2, ⟨(some 17), .iaddr 6 none (.t 16) (.c (.i .i64 0)), none⟩, [], []⟩,
    ⟨3, ⟨(some 18), .load (some 6) (.t 17), none⟩, [], []⟩,
    ⟨4, ⟨(some 19), .mv (.t 0), none⟩, [], []⟩,
    ⟨5, ⟨(some 20), .mv (.t 1), none⟩, [], []⟩,
    ⟨6, ⟨(some 21), .slice 6 (.t 20) (some (.c (.i .i64 1))) none none, none⟩, [], []⟩,
    ⟨7, ⟨(some 22), .call 61 [(.t 19), (.t 21)], none⟩, [3], [⟨(some 18), .load (some 6) (.t 17), none⟩]⟩,
    ⟨8, ⟨(some 23), .bslice 6 2 [(.i .i64 0), (.i .i64 0), (.l [] true), (.i .i64 0), (.i .i64 0), (.l [] true)] [(0, (.t 18)), (1, (.t 22))], none⟩, [], []⟩,
    ⟨9, ⟨(some 24), .build [(.i .i64 0), (.i .i64 0), (.l [] true), (.i .i64 0), (.i .i64 0), (.l [] true)] [(0, 1, (.t 15)), (5, 1, (.t 23))], none⟩, [], []⟩,
    ⟨10, ⟨none, .store 6 (.t 4) (.t 24), none⟩, [], []⟩])
  .ret)))
theorem ree61 : Tryz.f61.body.bind (res Tryz.prog Tryz.f61.ntmps [] []) = some (erase ae61) := by kernel_rfl
def fs61 : FnS := .fn 25 ae61 [.c 4 (some 6)]
theorem fsok61 : FnOk Tryz.prog 61 fs61 := fun _ _ _ hn h => ctr_of_resC Tryz.func61 (by kernel_rfl) ree61 (by kernel_rfl) hn h
abbrev ae62 : ACode := (.seq [1, 2] (.reg [⟨(some 1), .box (.t 0), none⟩,
    ⟨(some 2), .alloc [(.i .i64 0), (.i .i64 0), (.l [] true), (.i .i64 0), (.i .i64 0), (.l [] true)], none⟩])
  (.seq [2] (.reg [⟨(some 3), .load (some 6) (.t 1), none⟩,
    ⟨(some 4), .bslice 6 1 [(.i .i64 0), (.i .i64 0), (.l [] true), (.i .i64 0), (.i .i64 0), (.l [] true)] [(0, (.t 3))], none⟩,
    ⟨(some 5), .build [(.i .i64 0), (.i .i64 0), (.l [] true), (.i .i64 0), (.i .i64 0), (.l [] true)] [(0, 1, (.c (.i .i64 5))), (5, 1, (.t 4))], none⟩,
    ⟨none, .store 6 (.t 2) (.t 5), none⟩])
  .ret))
theorem ree62 : Tryz.f62.body.bind (res Tryz.prog Tryz.f62.ntmps [] []) = some (erase ae62) := by kernel_rfl
def fs62 : FnS := .fn 6 ae62 [.c 2 (some 6)]
theorem fsok62 : FnOk Tryz.prog 62 fs62 := fun _ _ _ hn h => ctr_of_resC Tryz.func62 (by kernel_rfl) ree62 (by kernel_rfl) hn h
abbrev ae63 : ACode := (.seq [2, 3, 4] (.reg [⟨(some 2), .box (.t 0), none⟩,
    ⟨(some 3), .box (.t 1), none⟩,
    ⟨(some 4), .alloc [(.i .i64 0), (.i .i64 0), (.l [] true), (.i .i64 0), (.i .i64 0), (.l [] true)], none⟩,
    ⟨(some 5), .mv (.c (.i .i64 0)), none⟩])
  (.seq [3, 4, 6] (.reg [⟨(some 9), .faddr 0 (.t 2), none⟩,
    ⟨(some 10), .load (some 6) (.t 9), none⟩,
    ⟨(some 11), .call 64 [(.t 10)], none⟩,
    ⟨(some 8), .mv (.t 11), none⟩,
    ⟨(some 12), .extract 0 (.t 8), none⟩,
    ⟨(some 13), .extract 1 (.t 8), none⟩,
    ⟨(some 6), .alloc [(.l [] true), (.l [] true)], none⟩,
    ⟨none, .store 2 (.t 6) (.t 12), none⟩,
    ⟨(some 7), .mv (.t 13), none⟩])
  (.seq [3, 4] (.seq [3, 4, 17] (.reg [⟨(some 14), .load (some 2) (.t 6), none⟩,
    ⟨(some 15), .load (some 6) (.t 3), none⟩,
    ⟨(some 16), .call 116 [(.t 14), (.t 15)], none⟩,
    ⟨(some 17), .bin .neq (.t 16) (.c (.i .i64 0)), none⟩])
  (.cond (.t 17)
  (.seq [4, 5] (.reg [⟨(some 18), .build [(.i .i64 0), (.i .i64 0), (.l [] true), (.i .i64 0), (.i .i64 0), (.l [] true)] [], none⟩,
    ⟨none, .store 6 (.t 4) (.t 18), none⟩,
    ⟨(some 5), .mv (.c (.i .i64 3)), none⟩])
  .ret)
  .skip))
  (.seq [4, 5] (.reg [⟨(some 19), .load (some 6) (.t 3), none⟩,
    ⟨(some 20), .call 117 [(.t 19)], none⟩,
    ⟨none, .store 6 (.t 4) (.t 20), none⟩,
    ⟨(some 5), .mv (.c (.i .i64 0)), none⟩])
  .ret))))
theorem ree63 : Tryz.f63.body.bind (res Tryz.prog Tryz.f63.ntmps [] []) = some (erase ae63) := by kernel_rfl
def fs63 : FnS := .fn 21 ae63 [.c 4 (some 6), .t 5]
theorem fsok63 : FnOk Tryz.prog 63 fs63 := fun _ _ _ hn h => ctr_of_resC Tryz.func63 (by kernel_rfl) ree63 (by kernel_rfl) hn h
abbrev ae64 : ACode := (.seq [1, 2] (.reg [⟨(some 1), .box (.t 0), none⟩,
    ⟨(some 2), .alloc [(.l [] true), (.l [] true)], none⟩,
    ⟨(some 3), .mv (.c (.i .i64 0)), none⟩])
  (.seq [1, 2] (.seq [1, 2, 6] (.reg [⟨(some 4), .load (some 6) (.t 1), none⟩,
    ⟨(some 5), .call 94 [(.t 4)], none⟩,
    ⟨(some 6), .bin .neq (.t 5) (.c (.i .i64 0)), none⟩])
  (.cond (.t 6)
  (.seq [2, 3] (.reg [⟨(some 7), .build [(.l [] true), (.l [] true)] [], none⟩,
    ⟨none, .store 2 (.t 2) (.t 7), none⟩,
    ⟨(some 3), .mv (.c (.i .i64 2)), none⟩])
  .ret)
  .skip))
  (.seq [2, 3] (.reg [⟨(some 8), .load (some 6) (.t 1), none⟩,
    ⟨(some 9), .call 118 [(.t 8)], none⟩,
    ⟨none, .store 2 (.t 2) (.t 9), none⟩,
    ⟨(some 3), .mv (.c (.i .i64 0)), none⟩])
  .ret)))
theorem ree64 : Tryz.f64.body.bind (res Tryz.prog Tryz.f64.ntmps [] []) = some (erase ae64) := by kernel_rfl
def fs64 : FnS := .fn 10 ae64 [.c 2 (some 2), .t 3]
theorem fsok64 : FnOk Tryz.prog 64 fs64 := fun _ _ _ hn h => ctr_of_resC Tryz.func64 (by kernel_rfl) ree64 (by kernel_rfl) hn h
abbrev ae65 : ACode := (.seq [2, 3, 4] (.reg [⟨(some 2), .box (.t 0), none⟩,
    ⟨(some 3), .box (.t 1), none⟩,
    ⟨(some 4), .alloc [(.i .i64 0), (.i .i64 0), (.l [] true), (.i .i64 0), (.i .i64 0), (.l [] true)], none⟩,
    ⟨(some 5), .mv (.c (.i .i64 0)), none⟩])
  (.seq [3, 4, 6, 7] (.reg [⟨(some 10), .load (some 2) (.t 2), none⟩,
    ⟨(some 11), .load (some 6) (.t 3), none⟩,
    ⟨(some 12), .bslice 6 1 [(.i .i64 0), (.i .i64 0), (.l [] true), (.i .i64 0), (.i .i64 0), (.l [] true)] [(0, (.t 11))], none⟩,
    ⟨(some 13), .call 119 [(.t 10), (.t 12)], none⟩,
    ⟨(some 9), .mv (.t 13), none⟩,
    ⟨(some 14), .extract 0 (.t 9), none⟩,
    ⟨(some 15), .extract 1 (.t 9), none⟩,
    ⟨(some 6), .mv (.t 14), none⟩,
    ⟨(some 7), .mv (.t 15), none⟩])
  (.seq [3, 4, 6] (.seq [3, 4, 6, 17] (.reg [⟨(some 16), .mv (.t 7), none⟩,
    ⟨(some 17), .not (.t 16), none⟩])
  (.cond (.t 17)
  (.seq [4, 5] (.reg [⟨(some 18), .build [(.i .i64 0), (.i .i64 0), (.l [] true), (.i .i64 0), (.i .i64 0), (.l [] true)] [], none⟩,
    ⟨none, .store 6 (.t 4) (.t 18), none⟩,
    ⟨(some 5), .mv (.c (.i .i64 2)), none⟩])
  .ret)
  .skip))
  (.seq [3, 4, 6, 8] (.reg [⟨(some 20), .mv (.t 6), none⟩,
    ⟨(some 21), .load (some 6) (.t 3), none⟩,
    ⟨(some 22), .call 120 [(.t 20), (.t 21)], none⟩,
    ⟨(some 19), .mv (.t 22), none⟩,
    ⟨(some 23), .extract 0 (.t 19), none⟩,
    ⟨(some 24), .extract 1 (.t 19), none⟩,
    ⟨none, .store 6 (.t 3) (.t 23), none⟩,
    ⟨(some 8), .mv (.t 24), none⟩])
  (.seq [3, 4] (.block 0 (.loop [3, 4, 6, 8] (.seq [3, 4, 6] (.seq [3, 4, 6, 25] (.reg [⟨(some 25), .mv (.t 8), none⟩])
  (.cond (.t 25)
  .skip
  (.exit 0)))
  (.block 1 (.reg [⟨(some 27), .mv (.t 6), none⟩,
    ⟨(some 28), .load (some 6) (.t 3), none⟩,
    ⟨(some 29), .call 120 [(.t 27), (.t 28)], none⟩,
    ⟨(some 26), .mv (.t 29), none⟩,
    ⟨(some 30), .extract 0 (.t 26), none⟩,
    ⟨(some 31), .extract 1 (.t 26), none⟩,
    ⟨none, .store 6 (.t 3) (.t 30), none⟩,
    ⟨(some 8), .mv (.t 31), none⟩])))))
  (.seq [4, 5] (.reg [⟨(some 32), .load (some 6) (.t 3), none⟩,
    ⟨(some 33), .call 121 [(.t 32)], none⟩,
    ⟨none, .store 6 (.t 4) (.t 33), none⟩,
    ⟨(some 5), .mv (.c (.i .i64 0)), none⟩])
  .ret))))))
theorem ree65 : Tryz.f65.body.bind (res Tryz.prog Tryz.f65.ntmps [] []) = some (erase ae65) := by kernel_rfl
def fs65 : FnS := .fn 34 ae65 [.c 4 (some 6), .t 5]
theorem fsok65 : FnOk Tryz.prog 65 fs65 := fun _ _ _ hn h => ctr_of_resC Tryz.func65 (by kernel_rfl) ree65 (by kernel_rfl) hn h
abbrev ae66 : ACode := (.seq [1, 2] (.reg [⟨(some 2), .box (.t 0), none⟩,
    ⟨(some 3), .mv (.c (.b false)), none⟩])
  (.seq [3] (.reg [⟨(some 4), .load (some 8) (.t 2), none⟩,
    ⟨(some 5), .load none (.t 1), none⟩,
    ⟨(some 6), .call 54 [(.t 4), (.t 5)], none⟩,
    ⟨(some 3), .mv (.t 6), none⟩])
  .ret))
theorem ree66 : Tryz.f66.body.bind (res Tryz.prog Tryz.f66.ntmps [] []) = some (erase ae66) := by kernel_rfl
def fs66 : FnS := .fn 7 ae66 [.t 3]
theorem fsok66 : FnOk Tryz.prog 66 fs66 := fun _ _ _ hn h => ctr_of_resC Tryz.func66 (by kernel_rfl) ree66 (by kernel_rfl) hn h
abbrev ae67 : ACode := (.seq [0, 1] (.reg [⟨(some 4), .mv (.c (.b false)), none⟩])
  (.seq [4] (.reg [⟨(some 5), .mv (.t 0), none⟩,
    ⟨(some 6), .mv (.t 1), none⟩,
    ⟨(some 7), .call 122 [(.t 5), (.t 6)], none⟩,
    ⟨(some 8), .bin .geq (.t 7) (.c (.i .i64 0)), none⟩,
    ⟨(some 4), .mv (.t 8), none⟩])
  .ret))
theorem ree67 : Tryz.f67.body.bind (res Tryz.prog Tryz.f67.ntmps [] []) = some (erase ae67) := by kernel_rfl
def fs67 : FnS := .fn 9 ae67 [.t 4]
theorem fsok67 : FnOk Tryz.prog 67 fs67 := fun _ _ _ hn h => ctr_of_resC Tryz.func67 (by kernel_rfl) ree67 (by kernel_rfl) hn h
abbrev ae68 : ACode := (.seq [1, 2] (.reg [⟨(some 2), .box (.t 0), none⟩,
    ⟨(some 4), .mv (.c (.l [] true)), none⟩,
    ⟨(some 5), .mv (.c (.i .i64 0)), none⟩])
  (.seq [6, 7] (.reg [⟨(some 9), .load (some 6) (.t 2), none⟩,
    ⟨(some 10), .mv (.t 1), none⟩,
    ⟨(some 11), .call 44 [(.t 9), (.t 10), (.c (.f (.func 50) [] []))], none⟩,
    ⟨(some 8), .mv (.t 11), none⟩,
    ⟨(some 12), .extract 0 (.t 8), none⟩,
    ⟨(some 13), .extract 1 (.t 8), none⟩,
    ⟨(some 6), .alloc [(.l [] true), (.i .i64 0), (.l [] true), (.l [] true), (.l [] true), (.i .i64 0), (.i .i64 0), (.l [] true)], none⟩,
    ⟨none, .store 8 (.t 6) (.t 12), none⟩,
    ⟨(some 7), .mv (.t 13), none⟩])
  (.seq [6] (.seq [6, 7, 15] (.reg [⟨(some 14), .mv (.t 7), none⟩,
    ⟨(some 15), .bin .neq (.t 14) (.c (.i .i64 0)), none⟩])
  (.cond (.t 15)
  (.seq [4, 5] (.reg [⟨(some 16), .mv (.t 7), none⟩,
    ⟨(some 4), .mv (.c (.l [] true)), none⟩,
    ⟨(some 5), .mv (.t 16), none⟩])
  .ret)
  .skip))
  (.seq [4, 5] (.dreg [4, 5] [⟨0, ⟨(some 17), .load (some 8) (.t 6), none⟩, [], []⟩,
    ⟨1, ⟨(some 18), .load (some 8) (.t 6), none⟩, [], []⟩,
    ⟨2, ⟨(some 19), .call 49 [(.t 18), (.c (.l [] true))], none⟩, [0], [⟨(some 17), .load (some 8) (.t 6), none⟩]⟩,
    ⟨3, ⟨(some 20), .call 48 [(.t 17), (.t 19)], none⟩, [], []⟩,
    ⟨4, ⟨(some 4), .mv (.t 20), none⟩, [], []⟩,
    ⟨5, ⟨(some 5), .mv (.c (.i .i64 0)), none⟩, [], []⟩])
  .ret))))
theorem ree68 : Tryz.f68.body.bind (res Tryz.prog Tryz.f68.ntmps [] []) = some (erase ae68) := by kernel_rfl
def fs68 : FnS := .fn 21 ae68 [.t 4, .t 5]
theorem fsok68 : FnOk Tryz.prog 68 fs68 := fun _ _ _ hn h => ctr_of_resC Tryz.func68 (by kernel_rfl) ree68 (by kernel_rfl) hn h
abbrev ae69 : ACode := (.seq [0, 1] (.reg [⟨(some 4), .mv (.c (.b false)), none⟩])
  (.seq [0, 1] (.seq [0, 1, 10] (.reg [⟨(some 6), .mv (.t 0), none⟩,
    ⟨(some 7), .len (.t 6), none⟩,
    ⟨(some 8), .mv (.t 1), none⟩,
    ⟨(some 9), .len (.t 8), none⟩,
    ⟨(some 10), .bin .neq (.t 7) (.t 9), none⟩])
  (.cond (.t 10)
  (.seq [4] (.reg [⟨(some 4), .mv (.c (.b false)), none⟩])
  .ret)
  .skip))
  (.seq [] (.seq [0, 1, 12, 13] (.reg [⟨(some 11), .mv (.t 0), none⟩,
    ⟨(some 12), .len (.t 11), none⟩,
    ⟨(some 13), .mv (.c (.i .i64 0)), none⟩])
  (.block 0 (.loop [0, 1, 12, 13] (.seq [0, 1, 12, 13, 14] (.reg [⟨(some 14), .bin .lss (.t 13) (.t 12), none⟩])
  (.seq [0, 1, 12, 13] (.cond (.t 14)
  .skip
  (.exit 0))
  (.seq [0, 1, 12, 13] (.block 1 (.seq [0, 1, 5, 12, 13] (.reg [⟨(some 15), .mv (.t 13), none⟩,
    ⟨(some 5), .mv (.t 15), none⟩])
  (.seq [0, 1, 12, 13, 40] (.dreg [0, 1, 12, 13, 40] [⟨0, ⟨(some 16), .mv (.t 0), none⟩, [], []⟩,
    ⟨1, ⟨(some 17), .mv (.t 5), none⟩, [], []⟩,
    ⟨2, ⟨(some 18), .iaddr 2 none (.t 16) (.t 17), none⟩, [], []⟩,
    ⟨3, ⟨(some 19), .faddr 1 (.t 18), none⟩, [], []⟩,
    ⟨4, ⟨(some 20), .load none (.t 19), none⟩, [], []⟩,
    ⟨5, ⟨(some 21), .mv (.t 1), none⟩, [], []⟩,
    ⟨6, ⟨(some 22), .mv (.t 5), none⟩, [], []⟩,
    ⟨7, ⟨(some 23), .iaddr 2 none (.t 21) (.t 22), none⟩, [], []⟩,
    ⟨8, ⟨(some 24), .faddr 1 (.t 23), none⟩, [], []⟩,
    ⟨9, ⟨(some 25), .load none (.t 24), none⟩, [], []⟩,
    ⟨10, ⟨(some 26), .bin .neq (.t 20) (.t 25), none⟩, [], []⟩,
    ⟨11, ⟨(some 27), .mv (.t 26), none⟩, [], []⟩,
    ⟨12, ⟨(some 28), .mv (.t 0), (some (27, false))⟩, [], []⟩,
    ⟨13, ⟨(some 29), .mv (.t 5), (some (27, false))⟩, [], []⟩,
    ⟨14, ⟨(some 30), .iaddr 2 none (.t 28) (.t 29), (some (27, false))⟩, [], []⟩,
    ⟨15, ⟨(some 31), .faddr 0 (.t 30), (some (27, false))⟩, [], []⟩,
    ⟨16, ⟨(some 32), .load none (.t 31), (some (27, false))⟩, [], []⟩,
    ⟨17, ⟨(some 33), .mv (.t 1), (some (27, false))⟩, [], []⟩,
    ⟨18, ⟨(some 34), .mv (.t 5), (some (27, false))⟩, [], []⟩,
    ⟨19, ⟨(some 35), .iaddr 2 none (.t 33) (.t 34), (some (27, false))⟩, [], []⟩,
    ⟨20, ⟨(some 36), .faddr 0 (.t 35), (some (27, false))⟩, [], []⟩,
    ⟨21, ⟨(some 37), .load none (.t 36), (some (27, false))⟩, [], []⟩,
    ⟨22, ⟨(some 38), .call 71 [(.t 32), (.t 37)], (some (27, false))⟩, [], []⟩,
    ⟨23, ⟨(some 39), .not (.t 38), (some (27, false))⟩, [], []⟩,
    ⟨24, ⟨(some 40), .pick (.t 27) (.c (.b true)) (.t 39), none⟩, [], []⟩])
  (.cond (.t 40)
  (.seq [4] (.reg [⟨(some 4), .mv (.c (.b false)), none⟩])
  .ret)
  .skip))))
  (.reg [⟨(some 41), .bin .add (.t 13) (.c (.i .i64 1)), none⟩,
    ⟨(some 13), .mv (.t 41), none⟩])))))))
  (.seq [4] (.reg [⟨(some 4), .mv (.c (.b true)), none⟩])
  .ret))))
theorem ree69 : Tryz.f69.body.bind (res Tryz.prog Tryz.f69.ntmps [] []) = some (erase ae69) := by kernel_rfl
def fs69 : FnS := .fn 42 ae69 [.t 4]
theorem fsok69 : FnOk Tryz.prog 69 fs69 := fun _ _ _ hn h => ctr_of_resC Tryz.func69 (by kernel_rfl) ree69 (by kernel_rfl) hn h
abbrev ae70 : ACode := (.seq [0] (.reg [⟨(some 0), .alloc [(.l [] true), (.i .i64 0), (.l [] true), (.l [] true), (.l [] true), (.i .i64 0)], none⟩])
  (.seq [0] (.reg [⟨(some 1), .call 43 [(.c (.i .i64 4))], none⟩,
    ⟨(some 2), .call 43 [(.c (.i .i64 5))], none⟩,
    ⟨(some 3), .call 123 [(.t 1), (.t 2)], none⟩,
    ⟨(some 4), .build [(.i .i64 0), (.i .i64 0), (.i .i64 0), (.i .i64 0), (.l [] true), (.i .i64 0), (.i .i64 0), (.l [] true), (.i .i64 0)] [(0, 1, (.c (.i .i64 4))), (2, 6, (.t 3))], none⟩,
    ⟨(some 5), .bslice 9 1 [(.i .i64 0), (.i .i64 0), (.i .i64 0), (.i .i64 0), (.l [] true), (.i .i64 0), (.i .i64 0), (.l [] true), (.i .i64 0)] [(0, (.t 4))], none⟩,
    ⟨(some 6), .call 7 [(.t 5)], none⟩,
    ⟨none, .store 6 (.t 0) (.t 6), none⟩])
  .ret))
theorem ree70 : Tryz.f70.body.bind (res Tryz.prog Tryz.f70.ntmps [] []) = some (erase ae70) := by kernel_rfl
def fs70 : FnS := .fnz 7 ae70 [.c 0 (some 6)]
theorem fsok70 : FnOk Tryz.prog 70 fs70 := fun _ _ _ hn h => ctr_of_resC Tryz.func70 (by kernel_rfl) ree70 (by kernel_rfl) hn h
abbrev ae71 : ACode := (.seq [0, 1] (.reg [⟨(some 4), .mv (.c (.b false)), none⟩])
  (.seq [0, 1] (.seq [0, 1, 10] (.reg [⟨(some 6), .mv (.t 0), none⟩,
    ⟨(some 7), .len (.t 6), none⟩,
    ⟨(some 8), .mv (.t 1), none⟩,
    ⟨(some 9), .len (.t 8), none⟩,
    ⟨(some 10), .bin .neq (.t 7) (.t 9), none⟩])
  (.cond (.t 10)
  (.seq [4] (.reg [⟨(some 4), .mv (.c (.b false)), none⟩])
  .ret)
  .skip))
  (.seq [] (.seq [0, 1, 12, 13] (.reg [⟨(some 11), .mv (.t 0), none⟩,
    ⟨(some 12), .len (.t 11), none⟩,
    ⟨(some 13), .mv (.c (.i .i64 0)), none⟩])
  (.block 0 (.loop [0, 1, 12, 13] (.seq [0, 1, 12, 13, 14] (.reg [⟨(some 14), .bin .lss (.t 13) (.t 12), none⟩])
  (.seq [0, 1, 12, 13] (.cond (.t 14)
  .skip
  (.exit 0))
  (.seq [0, 1, 12, 13] (.block 1 (.seq [0, 1, 5, 12, 13] (.reg [⟨(some 15), .mv (.t 13), none⟩,
    ⟨(some 5), .mv (.t 15), none⟩])
  (.seq [0, 1, 12, 13, 24] (.dreg [0, 1, 12, 13, 24] [⟨0, ⟨(some 16), .mv (.t 0), none⟩, [], []⟩,
    ⟨1, ⟨(some 17), .mv (.t 5), none⟩, [], []⟩,
    ⟨2, ⟨(some 18), .iaddr 1 none (.t 16) (.t 17), none⟩, [], []⟩,
    ⟨3, ⟨(some 19), .load none (.t 18), none⟩, [], []⟩,
    ⟨4, ⟨(some 20), .mv (.t 1), none⟩, [], []⟩,
    ⟨5, ⟨(some 21), .mv (.t 5), none⟩, [], []⟩,
    ⟨6, ⟨(some 22), .iaddr 1 none (.t 20) (.t 21), none⟩, [], []⟩,
    ⟨7, ⟨(some 23), .load none (.t 22), none⟩, [], []⟩,
    ⟨8, ⟨(some 24), .bin .neq (.t 19) (.t 23), none⟩, [], []⟩])
  (.cond (.t 24)
  (.seq [4] (.reg [⟨(some 4), .mv (.c (.b false)), none⟩])
  .ret)
  .skip))))
  (.reg [⟨(some 25), .bin .add (.t 13) (.c (.i .i64 1)), none⟩,
    ⟨(some 13), .mv (.t 25), none⟩])))))))
  (.seq [4] (.reg [⟨(some 4), .mv (.c (.b true)), none⟩])
  .ret))))
theorem ree71 : Tryz.f71.body.bind (res Tryz.prog Tryz.f71.ntmps [] []) = some (erase ae71) := by kernel_rfl
def fs71 : FnS := .fn 26 ae71 [.t 4]
theorem fsok71 : FnOk Tryz.prog 71 fs71 := fun _ _ _ hn h => ctr_of_resC Tryz.func71 (by kernel_rfl) ree71 (by kernel_rfl) hn h
abbrev ae73 : ACode := (.seq [1, 2] (.reg [⟨(some 1), .box (.t 0), none⟩,
    ⟨(some 2), .alloc [(.i .i64 0), (.i .i64 0), (.l [] true), (.i .i64 0), (.i .i64 0), (.l [] true)], none⟩])
  (.seq [2] (.reg [⟨(some 3), .load (some 6) (.t 1), none⟩,
    ⟨(some 4), .bslice 6 1 [(.i .i64 0), (.i .i64 0), (.l [] true), (.i .i64 0), (.i .i64 0), (.l [] true)] [(0, (.t 3))], none⟩,
    ⟨(some 5), .build [(.i .i64 0), (.i .i64 0), (.l [] true), (.i .i64 0), (.i .i64 0), (.l [] true)] [(0, 1, (.c (.i .i64 5))), (5, 1, (.t 4))], none⟩,
    ⟨none, .store 6 (.t 2) (.t 5), none⟩])
  .ret))
theorem ree73 : Tryz.f73.body.bind (res Tryz.prog Tryz.f73.ntmps [] []) = some (erase ae73) := by kernel_rfl
def fs73 : FnS := .fn 6 ae73 [.c 2 (some 6)]
theorem fsok73 : FnOk Tryz.prog 73 fs73 := fun _ _ _ hn h => ctr_of_resC Tryz.func73 (by kernel_rfl) ree73 (by kernel_rfl) hn h
abbrev ae72 : ACode := (.seq [2, 3] (.reg [⟨(some 2), .box (.t 0), none⟩,
    ⟨(some 3), .box (.t 1), none⟩,
    ⟨(some 4), .mv (.c (.b false)), none⟩])
  (.seq [2, 3] (.seq [2, 3, 48] (.reg [⟨(some 6), .faddr 0 (.t 2), none⟩,
    ⟨(some 7), .load none (.t 6), none⟩,
    ⟨(some 8), .faddr 0 (.t 3), none⟩,
    ⟨(some 9), .load none (.t 8), none⟩,
    ⟨(some 10), .bin .neq (.t 7) (.t 9), none⟩,
    ⟨(some 11), .mv (.t 10), none⟩,
    ⟨(some 12), .faddr 1 (.t 2), (some (11, false))⟩,
    ⟨(some 13), .load none (.t 12), (some (11, false))⟩,
    ⟨(some 14), .faddr 1 (.t 3), (some (11, false))⟩,
    ⟨(some 15), .load none (.t 14), (some (11, false))⟩,
    ⟨(some 16), .bin .neq (.t 13) (.t 15), (some (11, false))⟩,
    ⟨(some 17), .pick (.t 11) (.c (.b true)) (.t 16), none⟩,
    ⟨(some 18), .mv (.t 17), none⟩,
    ⟨(some 19), .faddr 3 (.t 2), (some (18, false))⟩,
    ⟨(some 20), .load none (.t 19), (some (18, false))⟩,
    ⟨(some 21), .faddr 3 (.t 3), (some (18, false))⟩,
    ⟨(some 22), .load none (.t 21), (some (18, false))⟩,
    ⟨(some 23), .bin .neq (.t 20) (.t 22), (some (18, false))⟩,
    ⟨(some 24), .pick (.t 18) (.c (.b true)) (.t 23), none⟩,
    ⟨(some 25), .mv (.t 24), none⟩,
    ⟨(some 26), .faddr 4 (.t 2), (some (25, false))⟩,
    ⟨(some 27), .load none (.t 26), (some (25, false))⟩,
    ⟨(some 28), .faddr 4 (.t 3), (some (25, false))⟩,
    ⟨(some 29), .load none (.t 28), (some (25, false))⟩,
    ⟨(some 30), .bin .neq (.t 27) (.t 29), (some (25, false))⟩,
    ⟨(some 31), .pick (.t 25) (.c (.b true)) (.t 30), none⟩,
    ⟨(some 32), .mv (.t 31), none⟩,
    ⟨(some 33), .faddr 2 (.t 2), (some (32, false))⟩,
    ⟨(some 34), .load none (.t 33), (some (32, false))⟩,
    ⟨(some 35), .faddr 2 (.t 3), (some (32, false))⟩,
    ⟨(some 36), .load none (.t 35), (some (32, false))⟩,
    ⟨(some 37), .call 71 [(.t 34), (.t 36)], (some (32, false))⟩,
    ⟨(some 38), .not (.t 37), (some (32, false))⟩,
    ⟨(some 39), .pick (.t 32) (.c (.b true)) (.t 38), none⟩,
    ⟨(some 40), .mv (.t 39), none⟩,
    ⟨(some 41), .faddr 5 (.t 2), (some (40, false))⟩,
    ⟨(some 42), .load none (.t 41), (some (40, false))⟩,
    ⟨(some 43), .len (.t 42), (some (40, false))⟩,
    ⟨(some 44), .faddr 5 (.t 3), (some (40, false))⟩,
    ⟨(some 45), .load none (.t 44), (some (40, false))⟩,
    ⟨(some 46), .len (.t 45), (some (40, false))⟩,
    ⟨(some 47), .bin .neq (.t 43) (.t 46), (some (40, false))⟩,
    ⟨(some 48), .pick (.t 40) (.c (.b true)) (.t 47), none⟩])
  (.cond (.t 48)
  (.seq [4] (.reg [⟨(some 4), .mv (.c (.b false)), none⟩])
  .ret)
  .skip))
  (.seq [] (.seq [2, 3, 51, 52] (.reg [⟨(some 49), .faddr 5 (.t 2), none⟩,
    ⟨(some 50), .load none (.t 49), none⟩,
    ⟨(some 51), .len (.t 50), none⟩,
    ⟨(some 52), .mv (.c (.i .i64 0)), none⟩])
  (.block 0 (.loop [2, 3, 51, 52] (.seq [2, 3, 51, 52, 53] (.reg [⟨(some 53), .bin .lss (.t 52) (.t 51), none⟩])
  (.seq [2, 3, 51, 52] (.cond (.t 53)
  .skip
  (.exit 0))
  (.seq [2, 3, 51, 52] (.block 1 (.seq [2, 3, 5, 51, 52] (.reg [⟨(some 54), .mv (.t 52), none⟩,
    ⟨(some 5), .mv (.t 54), none⟩])
  (.seq [2, 3, 51, 52, 66] (.dreg [2, 3, 51, 52, 66] [⟨0, ⟨(some 55), .faddr 5 (.t 2), none⟩, [], []⟩,
    ⟨1, ⟨(some 56), .load none (.t 55), none⟩, [], []⟩,
    ⟨2, ⟨(some 57), .mv (.t 5), none⟩, [], []⟩,
    ⟨3, ⟨(some 58), .iaddr 6 none (.t 56) (.t 57), none⟩, [], []⟩,
    ⟨4, ⟨(some 59), .load (some 6) (.t 58), none⟩, [], []⟩,
    ⟨5, ⟨(some 60), .faddr 5 (.t 3), none⟩, [], []⟩,
    ⟨6, ⟨(some 61), .load none (.t 60), none⟩, [], []⟩,
    ⟨7, ⟨(some 62), .mv (.t 5), none⟩, [], []⟩,
    ⟨8, ⟨(some 63), .iaddr 6 none (.t 61) (.t 62), none⟩, [], []⟩,
    ⟨9, ⟨(some 64), .load (some 6) (.t 63), none⟩, [], []⟩,
    ⟨10, ⟨(some 65), .call 72 [(.t 59), (.t 64)], none⟩, [], []⟩,
    ⟨11, ⟨(some 66), .not (.t 65), none⟩, [], []⟩])
  (.cond (.t 66)
  (.seq [4] (.reg [⟨(some 4), .mv (.c (.b false)), none⟩])
  .ret)
  .skip))))
  (.reg [⟨(some 67), .bin .add (.t 52) (.c (.i .i64 1)), none⟩,
    ⟨(some 52), .mv (.t 67), none⟩])))))))
  (.seq [4] (.reg [⟨(some 4), .mv (.c (.b true)), none⟩])
  .ret))))
theorem ree72 : Tryz.f72.body.bind (res Tryz.prog Tryz.f72.ntmps [] []) = some (erase ae72) := by kernel_rfl
def fs72 : FnS := .fn 68 ae72 [.t 4]
theorem fsok72 : FnOk Tryz.prog 72 fs72 := fun _ _ _ hn h => ctr_of_resC Tryz.func72 (by kernel_rfl) ree72 (by kernel_rfl) hn h
abbrev ae74 : ACode := (.seq [2, 3, 4] (.reg [⟨(some 2), .box (.t 0), none⟩,
    ⟨(some 3), .box (.t 1), none⟩,
    ⟨(some 4), .alloc [(.i .i64 0), (.i .i64 0), (.l [] true), (.i .i64 0), (.i .i64 0), (.l [] true)], none⟩])
  (.seq [4] (.reg [⟨(some 5), .load (some 6) (.t 2), none⟩,
    ⟨(some 6), .load (some 6) (.t 3), none⟩,
    ⟨(some 7), .bslice 6 2 [(.i .i64 0), (.i .i64 0), (.l [] true), (.i .i64 0), (.i .i64 0), (.l [] true)] [(0, (.t 5)), (1, (.t 6))], none⟩,
    ⟨(some 8), .build [(.i .i64 0), (.i .i64 0), (.l [] true), (.i .i64 0), (.i .i64 0), (.l [] true)] [(0, 1, (.c (.i .i64 6))), (5, 1, (.t 7))], none⟩,
    ⟨none, .store 6 (.t 4) (.t 8), none⟩])
  .ret))
theorem ree74 : Tryz.f74.body.bind (res Tryz.prog Tryz.f74.ntmps [] []) = some (erase ae74) := by kernel_rfl
def fs74 : FnS := .fn 9 ae74 [.c 4 (some 6)]
theorem fsok74 : FnOk Tryz.prog 74 fs74 := fun _ _ _ hn h => ctr_of_resC Tryz.func74 (by kernel_rfl) ree74 (by kernel_rfl) hn h
abbrev ae47 : ACode := (.seq [0, 1] (.reg [⟨(some 3), .mv (.c (.b false)), none⟩])
  (.seq [3] (.reg [⟨(some 4), .mv (.t 0), none⟩,
    ⟨(some 5), .bin .lss (.t 4) (.c (.i .i64 1)), none⟩,
    ⟨(some 6), .mv (.t 5), none⟩,
    ⟨(some 7), .mv (.t 0), (some (6, false))⟩,
    ⟨(some 8), .faddr 0 (.t 1), (some (6, false))⟩,
    ⟨(some 9), .load none (.t 8), (some (6, false))⟩,
    ⟨(some 10), .len (.t 9), (some (6, false))⟩,
    ⟨(some 11), .bin .add (.c (.i .i64 3)) (.t 10), (some (6, false))⟩,
    ⟨(some 12), .bin .geq (.t 7) (.t 11), (some (6, false))⟩,
    ⟨(some 13), .pick (.t 6) (.c (.b true)) (.t 12), none⟩,
    ⟨(some 3), .mv (.t 13), none⟩])
  .ret))
theorem ree47 : Tryz.f47.body.bind (res Tryz.prog Tryz.f47.ntmps [] []) = some (erase ae47) := by kernel_rfl
def fs47 : FnS := .fn 14 ae47 [.t 3]
theorem fsok47 : FnOk Tryz.prog 47 fs47 := fun _ _ _ hn h => ctr_of_resC Tryz.func47 (by kernel_rfl) ree47 (by kernel_rfl) hn h
abbrev ae46 : ACode := (.seq [0, 1] (.reg [⟨(some 4), .mv (.c (.b false)), none⟩])
  (.seq [4] (.reg [⟨(some 5), .mv (.t 0), none⟩,
    ⟨(some 6), .mv (.t 1), none⟩,
    ⟨(some 7), .call 104 [(.t 5), (.t 6)], none⟩,
    ⟨(some 8), .bin .geq (.t 7) (.c (.i .i64 0)), none⟩,
    ⟨(some 4), .mv (.t 8), none⟩])
  .ret))
theorem ree46 : Tryz.f46.body.bind (res Tryz.prog Tryz.f46.ntmps [] []) = some (erase ae46) := by kernel_rfl
def fs46 : FnS := .fn 9 ae46 [.t 4]
theorem fsok46 : FnOk Tryz.prog 46 fs46 := fun _ _ _ hn h => ctr_of_resC Tryz.func46 (by kernel_rfl) ree46 (by kernel_rfl) hn h
end Go.Gl
