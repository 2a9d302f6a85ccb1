/-
  The code of functions of the program, resolved, for the evaluator (printed by wip/gen/mkclosed.py)
-/
import Derived.Test.YtfbhfdaljendcaaGreatEv7
import Derived.Test.YtfbhfdaljendcaaGreatProg
import Derived.KernelRfl
set_option linter.all false
set_option linter.unusedVariables false
set_option linter.unusedSimpArgs false
namespace Go.Gl
open Go.Proofs
abbrev ae352 : ACode := (.seq [0, 1, 2, 3] (.reg [⟨(some 8), .mv (.c (.i .i64 0)), none⟩,
    ⟨(some 9), .mv (.c (.b false)), none⟩])
  (.seq [0, 1, 2] (.dreg [0, 1, 2] [⟨0, ⟨(some 12), .mv (.t 0), none⟩, [], []⟩,
    ⟨1, ⟨(some 13), .mv (.t 1), none⟩, [], []⟩,
    ⟨2, ⟨(some 14), .mv (.t 0), none⟩, [], []⟩,
    ⟨3, ⟨(some 15), .mv (.t 3), none⟩, [], []⟩,
    ⟨4, ⟨(some 16), .mv (.t 0), none⟩, [], []⟩,
    ⟨5, ⟨(some 17), .mv (.t 3), none⟩, [], []⟩,
    ⟨6, ⟨(some 18), .iaddr 1 none (.t 16) (.t 17), none⟩, [], []⟩,
    ⟨7, ⟨(some 19), .load none (.t 18), none⟩, [], []⟩,
    ⟨8, ⟨(some 20), .mv (.t 0), none⟩, [], []⟩,
    ⟨9, ⟨(some 21), .mv (.t 1), none⟩, [], []⟩,
    ⟨10, ⟨(some 22), .iaddr 1 none (.t 20) (.t 21), none⟩, [], []⟩,
    ⟨11, ⟨(some 23), .load none (.t 22), none⟩, [], []⟩,
    ⟨12, ⟨(some 24), .iaddr 1 none (.t 12) (.t 13), none⟩, [], []⟩,
    ⟨13, ⟨none, .store 1 (.t 24) (.t 19), none⟩, [], []⟩,
    ⟨14, ⟨(some 25), .iaddr 1 none (.t 14) (.t 15), none⟩, [], []⟩,
    ⟨15, ⟨none, .store 1 (.t 25) (.t 23), none⟩, [], []⟩])
  (.seq [0, 1, 10, 11] (.reg [⟨(some 26), .mv (.t 1), none⟩,
    ⟨(some 27), .bin .add (.t 26) (.c (.i .i64 1)), none⟩,
    ⟨(some 28), .mv (.t 2), none⟩,
    ⟨(some 29), .bin .sub (.t 28) (.c (.i .i64 1)), none⟩,
    ⟨(some 10), .mv (.t 27), none⟩,
    ⟨(some 11), .mv (.t 29), none⟩])
  (.seq [0, 1, 10, 11] (.block 0 (.loop [0, 1, 10, 11] (.seq [0, 1, 10, 11] (.seq [0, 1, 10, 11, 43] (.dreg [0, 1, 10, 11, 43] [⟨0, ⟨(some 30), .mv (.t 10), none⟩, [], []⟩,
    ⟨1, ⟨(some 31), .mv (.t 11), none⟩, [], []⟩,
    ⟨2, ⟨(some 32), .bin .leq (.t 30) (.t 31), none⟩, [], []⟩,
    ⟨3, ⟨(some 33), .mv (.t 32), none⟩, [], []⟩,
    ⟨4, ⟨(some 34), .mv (.t 0), (some (33, true))⟩, [], []⟩,
    ⟨5, ⟨(some 35), .mv (.t 10), (some (33, true))⟩, [], []⟩,
    ⟨6, ⟨(some 36), .iaddr 1 none (.t 34) (.t 35), (some (33, true))⟩, [], []⟩,
    ⟨7, ⟨(some 37), .load none (.t 36), (some (33, true))⟩, [], []⟩,
    ⟨8, ⟨(some 38), .mv (.t 0), (some (33, true))⟩, [], []⟩,
    ⟨9, ⟨(some 39), .mv (.t 1), (some (33, true))⟩, [], []⟩,
    ⟨10, ⟨(some 40), .iaddr 1 none (.t 38) (.t 39), (some (33, true))⟩, [], []⟩,
    ⟨11, ⟨(some 41), .load none (.t 40), (some (33, true))⟩, [], []⟩,
    ⟨12, ⟨(some 42), .call 350 [(.t 37), (.t 41)], (some (33, true))⟩, [], []⟩,
    ⟨13, ⟨(some 43), .pick (.t 33) (.t 42) (.c (.b false)), none⟩, [], []⟩])
  (.cond (.t 43)
  .skip
  (.exit 0)))
  (.block 1 (.reg [⟨(some 44), .mv (.t 10), none⟩,
    ⟨(some 45), .bin .add (.t 44) (.c (.i .i64 1)), none⟩,
    ⟨(some 10), .mv (.t 45), none⟩])))))
  (.seq [0, 1, 10, 11] (.block 2 (.loop [0, 1, 10, 11] (.seq [0, 1, 10, 11] (.seq [0, 1, 10, 11, 60] (.dreg [0, 1, 10, 11, 60] [⟨0, ⟨(some 46), .mv (.t 10), none⟩, [], []⟩,
    ⟨1, ⟨(some 47), .mv (.t 11), none⟩, [], []⟩,
    ⟨2, ⟨(some 48), .bin .leq (.t 46) (.t 47), none⟩, [], []⟩,
    ⟨3, ⟨(some 49), .mv (.t 48), none⟩, [], []⟩,
    ⟨4, ⟨(some 50), .mv (.t 0), (some (49, true))⟩, [], []⟩,
    ⟨5, ⟨(some 51), .mv (.t 11), (some (49, true))⟩, [], []⟩,
    ⟨6, ⟨(some 52), .iaddr 1 none (.t 50) (.t 51), (some (49, true))⟩, [], []⟩,
    ⟨7, ⟨(some 53), .load none (.t 52), (some (49, true))⟩, [], []⟩,
    ⟨8, ⟨(some 54), .mv (.t 0), (some (49, true))⟩, [], []⟩,
    ⟨9, ⟨(some 55), .mv (.t 1), (some (49, true))⟩, [], []⟩,
    ⟨10, ⟨(some 56), .iaddr 1 none (.t 54) (.t 55), (some (49, true))⟩, [], []⟩,
    ⟨11, ⟨(some 57), .load none (.t 56), (some (49, true))⟩, [], []⟩,
    ⟨12, ⟨(some 58), .call 350 [(.t 53), (.t 57)], (some (49, true))⟩, [], []⟩,
    ⟨13, ⟨(some 59), .not (.t 58), (some (49, true))⟩, [], []⟩,
    ⟨14, ⟨(some 60), .pick (.t 49) (.t 59) (.c (.b false)), none⟩, [], []⟩])
  (.cond (.t 60)
  .skip
  (.exit 2)))
  (.block 3 (.reg [⟨(some 61), .mv (.t 11), none⟩,
    ⟨(some 62), .bin .sub (.t 61) (.c (.i .i64 1)), none⟩,
    ⟨(some 11), .mv (.t 62), none⟩])))))
  (.seq [0, 1, 10, 11] (.seq [0, 1, 10, 11, 65] (.reg [⟨(some 63), .mv (.t 10), none⟩,
    ⟨(some 64), .mv (.t 11), none⟩,
    ⟨(some 65), .bin .gtr (.t 63) (.t 64), none⟩])
  (.cond (.t 65)
  (.seq [11] (.dreg [11] [⟨0, ⟨(some 66), .mv (.t 0), none⟩, [], []⟩,
    ⟨1, ⟨(some 67), .mv (.t 11), none⟩, [], []⟩,
    ⟨2, ⟨(some 68), .mv (.t 0), none⟩, [], []⟩,
    ⟨3, ⟨(some 69), .mv (.t 1), none⟩, [], []⟩,
    ⟨4, ⟨(some 70), .mv (.t 0), none⟩, [], []⟩,
    ⟨5, ⟨(some 71), .mv (.t 1), none⟩, [], []⟩,
    ⟨6, ⟨(some 72), .iaddr 1 none (.t 70) (.t 71), none⟩, [], []⟩,
    ⟨7, ⟨(some 73), .load none (.t 72), none⟩, [], []⟩,
    ⟨8, ⟨(some 74), .mv (.t 0), none⟩, [], []⟩,
    ⟨9, ⟨(some 75), .mv (.t 11), none⟩, [], []⟩,
    ⟨10, ⟨(some 76), .iaddr 1 none (.t 74) (.t 75), none⟩, [], []⟩,
    ⟨11, ⟨(some 77), .load none (.t 76), none⟩, [], []⟩,
    ⟨12, ⟨(some 78), .iaddr 1 none (.t 66) (.t 67), none⟩, [], []⟩,
    ⟨13, ⟨none, .store 1 (.t 78) (.t 73), none⟩, [], []⟩,
    ⟨14, ⟨(some 79), .iaddr 1 none (.t 68) (.t 69), none⟩, [], []⟩,
    ⟨15, ⟨none, .store 1 (.t 79) (.t 77), none⟩, [], []⟩])
  (.seq [8, 9] (.reg [⟨(some 80), .mv (.t 11), none⟩,
    ⟨(some 8), .mv (.t 80), none⟩,
    ⟨(some 9), .mv (.c (.b true)), none⟩])
  .ret))
  .skip))
  (.seq [0, 1, 10, 11] (.dreg [0, 1, 10, 11] [⟨0, ⟨(some 81), .mv (.t 0), none⟩, [], []⟩,
    ⟨1, ⟨(some 82), .mv (.t 10), none⟩, [], []⟩,
    ⟨2, ⟨(some 83), .mv (.t 0), none⟩, [], []⟩,
    ⟨3, ⟨(some 84), .mv (.t 11), none⟩, [], []⟩,
    ⟨4, ⟨(some 85), .mv (.t 0), none⟩, [], []⟩,
    ⟨5, ⟨(some 86), .mv (.t 11), none⟩, [], []⟩,
    ⟨6, ⟨(some 87), .iaddr 1 none (.t 85) (.t 86), none⟩, [], []⟩,
    ⟨7, ⟨(some 88), .load none (.t 87), none⟩, [], []⟩,
    ⟨8, ⟨(some 89), .mv (.t 0), none⟩, [], []⟩,
    ⟨9, ⟨(some 90), .mv (.t 10), none⟩, [], []⟩,
    ⟨10, ⟨(some 91), .iaddr 1 none (.t 89) (.t 90), none⟩, [], []⟩,
    ⟨11, ⟨(some 92), .load none (.t 91), none⟩, [], []⟩,
    ⟨12, ⟨(some 93), .iaddr 1 none (.t 81) (.t 82), none⟩, [], []⟩,
    ⟨13, ⟨none, .store 1 (.t 93) (.t 88), none⟩, [], []⟩,
    ⟨14, ⟨(some 94), .iaddr 1 none (.t 83) (.t 84), none⟩, [], []⟩,
    ⟨15, ⟨none, .store 1 (.t 94) (.t 92), none⟩, [], []⟩])
  (.seq [0, 1, 10, 11] (.reg [⟨(some 95), .mv (.t 10), none⟩,
    ⟨(some 96), .bin .add (.t 95) (.c (.i .i64 1)), none⟩,
    ⟨(some 10), .mv (.t 96), none⟩])
  (.seq [0, 1, 10, 11] (.reg [⟨(some 97), .mv (.t 11), none⟩,
    ⟨(some 98), .bin .sub (.t 97) (.c (.i .i64 1)), none⟩,
    ⟨(some 11), .mv (.t 98), none⟩])
  (.seq [0, 1, 11] (.block 4 (.loop [0, 1, 10, 11] (.block 5 (.seq [0, 1, 10, 11] (.block 6 (.loop [0, 1, 10, 11] (.seq [0, 1, 10, 11] (.seq [0, 1, 10, 11, 112] (.dreg [0, 1, 10, 11, 112] [⟨0, ⟨(some 99), .mv (.t 10), none⟩, [], []⟩,
    ⟨1, ⟨(some 100), .mv (.t 11), none⟩, [], []⟩,
    ⟨2, ⟨(some 101), .bin .leq (.t 99) (.t 100), none⟩, [], []⟩,
    ⟨3, ⟨(some 102), .mv (.t 101), none⟩, [], []⟩,
    ⟨4, ⟨(some 103), .mv (.t 0), (some (102, true))⟩, [], []⟩,
    ⟨5, ⟨(some 104), .mv (.t 10), (some (102, true))⟩, [], []⟩,
    ⟨6, ⟨(some 105), .iaddr 1 none (.t 103) (.t 104), (some (102, true))⟩, [], []⟩,
    ⟨7, ⟨(some 106), .load none (.t 105), (some (102, true))⟩, [], []⟩,
    ⟨8, ⟨(some 107), .mv (.t 0), (some (102, true))⟩, [], []⟩,
    ⟨9, ⟨(some 108), .mv (.t 1), (some (102, true))⟩, [], []⟩,
    ⟨10, ⟨(some 109), .iaddr 1 none (.t 107) (.t 108), (some (102, true))⟩, [], []⟩,
    ⟨11, ⟨(some 110), .load none (.t 109), (some (102, true))⟩, [], []⟩,
    ⟨12, ⟨(some 111), .call 350 [(.t 106), (.t 110)], (some (102, true))⟩, [], []⟩,
    ⟨13, ⟨(some 112), .pick (.t 102) (.t 111) (.c (.b false)), none⟩, [], []⟩])
  (.cond (.t 112)
  .skip
  (.exit 6)))
  (.block 7 (.reg [⟨(some 113), .mv (.t 10), none⟩,
    ⟨(some 114), .bin .add (.t 113) (.c (.i .i64 1)), none⟩,
    ⟨(some 10), .mv (.t 114), none⟩])))))
  (.seq [0, 1, 10, 11] (.block 8 (.loop [0, 1, 10, 11] (.seq [0, 1, 10, 11] (.seq [0, 1, 10, 11, 129] (.dreg [0, 1, 10, 11, 129] [⟨0, ⟨(some 115), .mv (.t 10), none⟩, [], []⟩,
    ⟨1, ⟨(some 116), .mv (.t 11), none⟩, [], []⟩,
    ⟨2, ⟨(some 117), .bin .leq (.t 115) (.t 116), none⟩, [], []⟩,
    ⟨3, ⟨(some 118), .mv (.t 117), none⟩, [], []⟩,
    ⟨4, ⟨(some 119), .mv (.t 0), (some (118, true))⟩, [], []⟩,
    ⟨5, ⟨(some 120), .mv (.t 11), (some (118, true))⟩, [], []⟩,
    ⟨6, ⟨(some 121), .iaddr 1 none (.t 119) (.t 120), (some (118, true))⟩, [], []⟩,
    ⟨7, ⟨(some 122), .load none (.t 121), (some (118, true))⟩, [], []⟩,
    ⟨8, ⟨(some 123), .mv (.t 0), (some (118, true))⟩, [], []⟩,
    ⟨9, ⟨(some 124), .mv (.t 1), (some (118, true))⟩, [], []⟩,
    ⟨10, ⟨(some 125), .iaddr 1 none (.t 123) (.t 124), (some (118, true))⟩, [], []⟩,
    ⟨11, ⟨(some 126), .load none (.t 125), (some (118, true))⟩, [], []⟩,
    ⟨12, ⟨(some 127), .call 350 [(.t 122), (.t 126)], (some (118, true))⟩, [], []⟩,
    ⟨13, ⟨(some 128), .not (.t 127), (some (118, true))⟩, [], []⟩,
    ⟨14, ⟨(some 129), .pick (.t 118) (.t 128) (.c (.b false)), none⟩, [], []⟩])
  (.cond (.t 129)
  .skip
  (.exit 8)))
  (.block 9 (.reg [⟨(some 130), .mv (.t 11), none⟩,
    ⟨(some 131), .bin .sub (.t 130) (.c (.i .i64 1)), none⟩,
    ⟨(some 11), .mv (.t 131), none⟩])))))
  (.seq [0, 1, 10, 11] (.seq [0, 1, 10, 11, 134] (.reg [⟨(some 132), .mv (.t 10), none⟩,
    ⟨(some 133), .mv (.t 11), none⟩,
    ⟨(some 134), .bin .gtr (.t 132) (.t 133), none⟩])
  (.cond (.t 134)
  (.exit 4)
  .skip))
  (.seq [0, 1, 10, 11] (.dreg [0, 1, 10, 11] [⟨0, ⟨(some 135), .mv (.t 0), none⟩, [], []⟩,
    ⟨1, ⟨(some 136), .mv (.t 10), none⟩, [], []⟩,
    ⟨2, ⟨(some 137), .mv (.t 0), none⟩, [], []⟩,
    ⟨3, ⟨(some 138), .mv (.t 11), none⟩, [], []⟩,
    ⟨4, ⟨(some 139), .mv (.t 0), none⟩, [], []⟩,
    ⟨5, ⟨(some 140), .mv (.t 11), none⟩, [], []⟩,
    ⟨6, ⟨(some 141), .iaddr 1 none (.t 139) (.t 140), none⟩, [], []⟩,
    ⟨7, ⟨(some 142), .load none (.t 141), none⟩, [], []⟩,
    ⟨8, ⟨(some 143), .mv (.t 0), none⟩, [], []⟩,
    ⟨9, ⟨(some 144), .mv (.t 10), none⟩, [], []⟩,
    ⟨10, ⟨(some 145), .iaddr 1 none (.t 143) (.t 144), none⟩, [], []⟩,
    ⟨11, ⟨(some 146), .load none (.t 145), none⟩, [], []⟩,
    ⟨12, ⟨(some 147), .iaddr 1 none (.t 135) (.t 136), none⟩, [], []⟩,
    ⟨13, ⟨none, .store 1 (.t 147) (.t 142), none⟩, [], []⟩,
    ⟨14, ⟨(some 148), .iaddr 1 none (.t 137) (.t 138), none⟩, [], []⟩,
    ⟨15, ⟨none, .store 1 (.t 148) (.t 146), none⟩, [], []⟩])
  (.seq [0, 1, 10, 11] (.reg [⟨(some 149), .mv (.t 10), none⟩,
    ⟨(some 150), .bin .add (.t 149) (.c (.i .i64 1)), none⟩,
    ⟨(some 10), .mv (.t 150), none⟩])
  (.reg [⟨(some 151), .mv (.t 11), none⟩,
    ⟨(some 152), .bin .sub (.t 151) (.c (.i .i64 1)), none⟩,
    ⟨(some 11), .mv (.t 152), none⟩])))))))))
  (.seq [11] (.dreg [11] [⟨0, ⟨(some 153), .mv (.t 0), none⟩, [], []⟩,
    ⟨1, ⟨(some 154), .mv (.t 11), none⟩, [], []⟩,
    ⟨2, ⟨(some 155), .mv (.t 0), none⟩, [], []⟩,
    ⟨3, ⟨(some 156), .mv (.t 1), none⟩, [], []⟩,
    ⟨4, ⟨(some 157), .mv (.t 0), none⟩, [], []⟩,
    ⟨5, ⟨(some 158), .mv (.t 1), none⟩, [], []⟩,
    ⟨6, ⟨(some 159), .iaddr 1 none (.t 157) (.t 158), none⟩, [], []⟩,
    ⟨7, ⟨(some 160), .load none (.t 159), none⟩, [], []⟩,
    ⟨8, ⟨(some 161), .mv (.t 0), none⟩, [], []⟩,
    ⟨9, ⟨(some 162), .mv (.t 11), none⟩, [], []⟩,
    ⟨10, ⟨(some 163), .iaddr 1 none (.t 161) (.t 162), none⟩, [], []⟩,
    ⟨11, ⟨(some 164), .load none (.t 163), none⟩, [], []⟩,
    ⟨12, ⟨(some 165), .iaddr 1 none (.t 153) (.t 154), none⟩, [], []⟩,
    ⟨13, ⟨none, .store 1 (.t 165) (.t 160), none⟩, [], []⟩,
    ⟨14, ⟨(some 166), .iaddr 1 none (.t 155) (.t 156), none⟩, [], []⟩,
    ⟨15, ⟨none, .store 1 (.t 166) (.t 164), none⟩, [], []⟩])
  (.seq [8, 9] (.reg [⟨(some 167), .mv (.t 11), none⟩,
    ⟨(some 8), .mv (.t 167), none⟩,
    ⟨(some 9), .mv (.c (.b false)), none⟩])
  .ret))))))))))))
theorem ree352 : Tryz.f352.body.bind (res Tryz.prog Tryz.f352.ntmps [] []) = some (erase ae352) := by kernel_rfl
def fs352 : FnS := .fn 168 ae352 [.t 8, .t 9]
theorem fsok352 : FnOk Tryz.prog 352 fs352 := fun _ _ _ hn h => ctr_of_resC Tryz.func352 (by kernel_rfl) ree352 (by kernel_rfl) hn h
abbrev ae328 : ACode := (.seq [1, 2, 4] (.reg [⟨(some 2), .box (.t 0), none⟩,
    ⟨(some 4), .alloc [(.i .u64 0)], none⟩])
  (.seq [2, 4] (.dreg [2, 4] [⟨0, ⟨(some 5), .iaddr 1 (some 1) (.t 2) (.c (.i .i64 0)), none⟩, [], []⟩,
    ⟨1, ⟨(some 6), .load none (.t 5), none⟩, [], []⟩,
    ⟨2, ⟨(some 7), .mv (.t 1), none⟩, [], []⟩,
    ⟨3, ⟨(some 8), .bin .shl (.c (.i .u64 1)) (.t 7), none⟩, [], []⟩,
    ⟨4, ⟨(some 9), .bin .or (.t 6) (.t 8), none⟩, [], []⟩,
    ⟨5, ⟨(some 10), .iaddr 1 (some 1) (.t 2) (.c (.i .i64 0)), none⟩, [], []⟩,
    ⟨6, ⟨none, .store 1 (.t 10) (.t 9), none⟩, [], []⟩])
  (.seq [4] (.reg [⟨(some 11), .load (some 1) (.t 2), none⟩,
    ⟨none, .store 1 (.t 4) (.t 11), none⟩])
  .ret)))
theorem ree328 : Tryz.f328.body.bind (res Tryz.prog Tryz.f328.ntmps [] []) = some (erase ae328) := by kernel_rfl
def fs328 : FnS := .fn 12 ae328 [.c 4 (some 1)]
theorem fsok328 : FnOk Tryz.prog 328 fs328 := fun _ _ _ hn h => ctr_of_resC Tryz.func328 (by kernel_rfl) ree328 (by kernel_rfl) hn h
abbrev ae329 : ACode := (.seq [2, 3, 4] (.reg [⟨(some 2), .box (.t 0), none⟩,
    ⟨(some 3), .box (.t 1), none⟩,
    ⟨(some 4), .alloc [(.i .u64 0)], none⟩])
  (.seq [2, 4] (.reg [⟨(some 5), .iaddr 1 (some 1) (.t 2) (.c (.i .i64 0)), none⟩,
    ⟨(some 6), .load none (.t 5), none⟩,
    ⟨(some 7), .iaddr 1 (some 1) (.t 3) (.c (.i .i64 0)), none⟩,
    ⟨(some 8), .load none (.t 7), none⟩,
    ⟨(some 9), .bin .or (.t 6) (.t 8), none⟩,
    ⟨(some 10), .iaddr 1 (some 1) (.t 2) (.c (.i .i64 0)), none⟩,
    ⟨none, .store 1 (.t 10) (.t 9), none⟩])
  (.seq [4] (.reg [⟨(some 11), .load (some 1) (.t 2), none⟩,
    ⟨none, .store 1 (.t 4) (.t 11), none⟩])
  .ret)))
theorem ree329 : Tryz.f329.body.bind (res Tryz.prog Tryz.f329.ntmps [] []) = some (erase ae329) := by kernel_rfl
def fs329 : FnS := .fn 12 ae329 [.c 4 (some 1)]
theorem fsok329 : FnOk Tryz.prog 329 fs329 := fun _ _ _ hn h => ctr_of_resC Tryz.func329 (by kernel_rfl) ree329 (by kernel_rfl) hn h
abbrev ae330 : ACode := (.seq [0, 1] (.seq [0, 1, 9] (.reg [⟨(some 8), .mv (.t 1), none⟩,
    ⟨(some 9), .bin .eql (.t 8) (.c (.i .i64 0)), none⟩])
  (.cond (.t 9)
  (.seq [] (.reg [⟨(some 10), .mv (.t 0), none⟩,
    ⟨(some 11), .nilck (.t 10), none⟩,
    ⟨(some 12), .faddr 2 (.t 11), none⟩,
    ⟨(some 13), .load none (.t 12), none⟩,
    ⟨(some 14), .bslice 1 1 [(.i .i64 0)] [(0, (.c (.i .i64 0)))], none⟩,
    ⟨none, .mapset (.i .i64) (.t 13) (.c (.i .i64 0)) (.t 14), none⟩])
  .ret)
  .skip))
  (.seq [0, 1, 4, 5] (.reg [⟨(some 16), .mv (.t 0), none⟩,
    ⟨(some 17), .mv (.t 1), none⟩,
    ⟨(some 18), .call 355 [(.t 16), (.t 17)], none⟩,
    ⟨(some 15), .mv (.t 18), none⟩,
    ⟨(some 19), .extract 0 (.t 15), none⟩,
    ⟨(some 20), .extract 1 (.t 15), none⟩,
    ⟨(some 4), .mv (.t 19), none⟩,
    ⟨(some 5), .mv (.t 20), none⟩])
  (.seq [0, 1, 4] (.seq [0, 1, 4, 22] (.reg [⟨(some 21), .mv (.t 5), none⟩,
    ⟨(some 22), .not (.t 21), none⟩])
  (.cond (.t 22)
  .ret
  .skip))
  (.seq [0, 1, 6, 7] (.reg [⟨(some 24), .mv (.t 4), none⟩,
    ⟨(some 25), .call 356 [(.t 24)], none⟩,
    ⟨(some 23), .mv (.t 25), none⟩,
    ⟨(some 26), .extract 0 (.t 23), none⟩,
    ⟨(some 27), .extract 1 (.t 23), none⟩,
    ⟨(some 6), .mv (.t 26), none⟩,
    ⟨(some 7), .mv (.t 27), none⟩])
  (.seq [0, 1, 6, 28] (.reg [⟨(some 28), .mv (.t 7), none⟩])
  (.cond (.t 28)
  (.dreg [] [⟨0, ⟨(some 29), .mv (.t 0), none⟩, [], []⟩,
    ⟨1, ⟨(some 30), .nilck (.t 29), none⟩, [], []⟩,
    ⟨2, ⟨(some 31), .faddr 2 (.t 30), none⟩, [], []⟩,
    ⟨3, ⟨(some 32), .load none (.t 31), none⟩, [], []⟩,
    ⟨4, ⟨(some 33), .mv (.t 1), none⟩, [], []⟩,
    ⟨5, ⟨(some 34), .mv (.t 1), none⟩, [], []⟩,
    ⟨6, ⟨(some 35), .bslice 1 1 [(.i .i64 0)] [(0, (.t 34))], none⟩, [], []⟩,
    ⟨7, ⟨(some 36), .mv (.t 6), none⟩, [], []⟩,
    ⟨9, ⟨(some 38), .bslice 1 1 [(.i .i64 0)] [(0, (.c (.i .i64 0)))], none⟩, [], []⟩,
    ⟨8, ⟨(some 37), .append 1 8 (.t 35) (.t 36), none⟩, [3], [⟨(some 32), .load none (.t 31), none⟩]⟩,
    ⟨10, ⟨(some 39), .append 1 8 (.t 37) (.t 38), none⟩, [3], [⟨(some 32), .load none (.t 31), none⟩]⟩,
    ⟨11, ⟨none, .mapset (.i .i64) (.t 32) (.t 33) (.t 39), none⟩, [], []⟩])
  .skip))))))
theorem ree330 : Tryz.f330.body.bind (res Tryz.prog Tryz.f330.ntmps [] []) = some (erase ae330) := by kernel_rfl
def fs330 : FnS := .fn 40 ae330 []
theorem fsok330 : FnOk Tryz.prog 330 fs330 := fun _ _ _ hn h => ctr_of_resC Tryz.func330 (by kernel_rfl) ree330 (by kernel_rfl) hn h
abbrev ae252 : ACode := (.seq [0, 2, 3, 4, 6] (.reg [⟨(some 6), .box (.t 1), none⟩,
    ⟨(some 7), .mv (.c (.b false)), none⟩])
  (.seq [0, 3, 4, 6] (.seq [0, 3, 4, 6, 15] (.reg [⟨(some 11), .load none (.t 2), none⟩,
    ⟨(some 12), .mv (.t 0), none⟩,
    ⟨(some 13), .load (some 2) (.t 6), none⟩,
    ⟨(some 14), .callv (.t 11) [(.t 12), (.t 13)], none⟩,
    ⟨(some 15), .not (.t 14), none⟩])
  (.cond (.t 15)
  (.seq [7] (.reg [⟨(some 7), .mv (.c (.b false)), none⟩])
  .ret)
  .skip))
  (.seq [] (.seq [0, 3, 4, 6, 21, 22, 23] (.reg [⟨(some 16), .faddr 4 (.t 3), none⟩,
    ⟨(some 17), .load none (.t 16), none⟩,
    ⟨(some 18), .mv (.t 0), none⟩,
    ⟨(some 19), .iaddr 3 none (.t 17) (.t 18), none⟩,
    ⟨(some 20), .faddr 2 (.t 19), none⟩,
    ⟨(some 21), .load none (.t 20), none⟩,
    ⟨(some 22), .len (.t 21), none⟩,
    ⟨(some 23), .mv (.c (.i .i64 0)), none⟩])
  (.block 0 (.loop [0, 3, 4, 6, 21, 22, 23] (.seq [0, 3, 4, 6, 21, 22, 23, 24] (.reg [⟨(some 24), .bin .lss (.t 23) (.t 22), none⟩])
  (.seq [0, 3, 4, 6, 21, 22, 23] (.cond (.t 24)
  .skip
  (.exit 0))
  (.seq [0, 3, 4, 6, 21, 22, 23] (.block 1 (.seq [0, 3, 4, 6, 8, 9, 21, 22, 23] (.reg [⟨(some 25), .mv (.t 23), none⟩,
    ⟨(some 26), .iaddr 1 none (.t 21) (.t 23), none⟩,
    ⟨(some 27), .load none (.t 26), none⟩,
    ⟨(some 8), .mv (.t 25), none⟩,
    ⟨(some 9), .mv (.t 27), none⟩])
  (.seq [0, 3, 4, 6, 8, 9, 10, 21, 22, 23] (.reg [⟨(some 28), .faddr 0 (.t 6), none⟩,
    ⟨(some 29), .load none (.t 28), none⟩,
    ⟨(some 30), .faddr 1 (.t 6), none⟩,
    ⟨(some 31), .load none (.t 30), none⟩,
    ⟨(some 32), .bin .add (.t 31) (.c (.i .i64 1)), none⟩,
    ⟨(some 33), .build [(.i .i64 0), (.i .i64 0)] [(0, 1, (.t 29)), (1, 1, (.t 32))], none⟩,
    ⟨(some 10), .alloc [(.i .i64 0), (.i .i64 0)], none⟩,
    ⟨none, .store 2 (.t 10) (.t 33), none⟩])
  (.seq [0, 3, 4, 6, 9, 10, 21, 22, 23] (.seq [0, 3, 4, 6, 9, 10, 21, 22, 23, 44] (.reg [⟨(some 34), .faddr 4 (.t 3), none⟩,
    ⟨(some 35), .load none (.t 34), none⟩,
    ⟨(some 36), .mv (.t 0), none⟩,
    ⟨(some 37), .iaddr 3 none (.t 35) (.t 36), none⟩,
    ⟨(some 38), .faddr 0 (.t 37), none⟩,
    ⟨(some 39), .load none (.t 38), none⟩,
    ⟨(some 40), .bin .eql (.t 39) (.c (.i .i64 9)), none⟩,
    ⟨(some 41), .mv (.t 40), none⟩,
    ⟨(some 42), .mv (.t 8), (some (41, true))⟩,
    ⟨(some 43), .bin .eql (.t 42) (.c (.i .i64 1)), (some (41, true))⟩,
    ⟨(some 44), .pick (.t 41) (.t 43) (.c (.b false)), none⟩])
  (.cond (.t 44)
  (.reg [⟨(some 45), .faddr 0 (.t 10), none⟩,
    ⟨(some 46), .load none (.t 45), none⟩,
    ⟨(some 47), .bin .add (.t 46) (.c (.i .i64 1)), none⟩,
    ⟨(some 48), .faddr 0 (.t 10), none⟩,
    ⟨none, .store 1 (.t 48) (.t 47), none⟩])
  .skip))
  (.seq [0, 3, 4, 6, 21, 22, 23, 53] (.reg [⟨(some 49), .load none (.t 4), none⟩,
    ⟨(some 50), .mv (.t 9), none⟩,
    ⟨(some 51), .load (some 2) (.t 10), none⟩,
    ⟨(some 52), .callv (.t 49) [(.t 50), (.t 51)], none⟩,
    ⟨(some 53), .not (.t 52), none⟩])
  (.cond (.t 53)
  (.seq [7] (.reg [⟨(some 7), .mv (.c (.b false)), none⟩])
  .ret)
  .skip))))))
  (.reg [⟨(some 54), .bin .add (.t 23) (.c (.i .i64 1)), none⟩,
    ⟨(some 23), .mv (.t 54), none⟩])))))))
  (.seq [7] (.reg [⟨(some 7), .mv (.c (.b true)), none⟩])
  .ret))))
theorem ree252 : Tryz.f252.body.bind (res Tryz.prog Tryz.f252.ntmps [] []) = some (erase ae252) := by kernel_rfl
def fs252 : FnS := .fn 55 ae252 [.t 7]
theorem fsok252 : FnOk Tryz.prog 252 fs252 := fun _ _ _ hn h => ctr_of_resC Tryz.func252 (by kernel_rfl) ree252 (by kernel_rfl) hn h
abbrev ae303 : ACode := (.seq [3, 4, 5, 6] (.reg [⟨(some 4), .box (.t 0), none⟩,
    ⟨(some 5), .box (.t 1), none⟩,
    ⟨(some 6), .box (.t 2), none⟩,
    ⟨(some 7), .mv (.c (.b false)), none⟩])
  (.seq [3, 4, 5, 6] (.block 0 (.seq [3, 4, 5, 6, 8] (.reg [⟨(some 9), .faddr 0 (.t 4), none⟩,
    ⟨(some 10), .load none (.t 9), none⟩,
    ⟨(some 11), .bin .eql (.t 10) (.c (.i .i64 1)), none⟩,
    ⟨(some 8), .mv (.t 11), none⟩])
  (.cond (.t 8)
  (.seq [7] (.reg [⟨(some 12), .load none (.t 5), none⟩,
    ⟨(some 13), .mv (.t 12), none⟩,
    ⟨(some 14), .load none (.t 6), (some (13, false))⟩,
    ⟨(some 15), .callv (.t 14) [(.c (.l [] true))], (some (13, false))⟩,
    ⟨(some 16), .pick (.t 13) (.c (.b true)) (.t 15), none⟩,
    ⟨(some 7), .mv (.t 16), none⟩])
  .ret)
  (.seq [3, 4, 5, 6, 17] (.reg [⟨(some 18), .faddr 0 (.t 4), none⟩,
    ⟨(some 19), .load none (.t 18), none⟩,
    ⟨(some 20), .bin .eql (.t 19) (.c (.i .i64 5)), none⟩,
    ⟨(some 17), .mv (.t 20), none⟩])
  (.cond (.t 17)
  (.seq [7] (.dreg [7] [⟨0, ⟨(some 21), .load none (.t 3), none⟩, [], []⟩,
    ⟨1, ⟨(some 22), .faddr 5 (.t 4), none⟩, [], []⟩,
    ⟨2, ⟨(some 23), .load none (.t 22), none⟩, [], []⟩,
    ⟨3, ⟨(some 24), .iaddr 6 none (.t 23) (.c (.i .i64 0)), none⟩, [], []⟩,
    ⟨4, ⟨(some 25), .load (some 6) (.t 24), none⟩, [], []⟩,
    ⟨5, ⟨(some 26), .load none (.t 5), none⟩, [], []⟩,
    ⟨6, ⟨(some 27), .not (.t 26), none⟩, [], []⟩,
    ⟨7, ⟨(some 28), .load none (.t 6), none⟩, [], []⟩,
    ⟨8, ⟨(some 29), .callv (.t 21) [(.t 25), (.t 27), (.t 28)], none⟩, [], []⟩,
    ⟨9, ⟨(some 7), .mv (.t 29), none⟩, [], []⟩])
  .ret)
  (.seq [3, 4, 5, 6, 30] (.reg [⟨(some 31), .load (some 6) (.t 4), none⟩,
    ⟨(some 32), .call 268 [(.t 31)], none⟩,
    ⟨(some 30), .mv (.t 32), none⟩])
  (.cond (.t 30)
  (.seq [7] (.reg [⟨(some 33), .load none (.t 6), none⟩,
    ⟨(some 34), .load (some 6) (.t 4), none⟩,
    ⟨(some 35), .load none (.t 5), none⟩,
    ⟨(some 36), .build [(.i .i64 0), (.i .i64 0), (.l [] true), (.i .i64 0), (.i .i64 0), (.l [] true), (.b false)] [(0, 6, (.t 34)), (6, 1, (.t 35))], none⟩,
    ⟨(some 37), .bslice 7 1 [(.i .i64 0), (.i .i64 0), (.l [] true), (.i .i64 0), (.i .i64 0), (.l [] true), (.b false)] [(0, (.t 36))], none⟩,
    ⟨(some 38), .callv (.t 33) [(.t 37)], none⟩,
    ⟨(some 7), .mv (.t 38), none⟩])
  .ret)
  (.seq [3, 4, 5, 6, 39] (.reg [⟨(some 40), .load none (.t 5), none⟩,
    ⟨(some 41), .faddr 0 (.t 4), none⟩,
    ⟨(some 42), .load none (.t 41), none⟩,
    ⟨(some 43), .bin .eql (.t 42) (.c (.i .i64 6)), none⟩,
    ⟨(some 44), .eqb false (.t 40) (.t 43), none⟩,
    ⟨(some 39), .mv (.t 44), none⟩])
  (.cond (.t 39)
  (.seq [7] (.dreg [7] [⟨0, ⟨(some 45), .load none (.t 3), none⟩, [], []⟩,
    ⟨1, ⟨(some 46), .faddr 5 (.t 4), none⟩, [], []⟩,
    ⟨2, ⟨(some 47), .load none (.t 46), none⟩, [], []⟩,
    ⟨3, ⟨(some 48), .iaddr 6 none (.t 47) (.c (.i .i64 0)), none⟩, [], []⟩,
    ⟨4, ⟨(some 49), .load (some 6) (.t 48), none⟩, [], []⟩,
    ⟨5, ⟨(some 50), .load none (.t 5), none⟩, [], []⟩,
    ⟨6, ⟨(some 51), .load none (.t 6), none⟩, [], []⟩,
    ⟨7, ⟨(some 52), .callv (.t 45) [(.t 49), (.t 50), (.t 51)], none⟩, [], []⟩,
    ⟨8, ⟨(some 53), .mv (.t 52), none⟩, [], []⟩,
    ⟨9, ⟨(some 54), .load none (.t 3), (some (53, true))⟩, [], []⟩,
    ⟨10, ⟨(some 55), .faddr 5 (.t 4), (some (53, true))⟩, [], []⟩,
    ⟨11, ⟨(some 56), .load none (.t 55), (some (53, true))⟩, [], []⟩,
    ⟨12, ⟨(some 57), .iaddr 6 none (.t 56) (.c (.i .i64 1)), (some (53, true))⟩, [], []⟩,
    ⟨13, ⟨(some 58), .load (some 6) (.t 57), (some (53, true))⟩, [], []⟩,
    ⟨14, ⟨(some 59), .load none (.t 5), (some (53, true))⟩, [], []⟩,
    ⟨15, ⟨(some 60), .load none (.t 6), (some (53, true))⟩, [], []⟩,
    ⟨16, ⟨(some 61), .callv (.t 54) [(.t 58), (.t 59), (.t 60)], (some (53, true))⟩, [], []⟩,
    ⟨17, ⟨(some 62), .pick (.t 53) (.t 61) (.c (.b false)), none⟩, [], []⟩,
    ⟨18, ⟨(some 7), .mv (.t 62), none⟩, [], []⟩])
  .ret)
  .skip)))))))))
  (.seq [7] (.dreg [7] [⟨0, ⟨(some 63), .load none (.t 3), none⟩, [], []⟩,
    ⟨1, ⟨(some 64), .faddr 5 (.t 4), none⟩, [], []⟩,
    ⟨2, ⟨(some 65), .load none (.t 64), none⟩, [], []⟩,
    ⟨3, ⟨(some 66), .iaddr 6 none (.t 65) (.c (.i .i64 0)), none⟩, [], []⟩,
    ⟨4, ⟨(some 67), .load (some 6) (.t 66), none⟩, [], []⟩,
    ⟨5, ⟨(some 68), .load none (.t 5), none⟩, [], []⟩,
    ⟨6, ⟨(some 69), .mkf (.func 304) [] [(.t 3), (.t 4), (.t 5), (.t 6)], none⟩, [], []⟩,
    ⟨7, ⟨(some 70), .callv (.t 63) [(.t 67), (.t 68), (.t 69)], none⟩, [], []⟩,
    ⟨8, ⟨(some 7), .mv (.t 70), none⟩, [], []⟩])
  .ret)))
theorem ree303 : Tryz.f303.body.bind (res Tryz.prog Tryz.f303.ntmps [] []) = some (erase ae303) := by kernel_rfl
def fs303 : FnS := .fn 71 ae303 [.t 7]
theorem fsok303 : FnOk Tryz.prog 303 fs303 := fun _ _ _ hn h => ctr_of_resC Tryz.func303 (by kernel_rfl) ree303 (by kernel_rfl) hn h
abbrev ae337 : ACode := (.seq [0, 3] (.reg [⟨(some 3), .box (.t 1), none⟩])
  (.seq [0, 3, 4] (.reg [⟨(some 8), .faddr 0 (.t 3), none⟩,
    ⟨(some 9), .faddr 1 (.t 8), none⟩,
    ⟨(some 10), .load none (.t 9), none⟩,
    ⟨(some 11), .build [(.i .i64 0), (.i .i64 0), (.i .i64 0), (.i .i64 0)] [(0, 1, (.t 10))], none⟩,
    ⟨(some 4), .alloc [(.i .i64 0), (.i .i64 0), (.i .i64 0), (.i .i64 0)], none⟩,
    ⟨none, .store 4 (.t 4) (.t 11), none⟩])
  (.seq [0, 3, 4, 5] (.reg [⟨(some 12), .mv (.t 0), none⟩,
    ⟨(some 13), .load (some 4) (.t 4), none⟩,
    ⟨(some 14), .call 361 [(.t 12), (.t 13)], none⟩,
    ⟨(some 5), .mv (.t 14), none⟩])
  (.seq [0, 3, 4, 5] (.reg [⟨(some 15), .mv (.t 5), none⟩,
    ⟨(some 16), .mv (.t 5), none⟩,
    ⟨(some 17), .nilck (.t 16), none⟩,
    ⟨(some 18), .faddr 6 (.t 17), none⟩,
    ⟨(some 19), .load none (.t 18), none⟩,
    ⟨(some 20), .mv (.t 19), none⟩,
    ⟨(some 21), .faddr 6 (.t 3), (some (20, false))⟩,
    ⟨(some 22), .load none (.t 21), (some (20, false))⟩,
    ⟨(some 23), .not (.t 22), (some (20, false))⟩,
    ⟨(some 24), .pick (.t 20) (.c (.b true)) (.t 23), none⟩,
    ⟨(some 25), .nilck (.t 15), none⟩,
    ⟨(some 26), .faddr 6 (.t 25), none⟩,
    ⟨none, .store 1 (.t 26) (.t 24), none⟩])
  (.seq [3, 5] (.seq [0, 3, 4, 5, 29, 30, 31] (.reg [⟨(some 27), .faddr 0 (.t 3), none⟩,
    ⟨(some 28), .faddr 2 (.t 27), none⟩,
    ⟨(some 29), .load none (.t 28), none⟩,
    ⟨(some 30), .len (.t 29), none⟩,
    ⟨(some 31), .mv (.c (.i .i64 0)), none⟩])
  (.block 0 (.loop [0, 3, 4, 5, 29, 30, 31] (.seq [0, 3, 4, 5, 29, 30, 31, 32] (.reg [⟨(some 32), .bin .lss (.t 31) (.t 30), none⟩])
  (.seq [0, 3, 4, 5, 29, 30, 31] (.cond (.t 32)
  .skip
  (.exit 0))
  (.seq [0, 3, 4, 5, 29, 30, 31] (.block 1 (.seq [0, 3, 4, 5, 7, 29, 30, 31] (.reg [⟨(some 33), .iaddr 1 none (.t 29) (.t 31), none⟩,
    ⟨(some 34), .load none (.t 33), none⟩,
    ⟨(some 7), .mv (.t 34), none⟩])
  (.seq [0, 3, 4, 7, 29, 30, 31] (.seq [0, 3, 4, 5, 7, 29, 30, 31, 41] (.reg [⟨(some 35), .mv (.t 5), none⟩,
    ⟨(some 36), .nilck (.t 35), none⟩,
    ⟨(some 37), .faddr 7 (.t 36), none⟩,
    ⟨(some 38), .load none (.t 37), none⟩,
    ⟨(some 39), .mv (.t 7), none⟩,
    ⟨(some 40), .call 67 [(.t 38), (.t 39)], none⟩,
    ⟨(some 41), .not (.t 40), none⟩])
  (.cond (.t 41)
  (.seq [0, 3, 4, 5, 7, 29, 30, 31] (.reg [⟨(some 42), .mv (.t 5), none⟩,
    ⟨(some 43), .mv (.t 5), none⟩,
    ⟨(some 44), .nilck (.t 43), none⟩,
    ⟨(some 45), .faddr 7 (.t 44), none⟩,
    ⟨(some 46), .load none (.t 45), none⟩,
    ⟨(some 47), .mv (.t 7), none⟩,
    ⟨(some 48), .bslice 1 1 [(.i .i64 0)] [(0, (.t 47))], none⟩,
    ⟨(some 49), .append 1 8 (.t 46) (.t 48), none⟩,
    ⟨(some 50), .nilck (.t 42), none⟩,
    ⟨(some 51), .faddr 7 (.t 50), none⟩,
    ⟨none, .store 1 (.t 51) (.t 49), none⟩])
  (.reg [⟨(some 52), .mv (.t 5), none⟩,
    ⟨(some 53), .nilck (.t 52), none⟩,
    ⟨(some 54), .faddr 7 (.t 53), none⟩,
    ⟨(some 55), .load none (.t 54), none⟩,
    ⟨(some 56), .call 291 [(.t 55)], none⟩]))
  .skip))
  (.seq [0, 3, 4, 29, 30, 31] (.reg [⟨(some 57), .load (some 4) (.t 4), none⟩,
    ⟨(some 58), .mv (.t 7), none⟩,
    ⟨(some 59), .call 362 [(.t 57), (.t 58)], none⟩,
    ⟨none, .store 4 (.t 4) (.t 59), none⟩])
  (.seq [0, 3, 4, 5, 29, 30, 31] (.reg [⟨(some 60), .mv (.t 0), none⟩,
    ⟨(some 61), .load (some 4) (.t 4), none⟩,
    ⟨(some 62), .call 361 [(.t 60), (.t 61)], none⟩,
    ⟨(some 5), .mv (.t 62), none⟩])
  (.reg [⟨(some 63), .mv (.t 5), none⟩,
    ⟨(some 64), .mv (.t 5), none⟩,
    ⟨(some 65), .nilck (.t 64), none⟩,
    ⟨(some 66), .faddr 6 (.t 65), none⟩,
    ⟨(some 67), .load none (.t 66), none⟩,
    ⟨(some 68), .mv (.t 67), none⟩,
    ⟨(some 69), .faddr 6 (.t 3), (some (68, false))⟩,
    ⟨(some 70), .load none (.t 69), (some (68, false))⟩,
    ⟨(some 71), .not (.t 70), (some (68, false))⟩,
    ⟨(some 72), .pick (.t 68) (.c (.b true)) (.t 71), none⟩,
    ⟨(some 73), .nilck (.t 63), none⟩,
    ⟨(some 74), .faddr 6 (.t 73), none⟩,
    ⟨none, .store 1 (.t 74) (.t 72), none⟩]))))))
  (.reg [⟨(some 75), .bin .add (.t 31) (.c (.i .i64 1)), none⟩,
    ⟨(some 31), .mv (.t 75), none⟩])))))))
  (.reg [⟨(some 76), .mv (.t 5), none⟩,
    ⟨(some 77), .load (some 7) (.t 3), none⟩,
    ⟨(some 78), .call 363 [(.t 76), (.t 77)], none⟩]))))))
theorem ree337 : Tryz.f337.body.bind (res Tryz.prog Tryz.f337.ntmps [] []) = some (erase ae337) := by kernel_rfl
def fs337 : FnS := .fn 79 ae337 []
theorem fsok337 : FnOk Tryz.prog 337 fs337 := fun _ _ _ hn h => ctr_of_resC Tryz.func337 (by kernel_rfl) ree337 (by kernel_rfl) hn h
abbrev ae338 : ACode := (.seq [0, 3] (.reg [⟨(some 3), .box (.t 1), none⟩,
    ⟨(some 4), .mv (.c (.b false)), none⟩])
  (.seq [0, 3] (.seq [0, 3, 6] (.reg [⟨(some 10), .mv (.t 0), none⟩,
    ⟨(some 11), .load (some 4) (.t 3), none⟩,
    ⟨(some 12), .call 364 [(.t 10), (.t 11)], none⟩,
    ⟨(some 9), .mv (.t 12), none⟩,
    ⟨(some 13), .extract 0 (.t 9), none⟩,
    ⟨(some 14), .extract 1 (.t 9), none⟩,
    ⟨(some 5), .mv (.t 13), none⟩,
    ⟨(some 6), .mv (.t 14), none⟩])
  (.seq [0, 3, 20] (.reg [⟨(some 15), .mv (.t 6), none⟩,
    ⟨(some 16), .mv (.t 15), none⟩,
    ⟨(some 17), .mv (.t 0), (some (16, false))⟩,
    ⟨(some 18), .load (some 4) (.t 3), (some (16, false))⟩,
    ⟨(some 19), .call 365 [(.t 17), (.t 18)], (some (16, false))⟩,
    ⟨(some 20), .pick (.t 16) (.c (.b true)) (.t 19), none⟩])
  (.cond (.t 20)
  (.seq [4] (.reg [⟨(some 4), .mv (.c (.b true)), none⟩])
  .ret)
  .skip)))
  (.seq [8] (.reg [⟨(some 22), .mv (.t 0), none⟩,
    ⟨(some 23), .load (some 4) (.t 3), none⟩,
    ⟨(some 24), .call 366 [(.t 22), (.t 23)], none⟩,
    ⟨(some 21), .mv (.t 24), none⟩,
    ⟨(some 25), .extract 0 (.t 21), none⟩,
    ⟨(some 26), .extract 1 (.t 21), none⟩,
    ⟨(some 7), .mv (.t 25), none⟩,
    ⟨(some 8), .mv (.t 26), none⟩])
  (.seq [4] (.reg [⟨(some 27), .mv (.t 8), none⟩,
    ⟨(some 4), .mv (.t 27), none⟩])
  .ret))))
theorem ree338 : Tryz.f338.body.bind (res Tryz.prog Tryz.f338.ntmps [] []) = some (erase ae338) := by kernel_rfl
def fs338 : FnS := .fn 28 ae338 [.t 4]
theorem fsok338 : FnOk Tryz.prog 338 fs338 := fun _ _ _ hn h => ctr_of_resC Tryz.func338 (by kernel_rfl) ree338 (by kernel_rfl) hn h
abbrev ae373 : ACode := (.seq [0, 2, 3, 8] (.reg [⟨(some 10), .mv (.t 1), none⟩,
    ⟨(some 8), .mv (.t 10), none⟩])
  (.block 0 (.loop [0, 2, 3, 8] (.block 1 (.seq [0, 2, 3, 8, 9] (.reg [⟨(some 11), .mv (.t 8), none⟩,
    ⟨(some 12), .bin .mul (.c (.i .i64 2)) (.t 11), none⟩,
    ⟨(some 13), .bin .add (.t 12) (.c (.i .i64 1)), none⟩,
    ⟨(some 9), .mv (.t 13), none⟩])
  (.seq [0, 2, 3, 8, 9] (.seq [0, 2, 3, 8, 9, 16] (.reg [⟨(some 14), .mv (.t 9), none⟩,
    ⟨(some 15), .mv (.t 2), none⟩,
    ⟨(some 16), .bin .geq (.t 14) (.t 15), none⟩])
  (.cond (.t 16)
  (.exit 0)
  .skip))
  (.seq [0, 2, 3, 8, 9] (.seq [0, 2, 3, 8, 9, 36] (.dreg [0, 2, 3, 8, 9, 36] [⟨0, ⟨(some 17), .mv (.t 9), none⟩, [], []⟩,
    ⟨1, ⟨(some 18), .bin .add (.t 17) (.c (.i .i64 1)), none⟩, [], []⟩,
    ⟨2, ⟨(some 19), .mv (.t 2), none⟩, [], []⟩,
    ⟨3, ⟨(some 20), .bin .lss (.t 18) (.t 19), none⟩, [], []⟩,
    ⟨4, ⟨(some 21), .mv (.t 20), none⟩, [], []⟩,
    ⟨5, ⟨(some 22), .mv (.t 0), (some (21, true))⟩, [], []⟩,
    ⟨6, ⟨(some 23), .mv (.t 3), (some (21, true))⟩, [], []⟩,
    ⟨7, ⟨(some 24), .mv (.t 9), (some (21, true))⟩, [], []⟩,
    ⟨8, ⟨(some 25), .bin .add (.t 23) (.t 24), (some (21, true))⟩, [], []⟩,
    ⟨9, ⟨(some 26), .iaddr 1 none (.t 22) (.t 25), (some (21, true))⟩, [], []⟩,
    ⟨10, ⟨(some 27), .load none (.t 26), (some (21, true))⟩, [], []⟩,
    ⟨11, ⟨(some 28), .mv (.t 0), (some (21, true))⟩, [], []⟩,
    ⟨12, ⟨(some 29), .mv (.t 3), (some (21, true))⟩, [], []⟩,
    ⟨13, ⟨(some 30), .mv (.t 9), (some (21, true))⟩, [], []⟩,
    ⟨14, ⟨(some 31), .bin .add (.t 29) (.t 30), (some (21, true))⟩, [], []⟩,
    ⟨15, ⟨(some 32), .bin .add (.t 31) (.c (.i .i64 1)), (some (21, true))⟩, [], []⟩,
    ⟨16, ⟨(some 33), .iaddr 1 none (.t 28) (.t 32), (some (21, true))⟩, [], []⟩,
    ⟨17, ⟨(some 34), .load none (.t 33), (some (21, true))⟩, [], []⟩,
    ⟨18, ⟨(some 35), .call 350 [(.t 27), (.t 34)], (some (21, true))⟩, [], []⟩,
    ⟨19, ⟨(some 36), .pick (.t 21) (.t 35) (.c (.b false)), none⟩, [], []⟩])
  (.cond (.t 36)
  (.reg [⟨(some 37), .mv (.t 9), none⟩,
    ⟨(some 38), .bin .add (.t 37) (.c (.i .i64 1)), none⟩,
    ⟨(some 9), .mv (.t 38), none⟩])
  .skip))
  (.seq [0, 2, 3, 8, 9] (.seq [0, 2, 3, 8, 9, 52] (.dreg [0, 2, 3, 8, 9, 52] [⟨0, ⟨(some 39), .mv (.t 0), none⟩, [], []⟩,
    ⟨1, ⟨(some 40), .mv (.t 3), none⟩, [], []⟩,
    ⟨2, ⟨(some 41), .mv (.t 8), none⟩, [], []⟩,
    ⟨3, ⟨(some 42), .bin .add (.t 40) (.t 41), none⟩, [], []⟩,
    ⟨4, ⟨(some 43), .iaddr 1 none (.t 39) (.t 42), none⟩, [], []⟩,
    ⟨5, ⟨(some 44), .load none (.t 43), none⟩, [], []⟩,
    ⟨6, ⟨(some 45), .mv (.t 0), none⟩, [], []⟩,
    ⟨7, ⟨(some 46), .mv (.t 3), none⟩, [], []⟩,
    ⟨8, ⟨(some 47), .mv (.t 9), none⟩, [], []⟩,
    ⟨9, ⟨(some 48), .bin .add (.t 46) (.t 47), none⟩, [], []⟩,
    ⟨10, ⟨(some 49), .iaddr 1 none (.t 45) (.t 48), none⟩, [], []⟩,
    ⟨11, ⟨(some 50), .load none (.t 49), none⟩, [], []⟩,
    ⟨12, ⟨(some 51), .call 350 [(.t 44), (.t 50)], none⟩, [], []⟩,
    ⟨13, ⟨(some 52), .not (.t 51), none⟩, [], []⟩])
  (.cond (.t 52)
  .ret
  .skip))
  (.seq [0, 2, 3, 9] (.dreg [0, 2, 3, 9] [⟨0, ⟨(some 53), .mv (.t 0), none⟩, [], []⟩,
    ⟨1, ⟨(some 54), .mv (.t 3), none⟩, [], []⟩,
    ⟨2, ⟨(some 55), .mv (.t 8), none⟩, [], []⟩,
    ⟨3, ⟨(some 56), .bin .add (.t 54) (.t 55), none⟩, [], []⟩,
    ⟨4, ⟨(some 57), .mv (.t 0), none⟩, [], []⟩,
    ⟨5, ⟨(some 58), .mv (.t 3), none⟩, [], []⟩,
    ⟨6, ⟨(some 59), .mv (.t 9), none⟩, [], []⟩,
    ⟨7, ⟨(some 60), .bin .add (.t 58) (.t 59), none⟩, [], []⟩,
    ⟨8, ⟨(some 61), .mv (.t 0), none⟩, [], []⟩,
    ⟨9, ⟨(some 62), .mv (.t 3), none⟩, [], []⟩,
    ⟨10, ⟨(some 63), .mv (.t 9), none⟩, [], []⟩,
    ⟨11, ⟨(some 64), .bin .add (.t 62) (.t 63), none⟩, [], []⟩,
    ⟨12, ⟨(some 65), .iaddr 1 none (.t 61) (.t 64), none⟩, [], []⟩,
    ⟨13, ⟨(some 66), .load none (.t 65), none⟩, [], []⟩,
    ⟨14, ⟨(some 67), .mv (.t 0), none⟩, [], []⟩,
    ⟨15, ⟨(some 68), .mv (.t 3), none⟩, [], []⟩,
    ⟨16, ⟨(some 69), .mv (.t 8), none⟩, [], []⟩,
    ⟨17, ⟨(some 70), .bin .add (.t 68) (.t 69), none⟩, [], []⟩,
    ⟨18, ⟨(some 71), .iaddr 1 none (.t 67) (.t 70), none⟩, [], []⟩,
    ⟨19, ⟨(some 72), .load none (.t 71), none⟩, [], []⟩,
    ⟨20, ⟨(some 73), .iaddr 1 none (.t 53) (.t 56), none⟩, [], []⟩,
    ⟨21, ⟨none, .store 1 (.t 73) (.t 66), none⟩, [], []⟩,
    ⟨22, ⟨(some 74), .iaddr 1 none (.t 57) (.t 60), none⟩, [], []⟩,
    ⟨23, ⟨none, .store 1 (.t 74) (.t 72), none⟩, [], []⟩])
  (.reg [⟨(some 75), .mv (.t 9), none⟩,
    ⟨(some 8), .mv (.t 75), none⟩]))))))))))
theorem ree373 : Tryz.f373.body.bind (res Tryz.prog Tryz.f373.ntmps [] []) = some (erase ae373) := by kernel_rfl
def fs373 : FnS := .fn 76 ae373 []
theorem fsok373 : FnOk Tryz.prog 373 fs373 := fun _ _ _ hn h => ctr_of_resC Tryz.func373 (by kernel_rfl) ree373 (by kernel_rfl) hn h
abbrev ae374 : ACode := (.seq [0] (.reg [⟨(some 2), .mv (.c (.i .u64 0)), none⟩])
  (.seq [2] (.reg [⟨(some 3), .mv (.t 0), none⟩,
    ⟨(some 4), .conv .u64 (.t 3), none⟩,
    ⟨(some 5), .call 327 [(.t 4)], none⟩,
    ⟨(some 6), .bin .shl (.c (.i .u64 1)) (.t 5), none⟩,
    ⟨(some 2), .mv (.t 6), none⟩])
  .ret))
theorem ree374 : Tryz.f374.body.bind (res Tryz.prog Tryz.f374.ntmps [] []) = some (erase ae374) := by kernel_rfl
def fs374 : FnS := .fn 7 ae374 [.t 2]
theorem fsok374 : FnOk Tryz.prog 374 fs374 := fun _ _ _ hn h => ctr_of_resC Tryz.func374 (by kernel_rfl) ree374 (by kernel_rfl) hn h
abbrev ae375 : ACode := (.seq [0] (.reg [⟨(some 2), .mv (.c (.i .u64 0)), none⟩])
  (.seq [0] (.dreg [0] [⟨0, ⟨(some 3), .mv (.t 0), none⟩, [], []⟩,
    ⟨1, ⟨(some 4), .nilck (.t 3), none⟩, [], []⟩,
    ⟨2, ⟨(some 5), .load none (.t 4), none⟩, [], []⟩,
    ⟨3, ⟨(some 6), .mv (.t 0), none⟩, [], []⟩,
    ⟨4, ⟨(some 7), .nilck (.t 6), none⟩, [], []⟩,
    ⟨5, ⟨(some 8), .load none (.t 7), none⟩, [], []⟩,
    ⟨6, ⟨(some 9), .bin .shl (.t 8) (.c (.i .u64 13)), none⟩, [], []⟩,
    ⟨7, ⟨(some 10), .bin .xor (.t 5) (.t 9), none⟩, [], []⟩,
    ⟨8, ⟨(some 11), .nilck (.t 3), none⟩, [], []⟩,
    ⟨9, ⟨none, .store 1 (.t 11) (.t 10), none⟩, [], []⟩])
  (.seq [0] (.dreg [0] [⟨0, ⟨(some 12), .mv (.t 0), none⟩, [], []⟩,
    ⟨1, ⟨(some 13), .nilck (.t 12), none⟩, [], []⟩,
    ⟨2, ⟨(some 14), .load none (.t 13), none⟩, [], []⟩,
    ⟨3, ⟨(some 15), .mv (.t 0), none⟩, [], []⟩,
    ⟨4, ⟨(some 16), .nilck (.t 15), none⟩, [], []⟩,
    ⟨5, ⟨(some 17), .load none (.t 16), none⟩, [], []⟩,
    ⟨6, ⟨(some 18), .bin .shr (.t 17) (.c (.i .u64 7)), none⟩, [], []⟩,
    ⟨7, ⟨(some 19), .bin .xor (.t 14) (.t 18), none⟩, [], []⟩,
    ⟨8, ⟨(some 20), .nilck (.t 12), none⟩, [], []⟩,
    ⟨9, ⟨none, .store 1 (.t 20) (.t 19), none⟩, [], []⟩])
  (.seq [0] (.dreg [0] [⟨0, ⟨(some 21), .mv (.t 0), none⟩, [], []⟩,
    ⟨1, ⟨(some 22), .nilck (.t 21), none⟩, [], []⟩,
    ⟨2, ⟨(some 23), .load none (.t 22), none⟩, [], []⟩,
    ⟨3, ⟨(some 24), .mv (.t 0), none⟩, [], []⟩,
    ⟨4, ⟨(some 25), .nilck (.t 24), none⟩, [], []⟩,
    ⟨5, ⟨(some 26), .load none (.t 25), none⟩, [], []⟩,
    ⟨6, ⟨(some 27), .bin .shl (.t 26) (.c (.i .u64 17)), none⟩, [], []⟩,
    ⟨7, ⟨(some 28), .bin .xor (.t 23) (.t 27), none⟩, [], []⟩,
    ⟨8, ⟨(some 29), .nilck (.t 21), none⟩, [], []⟩,
    ⟨9, ⟨none, .store 1 (.t 29) (.t 28), none⟩, [], []⟩])
  (.seq [2] (.reg [⟨(some 30), .mv (.t 0), none⟩,
    ⟨(some 31), .nilck (.t 30), none⟩,
    ⟨(some 32), .load none (.t 31), none⟩,
    ⟨(some 2), .mv (.t 32), none⟩])
  .ret)))))
theorem ree375 : Tryz.f375.body.bind (res Tryz.prog Tryz.f375.ntmps [] []) = some (erase ae375) := by kernel_rfl
def fs375 : FnS := .fn 33 ae375 [.t 2]
theorem fsok375 : FnOk Tryz.prog 375 fs375 := fun _ _ _ hn h => ctr_of_resC Tryz.func375 (by kernel_rfl) ree375 (by kernel_rfl) hn h
abbrev ae376 : ACode := (.seq [0, 1, 2] (.reg [⟨(some 6), .mv (.c (.i .i64 0)), none⟩])
  (.seq [6] (.reg [⟨(some 7), .mv (.t 0), none⟩,
    ⟨(some 8), .mv (.t 1), none⟩,
    ⟨(some 9), .bin .sub (.t 8) (.c (.i .i64 1)), none⟩,
    ⟨(some 10), .mv (.t 1), none⟩,
    ⟨(some 11), .mv (.t 1), none⟩,
    ⟨(some 12), .bin .add (.t 11) (.c (.i .i64 1)), none⟩,
    ⟨(some 13), .mv (.t 2), none⟩,
    ⟨(some 14), .call 377 [(.t 7), (.t 9), (.t 10), (.t 12), (.t 13)], none⟩,
    ⟨(some 6), .mv (.t 14), none⟩])
  .ret))
theorem ree376 : Tryz.f376.body.bind (res Tryz.prog Tryz.f376.ntmps [] []) = some (erase ae376) := by kernel_rfl
def fs376 : FnS := .fn 15 ae376 [.t 6]
theorem fsok376 : FnOk Tryz.prog 376 fs376 := fun _ _ _ hn h => ctr_of_resC Tryz.func376 (by kernel_rfl) ree376 (by kernel_rfl) hn h
abbrev ae377 : ACode := (.seq [0, 1, 2, 3, 4] (.reg [⟨(some 10), .mv (.c (.i .i64 0)), none⟩])
  (.seq [0, 1, 2, 3, 4] (.reg [⟨(some 12), .mv (.t 0), none⟩,
    ⟨(some 13), .mv (.t 1), none⟩,
    ⟨(some 14), .mv (.t 2), none⟩,
    ⟨(some 15), .mv (.t 4), none⟩,
    ⟨(some 16), .call 389 [(.t 12), (.t 13), (.t 14), (.t 15)], none⟩,
    ⟨(some 11), .mv (.t 16), none⟩,
    ⟨(some 17), .extract 0 (.t 11), none⟩,
    ⟨(some 18), .extract 1 (.t 11), none⟩,
    ⟨(some 1), .mv (.t 17), none⟩,
    ⟨(some 2), .mv (.t 18), none⟩])
  (.seq [0, 1, 2, 4] (.reg [⟨(some 20), .mv (.t 0), none⟩,
    ⟨(some 21), .mv (.t 2), none⟩,
    ⟨(some 22), .mv (.t 3), none⟩,
    ⟨(some 23), .mv (.t 4), none⟩,
    ⟨(some 24), .call 389 [(.t 20), (.t 21), (.t 22), (.t 23)], none⟩,
    ⟨(some 19), .mv (.t 24), none⟩,
    ⟨(some 25), .extract 0 (.t 19), none⟩,
    ⟨(some 26), .extract 1 (.t 19), none⟩,
    ⟨(some 2), .mv (.t 25), none⟩,
    ⟨(some 3), .mv (.t 26), none⟩])
  (.seq [2] (.reg [⟨(some 28), .mv (.t 0), none⟩,
    ⟨(some 29), .mv (.t 1), none⟩,
    ⟨(some 30), .mv (.t 2), none⟩,
    ⟨(some 31), .mv (.t 4), none⟩,
    ⟨(some 32), .call 389 [(.t 28), (.t 29), (.t 30), (.t 31)], none⟩,
    ⟨(some 27), .mv (.t 32), none⟩,
    ⟨(some 33), .extract 0 (.t 27), none⟩,
    ⟨(some 34), .extract 1 (.t 27), none⟩,
    ⟨(some 1), .mv (.t 33), none⟩,
    ⟨(some 2), .mv (.t 34), none⟩])
  (.seq [10] (.reg [⟨(some 35), .mv (.t 2), none⟩,
    ⟨(some 10), .mv (.t 35), none⟩])
  .ret)))))
theorem ree377 : Tryz.f377.body.bind (res Tryz.prog Tryz.f377.ntmps [] []) = some (erase ae377) := by kernel_rfl
def fs377 : FnS := .fn 36 ae377 [.t 10]
theorem fsok377 : FnOk Tryz.prog 377 fs377 := fun _ _ _ hn h => ctr_of_resC Tryz.func377 (by kernel_rfl) ree377 (by kernel_rfl) hn h
abbrev ae378 : ACode := (.seq [0] (.reg [⟨(some 2), .mv (.c (.b false)), none⟩])
  (.seq [2] (.reg [⟨(some 3), .mv (.t 0), none⟩,
    ⟨(some 4), .mv (.t 0), none⟩,
    ⟨(some 5), .bin .neq (.t 3) (.t 4), none⟩,
    ⟨(some 2), .mv (.t 5), none⟩])
  .ret))
theorem ree378 : Tryz.f378.body.bind (res Tryz.prog Tryz.f378.ntmps [] []) = some (erase ae378) := by kernel_rfl
def fs378 : FnS := .fn 6 ae378 [.t 2]
theorem fsok378 : FnOk Tryz.prog 378 fs378 := fun _ _ _ hn h => ctr_of_resC Tryz.func378 (by kernel_rfl) ree378 (by kernel_rfl) hn h
abbrev ae355 : ACode := (.seq [0, 1] (.reg [⟨(some 4), .mv (.c (.l [] true)), none⟩,
    ⟨(some 5), .mv (.c (.b false)), none⟩])
  (.seq [0, 1, 6] (.reg [⟨(some 6), .mv (.c (.l [] true)), none⟩])
  (.seq [0, 1, 6] (.seq [0, 1, 6, 15, 16, 17] (.reg [⟨(some 9), .mv (.t 0), none⟩,
    ⟨(some 10), .nilck (.t 9), none⟩,
    ⟨(some 11), .faddr 0 (.t 10), none⟩,
    ⟨(some 12), .load none (.t 11), none⟩,
    ⟨(some 13), .mv (.t 1), none⟩,
    ⟨(some 14), .iaddr 1 none (.t 12) (.t 13), none⟩,
    ⟨(some 15), .load none (.t 14), none⟩,
    ⟨(some 16), .len (.t 15), none⟩,
    ⟨(some 17), .mv (.c (.i .i64 0)), none⟩])
  (.block 0 (.loop [0, 1, 6, 15, 16, 17] (.seq [0, 1, 6, 15, 16, 17, 18] (.reg [⟨(some 18), .bin .lss (.t 17) (.t 16), none⟩])
  (.seq [0, 1, 6, 15, 16, 17] (.cond (.t 18)
  .skip
  (.exit 0))
  (.seq [0, 1, 6, 15, 16, 17] (.block 1 (.seq [0, 1, 6, 8, 15, 16, 17] (.reg [⟨(some 19), .iaddr 1 none (.t 15) (.t 17), none⟩,
    ⟨(some 20), .load none (.t 19), none⟩,
    ⟨(some 8), .mv (.t 20), none⟩])
  (.seq [0, 1, 6, 8, 15, 16, 17] (.seq [0, 1, 6, 8, 15, 16, 17, 28] (.reg [⟨(some 21), .mv (.t 0), none⟩,
    ⟨(some 22), .nilck (.t 21), none⟩,
    ⟨(some 23), .faddr 2 (.t 22), none⟩,
    ⟨(some 24), .load none (.t 23), none⟩,
    ⟨(some 25), .mv (.t 8), none⟩,
    ⟨(some 26), .lookup (.i .i64) (.l [] true) false (.t 24) (.t 25), none⟩,
    ⟨(some 27), .len (.t 26), none⟩,
    ⟨(some 28), .bin .eql (.t 27) (.c (.i .i64 0)), none⟩])
  (.cond (.t 28)
  (.seq [4, 5] (.reg [⟨(some 4), .mv (.c (.l [] true)), none⟩,
    ⟨(some 5), .mv (.c (.b false)), none⟩])
  .ret)
  .skip))
  (.reg [⟨(some 29), .mv (.t 6), none⟩,
    ⟨(some 30), .mv (.t 0), none⟩,
    ⟨(some 31), .nilck (.t 30), none⟩,
    ⟨(some 32), .faddr 2 (.t 31), none⟩,
    ⟨(some 33), .load none (.t 32), none⟩,
    ⟨(some 34), .mv (.t 8), none⟩,
    ⟨(some 35), .lookup (.i .i64) (.l [] true) false (.t 33) (.t 34), none⟩,
    ⟨(some 36), .call 379 [(.t 35)], none⟩,
    ⟨(some 37), .bslice 1 1 [(.l [] true)] [(0, (.t 36))], none⟩,
    ⟨(some 38), .append 1 24 (.t 29) (.t 37), none⟩,
    ⟨(some 6), .mv (.t 38), none⟩]))))
  (.reg [⟨(some 39), .bin .add (.t 17) (.c (.i .i64 1)), none⟩,
    ⟨(some 17), .mv (.t 39), none⟩])))))))
  (.seq [4, 5] (.reg [⟨(some 40), .mv (.t 6), none⟩,
    ⟨(some 41), .mv (.t 0), none⟩,
    ⟨(some 42), .nilck (.t 41), none⟩,
    ⟨(some 43), .faddr 0 (.t 42), none⟩,
    ⟨(some 44), .load none (.t 43), none⟩,
    ⟨(some 45), .mv (.t 1), none⟩,
    ⟨(some 46), .iaddr 1 none (.t 44) (.t 45), none⟩,
    ⟨(some 47), .load none (.t 46), none⟩,
    ⟨(some 48), .bslice 1 1 [(.l [] true)] [(0, (.t 47))], none⟩,
    ⟨(some 49), .append 1 24 (.t 40) (.t 48), none⟩,
    ⟨(some 4), .mv (.t 49), none⟩,
    ⟨(some 5), .mv (.c (.b true)), none⟩])
  .ret))))
theorem ree355 : Tryz.f355.body.bind (res Tryz.prog Tryz.f355.ntmps [] []) = some (erase ae355) := by kernel_rfl
def fs355 : FnS := .fn 50 ae355 [.t 4, .t 5]
theorem fsok355 : FnOk Tryz.prog 355 fs355 := fun _ _ _ hn h => ctr_of_resC Tryz.func355 (by kernel_rfl) ree355 (by kernel_rfl) hn h
abbrev ae356 : ACode := (.seq [0] (.reg [⟨(some 2), .mv (.c (.l [] true)), none⟩,
    ⟨(some 3), .mv (.c (.b false)), none⟩])
  (.scope (.seq [0, 4] (.reg [⟨(some 4), .mv (.c (.l [] true)), none⟩])
  (.seq [0, 4] .skip
  (.block 0 (.loop [0, 4] (.block 1 (.scope (.seq [0, 4, 5] (.reg [⟨(some 5), .mv (.c (.b false)), none⟩])
  (.seq [0, 4, 5] .skip
  (.seq [4, 5] (.seq [0, 4, 5, 14, 15, 16] (.reg [⟨(some 14), .mv (.t 0), none⟩,
    ⟨(some 15), .len (.t 14), none⟩,
    ⟨(some 16), .mv (.c (.i .i64 0)), none⟩])
  (.block 2 (.loop [0, 4, 5, 14, 15, 16] (.seq [0, 4, 5, 14, 15, 16, 17] (.reg [⟨(some 17), .bin .lss (.t 16) (.t 15), none⟩])
  (.seq [0, 4, 5, 14, 15, 16] (.cond (.t 17)
  .skip
  (.exit 2))
  (.seq [0, 4, 5, 14, 15, 16] (.block 3 (.seq [0, 4, 5, 7, 14, 15, 16] (.reg [⟨(some 18), .iaddr 1 none (.t 14) (.t 16), none⟩,
    ⟨(some 19), .load none (.t 18), none⟩,
    ⟨(some 7), .mv (.t 19), none⟩])
  (.seq [0, 4, 7, 14, 15, 16] (.seq [0, 4, 5, 7, 14, 15, 16, 22] (.reg [⟨(some 20), .mv (.t 7), none⟩,
    ⟨(some 21), .len (.t 20), none⟩,
    ⟨(some 22), .bin .eql (.t 21) (.c (.i .i64 0)), none⟩])
  (.cond (.t 22)
  (.exit 3)
  .skip))
  (.seq [0, 4, 5, 7, 14, 15, 16] (.reg [⟨(some 5), .mv (.c (.b true)), none⟩])
  (.seq [0, 4, 7] (.seq [0, 4, 5, 7, 14, 15, 16, 23, 24, 25] (.reg [⟨(some 23), .mv (.t 0), none⟩,
    ⟨(some 24), .len (.t 23), none⟩,
    ⟨(some 25), .mv (.c (.i .i64 0)), none⟩])
  (.block 4 (.loop [0, 4, 5, 7, 14, 15, 16, 23, 24, 25] (.seq [0, 4, 5, 7, 14, 15, 16, 23, 24, 25, 26] (.reg [⟨(some 26), .bin .lss (.t 25) (.t 24), none⟩])
  (.seq [0, 4, 5, 7, 14, 15, 16, 23, 24, 25] (.cond (.t 26)
  .skip
  (.exit 4))
  (.seq [0, 4, 5, 7, 14, 15, 16, 23, 24, 25] (.block 5 (.seq [0, 4, 5, 7, 9, 14, 15, 16, 23, 24, 25] (.reg [⟨(some 27), .iaddr 1 none (.t 23) (.t 25), none⟩,
    ⟨(some 28), .load none (.t 27), none⟩,
    ⟨(some 9), .mv (.t 28), none⟩])
  (.seq [0, 4, 5, 7, 14, 15, 16, 23, 24, 25, 39] (.dreg [0, 4, 5, 7, 14, 15, 16, 23, 24, 25, 39] [⟨0, ⟨(some 29), .mv (.t 9), none⟩, [], []⟩,
    ⟨1, ⟨(some 30), .len (.t 29), none⟩, [], []⟩,
    ⟨2, ⟨(some 31), .bin .gtr (.t 30) (.c (.i .i64 0)), none⟩, [], []⟩,
    ⟨3, ⟨(some 32), .mv (.t 31), none⟩, [], []⟩,
    ⟨4, ⟨(some 33), .mv (.t 9), (some (32, true))⟩, [], []⟩,
    ⟨5, ⟨(some 34), .slice 1 (.t 33) (some (.c (.i .i64 1))) none none, (some (32, true))⟩, [], []⟩,
    ⟨6, ⟨(some 35), .mv (.t 7), (some (32, true))⟩, [], []⟩,
    ⟨7, ⟨(some 36), .iaddr 1 none (.t 35) (.c (.i .i64 0)), (some (32, true))⟩, [], []⟩,
    ⟨8, ⟨(some 37), .load none (.t 36), (some (32, true))⟩, [], []⟩,
    ⟨9, ⟨(some 38), .call 67 [(.t 34), (.t 37)], (some (32, true))⟩, [], []⟩,
    ⟨10, ⟨(some 39), .pick (.t 32) (.t 38) (.c (.b false)), none⟩, [], []⟩])
  (.cond (.t 39)
  (.exit 3)
  .skip))))
  (.reg [⟨(some 40), .bin .add (.t 25) (.c (.i .i64 1)), none⟩,
    ⟨(some 25), .mv (.t 40), none⟩])))))))
  (.seq [0, 4, 10] (.reg [⟨(some 41), .mv (.t 7), none⟩,
    ⟨(some 42), .iaddr 1 none (.t 41) (.c (.i .i64 0)), none⟩,
    ⟨(some 43), .load none (.t 42), none⟩,
    ⟨(some 10), .alloc [(.i .i64 0)], none⟩,
    ⟨none, .store 1 (.t 10) (.t 43), none⟩])
  (.seq [0, 4, 10] (.reg [⟨(some 44), .mv (.t 4), none⟩,
    ⟨(some 45), .load none (.t 10), none⟩,
    ⟨(some 46), .bslice 1 1 [(.i .i64 0)] [(0, (.t 45))], none⟩,
    ⟨(some 47), .append 1 8 (.t 44) (.t 46), none⟩,
    ⟨(some 4), .mv (.t 47), none⟩])
  (.seq [0, 4, 10, 11] (.reg [⟨(some 11), .mv (.c (.l [] true)), none⟩])
  (.seq [4, 11] (.seq [4, 10, 11, 48, 49, 50] (.reg [⟨(some 48), .mv (.t 0), none⟩,
    ⟨(some 49), .len (.t 48), none⟩,
    ⟨(some 50), .mv (.c (.i .i64 0)), none⟩])
  (.block 6 (.loop [4, 10, 11, 48, 49, 50] (.seq [4, 10, 11, 48, 49, 50, 51] (.reg [⟨(some 51), .bin .lss (.t 50) (.t 49), none⟩])
  (.seq [4, 10, 11, 48, 49, 50] (.cond (.t 51)
  .skip
  (.exit 6))
  (.seq [4, 10, 11, 48, 49, 50] (.block 7 (.seq [4, 10, 11, 13, 48, 49, 50] (.reg [⟨(some 52), .iaddr 1 none (.t 48) (.t 50), none⟩,
    ⟨(some 53), .load none (.t 52), none⟩,
    ⟨(some 13), .mv (.t 53), none⟩])
  (.reg [⟨(some 54), .mv (.t 11), none⟩,
    ⟨(some 55), .mv (.t 13), none⟩,
    ⟨(some 56), .mkf (.func 381) [] [(.t 10)], none⟩,
    ⟨(some 57), .call 380 [(.t 55), (.t 56)], none⟩,
    ⟨(some 58), .bslice 1 1 [(.l [] true)] [(0, (.t 57))], none⟩,
    ⟨(some 59), .append 1 24 (.t 54) (.t 58), none⟩,
    ⟨(some 11), .mv (.t 59), none⟩])))
  (.reg [⟨(some 60), .bin .add (.t 50) (.c (.i .i64 1)), none⟩,
    ⟨(some 50), .mv (.t 60), none⟩])))))))
  (.seq [0, 4] (.reg [⟨(some 61), .mv (.t 11), none⟩,
    ⟨(some 0), .mv (.t 61), none⟩])
  (.exit 1)))))))))))
  (.reg [⟨(some 62), .bin .add (.t 16) (.c (.i .i64 1)), none⟩,
    ⟨(some 16), .mv (.t 62), none⟩])))))))
  (.seq [2, 3] (.reg [⟨(some 63), .mv (.t 4), none⟩,
    ⟨(some 64), .mv (.t 5), none⟩,
    ⟨(some 65), .not (.t 64), none⟩,
    ⟨(some 2), .mv (.t 63), none⟩,
    ⟨(some 3), .mv (.t 65), none⟩])
  .ret))))))))))))
theorem ree356 : Tryz.f356.body.bind (res Tryz.prog Tryz.f356.ntmps [] []) = some (erase ae356) := by kernel_rfl
def fs356 : FnS := .fn 66 ae356 [.t 2, .t 3]
theorem fsok356 : FnOk Tryz.prog 356 fs356 := fun _ _ _ hn h => ctr_of_resC Tryz.func356 (by kernel_rfl) ree356 (by kernel_rfl) hn h
abbrev ae304 : ACode := (.seq [1, 2, 3, 4, 5] (.reg [⟨(some 5), .box (.t 0), none⟩,
    ⟨(some 6), .mv (.c (.b false)), none⟩])
  (.seq [6] (.dreg [6] [⟨0, ⟨(some 7), .load none (.t 1), none⟩, [], []⟩,
    ⟨1, ⟨(some 8), .faddr 5 (.t 2), none⟩, [], []⟩,
    ⟨2, ⟨(some 9), .load none (.t 8), none⟩, [], []⟩,
    ⟨3, ⟨(some 10), .iaddr 6 none (.t 9) (.c (.i .i64 1)), none⟩, [], []⟩,
    ⟨4, ⟨(some 11), .load (some 6) (.t 10), none⟩, [], []⟩,
    ⟨5, ⟨(some 12), .load none (.t 3), none⟩, [], []⟩,
    ⟨6, ⟨(some 13), .mkf (.func 305) [] [(.t 4), (.t 5)], none⟩, [], []⟩,
    ⟨7, ⟨(some 14), .callv (.t 7) [(.t 11), (.t 12), (.t 13)], none⟩, [], []⟩,
    ⟨8, ⟨(some 6), .mv (.t 14), none⟩, [], []⟩])
  .ret))
theorem ree304 : Tryz.f304.body.bind (res Tryz.prog Tryz.f304.ntmps [] []) = some (erase ae304) := by kernel_rfl
def fs304 : FnS := .fn 15 ae304 [.t 6]
theorem fsok304 : FnOk Tryz.prog 304 fs304 := fun _ _ _ hn h => ctr_of_resC Tryz.func304 (by kernel_rfl) ree304 (by kernel_rfl) hn h
abbrev ae361 : ACode := (.seq [0, 3] (.reg [⟨(some 3), .box (.t 1), none⟩,
    ⟨(some 4), .mv (.c .pn), none⟩])
  (.seq [0, 3, 5, 6] (.dreg [0, 3, 5, 6] [⟨0, ⟨(some 8), .mv (.t 0), none⟩, [], []⟩,
    ⟨1, ⟨(some 9), .nilck (.t 8), none⟩, [], []⟩,
    ⟨2, ⟨(some 10), .faddr 1 (.t 9), none⟩, [], []⟩,
    ⟨3, ⟨(some 11), .load none (.t 10), none⟩, [], []⟩,
    ⟨4, ⟨(some 12), .load (some 4) (.t 3), none⟩, [], []⟩,
    ⟨5, ⟨(some 13), .lookup (.a [.i64, .i64, .i64, .i64]) .pn true (.t 11) (.t 12), none⟩, [], []⟩,
    ⟨6, ⟨(some 7), .mv (.t 13), none⟩, [], []⟩,
    ⟨7, ⟨(some 14), .extract 0 (.t 7), none⟩, [], []⟩,
    ⟨8, ⟨(some 15), .extract 1 (.t 7), none⟩, [], []⟩,
    ⟨9, ⟨(some 5), .mv (.t 14), none⟩, [], []⟩,
    ⟨10, ⟨(some 6), .mv (.t 15), none⟩, [], []⟩])
  (.seq [5] (.seq [0, 3, 5, 17] (.reg [⟨(some 16), .mv (.t 6), none⟩,
    ⟨(some 17), .not (.t 16), none⟩])
  (.cond (.t 17)
  (.seq [0, 3, 5] (.reg [⟨(some 18), .build [(.i .i64 0), (.i .i64 0), (.l [] true)] [(0, 1, (.c (.i .i64 (-1000000000)))), (1, 1, (.c (.i .i64 1000000000)))], none⟩,
    ⟨(some 19), .build [(.i .i64 0), (.i .i64 0), (.l [] true), (.i .u64 0), (.i .u64 0), (.b false), (.b false), (.l [] true)] [(0, 3, (.t 18))], none⟩,
    ⟨(some 20), .box (.t 19), none⟩,
    ⟨(some 5), .mv (.t 20), none⟩])
  (.dreg [5] [⟨0, ⟨(some 21), .mv (.t 0), none⟩, [], []⟩,
    ⟨1, ⟨(some 22), .nilck (.t 21), none⟩, [], []⟩,
    ⟨2, ⟨(some 23), .faddr 1 (.t 22), none⟩, [], []⟩,
    ⟨3, ⟨(some 24), .load none (.t 23), none⟩, [], []⟩,
    ⟨4, ⟨(some 25), .load (some 4) (.t 3), none⟩, [], []⟩,
    ⟨5, ⟨(some 26), .mv (.t 5), none⟩, [], []⟩,
    ⟨6, ⟨none, .mapset (.a [.i64, .i64, .i64, .i64]) (.t 24) (.t 25) (.t 26), none⟩, [], []⟩]))
  .skip))
  (.seq [4] (.reg [⟨(some 27), .mv (.t 5), none⟩,
    ⟨(some 4), .mv (.t 27), none⟩])
  .ret))))
theorem ree361 : Tryz.f361.body.bind (res Tryz.prog Tryz.f361.ntmps [] []) = some (erase ae361) := by kernel_rfl
def fs361 : FnS := .fn 28 ae361 [.t 4]
theorem fsok361 : FnOk Tryz.prog 361 fs361 := fun _ _ _ hn h => ctr_of_resC Tryz.func361 (by kernel_rfl) ree361 (by kernel_rfl) hn h
abbrev ae362 : ACode := (.seq [1, 2, 4] (.reg [⟨(some 2), .box (.t 0), none⟩,
    ⟨(some 4), .alloc [(.i .i64 0), (.i .i64 0), (.i .i64 0), (.i .i64 0)], none⟩])
  (.seq [2, 4] (.reg [⟨(some 5), .faddr 1 (.t 2), none⟩,
    ⟨(some 6), .load none (.t 5), none⟩,
    ⟨(some 7), .mv (.t 1), none⟩,
    ⟨(some 8), .faddr 2 (.t 2), none⟩,
    ⟨(some 9), .iaddr 1 (some 2) (.t 8) (.t 6), none⟩,
    ⟨none, .store 1 (.t 9) (.t 7), none⟩])
  (.seq [2, 4] (.reg [⟨(some 10), .faddr 1 (.t 2), none⟩,
    ⟨(some 11), .load none (.t 10), none⟩,
    ⟨(some 12), .bin .add (.t 11) (.c (.i .i64 1)), none⟩,
    ⟨(some 13), .faddr 1 (.t 2), none⟩,
    ⟨none, .store 1 (.t 13) (.t 12), none⟩])
  (.seq [4] (.reg [⟨(some 14), .load (some 4) (.t 2), none⟩,
    ⟨none, .store 4 (.t 4) (.t 14), none⟩])
  .ret))))
theorem ree362 : Tryz.f362.body.bind (res Tryz.prog Tryz.f362.ntmps [] []) = some (erase ae362) := by kernel_rfl
def fs362 : FnS := .fn 15 ae362 [.c 4 (some 4)]
theorem fsok362 : FnOk Tryz.prog 362 fs362 := fun _ _ _ hn h => ctr_of_resC Tryz.func362 (by kernel_rfl) ree362 (by kernel_rfl) hn h
abbrev ae363 : ACode := (.seq [0, 3] (.reg [⟨(some 3), .box (.t 1), none⟩])
  (.block 0 (.seq [0, 3, 33] (.reg [⟨(some 34), .faddr 0 (.t 3), none⟩,
    ⟨(some 35), .faddr 0 (.t 34), none⟩,
    ⟨(some 36), .load none (.t 35), none⟩,
    ⟨(some 37), .bin .eql (.t 36) (.c (.i .i64 2)), none⟩,
    ⟨(some 38), .mv (.t 37), none⟩,
    ⟨(some 39), .faddr 6 (.t 3), (some (38, true))⟩,
    ⟨(some 40), .load none (.t 39), (some (38, true))⟩,
    ⟨(some 41), .pick (.t 38) (.t 40) (.c (.b false)), none⟩,
    ⟨(some 33), .mv (.t 41), none⟩])
  (.cond (.t 33)
  (.dreg [] [⟨0, ⟨(some 42), .mv (.t 0), none⟩, [], []⟩,
    ⟨1, ⟨(some 43), .mv (.t 0), none⟩, [], []⟩,
    ⟨2, ⟨(some 44), .nilck (.t 43), none⟩, [], []⟩,
    ⟨3, ⟨(some 45), .faddr 4 (.t 44), none⟩, [], []⟩,
    ⟨4, ⟨(some 46), .load none (.t 45), none⟩, [], []⟩,
    ⟨5, ⟨(some 47), .faddr 0 (.t 3), none⟩, [], []⟩,
    ⟨6, ⟨(some 48), .faddr 3 (.t 47), none⟩, [], []⟩,
    ⟨7, ⟨(some 49), .load none (.t 48), none⟩, [], []⟩,
    ⟨8, ⟨(some 50), .call 214 [(.t 46), (.t 49)], none⟩, [], []⟩,
    ⟨9, ⟨(some 51), .nilck (.t 42), none⟩, [], []⟩,
    ⟨10, ⟨(some 52), .faddr 4 (.t 51), none⟩, [], []⟩,
    ⟨11, ⟨none, .store 1 (.t 52) (.t 50), none⟩, [], []⟩])
  (.seq [0, 3, 53] (.reg [⟨(some 54), .faddr 0 (.t 3), none⟩,
    ⟨(some 55), .faddr 0 (.t 54), none⟩,
    ⟨(some 56), .load none (.t 55), none⟩,
    ⟨(some 57), .bin .eql (.t 56) (.c (.i .i64 2)), none⟩,
    ⟨(some 53), .mv (.t 57), none⟩])
  (.cond (.t 53)
  (.dreg [] [⟨0, ⟨(some 58), .mv (.t 0), none⟩, [], []⟩,
    ⟨1, ⟨(some 59), .mv (.t 0), none⟩, [], []⟩,
    ⟨2, ⟨(some 60), .nilck (.t 59), none⟩, [], []⟩,
    ⟨3, ⟨(some 61), .faddr 3 (.t 60), none⟩, [], []⟩,
    ⟨4, ⟨(some 62), .load none (.t 61), none⟩, [], []⟩,
    ⟨5, ⟨(some 63), .faddr 0 (.t 3), none⟩, [], []⟩,
    ⟨6, ⟨(some 64), .faddr 3 (.t 63), none⟩, [], []⟩,
    ⟨7, ⟨(some 65), .load none (.t 64), none⟩, [], []⟩,
    ⟨8, ⟨(some 66), .call 214 [(.t 62), (.t 65)], none⟩, [], []⟩,
    ⟨9, ⟨(some 67), .nilck (.t 58), none⟩, [], []⟩,
    ⟨10, ⟨(some 68), .faddr 3 (.t 67), none⟩, [], []⟩,
    ⟨11, ⟨none, .store 1 (.t 68) (.t 66), none⟩, [], []⟩])
  (.seq [0, 3, 69] (.reg [⟨(some 70), .faddr 0 (.t 3), none⟩,
    ⟨(some 71), .faddr 0 (.t 70), none⟩,
    ⟨(some 72), .load none (.t 71), none⟩,
    ⟨(some 73), .bin .eql (.t 72) (.c (.i .i64 3)), none⟩,
    ⟨(some 74), .mv (.t 73), none⟩,
    ⟨(some 75), .faddr 6 (.t 3), (some (74, true))⟩,
    ⟨(some 76), .load none (.t 75), (some (74, true))⟩,
    ⟨(some 77), .pick (.t 74) (.t 76) (.c (.b false)), none⟩,
    ⟨(some 69), .mv (.t 77), none⟩])
  (.cond (.t 69)
  (.dreg [] [⟨0, ⟨(some 78), .mv (.t 0), none⟩, [], []⟩,
    ⟨1, ⟨(some 79), .mv (.t 0), none⟩, [], []⟩,
    ⟨2, ⟨(some 80), .nilck (.t 79), none⟩, [], []⟩,
    ⟨3, ⟨(some 81), .faddr 0 (.t 80), none⟩, [], []⟩,
    ⟨4, ⟨(some 82), .faddr 0 (.t 81), none⟩, [], []⟩,
    ⟨5, ⟨(some 83), .load none (.t 82), none⟩, [], []⟩,
    ⟨6, ⟨(some 84), .faddr 0 (.t 3), none⟩, [], []⟩,
    ⟨7, ⟨(some 85), .faddr 4 (.t 84), none⟩, [], []⟩,
    ⟨8, ⟨(some 86), .load none (.t 85), none⟩, [], []⟩,
    ⟨9, ⟨(some 87), .mmax (.t 83) (.t 86), none⟩, [], []⟩,
    ⟨10, ⟨(some 88), .nilck (.t 78), none⟩, [], []⟩,
    ⟨11, ⟨(some 89), .faddr 0 (.t 88), none⟩, [], []⟩,
    ⟨12, ⟨(some 90), .faddr 0 (.t 89), none⟩, [], []⟩,
    ⟨13, ⟨none, .store 1 (.t 90) (.t 87), none⟩, [], []⟩])
  (.seq [0, 3, 91] (.reg [⟨(some 92), .faddr 0 (.t 3), none⟩,
    ⟨(some 93), .faddr 0 (.t 92), none⟩,
    ⟨(some 94), .load none (.t 93), none⟩,
    ⟨(some 95), .bin .eql (.t 94) (.c (.i .i64 3)), none⟩,
    ⟨(some 91), .mv (.t 95), none⟩])
  (.cond (.t 91)
  (.dreg [] [⟨0, ⟨(some 96), .mv (.t 0), none⟩, [], []⟩,
    ⟨1, ⟨(some 97), .mv (.t 0), none⟩, [], []⟩,
    ⟨2, ⟨(some 98), .mv (.t 0), none⟩, [], []⟩,
    ⟨3, ⟨(some 99), .nilck (.t 98), none⟩, [], []⟩,
    ⟨4, ⟨(some 100), .faddr 0 (.t 99), none⟩, [], []⟩,
    ⟨5, ⟨(some 101), .faddr 1 (.t 100), none⟩, [], []⟩,
    ⟨6, ⟨(some 102), .load none (.t 101), none⟩, [], []⟩,
    ⟨7, ⟨(some 103), .faddr 0 (.t 3), none⟩, [], []⟩,
    ⟨8, ⟨(some 104), .faddr 4 (.t 103), none⟩, [], []⟩,
    ⟨9, ⟨(some 105), .load none (.t 104), none⟩, [], []⟩,
    ⟨10, ⟨(some 106), .bin .sub (.t 105) (.c (.i .i64 1)), none⟩, [], []⟩,
    ⟨11, ⟨(some 107), .mmin (.t 102) (.t 106), none⟩, [], []⟩,
    ⟨12, ⟨(some 108), .nilck (.t 96), none⟩, [], []⟩,
    ⟨13, ⟨(some 109), .faddr 0 (.t 108), none⟩, [], []⟩,
    ⟨14, ⟨(some 110), .faddr 1 (.t 109), none⟩, [], []⟩,
    ⟨15, ⟨none, .store 1 (.t 110) (.t 107), none⟩, [], []⟩,
    ⟨16, ⟨(some 111), .nilck (.t 97), none⟩, [], []⟩,
    ⟨17, ⟨(some 112), .faddr 5 (.t 111), none⟩, [], []⟩,
    ⟨18, ⟨none, .store 1 (.t 112) (.c (.b true)), none⟩, [], []⟩])
  (.seq [0, 3, 113] (.reg [⟨(some 114), .faddr 6 (.t 3), none⟩,
    ⟨(some 115), .load none (.t 114), none⟩,
    ⟨(some 113), .mv (.t 115), none⟩])
  (.cond (.t 113)
  (.dreg [] [⟨0, ⟨(some 116), .mv (.t 0), none⟩, [], []⟩,
    ⟨1, ⟨(some 117), .mv (.t 0), none⟩, [], []⟩,
    ⟨2, ⟨(some 118), .nilck (.t 117), none⟩, [], []⟩,
    ⟨3, ⟨(some 119), .faddr 0 (.t 118), none⟩, [], []⟩,
    ⟨4, ⟨(some 120), .faddr 2 (.t 119), none⟩, [], []⟩,
    ⟨5, ⟨(some 121), .load none (.t 120), none⟩, [], []⟩,
    ⟨6, ⟨(some 122), .faddr 0 (.t 3), none⟩, [], []⟩,
    ⟨7, ⟨(some 123), .faddr 4 (.t 122), none⟩, [], []⟩,
    ⟨8, ⟨(some 124), .load none (.t 123), none⟩, [], []⟩,
    ⟨9, ⟨(some 125), .bslice 1 1 [(.i .i64 0)] [(0, (.t 124))], none⟩, [], []⟩,
    ⟨10, ⟨(some 126), .append 1 8 (.t 121) (.t 125), none⟩, [], []⟩,
    ⟨11, ⟨(some 127), .nilck (.t 116), none⟩, [], []⟩,
    ⟨12, ⟨(some 128), .faddr 0 (.t 127), none⟩, [], []⟩,
    ⟨13, ⟨(some 129), .faddr 2 (.t 128), none⟩, [], []⟩,
    ⟨14, ⟨none, .store 1 (.t 129) (.t 126), none⟩, [], []⟩])
  (.dreg [] [⟨0, ⟨(some 4), .mv (.t 0), none⟩, [], []⟩,
    ⟨1, ⟨(some 5), .mv (.t 0), none⟩, [], []⟩,
    ⟨2, ⟨(some 6), .mv (.t 0), none⟩, [], []⟩,
    ⟨3, ⟨(some 7), .mv (.t 0), none⟩, [], []⟩,
    ⟨4, ⟨(some 8), .nilck (.t 7), none⟩, [], []⟩,
    ⟨5, ⟨(some 9), .faddr 0 (.t 8), none⟩, [], []⟩,
    ⟨6, ⟨(some 10), .faddr 0 (.t 9), none⟩, [], []⟩,
    ⟨7, ⟨(some 11), .load none (.t 10), none⟩, [], []⟩,
    ⟨8, ⟨(some 12), .faddr 0 (.t 3), none⟩, [], []⟩,
    ⟨9, ⟨(some 13), .faddr 4 (.t 12), none⟩, [], []⟩,
    ⟨10, ⟨(some 14), .load none (.t 13), none⟩, [], []⟩,
    ⟨11, ⟨(some 15), .mmax (.t 11) (.t 14), none⟩, [], []⟩,
    ⟨12, ⟨(some 16), .mv (.t 0), none⟩, [], []⟩,
    ⟨13, ⟨(some 17), .nilck (.t 16), none⟩, [], []⟩,
    ⟨14, ⟨(some 18), .faddr 0 (.t 17), none⟩, [], []⟩,
    ⟨15, ⟨(some 19), .faddr 1 (.t 18), none⟩, [], []⟩,
    ⟨16, ⟨(some 20), .load none (.t 19), none⟩, [], []⟩,
    ⟨17, ⟨(some 21), .faddr 0 (.t 3), none⟩, [], []⟩,
    ⟨18, ⟨(some 22), .faddr 4 (.t 21), none⟩, [], []⟩,
    ⟨19, ⟨(some 23), .load none (.t 22), none⟩, [], []⟩,
    ⟨20, ⟨(some 24), .mmin (.t 20) (.t 23), none⟩, [], []⟩,
    ⟨21, ⟨(some 25), .nilck (.t 4), none⟩, [], []⟩,
    ⟨22, ⟨(some 26), .faddr 0 (.t 25), none⟩, [], []⟩,
    ⟨23, ⟨(some 27), .faddr 0 (.t 26), none⟩, [], []⟩,
    ⟨24, ⟨none, .store 1 (.t 27) (.t 15), none⟩, [19], [⟨(some 23), .load none (.t 22), none⟩]⟩,
    ⟨25, ⟨(some 28), .nilck (.t 5), none⟩, [], []⟩,
    ⟨26, ⟨(some 29), .faddr 0 (.t 28), none⟩, [], []⟩,
    ⟨27, ⟨(some 30), .faddr 1 (.t 29), none⟩, [], []⟩,
    ⟨28, ⟨none, .store 1 (.t 30) (.t 24), none⟩, [], []⟩,
    ⟨29, ⟨(some 31), .nilck (.t 6), none⟩, [], []⟩,
    ⟨30, ⟨(some 32), .faddr 5 (.t 31), none⟩, [], []⟩,
    ⟨31, ⟨none, .store 1 (.t 32) (.c (.b true)), none⟩, [], []⟩])))))))))))))
theorem ree363 : Tryz.f363.body.bind (res Tryz.prog Tryz.f363.ntmps [] []) = some (erase ae363) := by kernel_rfl
def fs363 : FnS := .fn 130 ae363 []
theorem fsok363 : FnOk Tryz.prog 363 fs363 := fun _ _ _ hn h => ctr_of_resC Tryz.func363 (by kernel_rfl) ree363 (by kernel_rfl) hn h
abbrev ae364 : ACode := (.seq [0, 3] (.reg [⟨(some 3), .box (.t 1), none⟩,
    ⟨(some 4), .mv (.c (.i .i64 0)), none⟩,
    ⟨(some 5), .mv (.c (.b false)), none⟩])
  (.seq [0, 3, 6] (.reg [⟨(some 8), .mv (.t 0), none⟩,
    ⟨(some 9), .load (some 4) (.t 3), none⟩,
    ⟨(some 10), .call 361 [(.t 8), (.t 9)], none⟩,
    ⟨(some 6), .mv (.t 10), none⟩])
  (.seq [0, 3, 6, 7] (.reg [⟨(some 11), .mv (.t 6), none⟩,
    ⟨(some 12), .nilck (.t 11), none⟩,
    ⟨(some 13), .faddr 0 (.t 12), none⟩,
    ⟨(some 14), .faddr 0 (.t 13), none⟩,
    ⟨(some 15), .load none (.t 14), none⟩,
    ⟨(some 7), .mv (.t 15), none⟩])
  (.seq [0, 3, 6, 7] (.block 0 (.loop [0, 3, 6, 7] (.seq [0, 3, 6, 7] (.seq [0, 3, 6, 7, 22] (.reg [⟨(some 16), .mv (.t 6), none⟩,
    ⟨(some 17), .nilck (.t 16), none⟩,
    ⟨(some 18), .faddr 0 (.t 17), none⟩,
    ⟨(some 19), .faddr 2 (.t 18), none⟩,
    ⟨(some 20), .load none (.t 19), none⟩,
    ⟨(some 21), .mv (.t 7), none⟩,
    ⟨(some 22), .call 67 [(.t 20), (.t 21)], none⟩])
  (.cond (.t 22)
  .skip
  (.exit 0)))
  (.block 1 (.reg [⟨(some 23), .mv (.t 7), none⟩,
    ⟨(some 24), .bin .add (.t 23) (.c (.i .i64 1)), none⟩,
    ⟨(some 7), .mv (.t 24), none⟩])))))
  (.seq [4, 5] (.reg [⟨(some 25), .mv (.t 7), none⟩,
    ⟨(some 26), .mv (.t 7), none⟩,
    ⟨(some 27), .mv (.t 6), none⟩,
    ⟨(some 28), .nilck (.t 27), none⟩,
    ⟨(some 29), .faddr 0 (.t 28), none⟩,
    ⟨(some 30), .faddr 1 (.t 29), none⟩,
    ⟨(some 31), .load none (.t 30), none⟩,
    ⟨(some 32), .bin .leq (.t 26) (.t 31), none⟩,
    ⟨(some 33), .mv (.t 32), none⟩,
    ⟨(some 34), .mv (.t 0), (some (33, true))⟩,
    ⟨(some 35), .load (some 4) (.t 3), (some (33, true))⟩,
    ⟨(some 36), .call 382 [(.t 34), (.t 35), (.c (.i .i64 1))], (some (33, true))⟩,
    ⟨(some 37), .pick (.t 33) (.t 36) (.c (.b false)), none⟩,
    ⟨(some 4), .mv (.t 25), none⟩,
    ⟨(some 5), .mv (.t 37), none⟩])
  .ret)))))
theorem ree364 : Tryz.f364.body.bind (res Tryz.prog Tryz.f364.ntmps [] []) = some (erase ae364) := by kernel_rfl
def fs364 : FnS := .fn 38 ae364 [.t 4, .t 5]
theorem fsok364 : FnOk Tryz.prog 364 fs364 := fun _ _ _ hn h => ctr_of_resC Tryz.func364 (by kernel_rfl) ree364 (by kernel_rfl) hn h
abbrev ae365 : ACode := (.seq [0, 3] (.reg [⟨(some 3), .box (.t 1), none⟩,
    ⟨(some 4), .mv (.c (.b false)), none⟩])
  (.seq [4] (.reg [⟨(some 5), .mv (.t 0), none⟩,
    ⟨(some 6), .load (some 4) (.t 3), none⟩,
    ⟨(some 7), .call 361 [(.t 5), (.t 6)], none⟩,
    ⟨(some 8), .nilck (.t 7), none⟩,
    ⟨(some 9), .faddr 5 (.t 8), none⟩,
    ⟨(some 10), .load none (.t 9), none⟩,
    ⟨(some 11), .not (.t 10), none⟩,
    ⟨(some 12), .mv (.t 11), none⟩,
    ⟨(some 13), .mv (.t 0), (some (12, true))⟩,
    ⟨(some 14), .load (some 4) (.t 3), (some (12, true))⟩,
    ⟨(some 15), .call 382 [(.t 13), (.t 14), (.c (.i .i64 2))], (some (12, true))⟩,
    ⟨(some 16), .pick (.t 12) (.t 15) (.c (.b false)), none⟩,
    ⟨(some 4), .mv (.t 16), none⟩])
  .ret))
theorem ree365 : Tryz.f365.body.bind (res Tryz.prog Tryz.f365.ntmps [] []) = some (erase ae365) := by kernel_rfl
def fs365 : FnS := .fn 17 ae365 [.t 4]
theorem fsok365 : FnOk Tryz.prog 365 fs365 := fun _ _ _ hn h => ctr_of_resC Tryz.func365 (by kernel_rfl) ree365 (by kernel_rfl) hn h
abbrev ae366 : ACode := (.seq [0, 3] (.reg [⟨(some 3), .box (.t 1), none⟩,
    ⟨(some 4), .mv (.c (.i .u64 0)), none⟩,
    ⟨(some 5), .mv (.c (.b false)), none⟩])
  (.seq [0, 3, 6] (.reg [⟨(some 15), .mv (.t 0), none⟩,
    ⟨(some 16), .load (some 4) (.t 3), none⟩,
    ⟨(some 17), .call 361 [(.t 15), (.t 16)], none⟩,
    ⟨(some 6), .mv (.t 17), none⟩])
  (.seq [0, 3, 6, 7, 8] (.dreg [0, 3, 6, 7, 8] [⟨0, ⟨(some 18), .mv (.t 6), none⟩, [], []⟩,
    ⟨1, ⟨(some 19), .nilck (.t 18), none⟩, [], []⟩,
    ⟨2, ⟨(some 20), .faddr 3 (.t 19), none⟩, [], []⟩,
    ⟨3, ⟨(some 21), .load none (.t 20), none⟩, [], []⟩,
    ⟨4, ⟨(some 22), .mv (.t 6), none⟩, [], []⟩,
    ⟨5, ⟨(some 23), .nilck (.t 22), none⟩, [], []⟩,
    ⟨6, ⟨(some 24), .faddr 4 (.t 23), none⟩, [], []⟩,
    ⟨7, ⟨(some 25), .load none (.t 24), none⟩, [], []⟩,
    ⟨8, ⟨(some 7), .mv (.t 21), none⟩, [], []⟩,
    ⟨9, ⟨(some 8), .mv (.t 25), none⟩, [], []⟩])
  (.seq [0, 3, 6, 7, 8] (.seq [0, 3, 6, 7, 8, 41] (.reg [⟨(some 26), .mv (.t 6), none⟩,
    ⟨(some 27), .nilck (.t 26), none⟩,
    ⟨(some 28), .faddr 5 (.t 27), none⟩,
    ⟨(some 29), .load none (.t 28), none⟩,
    ⟨(some 30), .mv (.t 29), none⟩,
    ⟨(some 31), .mv (.t 7), (some (30, false))⟩,
    ⟨(some 32), .call 372 [(.t 31), (.c (.i .i64 1))], (some (30, false))⟩,
    ⟨(some 33), .pick (.t 30) (.c (.b true)) (.t 32), none⟩,
    ⟨(some 34), .mv (.t 33), none⟩,
    ⟨(some 35), .mv (.t 7), (some (34, false))⟩,
    ⟨(some 36), .call 372 [(.t 35), (.c (.i .i64 2))], (some (34, false))⟩,
    ⟨(some 37), .pick (.t 34) (.c (.b true)) (.t 36), none⟩,
    ⟨(some 38), .mv (.t 37), none⟩,
    ⟨(some 39), .mv (.t 8), (some (38, false))⟩,
    ⟨(some 40), .call 372 [(.t 39), (.c (.i .i64 0))], (some (38, false))⟩,
    ⟨(some 41), .pick (.t 38) (.c (.b true)) (.t 40), none⟩])
  (.cond (.t 41)
  (.seq [4, 5] (.reg [⟨(some 4), .mv (.c (.i .u64 0)), none⟩,
    ⟨(some 5), .mv (.c (.b false)), none⟩])
  .ret)
  .skip))
  (.seq [0, 7, 8] (.seq [0, 3, 7, 8, 45, 46, 47] (.reg [⟨(some 42), .mv (.t 6), none⟩,
    ⟨(some 43), .nilck (.t 42), none⟩,
    ⟨(some 44), .faddr 7 (.t 43), none⟩,
    ⟨(some 45), .load none (.t 44), none⟩,
    ⟨(some 46), .len (.t 45), none⟩,
    ⟨(some 47), .mv (.c (.i .i64 0)), none⟩])
  (.block 0 (.loop [0, 3, 7, 8, 45, 46, 47] (.seq [0, 3, 7, 8, 45, 46, 47, 48] (.reg [⟨(some 48), .bin .lss (.t 47) (.t 46), none⟩])
  (.seq [0, 3, 7, 8, 45, 46, 47] (.cond (.t 48)
  .skip
  (.exit 0))
  (.seq [0, 3, 7, 8, 45, 46, 47] (.block 1 (.seq [0, 3, 7, 8, 10, 45, 46, 47] (.reg [⟨(some 49), .iaddr 1 none (.t 45) (.t 47), none⟩,
    ⟨(some 50), .load none (.t 49), none⟩,
    ⟨(some 10), .mv (.t 50), none⟩])
  (.seq [0, 3, 7, 8, 10, 11, 45, 46, 47] (.reg [⟨(some 51), .load (some 4) (.t 3), none⟩,
    ⟨(some 52), .mv (.t 10), none⟩,
    ⟨(some 53), .call 362 [(.t 51), (.t 52)], none⟩,
    ⟨(some 11), .alloc [(.i .i64 0), (.i .i64 0), (.i .i64 0), (.i .i64 0)], none⟩,
    ⟨none, .store 4 (.t 11) (.t 53), none⟩])
  (.seq [0, 3, 7, 8, 10, 12, 13, 45, 46, 47] (.dreg [0, 3, 7, 8, 10, 12, 13, 45, 46, 47] [⟨0, ⟨(some 54), .mv (.t 0), none⟩, [], []⟩,
    ⟨1, ⟨(some 55), .load (some 4) (.t 11), none⟩, [], []⟩,
    ⟨6, ⟨(some 60), .mv (.t 0), none⟩, [], []⟩,
    ⟨7, ⟨(some 61), .load (some 4) (.t 11), none⟩, [], []⟩,
    ⟨2, ⟨(some 56), .call 361 [(.t 54), (.t 55)], none⟩, [7], [⟨(some 61), .load (some 4) (.t 11), none⟩]⟩,
    ⟨3, ⟨(some 57), .nilck (.t 56), none⟩, [], []⟩,
    ⟨4, ⟨(some 58), .faddr 6 (.t 57), none⟩, [], []⟩,
    ⟨5, ⟨(some 59), .load none (.t 58), none⟩, [], []⟩,
    ⟨8, ⟨(some 62), .call 338 [(.t 60), (.t 61)], none⟩, [5], [⟨(some 59), .load none (.t 58), none⟩]⟩,
    ⟨9, ⟨(some 12), .mv (.t 59), none⟩, [], []⟩,
    ⟨10, ⟨(some 13), .mv (.t 62), none⟩, [], []⟩])
  (.block 2 (.seq [0, 3, 7, 8, 10, 12, 13, 45, 46, 47, 63] (.reg [⟨(some 64), .mv (.t 12), none⟩,
    ⟨(some 65), .mv (.t 64), none⟩,
    ⟨(some 66), .mv (.t 13), (some (65, true))⟩,
    ⟨(some 67), .not (.t 66), (some (65, true))⟩,
    ⟨(some 68), .pick (.t 65) (.t 67) (.c (.b false)), none⟩,
    ⟨(some 63), .mv (.t 68), none⟩])
  (.cond (.t 63)
  (.seq [4, 5] (.reg [⟨(some 4), .mv (.c (.i .u64 0)), none⟩,
    ⟨(some 5), .mv (.c (.b false)), none⟩])
  .ret)
  (.seq [0, 3, 7, 8, 10, 13, 45, 46, 47, 69] (.reg [⟨(some 70), .mv (.t 12), none⟩,
    ⟨(some 69), .mv (.t 70), none⟩])
  (.cond (.t 69)
  (.reg [⟨(some 71), .mv (.t 7), none⟩,
    ⟨(some 72), .mv (.t 0), none⟩,
    ⟨(some 73), .nilck (.t 72), none⟩,
    ⟨(some 74), .faddr 0 (.t 73), none⟩,
    ⟨(some 75), .load none (.t 74), none⟩,
    ⟨(some 76), .nilck (.t 75), none⟩,
    ⟨(some 77), .faddr 0 (.t 76), none⟩,
    ⟨(some 78), .faddr 1 (.t 77), none⟩,
    ⟨(some 79), .load none (.t 78), none⟩,
    ⟨(some 80), .mv (.t 10), none⟩,
    ⟨(some 81), .iaddr 1 none (.t 79) (.t 80), none⟩,
    ⟨(some 82), .load none (.t 81), none⟩,
    ⟨(some 83), .call 214 [(.t 71), (.t 82)], none⟩,
    ⟨(some 7), .mv (.t 83), none⟩])
  (.seq [0, 3, 7, 8, 10, 45, 46, 47, 84] (.reg [⟨(some 85), .mv (.t 13), none⟩,
    ⟨(some 86), .not (.t 85), none⟩,
    ⟨(some 84), .mv (.t 86), none⟩])
  (.cond (.t 84)
  (.reg [⟨(some 87), .mv (.t 8), none⟩,
    ⟨(some 88), .mv (.t 0), none⟩,
    ⟨(some 89), .nilck (.t 88), none⟩,
    ⟨(some 90), .faddr 0 (.t 89), none⟩,
    ⟨(some 91), .load none (.t 90), none⟩,
    ⟨(some 92), .nilck (.t 91), none⟩,
    ⟨(some 93), .faddr 0 (.t 92), none⟩,
    ⟨(some 94), .faddr 1 (.t 93), none⟩,
    ⟨(some 95), .load none (.t 94), none⟩,
    ⟨(some 96), .mv (.t 10), none⟩,
    ⟨(some 97), .iaddr 1 none (.t 95) (.t 96), none⟩,
    ⟨(some 98), .load none (.t 97), none⟩,
    ⟨(some 99), .call 214 [(.t 87), (.t 98)], none⟩,
    ⟨(some 8), .mv (.t 99), none⟩])
  .skip)))))))))))
  (.reg [⟨(some 100), .bin .add (.t 47) (.c (.i .i64 1)), none⟩,
    ⟨(some 47), .mv (.t 100), none⟩])))))))
  (.seq [7, 8] (.seq [0, 7, 8, 14] (.reg [⟨(some 14), .mv (.c (.i .i64 3)), none⟩])
  (.block 3 (.loop [0, 7, 8, 14] (.seq [0, 7, 8, 14] (.seq [0, 7, 8, 14, 112] (.reg [⟨(some 101), .mv (.t 14), none⟩,
    ⟨(some 102), .mv (.t 0), none⟩,
    ⟨(some 103), .nilck (.t 102), none⟩,
    ⟨(some 104), .faddr 0 (.t 103), none⟩,
    ⟨(some 105), .load none (.t 104), none⟩,
    ⟨(some 106), .nilck (.t 105), none⟩,
    ⟨(some 107), .faddr 0 (.t 106), none⟩,
    ⟨(some 108), .faddr 0 (.t 107), none⟩,
    ⟨(some 109), .load none (.t 108), none⟩,
    ⟨(some 110), .len (.t 109), none⟩,
    ⟨(some 111), .bin .add (.c (.i .i64 3)) (.t 110), none⟩,
    ⟨(some 112), .bin .lss (.t 101) (.t 111), none⟩])
  (.cond (.t 112)
  .skip
  (.exit 3)))
  (.seq [0, 7, 8, 14] (.block 4 (.seq [0, 7, 8, 14, 117] (.reg [⟨(some 115), .mv (.t 7), none⟩,
    ⟨(some 116), .mv (.t 14), none⟩,
    ⟨(some 117), .call 372 [(.t 115), (.t 116)], none⟩])
  (.cond (.t 117)
  (.reg [⟨(some 118), .mv (.t 7), none⟩,
    ⟨(some 119), .mv (.t 0), none⟩,
    ⟨(some 120), .nilck (.t 119), none⟩,
    ⟨(some 121), .faddr 0 (.t 120), none⟩,
    ⟨(some 122), .load none (.t 121), none⟩,
    ⟨(some 123), .mv (.t 14), none⟩,
    ⟨(some 124), .nilck (.t 122), none⟩,
    ⟨(some 125), .faddr 2 (.t 124), none⟩,
    ⟨(some 126), .iaddr 1 (some 63) (.t 125) (.t 123), none⟩,
    ⟨(some 127), .load none (.t 126), none⟩,
    ⟨(some 128), .bin .or (.t 118) (.t 127), none⟩,
    ⟨(some 7), .mv (.t 128), none⟩])
  .skip)))
  (.reg [⟨(some 113), .mv (.t 14), none⟩,
    ⟨(some 114), .bin .add (.t 113) (.c (.i .i64 1)), none⟩,
    ⟨(some 14), .mv (.t 114), none⟩]))))))
  (.seq [7, 8] (.reg [⟨(some 129), .mv (.t 7), none⟩,
    ⟨(some 130), .bin .andNot (.t 129) (.c (.i .u64 1)), none⟩,
    ⟨(some 7), .mv (.t 130), none⟩])
  (.seq [4, 5] (.reg [⟨(some 131), .mv (.t 7), none⟩,
    ⟨(some 132), .mv (.t 7), none⟩,
    ⟨(some 133), .mv (.t 8), none⟩,
    ⟨(some 134), .bin .and (.t 132) (.t 133), none⟩,
    ⟨(some 135), .bin .eql (.t 134) (.c (.i .u64 0)), none⟩,
    ⟨(some 4), .mv (.t 131), none⟩,
    ⟨(some 5), .mv (.t 135), none⟩])
  .ret))))))))
theorem ree366 : Tryz.f366.body.bind (res Tryz.prog Tryz.f366.ntmps [] []) = some (erase ae366) := by kernel_rfl
def fs366 : FnS := .fn 136 ae366 [.t 4, .t 5]
theorem fsok366 : FnOk Tryz.prog 366 fs366 := fun _ _ _ hn h => ctr_of_resC Tryz.func366 (by kernel_rfl) ree366 (by kernel_rfl) hn h
abbrev ae389 : ACode := (.seq [0, 1, 2, 3] (.reg [⟨(some 8), .mv (.c (.i .i64 0)), none⟩,
    ⟨(some 9), .mv (.c (.i .i64 0)), none⟩])
  (.seq [1, 2] (.seq [1, 2, 3, 18] (.dreg [1, 2, 3, 18] [⟨0, ⟨(some 10), .mv (.t 0), none⟩, [], []⟩,
    ⟨1, ⟨(some 11), .mv (.t 2), none⟩, [], []⟩,
    ⟨2, ⟨(some 12), .iaddr 1 none (.t 10) (.t 11), none⟩, [], []⟩,
    ⟨3, ⟨(some 13), .load none (.t 12), none⟩, [], []⟩,
    ⟨4, ⟨(some 14), .mv (.t 0), none⟩, [], []⟩,
    ⟨5, ⟨(some 15), .mv (.t 1), none⟩, [], []⟩,
    ⟨6, ⟨(some 16), .iaddr 1 none (.t 14) (.t 15), none⟩, [], []⟩,
    ⟨7, ⟨(some 17), .load none (.t 16), none⟩, [], []⟩,
    ⟨8, ⟨(some 18), .call 350 [(.t 13), (.t 17)], none⟩, [], []⟩])
  (.cond (.t 18)
  (.seq [1, 2] (.reg [⟨(some 19), .mv (.t 3), none⟩,
    ⟨(some 20), .nilck (.t 19), none⟩,
    ⟨(some 21), .load none (.t 20), none⟩,
    ⟨(some 22), .bin .add (.t 21) (.c (.i .i64 1)), none⟩,
    ⟨(some 23), .nilck (.t 19), none⟩,
    ⟨none, .store 1 (.t 23) (.t 22), none⟩])
  (.seq [8, 9] (.reg [⟨(some 24), .mv (.t 2), none⟩,
    ⟨(some 25), .mv (.t 1), none⟩,
    ⟨(some 8), .mv (.t 24), none⟩,
    ⟨(some 9), .mv (.t 25), none⟩])
  .ret))
  .skip))
  (.seq [8, 9] (.reg [⟨(some 26), .mv (.t 1), none⟩,
    ⟨(some 27), .mv (.t 2), none⟩,
    ⟨(some 8), .mv (.t 26), none⟩,
    ⟨(some 9), .mv (.t 27), none⟩])
  .ret)))
theorem ree389 : Tryz.f389.body.bind (res Tryz.prog Tryz.f389.ntmps [] []) = some (erase ae389) := by kernel_rfl
def fs389 : FnS := .fn 28 ae389 [.t 8, .t 9]
theorem fsok389 : FnOk Tryz.prog 389 fs389 := fun _ _ _ hn h => ctr_of_resC Tryz.func389 (by kernel_rfl) ree389 (by kernel_rfl) hn h
abbrev ae379 : ACode := (.seq [0] (.reg [⟨(some 2), .mv (.c (.l [] true)), none⟩])
  (.seq [2] (.reg [⟨(some 3), .mv (.t 0), none⟩,
    ⟨(some 4), .call 380 [(.t 3), (.c (.f (.func 390) [] []))], none⟩,
    ⟨(some 2), .mv (.t 4), none⟩])
  .ret))
theorem ree379 : Tryz.f379.body.bind (res Tryz.prog Tryz.f379.ntmps [] []) = some (erase ae379) := by kernel_rfl
def fs379 : FnS := .fn 5 ae379 [.t 2]
theorem fsok379 : FnOk Tryz.prog 379 fs379 := fun _ _ _ hn h => ctr_of_resC Tryz.func379 (by kernel_rfl) ree379 (by kernel_rfl) hn h
abbrev ae381 : ACode := (.seq [0, 1] (.reg [⟨(some 3), .mv (.c (.b false)), none⟩])
  (.seq [3] (.reg [⟨(some 4), .mv (.t 0), none⟩,
    ⟨(some 5), .load none (.t 1), none⟩,
    ⟨(some 6), .bin .neq (.t 4) (.t 5), none⟩,
    ⟨(some 3), .mv (.t 6), none⟩])
  .ret))
theorem ree381 : Tryz.f381.body.bind (res Tryz.prog Tryz.f381.ntmps [] []) = some (erase ae381) := by kernel_rfl
def fs381 : FnS := .fn 7 ae381 [.t 3]
theorem fsok381 : FnOk Tryz.prog 381 fs381 := fun _ _ _ hn h => ctr_of_resC Tryz.func381 (by kernel_rfl) ree381 (by kernel_rfl) hn h
abbrev ae380 : ACode := (.seq [0, 1] (.reg [⟨(some 4), .mv (.c (.l [] true)), none⟩])
  (.seq [0, 1, 5] (.reg [⟨(some 5), .mv (.c (.l [] true)), none⟩])
  (.seq [5] (.seq [1, 5, 8, 9, 10] (.reg [⟨(some 8), .mv (.t 0), none⟩,
    ⟨(some 9), .len (.t 8), none⟩,
    ⟨(some 10), .mv (.c (.i .i64 0)), none⟩])
  (.block 0 (.loop [1, 5, 8, 9, 10] (.seq [1, 5, 8, 9, 10, 11] (.reg [⟨(some 11), .bin .lss (.t 10) (.t 9), none⟩])
  (.seq [1, 5, 8, 9, 10] (.cond (.t 11)
  .skip
  (.exit 0))
  (.seq [1, 5, 8, 9, 10] (.block 1 (.seq [1, 5, 7, 8, 9, 10] (.reg [⟨(some 12), .iaddr 1 none (.t 8) (.t 10), none⟩,
    ⟨(some 13), .load none (.t 12), none⟩,
    ⟨(some 7), .mv (.t 13), none⟩])
  (.seq [1, 5, 7, 8, 9, 10, 16] (.reg [⟨(some 14), .mv (.t 1), none⟩,
    ⟨(some 15), .mv (.t 7), none⟩,
    ⟨(some 16), .callv (.t 14) [(.t 15)], none⟩])
  (.cond (.t 16)
  (.reg [⟨(some 17), .mv (.t 5), none⟩,
    ⟨(some 18), .mv (.t 7), none⟩,
    ⟨(some 19), .bslice 1 1 [(.i .i64 0)] [(0, (.t 18))], none⟩,
    ⟨(some 20), .append 1 8 (.t 17) (.t 19), none⟩,
    ⟨(some 5), .mv (.t 20), none⟩])
  .skip))))
  (.reg [⟨(some 21), .bin .add (.t 10) (.c (.i .i64 1)), none⟩,
    ⟨(some 10), .mv (.t 21), none⟩])))))))
  (.seq [4] (.reg [⟨(some 22), .mv (.t 5), none⟩,
    ⟨(some 4), .mv (.t 22), none⟩])
  .ret))))
theorem ree380 : Tryz.f380.body.bind (res Tryz.prog Tryz.f380.ntmps [] []) = some (erase ae380) := by kernel_rfl
def fs380 : FnS := .fn 23 ae380 [.t 4]
theorem fsok380 : FnOk Tryz.prog 380 fs380 := fun _ _ _ hn h => ctr_of_resC Tryz.func380 (by kernel_rfl) ree380 (by kernel_rfl) hn h
abbrev ae305 : ACode := (.seq [0, 1, 2] (.reg [⟨(some 4), .mv (.c (.b false)), none⟩])
  (.seq [4] (.dreg [4] [⟨0, ⟨(some 5), .load none (.t 1), none⟩, [], []⟩,
    ⟨1, ⟨(some 6), .load none (.t 2), none⟩, [], []⟩,
    ⟨2, ⟨(some 7), .mv (.t 0), none⟩, [], []⟩,
    ⟨3, ⟨(some 8), .call 306 [(.t 6), (.t 7)], none⟩, [0], [⟨(some 5), .load none (.t 1), none⟩]⟩,
    ⟨4, ⟨(some 9), .callv (.t 5) [(.t 8)], none⟩, [], []⟩,
    ⟨5, ⟨(some 4), .mv (.t 9), none⟩, [], []⟩])
  .ret))
theorem ree305 : Tryz.f305.body.bind (res Tryz.prog Tryz.f305.ntmps [] []) = some (erase ae305) := by kernel_rfl
def fs305 : FnS := .fn 10 ae305 [.t 4]
theorem fsok305 : FnOk Tryz.prog 305 fs305 := fun _ _ _ hn h => ctr_of_resC Tryz.func305 (by kernel_rfl) ree305 (by kernel_rfl) hn h
abbrev ae382 : ACode := (.seq [0, 2, 4] (.reg [⟨(some 4), .box (.t 1), none⟩,
    ⟨(some 6), .mv (.c (.b false)), none⟩])
  (.seq [0, 2, 4, 7] (.reg [⟨(some 9), .mv (.t 0), none⟩,
    ⟨(some 10), .load (some 4) (.t 4), none⟩,
    ⟨(some 11), .call 361 [(.t 9), (.t 10)], none⟩,
    ⟨(some 7), .mv (.t 11), none⟩])
  (.seq [0, 4, 7, 8] (.reg [⟨(some 12), .mv (.t 2), none⟩,
    ⟨(some 13), .call 214 [(.c (.i .u64 1)), (.t 12)], none⟩,
    ⟨(some 8), .mv (.t 13), none⟩])
  (.seq [6] (.reg [⟨(some 14), .mv (.t 7), none⟩,
    ⟨(some 15), .nilck (.t 14), none⟩,
    ⟨(some 16), .faddr 3 (.t 15), none⟩,
    ⟨(some 17), .load none (.t 16), none⟩,
    ⟨(some 18), .mv (.t 8), none⟩,
    ⟨(some 19), .bin .andNot (.t 17) (.t 18), none⟩,
    ⟨(some 20), .bin .eql (.t 19) (.c (.i .u64 0)), none⟩,
    ⟨(some 21), .mv (.t 20), none⟩,
    ⟨(some 22), .mv (.t 7), (some (21, true))⟩,
    ⟨(some 23), .nilck (.t 22), (some (21, true))⟩,
    ⟨(some 24), .faddr 4 (.t 23), (some (21, true))⟩,
    ⟨(some 25), .load none (.t 24), (some (21, true))⟩,
    ⟨(some 26), .mv (.t 8), (some (21, true))⟩,
    ⟨(some 27), .bin .and (.t 25) (.t 26), (some (21, true))⟩,
    ⟨(some 28), .bin .eql (.t 27) (.c (.i .u64 0)), (some (21, true))⟩,
    ⟨(some 29), .pick (.t 21) (.t 28) (.c (.b false)), none⟩,
    ⟨(some 30), .mv (.t 29), none⟩,
    ⟨(some 31), .mv (.t 0), (some (30, true))⟩,
    ⟨(some 32), .load (some 4) (.t 4), (some (30, true))⟩,
    ⟨(some 33), .call 391 [(.t 31), (.t 32)], (some (30, true))⟩,
    ⟨(some 34), .pick (.t 30) (.t 33) (.c (.b false)), none⟩,
    ⟨(some 6), .mv (.t 34), none⟩])
  .ret))))
theorem ree382 : Tryz.f382.body.bind (res Tryz.prog Tryz.f382.ntmps [] []) = some (erase ae382) := by kernel_rfl
def fs382 : FnS := .fn 35 ae382 [.t 6]
theorem fsok382 : FnOk Tryz.prog 382 fs382 := fun _ _ _ hn h => ctr_of_resC Tryz.func382 (by kernel_rfl) ree382 (by kernel_rfl) hn h
abbrev ae372 : ACode := (.seq [0, 1] (.reg [⟨(some 4), .mv (.c (.b false)), none⟩])
  (.seq [4] (.reg [⟨(some 5), .mv (.t 0), none⟩,
    ⟨(some 6), .mv (.t 1), none⟩,
    ⟨(some 7), .bin .shr (.t 5) (.t 6), none⟩,
    ⟨(some 8), .bin .and (.t 7) (.c (.i .u64 1)), none⟩,
    ⟨(some 9), .bin .eql (.t 8) (.c (.i .u64 1)), none⟩,
    ⟨(some 4), .mv (.t 9), none⟩])
  .ret))
theorem ree372 : Tryz.f372.body.bind (res Tryz.prog Tryz.f372.ntmps [] []) = some (erase ae372) := by kernel_rfl
def fs372 : FnS := .fn 10 ae372 [.t 4]
theorem fsok372 : FnOk Tryz.prog 372 fs372 := fun _ _ _ hn h => ctr_of_resC Tryz.func372 (by kernel_rfl) ree372 (by kernel_rfl) hn h
abbrev ae390 : ACode := (.seq [0] (.reg [⟨(some 2), .mv (.c (.b false)), none⟩])
  (.seq [2] (.reg [⟨(some 3), .mv (.t 0), none⟩,
    ⟨(some 4), .bin .neq (.t 3) (.c (.i .i64 0)), none⟩,
    ⟨(some 2), .mv (.t 4), none⟩])
  .ret))
theorem ree390 : Tryz.f390.body.bind (res Tryz.prog Tryz.f390.ntmps [] []) = some (erase ae390) := by kernel_rfl
def fs390 : FnS := .fn 5 ae390 [.t 2]
theorem fsok390 : FnOk Tryz.prog 390 fs390 := fun _ _ _ hn h => ctr_of_resC Tryz.func390 (by kernel_rfl) ree390 (by kernel_rfl) hn h
abbrev ae306 : ACode := (.seq [0, 1] (.reg [⟨(some 4), .mv (.c (.l [] true)), none⟩])
  (.seq [1, 5] (.reg [⟨(some 8), .mv (.t 0), none⟩,
    ⟨(some 9), .call 334 [(.t 8)], none⟩,
    ⟨(some 5), .mv (.t 9), none⟩])
  (.seq [5] (.seq [5, 10, 11, 12] (.reg [⟨(some 10), .mv (.t 1), none⟩,
    ⟨(some 11), .len (.t 10), none⟩,
    ⟨(some 12), .mv (.c (.i .i64 0)), none⟩])
  (.block 0 (.loop [5, 10, 11, 12] (.seq [5, 10, 11, 12, 13] (.reg [⟨(some 13), .bin .lss (.t 12) (.t 11), none⟩])
  (.seq [5, 10, 11, 12] (.cond (.t 13)
  .skip
  (.exit 0))
  (.seq [5, 10, 11, 12] (.block 1 (.seq [5, 7, 10, 11, 12] (.reg [⟨(some 14), .iaddr 7 none (.t 10) (.t 12), none⟩,
    ⟨(some 15), .load (some 7) (.t 14), none⟩,
    ⟨(some 7), .alloc [(.i .i64 0), (.i .i64 0), (.l [] true), (.i .i64 0), (.i .i64 0), (.l [] true), (.b false)], none⟩,
    ⟨none, .store 7 (.t 7) (.t 15), none⟩])
  (.seq [5, 7, 10, 11, 12, 19] (.reg [⟨(some 16), .mv (.t 5), none⟩,
    ⟨(some 17), .mkf (.func 336) [] [(.t 7)], none⟩,
    ⟨(some 18), .call 335 [(.t 16), (.t 17)], none⟩,
    ⟨(some 19), .not (.t 18), none⟩])
  (.cond (.t 19)
  (.reg [⟨(some 20), .mv (.t 5), none⟩,
    ⟨(some 21), .load (some 7) (.t 7), none⟩,
    ⟨(some 22), .bslice 7 1 [(.i .i64 0), (.i .i64 0), (.l [] true), (.i .i64 0), (.i .i64 0), (.l [] true), (.b false)] [(0, (.t 21))], none⟩,
    ⟨(some 23), .append 7 88 (.t 20) (.t 22), none⟩,
    ⟨(some 5), .mv (.t 23), none⟩])
  .skip))))
  (.reg [⟨(some 24), .bin .add (.t 12) (.c (.i .i64 1)), none⟩,
    ⟨(some 12), .mv (.t 24), none⟩])))))))
  (.seq [4] (.reg [⟨(some 25), .mv (.t 5), none⟩,
    ⟨(some 4), .mv (.t 25), none⟩])
  .ret))))
theorem ree306 : Tryz.f306.body.bind (res Tryz.prog Tryz.f306.ntmps [] []) = some (erase ae306) := by kernel_rfl
def fs306 : FnS := .fn 26 ae306 [.t 4]
theorem fsok306 : FnOk Tryz.prog 306 fs306 := fun _ _ _ hn h => ctr_of_resC Tryz.func306 (by kernel_rfl) ree306 (by kernel_rfl) hn h
abbrev ae391 : ACode := (.seq [2, 3] (.reg [⟨(some 2), .box (.t 0), none⟩,
    ⟨(some 3), .box (.t 1), none⟩,
    ⟨(some 4), .mv (.c (.b false)), none⟩])
  (.seq [4] (.reg [⟨(some 5), .load none (.t 2), none⟩,
    ⟨(some 6), .load (some 4) (.t 3), none⟩,
    ⟨(some 7), .call 361 [(.t 5), (.t 6)], none⟩,
    ⟨(some 8), .nilck (.t 7), none⟩,
    ⟨(some 9), .faddr 7 (.t 8), none⟩,
    ⟨(some 10), .load none (.t 9), none⟩,
    ⟨(some 11), .mkf (.func 394) [] [(.t 2), (.t 3)], none⟩,
    ⟨(some 12), .call 215 [(.t 10), (.t 11)], none⟩,
    ⟨(some 4), .mv (.t 12), none⟩])
  .ret))
theorem ree391 : Tryz.f391.body.bind (res Tryz.prog Tryz.f391.ntmps [] []) = some (erase ae391) := by kernel_rfl
def fs391 : FnS := .fn 13 ae391 [.t 4]
theorem fsok391 : FnOk Tryz.prog 391 fs391 := fun _ _ _ hn h => ctr_of_resC Tryz.func391 (by kernel_rfl) ree391 (by kernel_rfl) hn h
theorem recl334 : Tryz.f334.body.bind (res Tryz.prog Tryz.f334.ntmps [] []) = some (erase (cloneAC 7 88)) := by kernel_rfl
def fs334 : FnS := .prim (cloneP 7)
theorem fsok334 : FnOk Tryz.prog 334 fs334 := clone_fs (sz := 7) (b := 88) (fun _ _ _ hn h => ctr_of_resC Tryz.func334 (by kernel_rfl) recl334 (by kernel_rfl) hn h) (Nat.le_of_ble_eq_true rfl)
abbrev ae336 : ACode := (.seq [1, 2] (.reg [⟨(some 2), .box (.t 0), none⟩,
    ⟨(some 3), .mv (.c (.b false)), none⟩])
  (.seq [3] (.reg [⟨(some 4), .faddr 6 (.t 1), none⟩,
    ⟨(some 5), .load none (.t 4), none⟩,
    ⟨(some 6), .faddr 6 (.t 2), none⟩,
    ⟨(some 7), .load none (.t 6), none⟩,
    ⟨(some 8), .eqb false (.t 5) (.t 7), none⟩,
    ⟨(some 9), .mv (.t 8), none⟩,
    ⟨(some 10), .faddr 0 (.t 1), (some (9, true))⟩,
    ⟨(some 11), .load (some 6) (.t 10), (some (9, true))⟩,
    ⟨(some 12), .faddr 0 (.t 2), (some (9, true))⟩,
    ⟨(some 13), .load (some 6) (.t 12), (some (9, true))⟩,
    ⟨(some 14), .call 179 [(.t 11), (.t 13)], (some (9, true))⟩,
    ⟨(some 15), .pick (.t 9) (.t 14) (.c (.b false)), none⟩,
    ⟨(some 3), .mv (.t 15), none⟩])
  .ret))
theorem ree336 : Tryz.f336.body.bind (res Tryz.prog Tryz.f336.ntmps [] []) = some (erase ae336) := by kernel_rfl
def fs336 : FnS := .fn 16 ae336 [.t 3]
theorem fsok336 : FnOk Tryz.prog 336 fs336 := fun _ _ _ hn h => ctr_of_resC Tryz.func336 (by kernel_rfl) ree336 (by kernel_rfl) hn h
abbrev ae335 : ACode := (.seq [0, 1] (.reg [⟨(some 4), .mv (.c (.b false)), none⟩])
  (.seq [4] (.reg [⟨(some 5), .mv (.t 0), none⟩,
    ⟨(some 6), .mv (.t 1), none⟩,
    ⟨(some 7), .call 360 [(.t 5), (.t 6)], none⟩,
    ⟨(some 8), .bin .geq (.t 7) (.c (.i .i64 0)), none⟩,
    ⟨(some 4), .mv (.t 8), none⟩])
  .ret))
theorem ree335 : Tryz.f335.body.bind (res Tryz.prog Tryz.f335.ntmps [] []) = some (erase ae335) := by kernel_rfl
def fs335 : FnS := .fn 9 ae335 [.t 4]
theorem fsok335 : FnOk Tryz.prog 335 fs335 := fun _ _ _ hn h => ctr_of_resC Tryz.func335 (by kernel_rfl) ree335 (by kernel_rfl) hn h
abbrev ae394 : ACode := (.seq [0, 1, 2] (.reg [⟨(some 4), .mv (.c (.b false)), none⟩])
  (.seq [4] (.dreg [4] [⟨0, ⟨(some 5), .load none (.t 1), none⟩, [], []⟩,
    ⟨1, ⟨(some 6), .load (some 4) (.t 2), none⟩, [], []⟩,
    ⟨2, ⟨(some 7), .mv (.t 0), none⟩, [], []⟩,
    ⟨3, ⟨(some 8), .call 362 [(.t 6), (.t 7)], none⟩, [0], [⟨(some 5), .load none (.t 1), none⟩]⟩,
    ⟨4, ⟨(some 9), .call 361 [(.t 5), (.t 8)], none⟩, [], []⟩,
    ⟨5, ⟨(some 10), .nilck (.t 9), none⟩, [], []⟩,
    ⟨6, ⟨(some 11), .faddr 6 (.t 10), none⟩, [], []⟩,
    ⟨7, ⟨(some 12), .load none (.t 11), none⟩, [], []⟩,
    ⟨8, ⟨(some 13), .not (.t 12), none⟩, [], []⟩,
    ⟨9, ⟨(some 4), .mv (.t 13), none⟩, [], []⟩])
  .ret))
theorem ree394 : Tryz.f394.body.bind (res Tryz.prog Tryz.f394.ntmps [] []) = some (erase ae394) := by kernel_rfl
def fs394 : FnS := .fn 14 ae394 [.t 4]
theorem fsok394 : FnOk Tryz.prog 394 fs394 := fun _ _ _ hn h => ctr_of_resC Tryz.func394 (by kernel_rfl) ree394 (by kernel_rfl) hn h
abbrev ae360 : ACode := (.seq [0, 1] (.reg [⟨(some 4), .mv (.c (.i .i64 0)), none⟩])
  (.seq [] (.seq [0, 1, 7, 8] (.reg [⟨(some 6), .mv (.t 0), none⟩,
    ⟨(some 7), .len (.t 6), none⟩,
    ⟨(some 8), .mv (.c (.i .i64 0)), none⟩])
  (.block 0 (.loop [0, 1, 7, 8] (.seq [0, 1, 7, 8, 9] (.reg [⟨(some 9), .bin .lss (.t 8) (.t 7), none⟩])
  (.seq [0, 1, 7, 8] (.cond (.t 9)
  .skip
  (.exit 0))
  (.seq [0, 1, 7, 8] (.block 1 (.seq [0, 1, 5, 7, 8] (.reg [⟨(some 10), .mv (.t 8), none⟩,
    ⟨(some 5), .mv (.t 10), none⟩])
  (.seq [0, 1, 5, 7, 8, 16] (.reg [⟨(some 11), .mv (.t 1), none⟩,
    ⟨(some 12), .mv (.t 0), none⟩,
    ⟨(some 13), .mv (.t 5), none⟩,
    ⟨(some 14), .iaddr 7 none (.t 12) (.t 13), none⟩,
    ⟨(some 15), .load (some 7) (.t 14), none⟩,
    ⟨(some 16), .callv (.t 11) [(.t 15)], none⟩])
  (.cond (.t 16)
  (.seq [4] (.reg [⟨(some 17), .mv (.t 5), none⟩,
    ⟨(some 4), .mv (.t 17), none⟩])
  .ret)
  .skip))))
  (.reg [⟨(some 18), .bin .add (.t 8) (.c (.i .i64 1)), none⟩,
    ⟨(some 8), .mv (.t 18), none⟩])))))))
  (.seq [4] (.reg [⟨(some 4), .mv (.c (.i .i64 (-1))), none⟩])
  .ret)))
theorem ree360 : Tryz.f360.body.bind (res Tryz.prog Tryz.f360.ntmps [] []) = some (erase ae360) := by kernel_rfl
def fs360 : FnS := .fn 19 ae360 [.t 4]
theorem fsok360 : FnOk Tryz.prog 360 fs360 := fun _ _ _ hn h => ctr_of_resC Tryz.func360 (by kernel_rfl) ree360 (by kernel_rfl) hn h
end Go.Gl
