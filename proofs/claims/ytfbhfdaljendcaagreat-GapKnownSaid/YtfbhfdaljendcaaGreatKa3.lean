/-
  The code of functions of the program, resolved, for the evaluator (printed by wip/gen/mkclosed.py)
-/
import Derived.Test.YtfbhfdaljendcaaGreatEv7
import Derived.Test.YtfbhfdaljendcaaGreatProg
import Derived.KernelRfl
set_option linter.all false
set_option linter.unusedVariables false
set_option linter.unusedSimpArgs false
namespace Go.Gl
open Go.Proofs
abbrev ae168 : ACode := (.seq [2, 3, 4] (.reg [⟨(some 3), .box (.t 0), none⟩,
    ⟨(some 4), .box (.t 1), none⟩,
    ⟨(some 6), .mv (.c (.b false)), none⟩])
  (.seq [2, 3, 4, 7] (.reg [⟨(some 11), .load (some 2) (.t 3), none⟩,
    ⟨(some 12), .load (some 4) (.t 4), none⟩,
    ⟨(some 13), .call 165 [(.t 11), (.t 12)], none⟩,
    ⟨(some 7), .mv (.t 13), none⟩])
  (.seq [2, 3, 4, 7] (.seq [2, 3, 4, 7, 43] (.dreg [2, 3, 4, 7, 43] [⟨0, ⟨(some 14), .mv (.t 7), none⟩, [], []⟩,
    ⟨1, ⟨(some 15), .nilck (.t 14), none⟩, [], []⟩,
    ⟨2, ⟨(some 16), .faddr 0 (.t 15), none⟩, [], []⟩,
    ⟨3, ⟨(some 17), .load none (.t 16), none⟩, [], []⟩,
    ⟨4, ⟨(some 18), .faddr 0 (.t 3), none⟩, [], []⟩,
    ⟨5, ⟨(some 19), .load none (.t 18), none⟩, [], []⟩,
    ⟨6, ⟨(some 20), .nilck (.t 19), none⟩, [], []⟩,
    ⟨7, ⟨(some 21), .faddr 2 (.t 20), none⟩, [], []⟩,
    ⟨8, ⟨(some 22), .load none (.t 21), none⟩, [], []⟩,
    ⟨9, ⟨(some 23), .mv (.t 2), none⟩, [], []⟩,
    ⟨10, ⟨(some 24), .iaddr 1 none (.t 22) (.t 23), none⟩, [], []⟩,
    ⟨11, ⟨(some 25), .load none (.t 24), none⟩, [], []⟩,
    ⟨12, ⟨(some 26), .bin .andNot (.t 17) (.t 25), none⟩, [], []⟩,
    ⟨13, ⟨(some 27), .bin .neq (.t 26) (.c (.i .u64 0)), none⟩, [], []⟩,
    ⟨14, ⟨(some 28), .mv (.t 27), none⟩, [], []⟩,
    ⟨15, ⟨(some 29), .mv (.t 7), (some (28, false))⟩, [], []⟩,
    ⟨16, ⟨(some 30), .nilck (.t 29), (some (28, false))⟩, [], []⟩,
    ⟨17, ⟨(some 31), .faddr 1 (.t 30), (some (28, false))⟩, [], []⟩,
    ⟨18, ⟨(some 32), .load none (.t 31), (some (28, false))⟩, [], []⟩,
    ⟨19, ⟨(some 33), .faddr 0 (.t 3), (some (28, false))⟩, [], []⟩,
    ⟨20, ⟨(some 34), .load none (.t 33), (some (28, false))⟩, [], []⟩,
    ⟨21, ⟨(some 35), .nilck (.t 34), (some (28, false))⟩, [], []⟩,
    ⟨22, ⟨(some 36), .faddr 2 (.t 35), (some (28, false))⟩, [], []⟩,
    ⟨23, ⟨(some 37), .load none (.t 36), (some (28, false))⟩, [], []⟩,
    ⟨24, ⟨(some 38), .mv (.t 2), (some (28, false))⟩, [], []⟩,
    ⟨25, ⟨(some 39), .iaddr 1 none (.t 37) (.t 38), (some (28, false))⟩, [], []⟩,
    ⟨26, ⟨(some 40), .load none (.t 39), (some (28, false))⟩, [], []⟩,
    ⟨27, ⟨(some 41), .bin .and (.t 32) (.t 40), (some (28, false))⟩, [], []⟩,
    ⟨28, ⟨(some 42), .bin .neq (.t 41) (.c (.i .u64 0)), (some (28, false))⟩, [], []⟩,
    ⟨29, ⟨(some 43), .pick (.t 28) (.c (.b true)) (.t 42), none⟩, [], []⟩])
  (.cond (.t 43)
  (.seq [6] (.reg [⟨(some 6), .mv (.c (.b false)), none⟩])
  .ret)
  .skip))
  (.seq [2, 7] (.seq [2, 3, 4, 7, 47, 48, 49] (.reg [⟨(some 44), .mv (.t 7), none⟩,
    ⟨(some 45), .nilck (.t 44), none⟩,
    ⟨(some 46), .faddr 7 (.t 45), none⟩,
    ⟨(some 47), .load none (.t 46), none⟩,
    ⟨(some 48), .len (.t 47), none⟩,
    ⟨(some 49), .mv (.c (.i .i64 0)), none⟩])
  (.block 0 (.loop [2, 3, 4, 7, 47, 48, 49] (.seq [2, 3, 4, 7, 47, 48, 49, 50] (.reg [⟨(some 50), .bin .lss (.t 49) (.t 48), none⟩])
  (.seq [2, 3, 4, 7, 47, 48, 49] (.cond (.t 50)
  .skip
  (.exit 0))
  (.seq [2, 3, 4, 7, 47, 48, 49] (.block 1 (.seq [2, 3, 4, 7, 9, 47, 48, 49] (.reg [⟨(some 51), .iaddr 1 none (.t 47) (.t 49), none⟩,
    ⟨(some 52), .load none (.t 51), none⟩,
    ⟨(some 9), .mv (.t 52), none⟩])
  (.seq [2, 3, 4, 7, 47, 48, 49, 60] (.dreg [2, 3, 4, 7, 47, 48, 49, 60] [⟨0, ⟨(some 53), .load (some 2) (.t 3), none⟩, [], []⟩,
    ⟨1, ⟨(some 54), .load (some 4) (.t 4), none⟩, [], []⟩,
    ⟨2, ⟨(some 55), .mv (.t 9), none⟩, [], []⟩,
    ⟨3, ⟨(some 56), .call 166 [(.t 54), (.t 55)], none⟩, [0], [⟨(some 53), .load (some 2) (.t 3), none⟩]⟩,
    ⟨4, ⟨(some 57), .call 165 [(.t 53), (.t 56)], none⟩, [], []⟩,
    ⟨5, ⟨(some 58), .nilck (.t 57), none⟩, [], []⟩,
    ⟨6, ⟨(some 59), .faddr 6 (.t 58), none⟩, [], []⟩,
    ⟨7, ⟨(some 60), .load none (.t 59), none⟩, [], []⟩])
  (.cond (.t 60)
  (.seq [6] (.reg [⟨(some 6), .mv (.c (.b false)), none⟩])
  .ret)
  .skip))))
  (.reg [⟨(some 61), .bin .add (.t 49) (.c (.i .i64 1)), none⟩,
    ⟨(some 49), .mv (.t 61), none⟩])))))))
  (.seq [7] (.seq [7, 63] (.reg [⟨(some 62), .mv (.t 2), none⟩,
    ⟨(some 63), .bin .eql (.t 62) (.c (.i .i64 2)), none⟩])
  (.cond (.t 63)
  (.seq [6] (.reg [⟨(some 64), .mv (.t 7), none⟩,
    ⟨(some 65), .nilck (.t 64), none⟩,
    ⟨(some 66), .faddr 5 (.t 65), none⟩,
    ⟨(some 67), .load none (.t 66), none⟩,
    ⟨(some 68), .not (.t 67), none⟩,
    ⟨(some 6), .mv (.t 68), none⟩])
  .ret)
  .skip))
  (.seq [7, 10] (.reg [⟨(some 69), .mv (.t 7), none⟩,
    ⟨(some 70), .nilck (.t 69), none⟩,
    ⟨(some 71), .faddr 2 (.t 70), none⟩,
    ⟨(some 72), .load none (.t 71), none⟩,
    ⟨(some 10), .mv (.t 72), none⟩])
  (.seq [7, 10] (.block 2 (.loop [7, 10] (.seq [7, 10] (.seq [7, 10, 78] (.reg [⟨(some 73), .mv (.t 7), none⟩,
    ⟨(some 74), .nilck (.t 73), none⟩,
    ⟨(some 75), .faddr 4 (.t 74), none⟩,
    ⟨(some 76), .load none (.t 75), none⟩,
    ⟨(some 77), .mv (.t 10), none⟩,
    ⟨(some 78), .call 67 [(.t 76), (.t 77)], none⟩])
  (.cond (.t 78)
  .skip
  (.exit 2)))
  (.block 3 (.reg [⟨(some 79), .mv (.t 10), none⟩,
    ⟨(some 80), .bin .add (.t 79) (.c (.i .i64 1)), none⟩,
    ⟨(some 10), .mv (.t 80), none⟩])))))
  (.seq [6] (.reg [⟨(some 81), .mv (.t 10), none⟩,
    ⟨(some 82), .mv (.t 7), none⟩,
    ⟨(some 83), .nilck (.t 82), none⟩,
    ⟨(some 84), .faddr 3 (.t 83), none⟩,
    ⟨(some 85), .load none (.t 84), none⟩,
    ⟨(some 86), .bin .leq (.t 81) (.t 85), none⟩,
    ⟨(some 6), .mv (.t 86), none⟩])
  .ret))))))))
theorem ree168 : Tryz.f168.body.bind (res Tryz.prog Tryz.f168.ntmps [] []) = some (erase ae168) := by kernel_rfl
def fs168 : FnS := .fn 87 ae168 [.t 6]
theorem fsok168 : FnOk Tryz.prog 168 fs168 := fun _ _ _ hn h => ctr_of_resC Tryz.func168 (by kernel_rfl) ree168 (by kernel_rfl) hn h
abbrev ae169 : ACode := (.seq [2, 3, 4, 5] (.reg [⟨(some 4), .box (.t 0), none⟩,
    ⟨(some 5), .box (.t 1), none⟩,
    ⟨(some 8), .mv (.c (.b false)), none⟩])
  (.seq [2, 3, 4, 5, 9] (.reg [⟨(some 14), .load (some 2) (.t 4), none⟩,
    ⟨(some 15), .load (some 4) (.t 5), none⟩,
    ⟨(some 16), .call 165 [(.t 14), (.t 15)], none⟩,
    ⟨(some 9), .mv (.t 16), none⟩])
  (.seq [2, 3, 4, 5, 9] (.seq [2, 3, 4, 5, 9, 38] (.reg [⟨(some 17), .mv (.t 9), none⟩,
    ⟨(some 18), .nilck (.t 17), none⟩,
    ⟨(some 19), .faddr 5 (.t 18), none⟩,
    ⟨(some 20), .load none (.t 19), none⟩,
    ⟨(some 21), .mv (.t 20), none⟩,
    ⟨(some 22), .mv (.t 9), (some (21, false))⟩,
    ⟨(some 23), .nilck (.t 22), (some (21, false))⟩,
    ⟨(some 24), .faddr 0 (.t 23), (some (21, false))⟩,
    ⟨(some 25), .load none (.t 24), (some (21, false))⟩,
    ⟨(some 26), .mv (.t 2), (some (21, false))⟩,
    ⟨(some 27), .bin .andNot (.t 25) (.t 26), (some (21, false))⟩,
    ⟨(some 28), .bin .neq (.t 27) (.c (.i .u64 0)), (some (21, false))⟩,
    ⟨(some 29), .pick (.t 21) (.c (.b true)) (.t 28), none⟩,
    ⟨(some 30), .mv (.t 29), none⟩,
    ⟨(some 31), .mv (.t 9), (some (30, false))⟩,
    ⟨(some 32), .nilck (.t 31), (some (30, false))⟩,
    ⟨(some 33), .faddr 1 (.t 32), (some (30, false))⟩,
    ⟨(some 34), .load none (.t 33), (some (30, false))⟩,
    ⟨(some 35), .mv (.t 2), (some (30, false))⟩,
    ⟨(some 36), .bin .and (.t 34) (.t 35), (some (30, false))⟩,
    ⟨(some 37), .bin .neq (.t 36) (.c (.i .u64 0)), (some (30, false))⟩,
    ⟨(some 38), .pick (.t 30) (.c (.b true)) (.t 37), none⟩])
  (.cond (.t 38)
  (.seq [8] (.reg [⟨(some 8), .mv (.c (.b false)), none⟩])
  .ret)
  .skip))
  (.seq [] (.seq [2, 3, 4, 5, 42, 43, 44] (.reg [⟨(some 39), .mv (.t 9), none⟩,
    ⟨(some 40), .nilck (.t 39), none⟩,
    ⟨(some 41), .faddr 7 (.t 40), none⟩,
    ⟨(some 42), .load none (.t 41), none⟩,
    ⟨(some 43), .len (.t 42), none⟩,
    ⟨(some 44), .mv (.c (.i .i64 0)), none⟩])
  (.block 0 (.loop [2, 3, 4, 5, 42, 43, 44] (.seq [2, 3, 4, 5, 42, 43, 44, 45] (.reg [⟨(some 45), .bin .lss (.t 44) (.t 43), none⟩])
  (.seq [2, 3, 4, 5, 42, 43, 44] (.cond (.t 45)
  .skip
  (.exit 0))
  (.seq [2, 3, 4, 5, 42, 43, 44] (.block 1 (.seq [2, 3, 4, 5, 11, 42, 43, 44] (.reg [⟨(some 46), .iaddr 1 none (.t 42) (.t 44), none⟩,
    ⟨(some 47), .load none (.t 46), none⟩,
    ⟨(some 11), .mv (.t 47), none⟩])
  (.seq [2, 3, 4, 5, 11, 12, 42, 43, 44] (.reg [⟨(some 48), .load (some 4) (.t 5), none⟩,
    ⟨(some 49), .mv (.t 11), none⟩,
    ⟨(some 50), .call 166 [(.t 48), (.t 49)], none⟩,
    ⟨(some 12), .alloc [(.i .i64 0), (.i .i64 0), (.i .i64 0), (.i .i64 0)], none⟩,
    ⟨none, .store 4 (.t 12) (.t 50), none⟩])
  (.seq [2, 3, 4, 5, 12, 13, 42, 43, 44] (.reg [⟨(some 51), .mv (.t 2), none⟩,
    ⟨(some 52), .faddr 0 (.t 4), none⟩,
    ⟨(some 53), .load none (.t 52), none⟩,
    ⟨(some 54), .nilck (.t 53), none⟩,
    ⟨(some 55), .faddr 0 (.t 54), none⟩,
    ⟨(some 56), .faddr 1 (.t 55), none⟩,
    ⟨(some 57), .load none (.t 56), none⟩,
    ⟨(some 58), .mv (.t 11), none⟩,
    ⟨(some 59), .iaddr 1 none (.t 57) (.t 58), none⟩,
    ⟨(some 60), .load none (.t 59), none⟩,
    ⟨(some 61), .call 114 [(.t 51), (.t 60)], none⟩,
    ⟨(some 13), .mv (.t 61), none⟩])
  (.seq [2, 3, 4, 5, 42, 43, 44, 80] (.reg [⟨(some 62), .mv (.t 13), none⟩,
    ⟨(some 63), .mv (.t 62), none⟩,
    ⟨(some 64), .mv (.t 3), (some (63, true))⟩,
    ⟨(some 65), .load (some 4) (.t 12), (some (63, true))⟩,
    ⟨(some 66), .callv (.t 64) [(.t 65)], (some (63, true))⟩,
    ⟨(some 67), .not (.t 66), (some (63, true))⟩,
    ⟨(some 68), .pick (.t 63) (.t 67) (.c (.b false)), none⟩,
    ⟨(some 69), .mv (.t 68), none⟩,
    ⟨(some 70), .mv (.t 13), (some (69, false))⟩,
    ⟨(some 71), .not (.t 70), (some (69, false))⟩,
    ⟨(some 72), .mv (.t 71), (some (69, false))⟩,
    ⟨(some 73), .load (some 2) (.t 4), (some (72, true))⟩,
    ⟨(some 74), .load (some 4) (.t 12), (some (72, true))⟩,
    ⟨(some 75), .call 165 [(.t 73), (.t 74)], (some (72, true))⟩,
    ⟨(some 76), .nilck (.t 75), (some (72, true))⟩,
    ⟨(some 77), .faddr 6 (.t 76), (some (72, true))⟩,
    ⟨(some 78), .load none (.t 77), (some (72, true))⟩,
    ⟨(some 79), .pick (.t 72) (.t 78) (.c (.b false)), (some (69, false))⟩,
    ⟨(some 80), .pick (.t 69) (.c (.b true)) (.t 79), none⟩])
  (.cond (.t 80)
  (.seq [8] (.reg [⟨(some 8), .mv (.c (.b false)), none⟩])
  .ret)
  .skip))))))
  (.reg [⟨(some 81), .bin .add (.t 44) (.c (.i .i64 1)), none⟩,
    ⟨(some 44), .mv (.t 81), none⟩])))))))
  (.seq [8] (.reg [⟨(some 8), .mv (.c (.b true)), none⟩])
  .ret)))))
theorem ree169 : Tryz.f169.body.bind (res Tryz.prog Tryz.f169.ntmps [] []) = some (erase ae169) := by kernel_rfl
def fs169 : FnS := .fn 82 ae169 [.t 8]
theorem fsok169 : FnOk Tryz.prog 169 fs169 := fun _ _ _ hn h => ctr_of_resC Tryz.func169 (by kernel_rfl) ree169 (by kernel_rfl) hn h
abbrev ae159 : ACode := (.seq [2, 3, 4, 5] (.reg [⟨(some 4), .box (.t 0), none⟩,
    ⟨(some 5), .box (.t 1), none⟩,
    ⟨(some 6), .mv (.c (.b false)), none⟩])
  (.seq [2, 3, 4, 5, 7] (.reg [⟨(some 7), .alloc [.fnil], none⟩])
  (.seq [7] (.reg [⟨(some 8), .mkf (.func 160) [] [(.t 2), (.t 5), (.t 3), (.t 4), (.t 7)], none⟩,
    ⟨none, .store 1 (.t 7) (.t 8), none⟩])
  (.seq [6] (.reg [⟨(some 9), .load none (.t 7), none⟩,
    ⟨(some 10), .callv (.t 9) [(.c (.i .i64 0)), (.c (.l [] true))], none⟩,
    ⟨(some 6), .mv (.t 10), none⟩])
  .ret))))
theorem ree159 : Tryz.f159.body.bind (res Tryz.prog Tryz.f159.ntmps [] []) = some (erase ae159) := by kernel_rfl
def fs159 : FnS := .fn 11 ae159 [.t 6]
theorem fsok159 : FnOk Tryz.prog 159 fs159 := fun _ _ _ hn h => ctr_of_resC Tryz.func159 (by kernel_rfl) ree159 (by kernel_rfl) hn h
abbrev ae163 : ACode := (.seq [0, 1, 2, 3, 4, 5] (.reg [⟨(some 8), .mv (.c (.b false)), none⟩])
  (.seq [0, 1, 5] (.block 0 (.seq [0, 1, 3, 4, 5, 9] (.reg [⟨(some 10), .load none (.t 2), none⟩,
    ⟨(some 11), .mv (.t 0), none⟩,
    ⟨(some 12), .mv (.t 1), none⟩,
    ⟨(some 13), .callv (.t 10) [(.t 11), (.t 12)], none⟩,
    ⟨(some 14), .not (.t 13), none⟩,
    ⟨(some 9), .mv (.t 14), none⟩])
  (.cond (.t 9)
  (.seq [8] (.reg [⟨(some 8), .mv (.c (.b true)), none⟩])
  .ret)
  (.seq [0, 1, 4, 5, 15] (.reg [⟨(some 16), .mv (.t 1), none⟩,
    ⟨(some 17), .faddr 7 (.t 3), none⟩,
    ⟨(some 18), .load none (.t 17), none⟩,
    ⟨(some 19), .len (.t 18), none⟩,
    ⟨(some 20), .bin .eql (.t 16) (.t 19), none⟩,
    ⟨(some 15), .mv (.t 20), none⟩])
  (.cond (.t 15)
  (.seq [8] (.reg [⟨(some 21), .load none (.t 4), none⟩,
    ⟨(some 22), .mv (.t 0), none⟩,
    ⟨(some 23), .callv (.t 21) [(.t 22)], none⟩,
    ⟨(some 8), .mv (.t 23), none⟩])
  .ret)
  .skip)))))
  (.seq [8] (.dreg [8] [⟨0, ⟨(some 24), .load none (.t 5), none⟩, [], []⟩,
    ⟨1, ⟨(some 25), .mv (.t 0), none⟩, [], []⟩,
    ⟨2, ⟨(some 26), .mv (.t 1), none⟩, [], []⟩,
    ⟨3, ⟨(some 27), .bin .add (.t 26) (.c (.i .i64 1)), none⟩, [], []⟩,
    ⟨4, ⟨(some 28), .callv (.t 24) [(.t 25), (.t 27)], none⟩, [], []⟩,
    ⟨5, ⟨(some 29), .mv (.t 28), none⟩, [], []⟩,
    ⟨6, ⟨(some 30), .load none (.t 5), (some (29, true))⟩, [], []⟩,
    ⟨7, ⟨(some 31), .mv (.t 0), (some (29, true))⟩, [], []⟩,
    ⟨8, ⟨(some 32), .mv (.t 1), (some (29, true))⟩, [], []⟩,
    ⟨10, ⟨(some 34), .mv (.t 1), (some (29, true))⟩, [], []⟩,
    ⟨11, ⟨(some 35), .bin .add (.t 34) (.c (.i .i64 1)), (some (29, true))⟩, [], []⟩,
    ⟨9, ⟨(some 33), .call 164 [(.t 31), (.t 32)], (some (29, true))⟩, [6], [⟨(some 30), .load none (.t 5), (some (29, true))⟩]⟩,
    ⟨12, ⟨(some 36), .callv (.t 30) [(.t 33), (.t 35)], (some (29, true))⟩, [], []⟩,
    ⟨13, ⟨(some 37), .pick (.t 29) (.t 36) (.c (.b false)), none⟩, [], []⟩,
    ⟨14, ⟨(some 8), .mv (.t 37), none⟩, [], []⟩])
  .ret)))
theorem ree163 : Tryz.f163.body.bind (res Tryz.prog Tryz.f163.ntmps [] []) = some (erase ae163) := by kernel_rfl
def fs163 : FnS := .fn 38 ae163 [.t 8]
theorem fsok163 : FnOk Tryz.prog 163 fs163 := fun _ _ _ hn h => ctr_of_resC Tryz.func163 (by kernel_rfl) ree163 (by kernel_rfl) hn h
abbrev ae190 : ACode := (.seq [1, 2] (.reg [⟨(some 2), .box (.t 0), none⟩,
    ⟨(some 4), .mv (.c (.b false)), none⟩])
  (.seq [4] (.reg [⟨(some 5), .load none (.t 2), none⟩,
    ⟨(some 6), .eqn 0 true (.t 5), none⟩,
    ⟨(some 7), .mv (.t 6), none⟩,
    ⟨(some 8), .mv (.t 1), (some (7, true))⟩,
    ⟨(some 9), .mkf (.func 238) [] [(.t 2)], (some (7, true))⟩,
    ⟨(some 10), .call 46 [(.t 8), (.t 9)], (some (7, true))⟩,
    ⟨(some 11), .not (.t 10), (some (7, true))⟩,
    ⟨(some 12), .pick (.t 7) (.t 11) (.c (.b false)), none⟩,
    ⟨(some 4), .mv (.t 12), none⟩])
  .ret))
theorem ree190 : Tryz.f190.body.bind (res Tryz.prog Tryz.f190.ntmps [] []) = some (erase ae190) := by kernel_rfl
def fs190 : FnS := .fn 13 ae190 [.t 4]
theorem fsok190 : FnOk Tryz.prog 190 fs190 := fun _ _ _ hn h => ctr_of_resC Tryz.func190 (by kernel_rfl) ree190 (by kernel_rfl) hn h
abbrev ae191 : ACode := (.seq [0, 1, 2] (.reg [⟨(some 6), .mv (.c (.b false)), none⟩])
  (.seq [7, 8] (.dreg [7, 8] [⟨0, ⟨(some 9), .mv (.t 0), none⟩, [], []⟩,
    ⟨1, ⟨(some 10), .nilck (.t 9), none⟩, [], []⟩,
    ⟨2, ⟨(some 11), .faddr 0 (.t 10), none⟩, [], []⟩,
    ⟨3, ⟨(some 12), .faddr 3 (.t 11), none⟩, [], []⟩,
    ⟨4, ⟨(some 13), .load none (.t 12), none⟩, [], []⟩,
    ⟨5, ⟨(some 14), .mv (.t 1), none⟩, [], []⟩,
    ⟨6, ⟨(some 15), .iaddr 9 none (.t 13) (.t 14), none⟩, [], []⟩,
    ⟨7, ⟨(some 16), .load (some 9) (.t 15), none⟩, [], []⟩,
    ⟨8, ⟨(some 17), .mv (.t 0), none⟩, [], []⟩,
    ⟨9, ⟨(some 18), .nilck (.t 17), none⟩, [], []⟩,
    ⟨10, ⟨(some 19), .faddr 0 (.t 18), none⟩, [], []⟩,
    ⟨11, ⟨(some 20), .faddr 3 (.t 19), none⟩, [], []⟩,
    ⟨12, ⟨(some 21), .load none (.t 20), none⟩, [], []⟩,
    ⟨13, ⟨(some 22), .mv (.t 2), none⟩, [], []⟩,
    ⟨14, ⟨(some 23), .iaddr 9 none (.t 21) (.t 22), none⟩, [], []⟩,
    ⟨15, ⟨(some 24), .load (some 9) (.t 23), none⟩, [], []⟩,
    ⟨16, ⟨(some 7), .alloc [(.i .i64 0), (.i .i64 0), (.i .i64 0), (.i .i64 0), (.l [] true), (.i .i64 0), (.i .i64 0), (.l [] true), (.i .i64 0)], none⟩, [], []⟩,
    ⟨17, ⟨(some 8), .alloc [(.i .i64 0), (.i .i64 0), (.i .i64 0), (.i .i64 0), (.l [] true), (.i .i64 0), (.i .i64 0), (.l [] true), (.i .i64 0)], none⟩, [], []⟩,
    ⟨18, ⟨none, .store 9 (.t 7) (.t 16), none⟩, [15, 12], [⟨(some 24), .load (some 9) (.t 23), none⟩, ⟨(some 21), .load none (.t 20), none⟩]⟩,
    ⟨19, ⟨none, .store 9 (.t 8) (.t 24), none⟩, [], []⟩])
  (.seq [6] (.reg [⟨(some 25), .faddr 1 (.t 7), none⟩,
    ⟨(some 26), .load none (.t 25), none⟩,
    ⟨(some 27), .faddr 1 (.t 8), none⟩,
    ⟨(some 28), .load none (.t 27), none⟩,
    ⟨(some 29), .bin .eql (.t 26) (.t 28), none⟩,
    ⟨(some 30), .mv (.t 29), none⟩,
    ⟨(some 31), .faddr 0 (.t 7), (some (30, true))⟩,
    ⟨(some 32), .load none (.t 31), (some (30, true))⟩,
    ⟨(some 33), .faddr 0 (.t 8), (some (30, true))⟩,
    ⟨(some 34), .load none (.t 33), (some (30, true))⟩,
    ⟨(some 35), .bin .eql (.t 32) (.t 34), (some (30, true))⟩,
    ⟨(some 36), .pick (.t 30) (.t 35) (.c (.b false)), none⟩,
    ⟨(some 6), .mv (.t 36), none⟩])
  .ret)))
theorem ree191 : Tryz.f191.body.bind (res Tryz.prog Tryz.f191.ntmps [] []) = some (erase ae191) := by kernel_rfl
def fs191 : FnS := .fn 37 ae191 [.t 6]
theorem fsok191 : FnOk Tryz.prog 191 fs191 := fun _ _ _ hn h => ctr_of_resC Tryz.func191 (by kernel_rfl) ree191 (by kernel_rfl) hn h
abbrev ae192 : ACode := (.seq [0, 1] (.reg [⟨(some 4), .mv (.c (.l [] true)), none⟩,
    ⟨(some 5), .mv (.c (.b false)), none⟩])
  (.scope (.seq [0, 1, 6] (.reg [⟨(some 6), .mv (.c (.l [] true)), none⟩])
  (.seq [0, 1, 6] .skip
  (.seq [6] (.block 0 (.loop [0, 1, 6] (.seq [0, 1, 6] (.seq [0, 1, 6, 13] (.reg [⟨(some 11), .mv (.t 1), none⟩,
    ⟨(some 12), .len (.t 11), none⟩,
    ⟨(some 13), .bin .gtr (.t 12) (.c (.i .i64 0)), none⟩])
  (.cond (.t 13)
  .skip
  (.exit 0)))
  (.block 1 (.scope (.seq [0, 1, 6] .skip
  (.seq [6] (.seq [0, 1, 6, 14, 15, 16] (.reg [⟨(some 14), .mv (.t 1), none⟩,
    ⟨(some 15), .len (.t 14), none⟩,
    ⟨(some 16), .mv (.c (.i .i64 0)), none⟩])
  (.block 2 (.loop [0, 1, 6, 14, 15, 16] (.seq [0, 1, 6, 14, 15, 16, 17] (.reg [⟨(some 17), .bin .lss (.t 16) (.t 15), none⟩])
  (.seq [0, 1, 6, 14, 15, 16] (.cond (.t 17)
  .skip
  (.exit 2))
  (.seq [0, 1, 6, 14, 15, 16] (.block 3 (.seq [0, 1, 6, 8, 14, 15, 16] (.reg [⟨(some 18), .iaddr 1 none (.t 14) (.t 16), none⟩,
    ⟨(some 19), .load none (.t 18), none⟩,
    ⟨(some 8), .mv (.t 19), none⟩])
  (.seq [0, 1, 6, 8] (.seq [0, 1, 6, 8, 14, 15, 16, 20, 21, 22] (.reg [⟨(some 20), .mv (.t 1), none⟩,
    ⟨(some 21), .len (.t 20), none⟩,
    ⟨(some 22), .mv (.c (.i .i64 0)), none⟩])
  (.block 4 (.loop [0, 1, 6, 8, 14, 15, 16, 20, 21, 22] (.seq [0, 1, 6, 8, 14, 15, 16, 20, 21, 22, 23] (.reg [⟨(some 23), .bin .lss (.t 22) (.t 21), none⟩])
  (.seq [0, 1, 6, 8, 14, 15, 16, 20, 21, 22] (.cond (.t 23)
  .skip
  (.exit 4))
  (.seq [0, 1, 6, 8, 14, 15, 16, 20, 21, 22] (.block 5 (.seq [0, 1, 6, 8, 10, 14, 15, 16, 20, 21, 22] (.reg [⟨(some 24), .iaddr 1 none (.t 20) (.t 22), none⟩,
    ⟨(some 25), .load none (.t 24), none⟩,
    ⟨(some 10), .mv (.t 25), none⟩])
  (.seq [0, 1, 6, 8, 14, 15, 16, 20, 21, 22, 35] (.reg [⟨(some 26), .mv (.t 8), none⟩,
    ⟨(some 27), .mv (.t 10), none⟩,
    ⟨(some 28), .bin .neq (.t 26) (.t 27), none⟩,
    ⟨(some 29), .mv (.t 28), none⟩,
    ⟨(some 30), .mv (.t 0), (some (29, true))⟩,
    ⟨(some 31), .mv (.t 8), (some (29, true))⟩,
    ⟨(some 32), .mv (.t 10), (some (29, true))⟩,
    ⟨(some 33), .call 239 [(.t 30), (.t 31), (.t 32)], (some (29, true))⟩,
    ⟨(some 34), .not (.t 33), (some (29, true))⟩,
    ⟨(some 35), .pick (.t 29) (.t 34) (.c (.b false)), none⟩])
  (.cond (.t 35)
  (.exit 3)
  .skip))))
  (.reg [⟨(some 36), .bin .add (.t 22) (.c (.i .i64 1)), none⟩,
    ⟨(some 22), .mv (.t 36), none⟩])))))))
  (.seq [0, 1, 6, 8] (.reg [⟨(some 37), .mv (.t 6), none⟩,
    ⟨(some 38), .mv (.t 8), none⟩,
    ⟨(some 39), .bslice 1 1 [(.i .i64 0)] [(0, (.t 38))], none⟩,
    ⟨(some 40), .append 1 8 (.t 37) (.t 39), none⟩,
    ⟨(some 6), .mv (.t 40), none⟩])
  (.seq [0, 1, 6] (.reg [⟨(some 41), .mv (.t 1), none⟩,
    ⟨(some 42), .mv (.t 8), none⟩,
    ⟨(some 43), .call 240 [(.t 41), (.t 42)], none⟩,
    ⟨(some 1), .mv (.t 43), none⟩])
  (.exit 1))))))
  (.reg [⟨(some 44), .bin .add (.t 16) (.c (.i .i64 1)), none⟩,
    ⟨(some 16), .mv (.t 44), none⟩])))))))
  (.seq [4, 5] (.reg [⟨(some 45), .mv (.t 6), none⟩,
    ⟨(some 46), .call 241 [(.t 45)], none⟩,
    ⟨(some 4), .mv (.t 46), none⟩,
    ⟨(some 5), .mv (.c (.b true)), none⟩])
  .ret))))))))
  (.seq [4, 5] (.reg [⟨(some 47), .mv (.t 6), none⟩,
    ⟨(some 48), .call 241 [(.t 47)], none⟩,
    ⟨(some 4), .mv (.t 48), none⟩,
    ⟨(some 5), .mv (.c (.b false)), none⟩])
  .ret))))))
theorem ree192 : Tryz.f192.body.bind (res Tryz.prog Tryz.f192.ntmps [] []) = some (erase ae192) := by kernel_rfl
def fs192 : FnS := .fn 49 ae192 [.t 4, .t 5]
theorem fsok192 : FnOk Tryz.prog 192 fs192 := fun _ _ _ hn h => ctr_of_resC Tryz.func192 (by kernel_rfl) ree192 (by kernel_rfl) hn h
abbrev ae193 : ACode := (.seq [2, 3] (.reg [⟨(some 2), .box (.t 0), none⟩,
    ⟨(some 3), .box (.t 1), none⟩,
    ⟨(some 4), .mv (.c (.l [] true)), none⟩])
  (.seq [2, 3] (.reg [⟨(some 8), .load none (.t 3), none⟩,
    ⟨(some 9), .call 243 [(.t 8)], none⟩,
    ⟨(some 10), .call 242 [(.t 9)], none⟩,
    ⟨none, .store 1 (.t 3) (.t 10), none⟩])
  (.seq [2, 3, 5] (.reg [⟨(some 5), .mv (.c (.l [] true)), none⟩])
  (.seq [5] (.block 0 (.loop [2, 3, 5] (.seq [2, 3, 5] (.seq [2, 3, 5, 13] (.reg [⟨(some 11), .load none (.t 3), none⟩,
    ⟨(some 12), .len (.t 11), none⟩,
    ⟨(some 13), .bin .gtr (.t 12) (.c (.i .i64 0)), none⟩])
  (.cond (.t 13)
  .skip
  (.exit 0)))
  (.block 1 (.seq [2, 3, 5, 6] (.reg [⟨(some 14), .load none (.t 3), none⟩,
    ⟨(some 15), .mkf (.func 244) [] [(.t 3), (.t 2)], none⟩,
    ⟨(some 16), .call 104 [(.t 14), (.t 15)], none⟩,
    ⟨(some 6), .mv (.t 16), none⟩])
  (.seq [2, 3, 5, 7] (.reg [⟨(some 17), .load none (.t 3), none⟩,
    ⟨(some 18), .mv (.t 6), none⟩,
    ⟨(some 19), .iaddr 1 none (.t 17) (.t 18), none⟩,
    ⟨(some 20), .load none (.t 19), none⟩,
    ⟨(some 7), .mv (.t 20), none⟩])
  (.seq [2, 3, 5, 7] (.reg [⟨(some 21), .mv (.t 5), none⟩,
    ⟨(some 22), .mv (.t 7), none⟩,
    ⟨(some 23), .bslice 1 1 [(.i .i64 0)] [(0, (.t 22))], none⟩,
    ⟨(some 24), .append 1 8 (.t 21) (.t 23), none⟩,
    ⟨(some 5), .mv (.t 24), none⟩])
  (.reg [⟨(some 25), .load none (.t 3), none⟩,
    ⟨(some 26), .mv (.t 7), none⟩,
    ⟨(some 27), .call 240 [(.t 25), (.t 26)], none⟩,
    ⟨none, .store 1 (.t 3) (.t 27), none⟩]))))))))
  (.seq [4] (.reg [⟨(some 28), .mv (.t 5), none⟩,
    ⟨(some 29), .call 241 [(.t 28)], none⟩,
    ⟨(some 4), .mv (.t 29), none⟩])
  .ret)))))
theorem ree193 : Tryz.f193.body.bind (res Tryz.prog Tryz.f193.ntmps [] []) = some (erase ae193) := by kernel_rfl
def fs193 : FnS := .fn 30 ae193 [.t 4]
theorem fsok193 : FnOk Tryz.prog 193 fs193 := fun _ _ _ hn h => ctr_of_resC Tryz.func193 (by kernel_rfl) ree193 (by kernel_rfl) hn h
abbrev ae150 : ACode := (.seq [0, 2, 3] (.reg [⟨(some 4), .mv (.t 0), none⟩,
    ⟨(some 5), .len (.t 4), none⟩,
    ⟨(some 6), .bin .sub (.t 5) (.c (.i .i64 1)), none⟩,
    ⟨(some 2), .mv (.c (.i .i64 0)), none⟩,
    ⟨(some 3), .mv (.t 6), none⟩])
  (.block 0 (.loop [0, 2, 3] (.seq [0, 2, 3] (.seq [0, 2, 3, 9] (.reg [⟨(some 7), .mv (.t 2), none⟩,
    ⟨(some 8), .mv (.t 3), none⟩,
    ⟨(some 9), .bin .lss (.t 7) (.t 8), none⟩])
  (.cond (.t 9)
  .skip
  (.exit 0)))
  (.seq [0, 2, 3] (.block 1 (.dreg [0, 2, 3] [⟨0, ⟨(some 14), .mv (.t 0), none⟩, [], []⟩,
    ⟨1, ⟨(some 15), .mv (.t 2), none⟩, [], []⟩,
    ⟨2, ⟨(some 16), .mv (.t 0), none⟩, [], []⟩,
    ⟨3, ⟨(some 17), .mv (.t 3), none⟩, [], []⟩,
    ⟨4, ⟨(some 18), .mv (.t 0), none⟩, [], []⟩,
    ⟨5, ⟨(some 19), .mv (.t 3), none⟩, [], []⟩,
    ⟨6, ⟨(some 20), .iaddr 1 none (.t 18) (.t 19), none⟩, [], []⟩,
    ⟨7, ⟨(some 21), .load none (.t 20), none⟩, [], []⟩,
    ⟨8, ⟨(some 22), .mv (.t 0), none⟩, [], []⟩,
    ⟨9, ⟨(some 23), .mv (.t 2), none⟩, [], []⟩,
    ⟨10, ⟨(some 24), .iaddr 1 none (.t 22) (.t 23), none⟩, [], []⟩,
    ⟨11, ⟨(some 25), .load none (.t 24), none⟩, [], []⟩,
    ⟨12, ⟨(some 26), .iaddr 1 none (.t 14) (.t 15), none⟩, [], []⟩,
    ⟨13, ⟨none, .store 1 (.t 26) (.t 21), none⟩, [], []⟩,
    ⟨14, ⟨(some 27), .iaddr 1 none (.t 16) (.t 17), none⟩, [], []⟩,
    ⟨15, ⟨none, .store 1 (.t 27) (.t 25), none⟩, [], []⟩]))
  (.reg [⟨(some 10), .mv (.t 2), none⟩,
    ⟨(some 11), .bin .add (.t 10) (.c (.i .i64 1)), none⟩,
    ⟨(some 12), .mv (.t 3), none⟩,
    ⟨(some 13), .bin .sub (.t 12) (.c (.i .i64 1)), none⟩,
    ⟨(some 2), .mv (.t 11), none⟩,
    ⟨(some 3), .mv (.t 13), none⟩]))))))
theorem ree150 : Tryz.f150.body.bind (res Tryz.prog Tryz.f150.ntmps [] []) = some (erase ae150) := by kernel_rfl
def fs150 : FnS := .fn 28 ae150 []
theorem fsok150 : FnOk Tryz.prog 150 fs150 := fun _ _ _ hn h => ctr_of_resC Tryz.func150 (by kernel_rfl) ree150 (by kernel_rfl) hn h
abbrev ae195 : ACode := (.seq [0, 1] (.reg [⟨(some 8), .load (some 6) (.t 0), none⟩,
    ⟨(some 9), .call 196 [(.t 8)], none⟩])
  (.seq [0, 1] (.reg [⟨(some 10), .faddr 2 (.t 0), none⟩,
    ⟨(some 11), .load none (.t 10), none⟩,
    ⟨(some 12), .len (.t 11), none⟩,
    ⟨(some 13), .bin .leq (.t 12) (.c (.i .i64 8)), none⟩,
    ⟨(some 14), .mv (.t 13), none⟩,
    ⟨(some 15), .faddr 3 (.t 0), (some (14, true))⟩,
    ⟨(some 16), .load none (.t 15), (some (14, true))⟩,
    ⟨(some 17), .len (.t 16), (some (14, true))⟩,
    ⟨(some 18), .bin .leq (.t 17) (.c (.i .i64 16)), (some (14, true))⟩,
    ⟨(some 19), .pick (.t 14) (.t 18) (.c (.b false)), none⟩,
    ⟨(some 20), .mv (.t 19), none⟩,
    ⟨(some 21), .faddr 4 (.t 0), (some (20, true))⟩,
    ⟨(some 22), .load none (.t 21), (some (20, true))⟩,
    ⟨(some 23), .len (.t 22), (some (20, true))⟩,
    ⟨(some 24), .bin .geq (.t 23) (.c (.i .i64 1)), (some (20, true))⟩,
    ⟨(some 25), .pick (.t 20) (.t 24) (.c (.b false)), none⟩,
    ⟨(some 26), .mv (.t 25), none⟩,
    ⟨(some 27), .faddr 4 (.t 0), (some (26, true))⟩,
    ⟨(some 28), .load none (.t 27), (some (26, true))⟩,
    ⟨(some 29), .len (.t 28), (some (26, true))⟩,
    ⟨(some 30), .bin .leq (.t 29) (.c (.i .i64 120)), (some (26, true))⟩,
    ⟨(some 31), .pick (.t 26) (.t 30) (.c (.b false)), none⟩,
    ⟨(some 32), .call 197 [(.t 31)], none⟩])
  (.seq [0, 1] (.seq [0, 1, 34, 35, 36] (.reg [⟨(some 33), .faddr 2 (.t 0), none⟩,
    ⟨(some 34), .load none (.t 33), none⟩,
    ⟨(some 35), .len (.t 34), none⟩,
    ⟨(some 36), .mv (.c (.i .i64 0)), none⟩])
  (.block 0 (.loop [0, 1, 34, 35, 36] (.seq [0, 1, 34, 35, 36, 37] (.reg [⟨(some 37), .bin .lss (.t 36) (.t 35), none⟩])
  (.seq [0, 1, 34, 35, 36] (.cond (.t 37)
  .skip
  (.exit 0))
  (.seq [0, 1, 34, 35, 36] (.block 1 (.seq [0, 1, 3, 34, 35, 36] (.reg [⟨(some 38), .iaddr 1 none (.t 34) (.t 36), none⟩,
    ⟨(some 39), .load none (.t 38), none⟩,
    ⟨(some 3), .mv (.t 39), none⟩])
  (.reg [⟨(some 40), .mv (.t 3), none⟩,
    ⟨(some 41), .bin .geq (.t 40) (.c (.i .i64 1)), none⟩,
    ⟨(some 42), .mv (.t 41), none⟩,
    ⟨(some 43), .mv (.t 3), (some (42, true))⟩,
    ⟨(some 44), .bin .leq (.t 43) (.c (.i .i64 3)), (some (42, true))⟩,
    ⟨(some 45), .pick (.t 42) (.t 44) (.c (.b false)), none⟩,
    ⟨(some 46), .call 197 [(.t 45)], none⟩])))
  (.reg [⟨(some 47), .bin .add (.t 36) (.c (.i .i64 1)), none⟩,
    ⟨(some 36), .mv (.t 47), none⟩])))))))
  (.seq [0, 1] (.reg [⟨(some 48), .bslice 1 1 [(.i .i64 0)] [(0, (.c (.i .i64 (-1))))], none⟩,
    ⟨(some 49), .faddr 4 (.t 0), none⟩,
    ⟨(some 50), .load none (.t 49), none⟩,
    ⟨(some 51), .len (.t 50), none⟩,
    ⟨(some 52), .call 60 [(.t 48), (.t 51)], none⟩,
    ⟨none, .store 1 (.t 1) (.t 52), none⟩])
  (.seq [0, 1, 4] (.reg [⟨(some 53), .mkf (.func 198) [] [(.t 0), (.t 1)], none⟩,
    ⟨(some 4), .mv (.t 53), none⟩])
  (.seq [0, 1, 4, 5] (.reg [⟨(some 54), .load (some 6) (.t 0), none⟩,
    ⟨(some 55), .call 118 [(.t 54)], none⟩,
    ⟨(some 5), .alloc [(.l [] true), (.l [] true)], none⟩,
    ⟨none, .store 2 (.t 5) (.t 55), none⟩])
  (.seq [0, 1, 4] (.seq [0, 1, 4, 5, 57, 58, 59] (.reg [⟨(some 56), .faddr 3 (.t 0), none⟩,
    ⟨(some 57), .load none (.t 56), none⟩,
    ⟨(some 58), .len (.t 57), none⟩,
    ⟨(some 59), .mv (.c (.i .i64 0)), none⟩])
  (.block 2 (.loop [0, 1, 4, 5, 57, 58, 59] (.seq [0, 1, 4, 5, 57, 58, 59, 60] (.reg [⟨(some 60), .bin .lss (.t 59) (.t 58), none⟩])
  (.seq [0, 1, 4, 5, 57, 58, 59] (.cond (.t 60)
  .skip
  (.exit 2))
  (.seq [0, 1, 4, 5, 57, 58, 59] (.block 3 (.seq [0, 1, 4, 5, 7, 57, 58, 59] (.reg [⟨(some 61), .iaddr 9 none (.t 57) (.t 59), none⟩,
    ⟨(some 62), .load (some 9) (.t 61), none⟩,
    ⟨(some 7), .alloc [(.i .i64 0), (.i .i64 0), (.i .i64 0), (.i .i64 0), (.l [] true), (.i .i64 0), (.i .i64 0), (.l [] true), (.i .i64 0)], none⟩,
    ⟨none, .store 9 (.t 7) (.t 62), none⟩])
  (.seq [0, 1, 4, 5, 7, 57, 58, 59] (.reg [⟨(some 63), .faddr 0 (.t 7), none⟩,
    ⟨(some 64), .load none (.t 63), none⟩,
    ⟨(some 65), .bin .geq (.t 64) (.c (.i .i64 1)), none⟩,
    ⟨(some 66), .mv (.t 65), none⟩,
    ⟨(some 67), .faddr 0 (.t 7), (some (66, true))⟩,
    ⟨(some 68), .load none (.t 67), (some (66, true))⟩,
    ⟨(some 69), .bin .leq (.t 68) (.c (.i .i64 4)), (some (66, true))⟩,
    ⟨(some 70), .pick (.t 66) (.t 69) (.c (.b false)), none⟩,
    ⟨(some 71), .mv (.t 70), none⟩,
    ⟨(some 72), .faddr 1 (.t 7), (some (71, true))⟩,
    ⟨(some 73), .load none (.t 72), (some (71, true))⟩,
    ⟨(some 74), .bin .geq (.t 73) (.c (.i .i64 0)), (some (71, true))⟩,
    ⟨(some 75), .pick (.t 71) (.t 74) (.c (.b false)), none⟩,
    ⟨(some 76), .mv (.t 75), none⟩,
    ⟨(some 77), .faddr 1 (.t 7), (some (76, true))⟩,
    ⟨(some 78), .load none (.t 77), (some (76, true))⟩,
    ⟨(some 79), .faddr 2 (.t 0), (some (76, true))⟩,
    ⟨(some 80), .load none (.t 79), (some (76, true))⟩,
    ⟨(some 81), .len (.t 80), (some (76, true))⟩,
    ⟨(some 82), .bin .lss (.t 78) (.t 81), (some (76, true))⟩,
    ⟨(some 83), .pick (.t 76) (.t 82) (.c (.b false)), none⟩,
    ⟨(some 84), .call 197 [(.t 83)], none⟩])
  (.seq [0, 1, 4, 5, 7, 57, 58, 59] (.dreg [0, 1, 4, 5, 7, 57, 58, 59] [⟨0, ⟨(some 85), .load (some 2) (.t 5), none⟩, [], []⟩,
    ⟨1, ⟨(some 86), .faddr 2 (.t 7), none⟩, [], []⟩,
    ⟨2, ⟨(some 87), .load (some 6) (.t 86), none⟩, [], []⟩,
    ⟨3, ⟨(some 88), .call 116 [(.t 85), (.t 87)], none⟩, [], []⟩,
    ⟨4, ⟨(some 89), .bin .eql (.t 88) (.c (.i .i64 0)), none⟩, [], []⟩,
    ⟨5, ⟨(some 90), .mv (.t 89), none⟩, [], []⟩,
    ⟨6, ⟨(some 91), .faddr 2 (.t 7), (some (90, true))⟩, [], []⟩,
    ⟨7, ⟨(some 92), .load (some 6) (.t 91), (some (90, true))⟩, [], []⟩,
    ⟨9, ⟨(some 94), .faddr 2 (.t 0), (some (90, true))⟩, [], []⟩,
    ⟨10, ⟨(some 95), .load none (.t 94), (some (90, true))⟩, [], []⟩,
    ⟨11, ⟨(some 96), .faddr 1 (.t 7), (some (90, true))⟩, [], []⟩,
    ⟨12, ⟨(some 97), .load none (.t 96), (some (90, true))⟩, [], []⟩,
    ⟨13, ⟨(some 98), .iaddr 1 none (.t 95) (.t 97), (some (90, true))⟩, [], []⟩,
    ⟨14, ⟨(some 99), .load none (.t 98), (some (90, true))⟩, [], []⟩,
    ⟨8, ⟨(some 93), .call 202 [(.t 92)], (some (90, true))⟩, [14, 12, 10], [⟨(some 99), .load none (.t 98), (some (90, true))⟩, ⟨(some 97), .load none (.t 96), (some (90, true))⟩, ⟨(some 95), .load none (.t 94), (some (90, true))⟩]⟩,
    ⟨15, ⟨(some 100), .bin .leq (.t 93) (.t 99), (some (90, true))⟩, [], []⟩,
    ⟨16, ⟨(some 101), .pick (.t 90) (.t 100) (.c (.b false)), none⟩, [], []⟩,
    ⟨17, ⟨(some 102), .call 197 [(.t 101)], none⟩, [], []⟩])
  (.dreg [0, 1, 4, 5, 57, 58, 59] [⟨0, ⟨(some 103), .mv (.t 4), none⟩, [], []⟩,
    ⟨1, ⟨(some 104), .faddr 8 (.t 7), none⟩, [], []⟩,
    ⟨2, ⟨(some 105), .load none (.t 104), none⟩, [], []⟩,
    ⟨3, ⟨(some 106), .faddr 2 (.t 0), none⟩, [], []⟩,
    ⟨4, ⟨(some 107), .load none (.t 106), none⟩, [], []⟩,
    ⟨5, ⟨(some 108), .faddr 1 (.t 7), none⟩, [], []⟩,
    ⟨6, ⟨(some 109), .load none (.t 108), none⟩, [], []⟩,
    ⟨7, ⟨(some 110), .iaddr 1 none (.t 107) (.t 109), none⟩, [], []⟩,
    ⟨8, ⟨(some 111), .load none (.t 110), none⟩, [], []⟩,
    ⟨9, ⟨(some 112), .faddr 0 (.t 7), none⟩, [], []⟩,
    ⟨10, ⟨(some 113), .load none (.t 112), none⟩, [], []⟩,
    ⟨11, ⟨(some 114), .bin .eql (.t 113) (.c (.i .i64 1)), none⟩, [], []⟩,
    ⟨12, ⟨(some 115), .mv (.t 114), none⟩, [], []⟩,
    ⟨13, ⟨(some 116), .faddr 0 (.t 7), (some (115, false))⟩, [], []⟩,
    ⟨14, ⟨(some 117), .load none (.t 116), (some (115, false))⟩, [], []⟩,
    ⟨15, ⟨(some 118), .bin .eql (.t 117) (.c (.i .i64 4)), (some (115, false))⟩, [], []⟩,
    ⟨16, ⟨(some 119), .pick (.t 115) (.c (.b true)) (.t 118), none⟩, [], []⟩,
    ⟨17, ⟨(some 120), .callv (.t 103) [(.t 105), (.t 111), (.t 119)], none⟩, [], []⟩])))))
  (.reg [⟨(some 121), .bin .add (.t 59) (.c (.i .i64 1)), none⟩,
    ⟨(some 59), .mv (.t 121), none⟩])))))))
  (.seq [1] (.reg [⟨(some 122), .mv (.t 4), none⟩,
    ⟨(some 123), .faddr 5 (.t 0), none⟩,
    ⟨(some 124), .load none (.t 123), none⟩,
    ⟨(some 125), .callv (.t 122) [(.t 124), (.c (.i .i64 0)), (.c (.b false))], none⟩])
  (.reg [⟨(some 126), .load none (.t 1), none⟩,
    ⟨(some 127), .call 67 [(.t 126), (.c (.i .i64 (-1)))], none⟩,
    ⟨(some 128), .not (.t 127), none⟩,
    ⟨(some 129), .call 197 [(.t 128)], none⟩])))))))))
theorem ree195 : Tryz.f195.body.bind (res Tryz.prog Tryz.f195.ntmps [] []) = some (erase ae195) := by kernel_rfl
def fs195 : FnS := .fn 130 ae195 []
theorem fsok195 : FnOk Tryz.prog 195 fs195 := fun _ _ _ hn h => ctr_of_resC Tryz.func195 (by kernel_rfl) ree195 (by kernel_rfl) hn h
abbrev acAe194 : ACode := (.reg [⟨(some 2), .alloc [(.b false)], none⟩])
def ose194 : List AOper := [⟨(some 3), .mkf (.func 246) [] [(.t 2)], none⟩]
abbrev acCe194 : ACode := (.seq [2] (.reg [⟨(some 4), .mv (.t 0), none⟩,
    ⟨(some 5), .callv (.t 4) [], none⟩])
  (.seq [2] (.reg [⟨none, .store 1 (.t 2) (.c (.b true)), none⟩])
  .ret))
theorem rese194 : Tryz.f194.body.bind (resDfr Tryz.prog Tryz.f194.ntmps [] []) = some (erase acAe194, ose194, (.t 3), erase acCe194) := by kernel_rfl
def fs194 : FnS := .dfr 6 acAe194 ose194 (.t 3) acCe194 [.c 2 none] [0, 2] [0, 2]
theorem fsok194 : FnOk Tryz.prog 194 fs194 := fun _ _ _ hn h => ctr_of_dfr Tryz.func194 (by kernel_rfl) rese194 (by kernel_rfl) hn h
abbrev ae212 : ACode := (.seq [0, 1] (.reg [⟨(some 4), .mv (.c (.l [] true)), none⟩])
  (.seq [0, 1, 5] (.reg [⟨(some 5), .mv (.c (.l [] true)), none⟩])
  (.seq [5] (.seq [1, 5, 8, 9, 10] (.reg [⟨(some 8), .mv (.t 0), none⟩,
    ⟨(some 9), .len (.t 8), none⟩,
    ⟨(some 10), .mv (.c (.i .i64 0)), none⟩])
  (.block 0 (.loop [1, 5, 8, 9, 10] (.seq [1, 5, 8, 9, 10, 11] (.reg [⟨(some 11), .bin .lss (.t 10) (.t 9), none⟩])
  (.seq [1, 5, 8, 9, 10] (.cond (.t 11)
  .skip
  (.exit 0))
  (.seq [1, 5, 8, 9, 10] (.block 1 (.seq [1, 5, 7, 8, 9, 10] (.reg [⟨(some 12), .iaddr 3 none (.t 8) (.t 10), none⟩,
    ⟨(some 13), .load (some 3) (.t 12), none⟩,
    ⟨(some 7), .alloc [(.l [] true), (.l [] true), (.l [] true)], none⟩,
    ⟨none, .store 3 (.t 7) (.t 13), none⟩])
  (.reg [⟨(some 14), .mv (.t 5), none⟩,
    ⟨(some 15), .mv (.t 1), none⟩,
    ⟨(some 16), .load (some 3) (.t 7), none⟩,
    ⟨(some 17), .callv (.t 15) [(.t 16)], none⟩,
    ⟨(some 18), .bslice 1 1 [(.l [] true)] [(0, (.t 17))], none⟩,
    ⟨(some 19), .append 1 24 (.t 14) (.t 18), none⟩,
    ⟨(some 5), .mv (.t 19), none⟩])))
  (.reg [⟨(some 20), .bin .add (.t 10) (.c (.i .i64 1)), none⟩,
    ⟨(some 10), .mv (.t 20), none⟩])))))))
  (.seq [4] (.reg [⟨(some 21), .mv (.t 5), none⟩,
    ⟨(some 22), .call 264 [(.t 21)], none⟩,
    ⟨(some 4), .mv (.t 22), none⟩])
  .ret))))
theorem ree212 : Tryz.f212.body.bind (res Tryz.prog Tryz.f212.ntmps [] []) = some (erase ae212) := by kernel_rfl
def fs212 : FnS := .fn 23 ae212 [.t 4]
theorem fsok212 : FnOk Tryz.prog 212 fs212 := fun _ _ _ hn h => ctr_of_resC Tryz.func212 (by kernel_rfl) ree212 (by kernel_rfl) hn h
abbrev ae213 : ACode := (.seq [1] (.reg [⟨(some 1), .box (.t 0), none⟩,
    ⟨(some 2), .mv (.c (.l [] true)), none⟩])
  (.seq [2] (.reg [⟨(some 3), .faddr 0 (.t 1), none⟩,
    ⟨(some 4), .load none (.t 3), none⟩,
    ⟨(some 5), .call 149 [(.t 4)], none⟩,
    ⟨(some 2), .mv (.t 5), none⟩])
  .ret))
theorem ree213 : Tryz.f213.body.bind (res Tryz.prog Tryz.f213.ntmps [] []) = some (erase ae213) := by kernel_rfl
def fs213 : FnS := .fn 6 ae213 [.t 2]
theorem fsok213 : FnOk Tryz.prog 213 fs213 := fun _ _ _ hn h => ctr_of_resC Tryz.func213 (by kernel_rfl) ree213 (by kernel_rfl) hn h
abbrev ae214 : ACode := (.seq [0, 1] (.reg [⟨(some 4), .mv (.c (.i .u64 0)), none⟩])
  (.seq [4] (.reg [⟨(some 5), .mv (.t 0), none⟩,
    ⟨(some 6), .mv (.t 1), none⟩,
    ⟨(some 7), .bin .shl (.c (.i .u64 1)) (.t 6), none⟩,
    ⟨(some 8), .bin .or (.t 5) (.t 7), none⟩,
    ⟨(some 4), .mv (.t 8), none⟩])
  .ret))
theorem ree214 : Tryz.f214.body.bind (res Tryz.prog Tryz.f214.ntmps [] []) = some (erase ae214) := by kernel_rfl
def fs214 : FnS := .fn 9 ae214 [.t 4]
theorem fsok214 : FnOk Tryz.prog 214 fs214 := fun _ _ _ hn h => ctr_of_resC Tryz.func214 (by kernel_rfl) ree214 (by kernel_rfl) hn h
abbrev ae216 : ACode := (.seq [0, 1] (.reg [⟨(some 4), .mv (.c (.b false)), none⟩])
  (.seq [4] (.reg [⟨(some 5), .mv (.t 1), none⟩,
    ⟨(some 6), .bin .geq (.t 5) (.c (.i .i64 3)), none⟩,
    ⟨(some 7), .mv (.t 6), none⟩,
    ⟨(some 8), .mv (.t 1), (some (7, true))⟩,
    ⟨(some 9), .mv (.t 0), (some (7, true))⟩,
    ⟨(some 10), .nilck (.t 9), (some (7, true))⟩,
    ⟨(some 11), .faddr 0 (.t 10), (some (7, true))⟩,
    ⟨(some 12), .faddr 0 (.t 11), (some (7, true))⟩,
    ⟨(some 13), .load none (.t 12), (some (7, true))⟩,
    ⟨(some 14), .len (.t 13), (some (7, true))⟩,
    ⟨(some 15), .bin .add (.c (.i .i64 3)) (.t 14), (some (7, true))⟩,
    ⟨(some 16), .bin .lss (.t 8) (.t 15), (some (7, true))⟩,
    ⟨(some 17), .pick (.t 7) (.t 16) (.c (.b false)), none⟩,
    ⟨(some 4), .mv (.t 17), none⟩])
  .ret))
theorem ree216 : Tryz.f216.body.bind (res Tryz.prog Tryz.f216.ntmps [] []) = some (erase ae216) := by kernel_rfl
def fs216 : FnS := .fn 18 ae216 [.t 4]
theorem fsok216 : FnOk Tryz.prog 216 fs216 := fun _ _ _ hn h => ctr_of_resC Tryz.func216 (by kernel_rfl) ree216 (by kernel_rfl) hn h
abbrev ae215 : ACode := (.seq [0, 3] (.reg [⟨(some 3), .box (.t 1), none⟩,
    ⟨(some 4), .mv (.c (.b false)), none⟩])
  (.seq [4] (.reg [⟨(some 5), .mv (.t 0), none⟩,
    ⟨(some 6), .mkf (.func 265) [] [(.t 3)], none⟩,
    ⟨(some 7), .call 46 [(.t 5), (.t 6)], none⟩,
    ⟨(some 8), .not (.t 7), none⟩,
    ⟨(some 4), .mv (.t 8), none⟩])
  .ret))
theorem ree215 : Tryz.f215.body.bind (res Tryz.prog Tryz.f215.ntmps [] []) = some (erase ae215) := by kernel_rfl
def fs215 : FnS := .fn 9 ae215 [.t 4]
theorem fsok215 : FnOk Tryz.prog 215 fs215 := fun _ _ _ hn h => ctr_of_resC Tryz.func215 (by kernel_rfl) ree215 (by kernel_rfl) hn h
abbrev ae218 : ACode := (.seq [1, 2] (.reg [⟨(some 2), .box (.t 0), none⟩,
    ⟨(some 3), .mv (.c (.b false)), none⟩])
  (.seq [1, 2, 4] (.reg [⟨(some 4), .alloc [(.i .i64 0)], none⟩,
    ⟨none, .store 1 (.t 4) (.c (.i .i64 24)), none⟩])
  (.seq [3] (.reg [⟨(some 5), .load none (.t 1), none⟩,
    ⟨(some 6), .load (some 6) (.t 2), none⟩,
    ⟨(some 7), .call 219 [(.t 5), (.t 6), (.t 4), (.c (.i .i64 12))], none⟩,
    ⟨(some 3), .mv (.t 7), none⟩])
  .ret)))
theorem ree218 : Tryz.f218.body.bind (res Tryz.prog Tryz.f218.ntmps [] []) = some (erase ae218) := by kernel_rfl
def fs218 : FnS := .fn 8 ae218 [.t 3]
theorem fsok218 : FnOk Tryz.prog 218 fs218 := fun _ _ _ hn h => ctr_of_resC Tryz.func218 (by kernel_rfl) ree218 (by kernel_rfl) hn h
abbrev ae217 : ACode := (.seq [0, 3] (.reg [⟨(some 3), .box (.t 1), none⟩,
    ⟨(some 4), .mv (.c (.b false)), none⟩])
  (.seq [4] (.reg [⟨(some 5), .mv (.t 0), none⟩,
    ⟨(some 6), .mkf (.func 266) [] [(.t 3)], none⟩,
    ⟨(some 7), .call 220 [(.t 5), (.t 6)], none⟩,
    ⟨(some 8), .not (.t 7), none⟩,
    ⟨(some 4), .mv (.t 8), none⟩])
  .ret))
theorem ree217 : Tryz.f217.body.bind (res Tryz.prog Tryz.f217.ntmps [] []) = some (erase ae217) := by kernel_rfl
def fs217 : FnS := .fn 9 ae217 [.t 4]
theorem fsok217 : FnOk Tryz.prog 217 fs217 := fun _ _ _ hn h => ctr_of_resC Tryz.func217 (by kernel_rfl) ree217 (by kernel_rfl) hn h
abbrev ae179 : ACode := (.seq [2, 3] (.reg [⟨(some 2), .box (.t 0), none⟩,
    ⟨(some 3), .box (.t 1), none⟩,
    ⟨(some 4), .mv (.c (.b false)), none⟩])
  (.seq [4] (.reg [⟨(some 5), .faddr 0 (.t 2), none⟩,
    ⟨(some 6), .load none (.t 5), none⟩,
    ⟨(some 7), .faddr 0 (.t 3), none⟩,
    ⟨(some 8), .load none (.t 7), none⟩,
    ⟨(some 9), .bin .eql (.t 6) (.t 8), none⟩,
    ⟨(some 10), .mv (.t 9), none⟩,
    ⟨(some 11), .faddr 1 (.t 2), (some (10, true))⟩,
    ⟨(some 12), .load none (.t 11), (some (10, true))⟩,
    ⟨(some 13), .faddr 1 (.t 3), (some (10, true))⟩,
    ⟨(some 14), .load none (.t 13), (some (10, true))⟩,
    ⟨(some 15), .bin .eql (.t 12) (.t 14), (some (10, true))⟩,
    ⟨(some 16), .pick (.t 10) (.t 15) (.c (.b false)), none⟩,
    ⟨(some 17), .mv (.t 16), none⟩,
    ⟨(some 18), .faddr 3 (.t 2), (some (17, true))⟩,
    ⟨(some 19), .load none (.t 18), (some (17, true))⟩,
    ⟨(some 20), .faddr 3 (.t 3), (some (17, true))⟩,
    ⟨(some 21), .load none (.t 20), (some (17, true))⟩,
    ⟨(some 22), .bin .eql (.t 19) (.t 21), (some (17, true))⟩,
    ⟨(some 23), .pick (.t 17) (.t 22) (.c (.b false)), none⟩,
    ⟨(some 24), .mv (.t 23), none⟩,
    ⟨(some 25), .faddr 4 (.t 2), (some (24, true))⟩,
    ⟨(some 26), .load none (.t 25), (some (24, true))⟩,
    ⟨(some 27), .faddr 4 (.t 3), (some (24, true))⟩,
    ⟨(some 28), .load none (.t 27), (some (24, true))⟩,
    ⟨(some 29), .bin .eql (.t 26) (.t 28), (some (24, true))⟩,
    ⟨(some 30), .pick (.t 24) (.t 29) (.c (.b false)), none⟩,
    ⟨(some 31), .mv (.t 30), none⟩,
    ⟨(some 32), .faddr 2 (.t 2), (some (31, true))⟩,
    ⟨(some 33), .load none (.t 32), (some (31, true))⟩,
    ⟨(some 34), .faddr 2 (.t 3), (some (31, true))⟩,
    ⟨(some 35), .load none (.t 34), (some (31, true))⟩,
    ⟨(some 36), .call 16 [(.t 33), (.t 35)], (some (31, true))⟩,
    ⟨(some 37), .pick (.t 31) (.t 36) (.c (.b false)), none⟩,
    ⟨(some 38), .mv (.t 37), none⟩,
    ⟨(some 39), .faddr 5 (.t 2), (some (38, true))⟩,
    ⟨(some 40), .load none (.t 39), (some (38, true))⟩,
    ⟨(some 41), .faddr 5 (.t 3), (some (38, true))⟩,
    ⟨(some 42), .load none (.t 41), (some (38, true))⟩,
    ⟨(some 43), .call 222 [(.t 40), (.t 42), (.c (.f (.func 179) [] []))], (some (38, true))⟩,
    ⟨(some 44), .pick (.t 38) (.t 43) (.c (.b false)), none⟩,
    ⟨(some 4), .mv (.t 44), none⟩])
  .ret))
theorem ree179 : Tryz.f179.body.bind (res Tryz.prog Tryz.f179.ntmps [] []) = some (erase ae179) := by kernel_rfl
def fs179 : FnS := .fn 45 ae179 [.t 4]
theorem fsok179 : FnOk Tryz.prog 179 fs179 := fun _ _ _ hn h => ctr_of_resC Tryz.func179 (by kernel_rfl) ree179 (by kernel_rfl) hn h
abbrev ae180 : ACode := (.seq [1, 3, 5, 6] (.reg [⟨(some 3), .box (.t 0), none⟩,
    ⟨(some 5), .box (.t 2), none⟩,
    ⟨(some 6), .alloc [(.i .i64 0), (.i .i64 0), (.l [] true), (.i .i64 0), (.i .i64 0), (.l [] true)], none⟩,
    ⟨(some 7), .mv (.c (.i .i64 0)), none⟩])
  (.seq [1, 3, 5, 6] (.seq [1, 3, 5, 6, 16] (.reg [⟨(some 15), .mv (.t 1), none⟩,
    ⟨(some 16), .bin .eql (.t 15) (.c (.i .i64 0)), none⟩])
  (.cond (.t 16)
  (.seq [5, 6, 9] (.reg [⟨(some 18), .load (some 6) (.t 3), none⟩,
    ⟨(some 19), .load (some 6) (.t 5), none⟩,
    ⟨(some 20), .call 180 [(.t 18), (.c (.i .i64 (-1))), (.t 19)], none⟩,
    ⟨(some 17), .mv (.t 20), none⟩,
    ⟨(some 21), .extract 0 (.t 17), none⟩,
    ⟨(some 22), .extract 1 (.t 17), none⟩,
    ⟨(some 8), .alloc [(.i .i64 0), (.i .i64 0), (.l [] true), (.i .i64 0), (.i .i64 0), (.l [] true)], none⟩,
    ⟨none, .store 6 (.t 8) (.t 21), none⟩,
    ⟨(some 9), .mv (.t 22), none⟩])
  (.seq [6, 7] (.reg [⟨(some 23), .load (some 6) (.t 5), none⟩,
    ⟨(some 24), .mv (.t 9), none⟩,
    ⟨none, .store 6 (.t 6) (.t 23), none⟩,
    ⟨(some 7), .mv (.t 24), none⟩])
  .ret))
  .skip))
  (.seq [1, 3, 5, 6, 10] (.reg [⟨(some 10), .mv (.c (.i .i64 1)), none⟩])
  (.seq [1, 3, 5, 6, 10] (.reg [⟨(some 25), .faddr 5 (.t 3), none⟩,
    ⟨(some 26), .load none (.t 25), none⟩,
    ⟨(some 27), .call 223 [(.t 26)], none⟩,
    ⟨(some 28), .faddr 5 (.t 3), none⟩,
    ⟨none, .store 1 (.t 28) (.t 27), none⟩])
  (.seq [3, 6, 10] (.seq [1, 3, 5, 6, 10, 30, 31, 32] (.reg [⟨(some 29), .faddr 5 (.t 3), none⟩,
    ⟨(some 30), .load none (.t 29), none⟩,
    ⟨(some 31), .len (.t 30), none⟩,
    ⟨(some 32), .mv (.c (.i .i64 0)), none⟩])
  (.block 0 (.loop [1, 3, 5, 6, 10, 30, 31, 32] (.seq [1, 3, 5, 6, 10, 30, 31, 32, 33] (.reg [⟨(some 33), .bin .lss (.t 32) (.t 31), none⟩])
  (.seq [1, 3, 5, 6, 10, 30, 31, 32] (.cond (.t 33)
  .skip
  (.exit 0))
  (.seq [1, 3, 5, 6, 10, 30, 31, 32] (.block 1 (.seq [1, 3, 5, 6, 10, 11, 12, 30, 31, 32] (.reg [⟨(some 34), .mv (.t 32), none⟩,
    ⟨(some 35), .iaddr 6 none (.t 30) (.t 32), none⟩,
    ⟨(some 36), .load (some 6) (.t 35), none⟩,
    ⟨(some 12), .alloc [(.i .i64 0), (.i .i64 0), (.l [] true), (.i .i64 0), (.i .i64 0), (.l [] true)], none⟩,
    ⟨(some 11), .mv (.t 34), none⟩,
    ⟨none, .store 6 (.t 12) (.t 36), none⟩])
  (.seq [1, 3, 5, 6, 10, 11, 13, 14, 30, 31, 32] (.reg [⟨(some 38), .load (some 6) (.t 12), none⟩,
    ⟨(some 39), .mv (.t 1), none⟩,
    ⟨(some 40), .mv (.t 10), none⟩,
    ⟨(some 41), .bin .sub (.t 39) (.t 40), none⟩,
    ⟨(some 42), .load (some 6) (.t 5), none⟩,
    ⟨(some 43), .call 180 [(.t 38), (.t 41), (.t 42)], none⟩,
    ⟨(some 37), .mv (.t 43), none⟩,
    ⟨(some 44), .extract 0 (.t 37), none⟩,
    ⟨(some 45), .extract 1 (.t 37), none⟩,
    ⟨(some 13), .alloc [(.i .i64 0), (.i .i64 0), (.l [] true), (.i .i64 0), (.i .i64 0), (.l [] true)], none⟩,
    ⟨none, .store 6 (.t 13) (.t 44), none⟩,
    ⟨(some 14), .mv (.t 45), none⟩])
  (.seq [1, 3, 5, 6, 10, 14, 30, 31, 32] (.reg [⟨(some 46), .faddr 5 (.t 3), none⟩,
    ⟨(some 47), .load none (.t 46), none⟩,
    ⟨(some 48), .mv (.t 11), none⟩,
    ⟨(some 49), .load (some 6) (.t 13), none⟩,
    ⟨(some 50), .iaddr 6 none (.t 47) (.t 48), none⟩,
    ⟨none, .store 6 (.t 50) (.t 49), none⟩])
  (.reg [⟨(some 51), .mv (.t 10), none⟩,
    ⟨(some 52), .mv (.t 14), none⟩,
    ⟨(some 53), .bin .add (.t 51) (.t 52), none⟩,
    ⟨(some 10), .mv (.t 53), none⟩])))))
  (.reg [⟨(some 54), .bin .add (.t 32) (.c (.i .i64 1)), none⟩,
    ⟨(some 32), .mv (.t 54), none⟩])))))))
  (.seq [6, 7] (.reg [⟨(some 55), .load (some 6) (.t 3), none⟩,
    ⟨(some 56), .mv (.t 10), none⟩,
    ⟨none, .store 6 (.t 6) (.t 55), none⟩,
    ⟨(some 7), .mv (.t 56), none⟩])
  .ret))))))
theorem ree180 : Tryz.f180.body.bind (res Tryz.prog Tryz.f180.ntmps [] []) = some (erase ae180) := by kernel_rfl
def fs180 : FnS := .fn 57 ae180 [.c 6 (some 6), .t 7]
theorem fsok180 : FnOk Tryz.prog 180 fs180 := fun _ _ _ hn h => ctr_of_resC Tryz.func180 (by kernel_rfl) ree180 (by kernel_rfl) hn h
abbrev ae181 : ACode := (.seq [0, 4, 5] (.reg [⟨(some 4), .box (.t 1), none⟩,
    ⟨(some 5), .box (.t 2), none⟩,
    ⟨(some 6), .mv (.c (.b false)), none⟩])
  (.seq [6] (.dreg [6] [⟨0, ⟨(some 7), .mv (.t 0), none⟩, [], []⟩,
    ⟨1, ⟨(some 8), .load (some 6) (.t 4), none⟩, [], []⟩,
    ⟨2, ⟨(some 9), .load (some 6) (.t 5), none⟩, [], []⟩,
    ⟨3, ⟨(some 10), .call 176 [(.t 9)], none⟩, [1], [⟨(some 8), .load (some 6) (.t 4), none⟩]⟩,
    ⟨4, ⟨(some 11), .call 225 [(.t 8), (.t 10)], none⟩, [], []⟩,
    ⟨5, ⟨(some 12), .call 224 [(.t 7), (.t 11)], none⟩, [], []⟩,
    ⟨6, ⟨(some 13), .not (.t 12), none⟩, [], []⟩,
    ⟨7, ⟨(some 6), .mv (.t 13), none⟩, [], []⟩])
  .ret))
theorem ree181 : Tryz.f181.body.bind (res Tryz.prog Tryz.f181.ntmps [] []) = some (erase ae181) := by kernel_rfl
def fs181 : FnS := .fn 14 ae181 [.t 6]
theorem fsok181 : FnOk Tryz.prog 181 fs181 := fun _ _ _ hn h => ctr_of_resC Tryz.func181 (by kernel_rfl) ree181 (by kernel_rfl) hn h
abbrev ae221 : ACode := (.seq [1, 2] (.reg [⟨(some 2), .box (.t 0), none⟩,
    ⟨(some 3), .mv (.c (.b false)), none⟩])
  (.seq [3] (.reg [⟨(some 4), .load (some 6) (.t 2), none⟩,
    ⟨(some 5), .load none (.t 1), none⟩,
    ⟨(some 6), .call 177 [(.t 4), (.t 5)], none⟩,
    ⟨(some 3), .mv (.t 6), none⟩])
  .ret))
theorem ree221 : Tryz.f221.body.bind (res Tryz.prog Tryz.f221.ntmps [] []) = some (erase ae221) := by kernel_rfl
def fs221 : FnS := .fn 7 ae221 [.t 3]
theorem fsok221 : FnOk Tryz.prog 221 fs221 := fun _ _ _ hn h => ctr_of_resC Tryz.func221 (by kernel_rfl) ree221 (by kernel_rfl) hn h
abbrev ae220 : ACode := (.seq [0, 1] (.reg [⟨(some 4), .mv (.c (.b false)), none⟩])
  (.seq [4] (.reg [⟨(some 5), .mv (.t 0), none⟩,
    ⟨(some 6), .mv (.t 1), none⟩,
    ⟨(some 7), .call 272 [(.t 5), (.t 6)], none⟩,
    ⟨(some 8), .bin .geq (.t 7) (.c (.i .i64 0)), none⟩,
    ⟨(some 4), .mv (.t 8), none⟩])
  .ret))
theorem ree220 : Tryz.f220.body.bind (res Tryz.prog Tryz.f220.ntmps [] []) = some (erase ae220) := by kernel_rfl
def fs220 : FnS := .fn 9 ae220 [.t 4]
theorem fsok220 : FnOk Tryz.prog 220 fs220 := fun _ _ _ hn h => ctr_of_resC Tryz.func220 (by kernel_rfl) ree220 (by kernel_rfl) hn h
abbrev ae160 : ACode := (.seq [1, 2, 3, 4, 5, 6, 7] (.reg [⟨(some 7), .box (.t 0), none⟩,
    ⟨(some 9), .mv (.c (.b false)), none⟩])
  (.seq [1, 3, 4, 5, 6, 7] (.seq [1, 3, 4, 5, 6, 7, 13] (.reg [⟨(some 10), .load none (.t 2), none⟩,
    ⟨(some 11), .mv (.t 1), none⟩,
    ⟨(some 12), .callv (.t 10) [(.t 11)], none⟩,
    ⟨(some 13), .not (.t 12), none⟩])
  (.cond (.t 13)
  (.seq [9] (.reg [⟨(some 9), .mv (.c (.b false)), none⟩])
  .ret)
  .skip))
  (.seq [9] (.dreg [9] [⟨0, ⟨(some 14), .load none (.t 7), none⟩, [], []⟩,
    ⟨1, ⟨(some 15), .load none (.t 3), none⟩, [], []⟩,
    ⟨2, ⟨(some 16), .bin .eql (.t 14) (.t 15), none⟩, [], []⟩,
    ⟨3, ⟨(some 17), .mv (.t 16), none⟩, [], []⟩,
    ⟨4, ⟨(some 18), .faddr 0 (.t 4), (some (17, false))⟩, [], []⟩,
    ⟨5, ⟨(some 19), .faddr 3 (.t 18), (some (17, false))⟩, [], []⟩,
    ⟨6, ⟨(some 20), .load none (.t 19), (some (17, false))⟩, [], []⟩,
    ⟨7, ⟨(some 21), .faddr 7 (.t 4), (some (17, false))⟩, [], []⟩,
    ⟨8, ⟨(some 22), .load none (.t 21), (some (17, false))⟩, [], []⟩,
    ⟨9, ⟨(some 23), .load none (.t 7), (some (17, false))⟩, [], []⟩,
    ⟨10, ⟨(some 24), .iaddr 1 none (.t 22) (.t 23), (some (17, false))⟩, [], []⟩,
    ⟨11, ⟨(some 25), .load none (.t 24), (some (17, false))⟩, [], []⟩,
    ⟨12, ⟨(some 26), .iaddr 9 none (.t 20) (.t 25), (some (17, false))⟩, [], []⟩,
    ⟨13, ⟨(some 27), .faddr 2 (.t 26), (some (17, false))⟩, [], []⟩,
    ⟨14, ⟨(some 28), .load (some 6) (.t 27), (some (17, false))⟩, [], []⟩,
    ⟨15, ⟨(some 29), .load none (.t 5), (some (17, false))⟩, [], []⟩,
    ⟨16, ⟨(some 30), .load none (.t 7), (some (17, false))⟩, [], []⟩,
    ⟨19, ⟨(some 33), .mv (.t 1), (some (17, false))⟩, [], []⟩,
    ⟨20, ⟨(some 34), .mkf (.func 162) [] [(.t 6), (.t 7)], (some (17, false))⟩, [], []⟩,
    ⟨17, ⟨(some 31), .call 114 [(.t 29), (.t 30)], (some (17, false))⟩, [14, 11, 9, 8, 6], [⟨(some 28), .load (some 6) (.t 27), (some (17, false))⟩, ⟨(some 25), .load none (.t 24), (some (17, false))⟩, ⟨(some 23), .load none (.t 7), (some (17, false))⟩, ⟨(some 22), .load none (.t 21), (some (17, false))⟩, ⟨(some 20), .load none (.t 19), (some (17, false))⟩]⟩,
    ⟨18, ⟨(some 32), .not (.t 31), (some (17, false))⟩, [], []⟩,
    ⟨21, ⟨(some 35), .call 161 [(.t 28), (.t 32), (.t 33), (.t 34)], (some (17, false))⟩, [], []⟩,
    ⟨22, ⟨(some 36), .pick (.t 17) (.c (.b true)) (.t 35), none⟩, [], []⟩,
    ⟨23, ⟨(some 9), .mv (.t 36), none⟩, [], []⟩])
  .ret)))
theorem ree160 : Tryz.f160.body.bind (res Tryz.prog Tryz.f160.ntmps [] []) = some (erase ae160) := by kernel_rfl
def fs160 : FnS := .fn 37 ae160 [.t 9]
theorem fsok160 : FnOk Tryz.prog 160 fs160 := fun _ _ _ hn h => ctr_of_resC Tryz.func160 (by kernel_rfl) ree160 (by kernel_rfl) hn h
abbrev ae238 : ACode := (.seq [0, 1] (.reg [⟨(some 3), .mv (.c (.b false)), none⟩])
  (.seq [3] (.reg [⟨(some 4), .mv (.t 0), none⟩,
    ⟨(some 5), .bin .lss (.t 4) (.c (.i .i64 0)), none⟩,
    ⟨(some 6), .mv (.t 5), none⟩,
    ⟨(some 7), .mv (.t 0), (some (6, false))⟩,
    ⟨(some 8), .load none (.t 1), (some (6, false))⟩,
    ⟨(some 9), .nilck (.t 8), (some (6, false))⟩,
    ⟨(some 10), .faddr 0 (.t 9), (some (6, false))⟩,
    ⟨(some 11), .faddr 3 (.t 10), (some (6, false))⟩,
    ⟨(some 12), .load none (.t 11), (some (6, false))⟩,
    ⟨(some 13), .len (.t 12), (some (6, false))⟩,
    ⟨(some 14), .bin .geq (.t 7) (.t 13), (some (6, false))⟩,
    ⟨(some 15), .pick (.t 6) (.c (.b true)) (.t 14), none⟩,
    ⟨(some 3), .mv (.t 15), none⟩])
  .ret))
theorem ree238 : Tryz.f238.body.bind (res Tryz.prog Tryz.f238.ntmps [] []) = some (erase ae238) := by kernel_rfl
def fs238 : FnS := .fn 16 ae238 [.t 3]
theorem fsok238 : FnOk Tryz.prog 238 fs238 := fun _ _ _ hn h => ctr_of_resC Tryz.func238 (by kernel_rfl) ree238 (by kernel_rfl) hn h
abbrev ae239 : ACode := (.seq [0, 1, 2] (.reg [⟨(some 6), .mv (.c (.b false)), none⟩])
  (.seq [6] (.reg [⟨(some 7), .mv (.t 0), none⟩,
    ⟨(some 8), .mv (.t 1), none⟩,
    ⟨(some 9), .mv (.t 2), none⟩,
    ⟨(some 10), .call 287 [(.t 7), (.t 8), (.t 9)], none⟩,
    ⟨(some 11), .mv (.t 10), none⟩,
    ⟨(some 12), .mv (.t 0), (some (11, true))⟩,
    ⟨(some 13), .mv (.t 2), (some (11, true))⟩,
    ⟨(some 14), .mv (.t 1), (some (11, true))⟩,
    ⟨(some 15), .call 287 [(.t 12), (.t 13), (.t 14)], (some (11, true))⟩,
    ⟨(some 16), .not (.t 15), (some (11, true))⟩,
    ⟨(some 17), .pick (.t 11) (.t 16) (.c (.b false)), none⟩,
    ⟨(some 6), .mv (.t 17), none⟩])
  .ret))
theorem ree239 : Tryz.f239.body.bind (res Tryz.prog Tryz.f239.ntmps [] []) = some (erase ae239) := by kernel_rfl
def fs239 : FnS := .fn 18 ae239 [.t 6]
theorem fsok239 : FnOk Tryz.prog 239 fs239 := fun _ _ _ hn h => ctr_of_resC Tryz.func239 (by kernel_rfl) ree239 (by kernel_rfl) hn h
abbrev ae240 : ACode := (.seq [0, 3] (.reg [⟨(some 3), .box (.t 1), none⟩,
    ⟨(some 4), .mv (.c (.l [] true)), none⟩])
  (.seq [4] (.reg [⟨(some 5), .mv (.t 0), none⟩,
    ⟨(some 6), .mkf (.func 289) [] [(.t 3)], none⟩,
    ⟨(some 7), .call 288 [(.t 5), (.t 6)], none⟩,
    ⟨(some 4), .mv (.t 7), none⟩])
  .ret))
theorem ree240 : Tryz.f240.body.bind (res Tryz.prog Tryz.f240.ntmps [] []) = some (erase ae240) := by kernel_rfl
def fs240 : FnS := .fn 8 ae240 [.t 4]
theorem fsok240 : FnOk Tryz.prog 240 fs240 := fun _ _ _ hn h => ctr_of_resC Tryz.func240 (by kernel_rfl) ree240 (by kernel_rfl) hn h
abbrev ae241 : ACode := (.seq [0] (.reg [⟨(some 2), .mv (.c (.l [] true)), none⟩])
  (.seq [2] (.reg [⟨(some 3), .mv (.t 0), none⟩,
    ⟨(some 4), .mv (.t 0), none⟩,
    ⟨(some 5), .len (.t 4), none⟩,
    ⟨(some 6), .mv (.t 0), none⟩,
    ⟨(some 7), .len (.t 6), none⟩,
    ⟨(some 8), .slice 1 (.t 3) none (some (.t 5)) (some (.t 7)), none⟩,
    ⟨(some 2), .mv (.t 8), none⟩])
  .ret))
theorem ree241 : Tryz.f241.body.bind (res Tryz.prog Tryz.f241.ntmps [] []) = some (erase ae241) := by kernel_rfl
def fs241 : FnS := .fn 9 ae241 [.t 2]
theorem fsok241 : FnOk Tryz.prog 241 fs241 := fun _ _ _ hn h => ctr_of_resC Tryz.func241 (by kernel_rfl) ree241 (by kernel_rfl) hn h
abbrev ae243 : ACode := (.seq [1] (.reg [⟨(some 1), .box (.t 0), none⟩,
    ⟨(some 2), .mv (.c .fnil), none⟩])
  (.seq [2] (.reg [⟨(some 3), .mkf (.func 292) [] [(.t 1)], none⟩,
    ⟨(some 2), .mv (.t 3), none⟩])
  .ret))
theorem ree243 : Tryz.f243.body.bind (res Tryz.prog Tryz.f243.ntmps [] []) = some (erase ae243) := by kernel_rfl
def fs243 : FnS := .fn 4 ae243 [.t 2]
theorem fsok243 : FnOk Tryz.prog 243 fs243 := fun _ _ _ hn h => ctr_of_resC Tryz.func243 (by kernel_rfl) ree243 (by kernel_rfl) hn h
abbrev ae242 : ACode := (.seq [0] (.reg [⟨(some 2), .mv (.c (.l [] true)), none⟩])
  (.seq [3] (.reg [⟨(some 4), .mv (.t 0), none⟩,
    ⟨(some 5), .call 290 [(.t 4)], none⟩,
    ⟨(some 3), .mv (.t 5), none⟩])
  (.seq [3] (.reg [⟨(some 6), .mv (.t 3), none⟩,
    ⟨(some 7), .call 291 [(.t 6)], none⟩])
  (.seq [2] (.reg [⟨(some 8), .mv (.t 3), none⟩,
    ⟨(some 2), .mv (.t 8), none⟩])
  .ret))))
theorem ree242 : Tryz.f242.body.bind (res Tryz.prog Tryz.f242.ntmps [] []) = some (erase ae242) := by kernel_rfl
def fs242 : FnS := .fn 9 ae242 [.t 2]
theorem fsok242 : FnOk Tryz.prog 242 fs242 := fun _ _ _ hn h => ctr_of_resC Tryz.func242 (by kernel_rfl) ree242 (by kernel_rfl) hn h
abbrev ae244 : ACode := (.seq [1, 2, 3] (.reg [⟨(some 3), .box (.t 0), none⟩,
    ⟨(some 4), .mv (.c (.b false)), none⟩])
  (.seq [4] (.reg [⟨(some 5), .load none (.t 1), none⟩,
    ⟨(some 6), .mkf (.func 245) [] [(.t 2), (.t 3)], none⟩,
    ⟨(some 7), .call 46 [(.t 5), (.t 6)], none⟩,
    ⟨(some 8), .not (.t 7), none⟩,
    ⟨(some 4), .mv (.t 8), none⟩])
  .ret))
theorem ree244 : Tryz.f244.body.bind (res Tryz.prog Tryz.f244.ntmps [] []) = some (erase ae244) := by kernel_rfl
def fs244 : FnS := .fn 9 ae244 [.t 4]
theorem fsok244 : FnOk Tryz.prog 244 fs244 := fun _ _ _ hn h => ctr_of_resC Tryz.func244 (by kernel_rfl) ree244 (by kernel_rfl) hn h
abbrev ae196 : ACode := (.seq [1] (.reg [⟨(some 1), .box (.t 0), none⟩])
  (.seq [1] (.reg [⟨(some 16), .faddr 0 (.t 1), none⟩,
    ⟨(some 17), .load none (.t 16), none⟩,
    ⟨(some 18), .len (.t 17), none⟩,
    ⟨(some 19), .bin .leq (.t 18) (.c (.i .i64 10)), none⟩,
    ⟨(some 20), .call 197 [(.t 19)], none⟩])
  (.seq [1, 2] (.reg [⟨(some 2), .mv (.c (.i .i64 0)), none⟩])
  (.seq [1, 2] (.seq [1, 2, 22, 23, 24] (.reg [⟨(some 21), .faddr 0 (.t 1), none⟩,
    ⟨(some 22), .load none (.t 21), none⟩,
    ⟨(some 23), .len (.t 22), none⟩,
    ⟨(some 24), .mv (.c (.i .i64 0)), none⟩])
  (.block 0 (.loop [1, 2, 22, 23, 24] (.seq [1, 2, 22, 23, 24, 25] (.reg [⟨(some 25), .bin .lss (.t 24) (.t 23), none⟩])
  (.seq [1, 2, 22, 23, 24] (.cond (.t 25)
  .skip
  (.exit 0))
  (.seq [1, 2, 22, 23, 24] (.block 1 (.seq [1, 2, 4, 22, 23, 24] (.reg [⟨(some 26), .iaddr 3 none (.t 22) (.t 24), none⟩,
    ⟨(some 27), .load (some 3) (.t 26), none⟩,
    ⟨(some 4), .alloc [(.l [] true), (.l [] true), (.l [] true)], none⟩,
    ⟨none, .store 3 (.t 4) (.t 27), none⟩])
  (.seq [1, 2, 4, 22, 23, 24] (.reg [⟨(some 28), .faddr 1 (.t 4), none⟩,
    ⟨(some 29), .load none (.t 28), none⟩,
    ⟨(some 30), .len (.t 29), none⟩,
    ⟨(some 31), .bin .leq (.t 30) (.c (.i .i64 4)), none⟩,
    ⟨(some 32), .call 197 [(.t 31)], none⟩])
  (.seq [1, 2, 22, 23, 24, 34, 35, 36] (.reg [⟨(some 33), .faddr 1 (.t 4), none⟩,
    ⟨(some 34), .load none (.t 33), none⟩,
    ⟨(some 35), .len (.t 34), none⟩,
    ⟨(some 36), .mv (.c (.i .i64 0)), none⟩])
  (.block 2 (.loop [1, 2, 22, 23, 24, 34, 35, 36] (.seq [1, 2, 22, 23, 24, 34, 35, 36, 37] (.reg [⟨(some 37), .bin .lss (.t 36) (.t 35), none⟩])
  (.seq [1, 2, 22, 23, 24, 34, 35, 36] (.cond (.t 37)
  .skip
  (.exit 2))
  (.seq [1, 2, 22, 23, 24, 34, 35, 36] (.block 3 (.seq [1, 2, 6, 22, 23, 24, 34, 35, 36] (.reg [⟨(some 38), .iaddr 1 none (.t 34) (.t 36), none⟩,
    ⟨(some 39), .load none (.t 38), none⟩,
    ⟨(some 6), .mv (.t 39), none⟩])
  (.seq [1, 2, 22, 23, 24, 34, 35, 36] (.reg [⟨(some 40), .mv (.t 6), none⟩,
    ⟨(some 41), .mv (.t 2), none⟩,
    ⟨(some 42), .bin .eql (.t 40) (.t 41), none⟩,
    ⟨(some 43), .call 197 [(.t 42)], none⟩])
  (.reg [⟨(some 44), .mv (.t 2), none⟩,
    ⟨(some 45), .bin .add (.t 44) (.c (.i .i64 1)), none⟩,
    ⟨(some 2), .mv (.t 45), none⟩]))))
  (.reg [⟨(some 46), .bin .add (.t 36) (.c (.i .i64 1)), none⟩,
    ⟨(some 36), .mv (.t 46), none⟩]))))))))))
  (.reg [⟨(some 47), .bin .add (.t 24) (.c (.i .i64 1)), none⟩,
    ⟨(some 24), .mv (.t 47), none⟩])))))))
  (.seq [1, 2, 7] (.reg [⟨(some 48), .load (some 6) (.t 1), none⟩,
    ⟨(some 49), .call 173 [(.t 48)], none⟩,
    ⟨(some 7), .mv (.t 49), none⟩])
  (.seq [1, 7] (.reg [⟨(some 50), .mv (.t 2), none⟩,
    ⟨(some 51), .faddr 1 (.t 1), none⟩,
    ⟨(some 52), .load none (.t 51), none⟩,
    ⟨(some 53), .bin .eql (.t 50) (.t 52), none⟩,
    ⟨(some 54), .mv (.t 53), none⟩,
    ⟨(some 55), .mv (.t 7), (some (54, true))⟩,
    ⟨(some 56), .call 247 [(.t 55)], (some (54, true))⟩,
    ⟨(some 57), .bin .eql (.t 56) (.c (.i .i64 0)), (some (54, true))⟩,
    ⟨(some 58), .pick (.t 54) (.t 57) (.c (.b false)), none⟩,
    ⟨(some 59), .call 197 [(.t 58)], none⟩])
  (.seq [1, 7, 61, 62, 63] (.reg [⟨(some 60), .faddr 0 (.t 1), none⟩,
    ⟨(some 61), .load none (.t 60), none⟩,
    ⟨(some 62), .len (.t 61), none⟩,
    ⟨(some 63), .mv (.c (.i .i64 0)), none⟩])
  (.block 4 (.loop [1, 7, 61, 62, 63] (.seq [1, 7, 61, 62, 63, 64] (.reg [⟨(some 64), .bin .lss (.t 63) (.t 62), none⟩])
  (.seq [1, 7, 61, 62, 63] (.cond (.t 64)
  .skip
  (.exit 4))
  (.seq [1, 7, 61, 62, 63] (.block 5 (.seq [1, 7, 8, 9, 61, 62, 63] (.reg [⟨(some 65), .mv (.t 63), none⟩,
    ⟨(some 66), .iaddr 3 none (.t 61) (.t 63), none⟩,
    ⟨(some 67), .load (some 3) (.t 66), none⟩,
    ⟨(some 9), .alloc [(.l [] true), (.l [] true), (.l [] true)], none⟩,
    ⟨(some 8), .mv (.t 65), none⟩,
    ⟨none, .store 3 (.t 9) (.t 67), none⟩])
  (.seq [1, 7, 8, 9, 11, 61, 62, 63] (.reg [⟨(some 69), .mv (.t 7), none⟩,
    ⟨(some 70), .mv (.t 8), none⟩,
    ⟨(some 71), .bin .add (.t 70) (.c (.i .i64 3)), none⟩,
    ⟨(some 72), .call 248 [(.t 69), (.t 71)], none⟩,
    ⟨(some 68), .mv (.t 72), none⟩,
    ⟨(some 73), .extract 0 (.t 68), none⟩,
    ⟨(some 74), .extract 1 (.t 68), none⟩,
    ⟨(some 10), .mv (.t 73), none⟩,
    ⟨(some 11), .mv (.t 74), none⟩])
  (.seq [1, 7, 8, 9, 61, 62, 63] (.reg [⟨(some 75), .mv (.t 11), none⟩,
    ⟨(some 76), .bin .eql (.t 75) (.c (.i .i64 0)), none⟩,
    ⟨(some 77), .call 197 [(.t 76)], none⟩])
  (.seq [1, 7, 9, 12, 13, 61, 62, 63] (.reg [⟨(some 78), .load (some 6) (.t 1), none⟩,
    ⟨(some 79), .mv (.t 8), none⟩,
    ⟨(some 80), .bin .add (.t 79) (.c (.i .i64 3)), none⟩,
    ⟨(some 81), .call 249 [(.t 78), (.t 80)], none⟩,
    ⟨(some 82), .mkmap, none⟩,
    ⟨(some 12), .mv (.t 81), none⟩,
    ⟨(some 13), .mv (.t 82), none⟩])
  (.seq [1, 7, 12, 13, 61, 62, 63, 84, 85, 86] (.reg [⟨(some 83), .faddr 2 (.t 9), none⟩,
    ⟨(some 84), .load none (.t 83), none⟩,
    ⟨(some 85), .len (.t 84), none⟩,
    ⟨(some 86), .mv (.c (.i .i64 0)), none⟩])
  (.block 6 (.loop [1, 7, 12, 13, 61, 62, 63, 84, 85, 86] (.seq [1, 7, 12, 13, 61, 62, 63, 84, 85, 86, 87] (.reg [⟨(some 87), .bin .lss (.t 86) (.t 85), none⟩])
  (.seq [1, 7, 12, 13, 61, 62, 63, 84, 85, 86] (.cond (.t 87)
  .skip
  (.exit 6))
  (.seq [1, 7, 12, 13, 61, 62, 63, 84, 85, 86] (.block 7 (.seq [1, 7, 12, 13, 15, 61, 62, 63, 84, 85, 86] (.reg [⟨(some 88), .iaddr 2 none (.t 84) (.t 86), none⟩,
    ⟨(some 89), .load (some 2) (.t 88), none⟩,
    ⟨(some 15), .alloc [(.i .i64 0), (.i .i64 0)], none⟩,
    ⟨none, .store 2 (.t 15) (.t 89), none⟩])
  (.seq [1, 7, 12, 13, 15, 61, 62, 63, 84, 85, 86] (.reg [⟨(some 90), .mv (.t 12), none⟩,
    ⟨(some 91), .faddr 0 (.t 15), none⟩,
    ⟨(some 92), .load none (.t 91), none⟩,
    ⟨(some 93), .call 67 [(.t 90), (.t 92)], none⟩,
    ⟨(some 94), .mv (.t 93), none⟩,
    ⟨(some 95), .mv (.t 13), (some (94, true))⟩,
    ⟨(some 96), .faddr 0 (.t 15), (some (94, true))⟩,
    ⟨(some 97), .load none (.t 96), (some (94, true))⟩,
    ⟨(some 98), .lookup (.i .i64) (.b false) false (.t 95) (.t 97), (some (94, true))⟩,
    ⟨(some 99), .not (.t 98), (some (94, true))⟩,
    ⟨(some 100), .pick (.t 94) (.t 99) (.c (.b false)), none⟩,
    ⟨(some 101), .mv (.t 100), none⟩,
    ⟨(some 102), .faddr 1 (.t 15), (some (101, true))⟩,
    ⟨(some 103), .load none (.t 102), (some (101, true))⟩,
    ⟨(some 104), .call 250 [(.t 103)], (some (101, true))⟩,
    ⟨(some 105), .pick (.t 101) (.t 104) (.c (.b false)), none⟩,
    ⟨(some 106), .call 197 [(.t 105)], none⟩])
  (.reg [⟨(some 107), .mv (.t 13), none⟩,
    ⟨(some 108), .faddr 0 (.t 15), none⟩,
    ⟨(some 109), .load none (.t 108), none⟩,
    ⟨none, .mapset (.i .i64) (.t 107) (.t 109) (.c (.b true)), none⟩]))))
  (.reg [⟨(some 110), .bin .add (.t 86) (.c (.i .i64 1)), none⟩,
    ⟨(some 86), .mv (.t 110), none⟩]))))))))))))
  (.reg [⟨(some 111), .bin .add (.t 63) (.c (.i .i64 1)), none⟩,
    ⟨(some 63), .mv (.t 111), none⟩])))))))))))))
theorem ree196 : Tryz.f196.body.bind (res Tryz.prog Tryz.f196.ntmps [] []) = some (erase ae196) := by kernel_rfl
def fs196 : FnS := .fn 112 ae196 []
theorem fsok196 : FnOk Tryz.prog 196 fs196 := fun _ _ _ hn h => ctr_of_resC Tryz.func196 (by kernel_rfl) ree196 (by kernel_rfl) hn h
abbrev ae197 : ACode := (.seq [3] (.reg [⟨(some 2), .mv (.t 0), none⟩,
    ⟨(some 3), .not (.t 2), none⟩])
  (.cond (.t 3)
  (.reg [⟨(some 4), .build [] [], none⟩,
    ⟨(some 5), .mkifc 334 (.t 4), none⟩,
    ⟨none, .panic (.t 5), none⟩])
  .skip))
theorem ree197 : Tryz.f197.body.bind (res Tryz.prog Tryz.f197.ntmps [] []) = some (erase ae197) := by kernel_rfl
def fs197 : FnS := .fn 6 ae197 []
theorem fsok197 : FnOk Tryz.prog 197 fs197 := fun _ _ _ hn h => ctr_of_resC Tryz.func197 (by kernel_rfl) ree197 (by kernel_rfl) hn h
abbrev ae198 : ACode := (.seq [0, 1, 3, 4, 7] (.reg [⟨(some 7), .box (.t 2), none⟩])
  (.seq [3, 4, 7, 17] (.reg [⟨(some 13), .load (some 6) (.t 3), none⟩,
    ⟨(some 14), .mv (.t 0), none⟩,
    ⟨(some 15), .mv (.t 1), none⟩,
    ⟨(some 16), .build [(.i .i64 0), (.i .i64 0)] [(0, 1, (.t 15)), (1, 1, (.c (.i .i64 1)))], none⟩,
    ⟨(some 17), .call 199 [(.t 13), (.t 14), (.t 16)], none⟩])
  (.block 0 (.rangef [3, 4, 7] (.t 17) [18, 19]
  (.seq [3, 4, 7, 8, 19] (.reg [⟨(some 8), .mv (.t 18), none⟩])
  (.reg [⟨(some 9), .alloc [(.i .i64 0), (.i .i64 0)], none⟩,
    ⟨none, .store 2 (.t 9) (.t 19), none⟩]))
  (.block 1 (.seq [3, 4, 7, 8, 9] (.reg [⟨(some 20), .mv (.t 8), none⟩,
    ⟨(some 21), .bin .geq (.t 20) (.c (.i .i64 0)), none⟩,
    ⟨(some 22), .mv (.t 21), none⟩,
    ⟨(some 23), .mv (.t 8), (some (22, true))⟩,
    ⟨(some 24), .faddr 4 (.t 3), (some (22, true))⟩,
    ⟨(some 25), .load none (.t 24), (some (22, true))⟩,
    ⟨(some 26), .len (.t 25), (some (22, true))⟩,
    ⟨(some 27), .bin .lss (.t 23) (.t 26), (some (22, true))⟩,
    ⟨(some 28), .pick (.t 22) (.t 27) (.c (.b false)), none⟩,
    ⟨(some 29), .mv (.t 28), none⟩,
    ⟨(some 30), .load none (.t 4), (some (29, true))⟩,
    ⟨(some 31), .mv (.t 8), (some (29, true))⟩,
    ⟨(some 32), .iaddr 1 none (.t 30) (.t 31), (some (29, true))⟩,
    ⟨(some 33), .load none (.t 32), (some (29, true))⟩,
    ⟨(some 34), .bin .lss (.t 33) (.c (.i .i64 0)), (some (29, true))⟩,
    ⟨(some 35), .pick (.t 29) (.t 34) (.c (.b false)), none⟩,
    ⟨(some 36), .mv (.t 35), none⟩,
    ⟨(some 37), .faddr 1 (.t 9), (some (36, true))⟩,
    ⟨(some 38), .load none (.t 37), (some (36, true))⟩,
    ⟨(some 39), .bin .leq (.t 38) (.c (.i .i64 12)), (some (36, true))⟩,
    ⟨(some 40), .pick (.t 36) (.t 39) (.c (.b false)), none⟩,
    ⟨(some 41), .call 197 [(.t 40)], none⟩])
  (.seq [3, 7, 8, 9] (.reg [⟨(some 42), .load none (.t 4), none⟩,
    ⟨(some 43), .mv (.t 8), none⟩,
    ⟨(some 44), .faddr 0 (.t 9), none⟩,
    ⟨(some 45), .load none (.t 44), none⟩,
    ⟨(some 46), .iaddr 1 none (.t 42) (.t 43), none⟩,
    ⟨none, .store 1 (.t 46) (.t 45), none⟩])
  (.seq [3, 7, 9, 10] (.reg [⟨(some 47), .faddr 4 (.t 3), none⟩,
    ⟨(some 48), .load none (.t 47), none⟩,
    ⟨(some 49), .mv (.t 8), none⟩,
    ⟨(some 50), .iaddr 3 none (.t 48) (.t 49), none⟩,
    ⟨(some 51), .load (some 3) (.t 50), none⟩,
    ⟨(some 10), .alloc [(.i .i64 0), (.i .i64 0), (.l [] true)], none⟩,
    ⟨none, .store 3 (.t 10) (.t 51), none⟩])
  (.seq [3, 10] (.reg [⟨(some 52), .load (some 6) (.t 3), none⟩,
    ⟨(some 53), .load (some 3) (.t 10), none⟩,
    ⟨(some 54), .faddr 0 (.t 9), none⟩,
    ⟨(some 55), .load none (.t 54), none⟩,
    ⟨(some 56), .call 200 [(.t 52), (.t 53), (.t 55)], none⟩,
    ⟨(some 57), .mv (.t 56), none⟩,
    ⟨(some 58), .load none (.t 7), (some (57, true))⟩,
    ⟨(some 59), .mv (.t 58), (some (57, true))⟩,
    ⟨(some 60), .faddr 0 (.t 10), (some (59, false))⟩,
    ⟨(some 61), .load none (.t 60), (some (59, false))⟩,
    ⟨(some 62), .bin .neq (.t 61) (.c (.i .i64 18)), (some (59, false))⟩,
    ⟨(some 63), .pick (.t 59) (.c (.b true)) (.t 62), (some (57, true))⟩,
    ⟨(some 64), .pick (.t 57) (.t 63) (.c (.b false)), none⟩,
    ⟨(some 65), .call 197 [(.t 64)], none⟩])
  (.seq [3, 10, 68] (.reg [⟨(some 66), .faddr 0 (.t 10), none⟩,
    ⟨(some 67), .load none (.t 66), none⟩,
    ⟨(some 68), .call 201 [(.t 67)], none⟩])
  (.block 2 (.seq [3, 10, 68, 76] (.reg [⟨(some 70), .tas 295 (.i .i64 0) true (.t 68), none⟩,
    ⟨(some 71), .extract 1 (.t 70), none⟩,
    ⟨(some 72), .extract 0 (.t 70), none⟩,
    ⟨(some 73), .tas 296 (.a []) true (.t 68), none⟩,
    ⟨(some 74), .extract 1 (.t 73), none⟩,
    ⟨(some 75), .extract 0 (.t 73), none⟩,
    ⟨(some 76), .pick (.t 71) (.c (.b true)) (.t 74), none⟩])
  (.cond (.t 76)
  (.seq [3, 10, 11] (.reg [⟨(some 11), .mv (.t 68), none⟩])
  (.dreg [] [⟨0, ⟨(some 77), .faddr 2 (.t 10), none⟩, [], []⟩,
    ⟨1, ⟨(some 78), .load none (.t 77), none⟩, [], []⟩,
    ⟨2, ⟨(some 79), .len (.t 78), none⟩, [], []⟩,
    ⟨3, ⟨(some 80), .mv (.t 11), none⟩, [], []⟩,
    ⟨4, ⟨(some 81), .load (some 6) (.t 3), none⟩, [], []⟩,
    ⟨5, ⟨(some 82), .load (some 3) (.t 10), none⟩, [], []⟩,
    ⟨6, ⟨(some 83), .inv [(295, 411), (296, 412)] (.t 80) [(.t 81), (.t 82)], none⟩, [1], [⟨(some 78), .load none (.t 77), none⟩]⟩,
    ⟨7, ⟨(some 84), .bin .eql (.t 79) (.t 83), none⟩, [], []⟩,
    ⟨8, ⟨(some 85), .call 197 [(.t 84)], none⟩, [], []⟩]))
  (.seq [] (.reg [⟨(some 12), .mv (.t 68), none⟩])
  (.reg [⟨(some 69), .call 197 [(.c (.b false))], none⟩])))))))))))))))
theorem ree198 : Tryz.f198.body.bind (res Tryz.prog Tryz.f198.ntmps [] []) = some (erase ae198) := by kernel_rfl
def fs198 : FnS := .fn 86 ae198 []
theorem fsok198 : FnOk Tryz.prog 198 fs198 := fun _ _ _ hn h => ctr_of_resC Tryz.func198 (by kernel_rfl) ree198 (by kernel_rfl) hn h
abbrev ae202 : ACode := (.seq [1] (.reg [⟨(some 1), .box (.t 0), none⟩,
    ⟨(some 2), .mv (.c (.i .i64 0)), none⟩])
  (.seq [1, 3] (.reg [⟨(some 3), .mv (.c (.i .i64 0)), none⟩])
  (.seq [1, 3] (.seq [1, 3, 18] (.reg [⟨(some 6), .faddr 0 (.t 1), none⟩,
    ⟨(some 7), .load none (.t 6), none⟩,
    ⟨(some 8), .bin .eql (.t 7) (.c (.i .i64 2)), none⟩,
    ⟨(some 9), .mv (.t 8), none⟩,
    ⟨(some 10), .faddr 0 (.t 1), (some (9, false))⟩,
    ⟨(some 11), .load none (.t 10), (some (9, false))⟩,
    ⟨(some 12), .bin .eql (.t 11) (.c (.i .i64 3)), (some (9, false))⟩,
    ⟨(some 13), .pick (.t 9) (.c (.b true)) (.t 12), none⟩,
    ⟨(some 14), .mv (.t 13), none⟩,
    ⟨(some 15), .faddr 0 (.t 1), (some (14, false))⟩,
    ⟨(some 16), .load none (.t 15), (some (14, false))⟩,
    ⟨(some 17), .bin .eql (.t 16) (.c (.i .i64 4)), (some (14, false))⟩,
    ⟨(some 18), .pick (.t 14) (.c (.b true)) (.t 17), none⟩])
  (.cond (.t 18)
  (.reg [⟨(some 19), .faddr 1 (.t 1), none⟩,
    ⟨(some 20), .load none (.t 19), none⟩,
    ⟨(some 21), .bin .add (.t 20) (.c (.i .i64 1)), none⟩,
    ⟨(some 3), .mv (.t 21), none⟩])
  .skip))
  (.seq [3] (.seq [3, 23, 24, 25] (.reg [⟨(some 22), .faddr 5 (.t 1), none⟩,
    ⟨(some 23), .load none (.t 22), none⟩,
    ⟨(some 24), .len (.t 23), none⟩,
    ⟨(some 25), .mv (.c (.i .i64 0)), none⟩])
  (.block 0 (.loop [3, 23, 24, 25] (.seq [3, 23, 24, 25, 26] (.reg [⟨(some 26), .bin .lss (.t 25) (.t 24), none⟩])
  (.seq [3, 23, 24, 25] (.cond (.t 26)
  .skip
  (.exit 0))
  (.seq [3, 23, 24, 25] (.block 1 (.seq [3, 5, 23, 24, 25] (.reg [⟨(some 27), .iaddr 6 none (.t 23) (.t 25), none⟩,
    ⟨(some 28), .load (some 6) (.t 27), none⟩,
    ⟨(some 5), .alloc [(.i .i64 0), (.i .i64 0), (.l [] true), (.i .i64 0), (.i .i64 0), (.l [] true)], none⟩,
    ⟨none, .store 6 (.t 5) (.t 28), none⟩])
  (.reg [⟨(some 29), .mv (.t 3), none⟩,
    ⟨(some 30), .load (some 6) (.t 5), none⟩,
    ⟨(some 31), .call 202 [(.t 30)], none⟩,
    ⟨(some 32), .mmax (.t 29) (.t 31), none⟩,
    ⟨(some 3), .mv (.t 32), none⟩])))
  (.reg [⟨(some 33), .bin .add (.t 25) (.c (.i .i64 1)), none⟩,
    ⟨(some 25), .mv (.t 33), none⟩])))))))
  (.seq [2] (.reg [⟨(some 34), .mv (.t 3), none⟩,
    ⟨(some 2), .mv (.t 34), none⟩])
  .ret)))))
theorem ree202 : Tryz.f202.body.bind (res Tryz.prog Tryz.f202.ntmps [] []) = some (erase ae202) := by kernel_rfl
def fs202 : FnS := .fn 35 ae202 [.t 2]
theorem fsok202 : FnOk Tryz.prog 202 fs202 := fun _ _ _ hn h => ctr_of_resC Tryz.func202 (by kernel_rfl) ree202 (by kernel_rfl) hn h
def ose246 : List AOper := [⟨(some 1), .mv (.t 4), none⟩]
abbrev acCe246 : ACode := (.seq [0, 1, 6] (.reg [⟨(some 5), .mv (.t 1), none⟩,
    ⟨(some 6), .eqn 2 true (.t 5), none⟩])
  (.cond (.t 6)
  (.seq [0] (.seq [0, 1, 3] (.reg [⟨(some 8), .mv (.t 1), none⟩,
    ⟨(some 9), .tas 334 (.a []) true (.t 8), none⟩,
    ⟨(some 7), .mv (.t 9), none⟩,
    ⟨(some 10), .extract 0 (.t 7), none⟩,
    ⟨(some 11), .extract 1 (.t 7), none⟩,
    ⟨(some 2), .alloc [], none⟩,
    ⟨none, .store 0 (.t 2) (.t 10), none⟩,
    ⟨(some 3), .mv (.t 11), none⟩])
  (.seq [0, 1, 13] (.reg [⟨(some 12), .mv (.t 3), none⟩,
    ⟨(some 13), .not (.t 12), none⟩])
  (.cond (.t 13)
  (.reg [⟨(some 14), .mv (.t 1), none⟩,
    ⟨none, .panic (.t 14), none⟩])
  .skip)))
  (.reg [⟨none, .store 1 (.t 0) (.c (.b false)), none⟩]))
  .skip))
theorem rese246 : Tryz.f246.body.bind (resRec Tryz.prog Tryz.f246.ntmps [] []) = some (4, ose246, erase acCe246) := by kernel_rfl
def fs246 : FnS := .rcv 15 4 ose246 acCe246 [0, 1]
theorem fsok246 : FnOk Tryz.prog 246 fs246 := fun _ _ _ _ hn h => ctrD_of_T Tryz.func246 (by kernel_rfl) rese246 rfl hn h
abbrev ae264 : ACode := (.seq [0] (.reg [⟨(some 2), .mv (.c (.l [] true)), none⟩])
  (.seq [2] (.reg [⟨(some 3), .mv (.t 0), none⟩,
    ⟨(some 4), .mv (.t 0), none⟩,
    ⟨(some 5), .len (.t 4), none⟩,
    ⟨(some 6), .mv (.t 0), none⟩,
    ⟨(some 7), .len (.t 6), none⟩,
    ⟨(some 8), .slice 1 (.t 3) none (some (.t 5)) (some (.t 7)), none⟩,
    ⟨(some 2), .mv (.t 8), none⟩])
  .ret))
theorem ree264 : Tryz.f264.body.bind (res Tryz.prog Tryz.f264.ntmps [] []) = some (erase ae264) := by kernel_rfl
def fs264 : FnS := .fn 9 ae264 [.t 2]
theorem fsok264 : FnOk Tryz.prog 264 fs264 := fun _ _ _ hn h => ctr_of_resC Tryz.func264 (by kernel_rfl) ree264 (by kernel_rfl) hn h
abbrev ae265 : ACode := (.seq [0, 1] (.reg [⟨(some 3), .mv (.c (.b false)), none⟩])
  (.seq [3] (.reg [⟨(some 4), .load none (.t 1), none⟩,
    ⟨(some 5), .mv (.t 0), none⟩,
    ⟨(some 6), .callv (.t 4) [(.t 5)], none⟩,
    ⟨(some 7), .not (.t 6), none⟩,
    ⟨(some 3), .mv (.t 7), none⟩])
  .ret))
theorem ree265 : Tryz.f265.body.bind (res Tryz.prog Tryz.f265.ntmps [] []) = some (erase ae265) := by kernel_rfl
def fs265 : FnS := .fn 8 ae265 [.t 3]
theorem fsok265 : FnOk Tryz.prog 265 fs265 := fun _ _ _ hn h => ctr_of_resC Tryz.func265 (by kernel_rfl) ree265 (by kernel_rfl) hn h
abbrev ae219 : ACode := (.seq [4, 5, 6, 7] (.reg [⟨(some 4), .box (.t 0), none⟩,
    ⟨(some 5), .box (.t 1), none⟩,
    ⟨(some 6), .box (.t 2), none⟩,
    ⟨(some 7), .box (.t 3), none⟩,
    ⟨(some 8), .mv (.c (.b false)), none⟩])
  (.seq [4, 5, 6, 7] (.seq [4, 5, 6, 7] (.reg [⟨(some 9), .load none (.t 6), none⟩,
    ⟨(some 10), .nilck (.t 9), none⟩,
    ⟨(some 11), .load none (.t 10), none⟩,
    ⟨(some 12), .bin .sub (.t 11) (.c (.i .i64 1)), none⟩,
    ⟨(some 13), .nilck (.t 9), none⟩,
    ⟨none, .store 1 (.t 13) (.t 12), none⟩])
  (.seq [4, 5, 6, 7, 40] (.dreg [4, 5, 6, 7, 40] [⟨0, ⟨(some 14), .load none (.t 6), none⟩, [], []⟩,
    ⟨1, ⟨(some 15), .nilck (.t 14), none⟩, [], []⟩,
    ⟨2, ⟨(some 16), .load none (.t 15), none⟩, [], []⟩,
    ⟨3, ⟨(some 17), .bin .lss (.t 16) (.c (.i .i64 0)), none⟩, [], []⟩,
    ⟨4, ⟨(some 18), .mv (.t 17), none⟩, [], []⟩,
    ⟨5, ⟨(some 19), .load none (.t 7), (some (18, false))⟩, [], []⟩,
    ⟨6, ⟨(some 20), .bin .eql (.t 19) (.c (.i .i64 0)), (some (18, false))⟩, [], []⟩,
    ⟨7, ⟨(some 21), .pick (.t 18) (.c (.b true)) (.t 20), none⟩, [], []⟩,
    ⟨8, ⟨(some 22), .mv (.t 21), none⟩, [], []⟩,
    ⟨9, ⟨(some 23), .faddr 0 (.t 5), (some (22, false))⟩, [], []⟩,
    ⟨10, ⟨(some 24), .load none (.t 23), (some (22, false))⟩, [], []⟩,
    ⟨11, ⟨(some 25), .bin .lss (.t 24) (.c (.i .i64 1)), (some (22, false))⟩, [], []⟩,
    ⟨12, ⟨(some 26), .pick (.t 22) (.c (.b true)) (.t 25), none⟩, [], []⟩,
    ⟨13, ⟨(some 27), .mv (.t 26), none⟩, [], []⟩,
    ⟨14, ⟨(some 28), .faddr 0 (.t 5), (some (27, false))⟩, [], []⟩,
    ⟨15, ⟨(some 29), .load none (.t 28), (some (27, false))⟩, [], []⟩,
    ⟨16, ⟨(some 30), .bin .gtr (.t 29) (.c (.i .i64 7)), (some (27, false))⟩, [], []⟩,
    ⟨17, ⟨(some 31), .pick (.t 27) (.c (.b true)) (.t 30), none⟩, [], []⟩,
    ⟨18, ⟨(some 32), .mv (.t 31), none⟩, [], []⟩,
    ⟨19, ⟨(some 33), .faddr 5 (.t 5), (some (32, false))⟩, [], []⟩,
    ⟨20, ⟨(some 34), .load none (.t 33), (some (32, false))⟩, [], []⟩,
    ⟨21, ⟨(some 35), .len (.t 34), (some (32, false))⟩, [], []⟩,
    ⟨22, ⟨(some 36), .faddr 0 (.t 5), (some (32, false))⟩, [], []⟩,
    ⟨23, ⟨(some 37), .load none (.t 36), (some (32, false))⟩, [], []⟩,
    ⟨24, ⟨(some 38), .call 267 [(.t 37)], (some (32, false))⟩, [20], [⟨(some 34), .load none (.t 33), (some (32, false))⟩]⟩,
    ⟨25, ⟨(some 39), .bin .neq (.t 35) (.t 38), (some (32, false))⟩, [], []⟩,
    ⟨26, ⟨(some 40), .pick (.t 32) (.c (.b true)) (.t 39), none⟩, [], []⟩])
  (.cond (.t 40)
  (.seq [8] (.reg [⟨(some 8), .mv (.c (.b false)), none⟩])
  .ret)
  .skip)))
  (.seq [4, 5, 6, 7] (.block 0 (.seq [4, 5, 6, 7, 54] (.reg [⟨(some 55), .load (some 6) (.t 5), none⟩,
    ⟨(some 56), .call 268 [(.t 55)], none⟩,
    ⟨(some 57), .not (.t 56), none⟩,
    ⟨(some 54), .mv (.t 57), none⟩])
  (.cond (.t 54)
  (.seq [4, 5, 6, 7, 76] (.reg [⟨(some 58), .faddr 1 (.t 5), none⟩,
    ⟨(some 59), .load none (.t 58), none⟩,
    ⟨(some 60), .bin .neq (.t 59) (.c (.i .i64 0)), none⟩,
    ⟨(some 61), .mv (.t 60), none⟩,
    ⟨(some 62), .faddr 2 (.t 5), (some (61, false))⟩,
    ⟨(some 63), .load none (.t 62), (some (61, false))⟩,
    ⟨(some 64), .len (.t 63), (some (61, false))⟩,
    ⟨(some 65), .bin .gtr (.t 64) (.c (.i .i64 0)), (some (61, false))⟩,
    ⟨(some 66), .pick (.t 61) (.c (.b true)) (.t 65), none⟩,
    ⟨(some 67), .mv (.t 66), none⟩,
    ⟨(some 68), .faddr 3 (.t 5), (some (67, false))⟩,
    ⟨(some 69), .load none (.t 68), (some (67, false))⟩,
    ⟨(some 70), .bin .neq (.t 69) (.c (.i .i64 0)), (some (67, false))⟩,
    ⟨(some 71), .pick (.t 67) (.c (.b true)) (.t 70), none⟩,
    ⟨(some 72), .mv (.t 71), none⟩,
    ⟨(some 73), .faddr 4 (.t 5), (some (72, false))⟩,
    ⟨(some 74), .load none (.t 73), (some (72, false))⟩,
    ⟨(some 75), .bin .neq (.t 74) (.c (.i .i64 0)), (some (72, false))⟩,
    ⟨(some 76), .pick (.t 72) (.c (.b true)) (.t 75), none⟩])
  (.cond (.t 76)
  (.seq [8] (.reg [⟨(some 8), .mv (.c (.b false)), none⟩])
  .ret)
  .skip))
  (.seq [4, 5, 77] (.reg [⟨(some 78), .faddr 1 (.t 5), none⟩,
    ⟨(some 79), .load none (.t 78), none⟩,
    ⟨(some 80), .bin .lss (.t 79) (.c (.i .i64 0)), none⟩,
    ⟨(some 81), .mv (.t 80), none⟩,
    ⟨(some 82), .faddr 1 (.t 5), (some (81, false))⟩,
    ⟨(some 83), .load none (.t 82), (some (81, false))⟩,
    ⟨(some 84), .bin .geq (.t 83) (.c (.i .i64 3)), (some (81, false))⟩,
    ⟨(some 85), .pick (.t 81) (.c (.b true)) (.t 84), none⟩,
    ⟨(some 86), .mv (.t 85), none⟩,
    ⟨(some 87), .load none (.t 4), (some (86, false))⟩,
    ⟨(some 88), .faddr 2 (.t 5), (some (86, false))⟩,
    ⟨(some 89), .load none (.t 88), (some (86, false))⟩,
    ⟨(some 90), .call 269 [(.t 87), (.t 89)], (some (86, false))⟩,
    ⟨(some 91), .not (.t 90), (some (86, false))⟩,
    ⟨(some 92), .pick (.t 86) (.c (.b true)) (.t 91), none⟩,
    ⟨(some 77), .mv (.t 92), none⟩])
  (.cond (.t 77)
  (.seq [8] (.reg [⟨(some 8), .mv (.c (.b false)), none⟩])
  .ret)
  (.seq [4, 5, 93] (.reg [⟨(some 94), .faddr 0 (.t 5), none⟩,
    ⟨(some 95), .load none (.t 94), none⟩,
    ⟨(some 96), .bin .eql (.t 95) (.c (.i .i64 2)), none⟩,
    ⟨(some 93), .mv (.t 96), none⟩])
  (.cond (.t 93)
  (.seq [8] (.reg [⟨(some 97), .faddr 4 (.t 5), none⟩,
    ⟨(some 98), .load none (.t 97), none⟩,
    ⟨(some 99), .bin .eql (.t 98) (.c (.i .i64 0)), none⟩,
    ⟨(some 100), .mv (.t 99), none⟩,
    ⟨(some 101), .load none (.t 4), (some (100, true))⟩,
    ⟨(some 102), .faddr 3 (.t 5), (some (100, true))⟩,
    ⟨(some 103), .load none (.t 102), (some (100, true))⟩,
    ⟨(some 104), .call 270 [(.t 101), (.t 103)], (some (100, true))⟩,
    ⟨(some 105), .pick (.t 100) (.t 104) (.c (.b false)), none⟩,
    ⟨(some 8), .mv (.t 105), none⟩])
  .ret)
  (.seq [8] (.reg [⟨(some 41), .faddr 3 (.t 5), none⟩,
    ⟨(some 42), .load none (.t 41), none⟩,
    ⟨(some 43), .bin .eql (.t 42) (.c (.i .i64 0)), none⟩,
    ⟨(some 44), .mv (.t 43), none⟩,
    ⟨(some 45), .faddr 4 (.t 5), (some (44, true))⟩,
    ⟨(some 46), .load none (.t 45), (some (44, true))⟩,
    ⟨(some 47), .bin .geq (.t 46) (.c (.i .i64 (-1000000000))), (some (44, true))⟩,
    ⟨(some 48), .pick (.t 44) (.t 47) (.c (.b false)), none⟩,
    ⟨(some 49), .mv (.t 48), none⟩,
    ⟨(some 50), .faddr 4 (.t 5), (some (49, true))⟩,
    ⟨(some 51), .load none (.t 50), (some (49, true))⟩,
    ⟨(some 52), .bin .leq (.t 51) (.c (.i .i64 1000000000)), (some (49, true))⟩,
    ⟨(some 53), .pick (.t 49) (.t 52) (.c (.b false)), none⟩,
    ⟨(some 8), .mv (.t 53), none⟩])
  .ret))))))))
  (.seq [8] (.reg [⟨(some 106), .faddr 5 (.t 5), none⟩,
    ⟨(some 107), .load none (.t 106), none⟩,
    ⟨(some 108), .mkf (.func 271) [] [(.t 4), (.t 6), (.t 7)], none⟩,
    ⟨(some 109), .call 217 [(.t 107), (.t 108)], none⟩,
    ⟨(some 8), .mv (.t 109), none⟩])
  .ret))))
theorem ree219 : Tryz.f219.body.bind (res Tryz.prog Tryz.f219.ntmps [] []) = some (erase ae219) := by kernel_rfl
def fs219 : FnS := .fn 110 ae219 [.t 8]
theorem fsok219 : FnOk Tryz.prog 219 fs219 := fun _ _ _ hn h => ctr_of_resC Tryz.func219 (by kernel_rfl) ree219 (by kernel_rfl) hn h
abbrev ae266 : ACode := (.seq [1, 2] (.reg [⟨(some 2), .box (.t 0), none⟩,
    ⟨(some 3), .mv (.c (.b false)), none⟩])
  (.seq [3] (.reg [⟨(some 4), .load none (.t 1), none⟩,
    ⟨(some 5), .load (some 6) (.t 2), none⟩,
    ⟨(some 6), .callv (.t 4) [(.t 5)], none⟩,
    ⟨(some 7), .not (.t 6), none⟩,
    ⟨(some 3), .mv (.t 7), none⟩])
  .ret))
theorem ree266 : Tryz.f266.body.bind (res Tryz.prog Tryz.f266.ntmps [] []) = some (erase ae266) := by kernel_rfl
def fs266 : FnS := .fn 8 ae266 [.t 3]
theorem fsok266 : FnOk Tryz.prog 266 fs266 := fun _ _ _ hn h => ctr_of_resC Tryz.func266 (by kernel_rfl) ree266 (by kernel_rfl) hn h
abbrev ae222 : ACode := (.seq [0, 1, 2] (.reg [⟨(some 6), .mv (.c (.b false)), none⟩])
  (.seq [0, 1, 2] (.seq [0, 1, 2, 14] (.reg [⟨(some 10), .mv (.t 0), none⟩,
    ⟨(some 11), .len (.t 10), none⟩,
    ⟨(some 12), .mv (.t 1), none⟩,
    ⟨(some 13), .len (.t 12), none⟩,
    ⟨(some 14), .bin .neq (.t 11) (.t 13), none⟩])
  (.cond (.t 14)
  (.seq [6] (.reg [⟨(some 6), .mv (.c (.b false)), none⟩])
  .ret)
  .skip))
  (.seq [] (.seq [1, 2, 15, 16, 17] (.reg [⟨(some 15), .mv (.t 0), none⟩,
    ⟨(some 16), .len (.t 15), none⟩,
    ⟨(some 17), .mv (.c (.i .i64 0)), none⟩])
  (.block 0 (.loop [1, 2, 15, 16, 17] (.seq [1, 2, 15, 16, 17, 18] (.reg [⟨(some 18), .bin .lss (.t 17) (.t 16), none⟩])
  (.seq [1, 2, 15, 16, 17] (.cond (.t 18)
  .skip
  (.exit 0))
  (.seq [1, 2, 15, 16, 17] (.block 1 (.seq [1, 2, 7, 8, 15, 16, 17] (.reg [⟨(some 19), .mv (.t 17), none⟩,
    ⟨(some 20), .iaddr 6 none (.t 15) (.t 17), none⟩,
    ⟨(some 21), .load (some 6) (.t 20), none⟩,
    ⟨(some 8), .alloc [(.i .i64 0), (.i .i64 0), (.l [] true), (.i .i64 0), (.i .i64 0), (.l [] true)], none⟩,
    ⟨(some 7), .mv (.t 19), none⟩,
    ⟨none, .store 6 (.t 8) (.t 21), none⟩])
  (.seq [1, 2, 8, 9, 15, 16, 17] (.reg [⟨(some 22), .mv (.t 1), none⟩,
    ⟨(some 23), .mv (.t 7), none⟩,
    ⟨(some 24), .iaddr 6 none (.t 22) (.t 23), none⟩,
    ⟨(some 25), .load (some 6) (.t 24), none⟩,
    ⟨(some 9), .alloc [(.i .i64 0), (.i .i64 0), (.l [] true), (.i .i64 0), (.i .i64 0), (.l [] true)], none⟩,
    ⟨none, .store 6 (.t 9) (.t 25), none⟩])
  (.seq [1, 2, 15, 16, 17, 30] (.reg [⟨(some 26), .mv (.t 2), none⟩,
    ⟨(some 27), .load (some 6) (.t 8), none⟩,
    ⟨(some 28), .load (some 6) (.t 9), none⟩,
    ⟨(some 29), .callv (.t 26) [(.t 27), (.t 28)], none⟩,
    ⟨(some 30), .not (.t 29), none⟩])
  (.cond (.t 30)
  (.seq [6] (.reg [⟨(some 6), .mv (.c (.b false)), none⟩])
  .ret)
  .skip)))))
  (.reg [⟨(some 31), .bin .add (.t 17) (.c (.i .i64 1)), none⟩,
    ⟨(some 17), .mv (.t 31), none⟩])))))))
  (.seq [6] (.reg [⟨(some 6), .mv (.c (.b true)), none⟩])
  .ret))))
theorem ree222 : Tryz.f222.body.bind (res Tryz.prog Tryz.f222.ntmps [] []) = some (erase ae222) := by kernel_rfl
def fs222 : FnS := .fn 32 ae222 [.t 6]
theorem fsok222 : FnOk Tryz.prog 222 fs222 := fun _ _ _ hn h => ctr_of_resC Tryz.func222 (by kernel_rfl) ree222 (by kernel_rfl) hn h
theorem recl223 : Tryz.f223.body.bind (res Tryz.prog Tryz.f223.ntmps [] []) = some (erase (cloneAC 6 80)) := by kernel_rfl
def fs223 : FnS := .prim (cloneP 6)
theorem fsok223 : FnOk Tryz.prog 223 fs223 := clone_fs (sz := 6) (b := 80) (fun _ _ _ hn h => ctr_of_resC Tryz.func223 (by kernel_rfl) recl223 (by kernel_rfl) hn h) (Nat.le_of_ble_eq_true rfl)
abbrev ae225 : ACode := (.seq [2, 3, 4] (.reg [⟨(some 2), .box (.t 0), none⟩,
    ⟨(some 3), .box (.t 1), none⟩,
    ⟨(some 4), .alloc [(.i .i64 0), (.i .i64 0), (.l [] true), (.i .i64 0), (.i .i64 0), (.l [] true)], none⟩])
  (.seq [4] (.reg [⟨(some 5), .load (some 6) (.t 2), none⟩,
    ⟨(some 6), .load (some 6) (.t 3), none⟩,
    ⟨(some 7), .bslice 6 2 [(.i .i64 0), (.i .i64 0), (.l [] true), (.i .i64 0), (.i .i64 0), (.l [] true)] [(0, (.t 5)), (1, (.t 6))], none⟩,
    ⟨(some 8), .build [(.i .i64 0), (.i .i64 0), (.l [] true), (.i .i64 0), (.i .i64 0), (.l [] true)] [(0, 1, (.c (.i .i64 6))), (5, 1, (.t 7))], none⟩,
    ⟨none, .store 6 (.t 4) (.t 8), none⟩])
  .ret))
theorem ree225 : Tryz.f225.body.bind (res Tryz.prog Tryz.f225.ntmps [] []) = some (erase ae225) := by kernel_rfl
def fs225 : FnS := .fn 9 ae225 [.c 4 (some 6)]
theorem fsok225 : FnOk Tryz.prog 225 fs225 := fun _ _ _ hn h => ctr_of_resC Tryz.func225 (by kernel_rfl) ree225 (by kernel_rfl) hn h
abbrev ae224 : ACode := (.seq [2, 3] (.reg [⟨(some 2), .box (.t 0), none⟩,
    ⟨(some 3), .box (.t 1), none⟩,
    ⟨(some 4), .mv (.c (.b false)), none⟩])
  (.scope (.seq [2, 3, 5] (.reg [⟨(some 5), .alloc [(.b false)], none⟩,
    ⟨none, .store 1 (.t 5) (.c (.b false)), none⟩])
  (.seq [2, 3, 5] .skip
  (.seq [5] (.seq [2, 5, 8] (.reg [⟨(some 7), .load (some 6) (.t 3), none⟩,
    ⟨(some 8), .call 273 [(.t 7), (.c (.b false))], none⟩])
  (.block 0 (.rangef [2, 5] (.t 8) [9]
  (.reg [⟨(some 6), .mv (.t 9), none⟩])
  (.block 1 (.seq [5, 12] (.reg [⟨(some 10), .load none (.t 2), none⟩,
    ⟨(some 11), .mv (.t 6), none⟩,
    ⟨(some 12), .call 274 [(.t 10), (.t 11)], none⟩])
  (.cond (.t 12)
  (.seq [] (.reg [⟨none, .store 1 (.t 5) (.c (.b true)), none⟩])
  (.exit 0))
  .skip))))))
  (.seq [4] (.reg [⟨(some 13), .load none (.t 5), none⟩,
    ⟨(some 4), .mv (.t 13), none⟩])
  .ret))))))
theorem ree224 : Tryz.f224.body.bind (res Tryz.prog Tryz.f224.ntmps [] []) = some (erase ae224) := by kernel_rfl
def fs224 : FnS := .fn 14 ae224 [.t 4]
theorem fsok224 : FnOk Tryz.prog 224 fs224 := fun _ _ _ hn h => ctr_of_resC Tryz.func224 (by kernel_rfl) ree224 (by kernel_rfl) hn h
abbrev ae272 : ACode := (.seq [0, 1] (.reg [⟨(some 4), .mv (.c (.i .i64 0)), none⟩])
  (.seq [] (.seq [0, 1, 7, 8] (.reg [⟨(some 6), .mv (.t 0), none⟩,
    ⟨(some 7), .len (.t 6), none⟩,
    ⟨(some 8), .mv (.c (.i .i64 0)), none⟩])
  (.block 0 (.loop [0, 1, 7, 8] (.seq [0, 1, 7, 8, 9] (.reg [⟨(some 9), .bin .lss (.t 8) (.t 7), none⟩])
  (.seq [0, 1, 7, 8] (.cond (.t 9)
  .skip
  (.exit 0))
  (.seq [0, 1, 7, 8] (.block 1 (.seq [0, 1, 5, 7, 8] (.reg [⟨(some 10), .mv (.t 8), none⟩,
    ⟨(some 5), .mv (.t 10), none⟩])
  (.seq [0, 1, 5, 7, 8, 16] (.reg [⟨(some 11), .mv (.t 1), none⟩,
    ⟨(some 12), .mv (.t 0), none⟩,
    ⟨(some 13), .mv (.t 5), none⟩,
    ⟨(some 14), .iaddr 6 none (.t 12) (.t 13), none⟩,
    ⟨(some 15), .load (some 6) (.t 14), none⟩,
    ⟨(some 16), .callv (.t 11) [(.t 15)], none⟩])
  (.cond (.t 16)
  (.seq [4] (.reg [⟨(some 17), .mv (.t 5), none⟩,
    ⟨(some 4), .mv (.t 17), none⟩])
  .ret)
  .skip))))
  (.reg [⟨(some 18), .bin .add (.t 8) (.c (.i .i64 1)), none⟩,
    ⟨(some 8), .mv (.t 18), none⟩])))))))
  (.seq [4] (.reg [⟨(some 4), .mv (.c (.i .i64 (-1))), none⟩])
  .ret)))
theorem ree272 : Tryz.f272.body.bind (res Tryz.prog Tryz.f272.ntmps [] []) = some (erase ae272) := by kernel_rfl
def fs272 : FnS := .fn 19 ae272 [.t 4]
theorem fsok272 : FnOk Tryz.prog 272 fs272 := fun _ _ _ hn h => ctr_of_resC Tryz.func272 (by kernel_rfl) ree272 (by kernel_rfl) hn h
abbrev ae162 : ACode := (.seq [0, 1, 2] (.reg [⟨(some 4), .mv (.c (.b false)), none⟩])
  (.seq [4] (.reg [⟨(some 5), .load none (.t 1), none⟩,
    ⟨(some 6), .load none (.t 2), none⟩,
    ⟨(some 7), .bin .add (.t 6) (.c (.i .i64 1)), none⟩,
    ⟨(some 8), .mv (.t 0), none⟩,
    ⟨(some 9), .callv (.t 5) [(.t 7), (.t 8)], none⟩,
    ⟨(some 4), .mv (.t 9), none⟩])
  .ret))
theorem ree162 : Tryz.f162.body.bind (res Tryz.prog Tryz.f162.ntmps [] []) = some (erase ae162) := by kernel_rfl
def fs162 : FnS := .fn 10 ae162 [.t 4]
theorem fsok162 : FnOk Tryz.prog 162 fs162 := fun _ _ _ hn h => ctr_of_resC Tryz.func162 (by kernel_rfl) ree162 (by kernel_rfl) hn h
abbrev ae161 : ACode := (.seq [2, 4, 5, 7] (.reg [⟨(some 4), .box (.t 0), none⟩,
    ⟨(some 5), .box (.t 1), none⟩,
    ⟨(some 7), .box (.t 3), none⟩,
    ⟨(some 8), .mv (.c (.b false)), none⟩])
  (.seq [2, 4, 5, 7] (.seq [2, 4, 5, 7, 10] (.reg [⟨(some 9), .faddr 0 (.t 4), none⟩,
    ⟨(some 10), .load none (.t 9), none⟩])
  (.block 0 (.seq [2, 4, 5, 7, 10, 11] (.reg [⟨(some 12), .bin .eql (.t 10) (.c (.i .i64 1)), none⟩,
    ⟨(some 11), .mv (.t 12), none⟩])
  (.cond (.t 11)
  (.seq [8] (.reg [⟨(some 13), .load none (.t 5), none⟩,
    ⟨(some 14), .not (.t 13), none⟩,
    ⟨(some 15), .mv (.t 14), none⟩,
    ⟨(some 16), .load none (.t 7), (some (15, true))⟩,
    ⟨(some 17), .mv (.t 2), (some (15, true))⟩,
    ⟨(some 18), .callv (.t 16) [(.t 17)], (some (15, true))⟩,
    ⟨(some 19), .pick (.t 15) (.t 18) (.c (.b false)), none⟩,
    ⟨(some 8), .mv (.t 19), none⟩])
  .ret)
  (.seq [2, 4, 5, 7, 10, 20] (.reg [⟨(some 21), .bin .eql (.t 10) (.c (.i .i64 5)), none⟩,
    ⟨(some 20), .mv (.t 21), none⟩])
  (.cond (.t 20)
  (.seq [8] (.dreg [8] [⟨0, ⟨(some 22), .faddr 5 (.t 4), none⟩, [], []⟩,
    ⟨1, ⟨(some 23), .load none (.t 22), none⟩, [], []⟩,
    ⟨2, ⟨(some 24), .iaddr 6 none (.t 23) (.c (.i .i64 0)), none⟩, [], []⟩,
    ⟨3, ⟨(some 25), .load (some 6) (.t 24), none⟩, [], []⟩,
    ⟨4, ⟨(some 26), .load none (.t 5), none⟩, [], []⟩,
    ⟨5, ⟨(some 27), .not (.t 26), none⟩, [], []⟩,
    ⟨6, ⟨(some 28), .mv (.t 2), none⟩, [], []⟩,
    ⟨7, ⟨(some 29), .load none (.t 7), none⟩, [], []⟩,
    ⟨8, ⟨(some 30), .call 161 [(.t 25), (.t 27), (.t 28), (.t 29)], none⟩, [], []⟩,
    ⟨9, ⟨(some 8), .mv (.t 30), none⟩, [], []⟩])
  .ret)
  (.seq [2, 4, 5, 7, 31] (.seq [2, 4, 5, 7, 10, 31] (.reg [⟨(some 32), .bin .eql (.t 10) (.c (.i .i64 6)), none⟩,
    ⟨(some 31), .mv (.t 32), none⟩])
  (.cond (.t 31)
  .skip
  (.reg [⟨(some 33), .bin .eql (.t 10) (.c (.i .i64 7)), none⟩,
    ⟨(some 31), .mv (.t 33), none⟩])))
  (.cond (.t 31)
  (.seq [2, 4, 5, 7] (.seq [2, 4, 5, 7, 38] (.reg [⟨(some 34), .load none (.t 5), none⟩,
    ⟨(some 35), .faddr 0 (.t 4), none⟩,
    ⟨(some 36), .load none (.t 35), none⟩,
    ⟨(some 37), .bin .eql (.t 36) (.c (.i .i64 6)), none⟩,
    ⟨(some 38), .eqb false (.t 34) (.t 37), none⟩])
  (.cond (.t 38)
  (.seq [8] (.dreg [8] [⟨0, ⟨(some 39), .faddr 5 (.t 4), none⟩, [], []⟩,
    ⟨1, ⟨(some 40), .load none (.t 39), none⟩, [], []⟩,
    ⟨2, ⟨(some 41), .iaddr 6 none (.t 40) (.c (.i .i64 0)), none⟩, [], []⟩,
    ⟨3, ⟨(some 42), .load (some 6) (.t 41), none⟩, [], []⟩,
    ⟨4, ⟨(some 43), .load none (.t 5), none⟩, [], []⟩,
    ⟨5, ⟨(some 44), .mv (.t 2), none⟩, [], []⟩,
    ⟨6, ⟨(some 45), .load none (.t 7), none⟩, [], []⟩,
    ⟨7, ⟨(some 46), .call 161 [(.t 42), (.t 43), (.t 44), (.t 45)], none⟩, [], []⟩,
    ⟨8, ⟨(some 47), .mv (.t 46), none⟩, [], []⟩,
    ⟨9, ⟨(some 48), .faddr 5 (.t 4), (some (47, false))⟩, [], []⟩,
    ⟨10, ⟨(some 49), .load none (.t 48), (some (47, false))⟩, [], []⟩,
    ⟨11, ⟨(some 50), .iaddr 6 none (.t 49) (.c (.i .i64 1)), (some (47, false))⟩, [], []⟩,
    ⟨12, ⟨(some 51), .load (some 6) (.t 50), (some (47, false))⟩, [], []⟩,
    ⟨13, ⟨(some 52), .load none (.t 5), (some (47, false))⟩, [], []⟩,
    ⟨14, ⟨(some 53), .mv (.t 2), (some (47, false))⟩, [], []⟩,
    ⟨15, ⟨(some 54), .load none (.t 7), (some (47, false))⟩, [], []⟩,
    ⟨16, ⟨(some 55), .call 161 [(.t 51), (.t 52), (.t 53), (.t 54)], (some (47, false))⟩, [], []⟩,
    ⟨17, ⟨(some 56), .pick (.t 47) (.c (.b true)) (.t 55), none⟩, [], []⟩,
    ⟨18, ⟨(some 8), .mv (.t 56), none⟩, [], []⟩])
  .ret)
  .skip))
  (.seq [8] (.dreg [8] [⟨0, ⟨(some 57), .faddr 5 (.t 4), none⟩, [], []⟩,
    ⟨1, ⟨(some 58), .load none (.t 57), none⟩, [], []⟩,
    ⟨2, ⟨(some 59), .iaddr 6 none (.t 58) (.c (.i .i64 0)), none⟩, [], []⟩,
    ⟨3, ⟨(some 60), .load (some 6) (.t 59), none⟩, [], []⟩,
    ⟨4, ⟨(some 61), .load none (.t 5), none⟩, [], []⟩,
    ⟨5, ⟨(some 62), .mv (.t 2), none⟩, [], []⟩,
    ⟨6, ⟨(some 63), .mkf (.func 210) [] [(.t 4), (.t 5), (.t 7)], none⟩, [], []⟩,
    ⟨7, ⟨(some 64), .call 161 [(.t 60), (.t 61), (.t 62), (.t 63)], none⟩, [], []⟩,
    ⟨8, ⟨(some 8), .mv (.t 64), none⟩, [], []⟩])
  .ret))
  .skip))))))))
  (.seq [8] (.dreg [8] [⟨0, ⟨(some 65), .load none (.t 7), none⟩, [], []⟩,
    ⟨1, ⟨(some 66), .mv (.t 2), none⟩, [], []⟩,
    ⟨3, ⟨(some 68), .load (some 6) (.t 4), none⟩, [], []⟩,
    ⟨4, ⟨(some 69), .load none (.t 5), none⟩, [], []⟩,
    ⟨5, ⟨(some 70), .build [(.i .i64 0), (.i .i64 0), (.l [] true), (.i .i64 0), (.i .i64 0), (.l [] true), (.b false)] [(0, 6, (.t 68)), (6, 1, (.t 69))], none⟩, [], []⟩,
    ⟨6, ⟨(some 71), .bslice 7 1 [(.i .i64 0), (.i .i64 0), (.l [] true), (.i .i64 0), (.i .i64 0), (.l [] true), (.b false)] [(0, (.t 70))], none⟩, [], []⟩,
    ⟨2, ⟨(some 67), .call 211 [(.t 66)], none⟩, [4, 3, 0], [⟨(some 69), .load none (.t 5), none⟩, ⟨(some 68), .load (some 6) (.t 4), none⟩, ⟨(some 65), .load none (.t 7), none⟩]⟩,
    ⟨7, ⟨(some 72), .append 7 88 (.t 67) (.t 71), none⟩, [0], [⟨(some 65), .load none (.t 7), none⟩]⟩,
    ⟨8, ⟨(some 73), .callv (.t 65) [(.t 72)], none⟩, [], []⟩,
    ⟨9, ⟨(some 8), .mv (.t 73), none⟩, [], []⟩])
  .ret)))
theorem ree161 : Tryz.f161.body.bind (res Tryz.prog Tryz.f161.ntmps [] []) = some (erase ae161) := by kernel_rfl
def fs161 : FnS := .fn 74 ae161 [.t 8]
theorem fsok161 : FnOk Tryz.prog 161 fs161 := fun _ _ _ hn h => ctr_of_resC Tryz.func161 (by kernel_rfl) ree161 (by kernel_rfl) hn h
abbrev ae287 : ACode := (.seq [0, 1, 2] (.reg [⟨(some 6), .mv (.c (.b false)), none⟩])
  (.seq [0, 1, 2, 7] (.reg [⟨(some 10), .mv (.t 1), none⟩,
    ⟨(some 11), .mv (.t 2), none⟩,
    ⟨(some 12), .build [(.i .i64 0), (.i .i64 0)] [(0, 1, (.t 10)), (1, 1, (.t 11))], none⟩,
    ⟨(some 7), .alloc [(.i .i64 0), (.i .i64 0)], none⟩,
    ⟨none, .store 2 (.t 7) (.t 12), none⟩])
  (.seq [0, 1, 2, 7, 8, 9] (.dreg [0, 1, 2, 7, 8, 9] [⟨0, ⟨(some 14), .mv (.t 0), none⟩, [], []⟩,
    ⟨1, ⟨(some 15), .nilck (.t 14), none⟩, [], []⟩,
    ⟨2, ⟨(some 16), .faddr 8 (.t 15), none⟩, [], []⟩,
    ⟨3, ⟨(some 17), .load none (.t 16), none⟩, [], []⟩,
    ⟨4, ⟨(some 18), .load (some 2) (.t 7), none⟩, [], []⟩,
    ⟨5, ⟨(some 19), .lookup (.a [.i64, .i64]) (.b false) true (.t 17) (.t 18), none⟩, [], []⟩,
    ⟨6, ⟨(some 13), .mv (.t 19), none⟩, [], []⟩,
    ⟨7, ⟨(some 20), .extract 0 (.t 13), none⟩, [], []⟩,
    ⟨8, ⟨(some 21), .extract 1 (.t 13), none⟩, [], []⟩,
    ⟨9, ⟨(some 8), .mv (.t 20), none⟩, [], []⟩,
    ⟨10, ⟨(some 9), .mv (.t 21), none⟩, [], []⟩])
  (.seq [8] (.seq [0, 1, 2, 7, 8, 23] (.reg [⟨(some 22), .mv (.t 9), none⟩,
    ⟨(some 23), .not (.t 22), none⟩])
  (.cond (.t 23)
  (.seq [0, 7, 8] (.dreg [0, 7, 8] [⟨0, ⟨(some 25), .mv (.t 0), none⟩, [], []⟩,
    ⟨1, ⟨(some 26), .nilck (.t 25), none⟩, [], []⟩,
    ⟨2, ⟨(some 27), .faddr 6 (.t 26), none⟩, [], []⟩,
    ⟨3, ⟨(some 28), .load (some 2) (.t 27), none⟩, [], []⟩,
    ⟨4, ⟨(some 29), .mv (.t 0), none⟩, [], []⟩,
    ⟨5, ⟨(some 30), .nilck (.t 29), none⟩, [], []⟩,
    ⟨6, ⟨(some 31), .faddr 0 (.t 30), none⟩, [], []⟩,
    ⟨7, ⟨(some 32), .faddr 3 (.t 31), none⟩, [], []⟩,
    ⟨8, ⟨(some 33), .load none (.t 32), none⟩, [], []⟩,
    ⟨9, ⟨(some 34), .mv (.t 1), none⟩, [], []⟩,
    ⟨10, ⟨(some 35), .iaddr 9 none (.t 33) (.t 34), none⟩, [], []⟩,
    ⟨11, ⟨(some 36), .faddr 2 (.t 35), none⟩, [], []⟩,
    ⟨12, ⟨(some 37), .load (some 6) (.t 36), none⟩, [], []⟩,
    ⟨13, ⟨(some 38), .mv (.t 0), none⟩, [], []⟩,
    ⟨14, ⟨(some 39), .nilck (.t 38), none⟩, [], []⟩,
    ⟨15, ⟨(some 40), .faddr 0 (.t 39), none⟩, [], []⟩,
    ⟨16, ⟨(some 41), .faddr 3 (.t 40), none⟩, [], []⟩,
    ⟨17, ⟨(some 42), .load none (.t 41), none⟩, [], []⟩,
    ⟨18, ⟨(some 43), .mv (.t 2), none⟩, [], []⟩,
    ⟨19, ⟨(some 44), .iaddr 9 none (.t 42) (.t 43), none⟩, [], []⟩,
    ⟨20, ⟨(some 45), .faddr 2 (.t 44), none⟩, [], []⟩,
    ⟨21, ⟨(some 46), .load (some 6) (.t 45), none⟩, [], []⟩,
    ⟨22, ⟨(some 47), .call 324 [(.t 28), (.t 37), (.t 46)], none⟩, [], []⟩,
    ⟨23, ⟨(some 24), .mv (.t 47), none⟩, [], []⟩,
    ⟨24, ⟨(some 48), .extract 0 (.t 24), none⟩, [], []⟩,
    ⟨25, ⟨(some 49), .extract 1 (.t 24), none⟩, [], []⟩,
    ⟨26, ⟨(some 8), .mv (.t 48), none⟩, [], []⟩])
  (.dreg [8] [⟨0, ⟨(some 50), .mv (.t 0), none⟩, [], []⟩,
    ⟨1, ⟨(some 51), .nilck (.t 50), none⟩, [], []⟩,
    ⟨2, ⟨(some 52), .faddr 8 (.t 51), none⟩, [], []⟩,
    ⟨3, ⟨(some 53), .load none (.t 52), none⟩, [], []⟩,
    ⟨4, ⟨(some 54), .load (some 2) (.t 7), none⟩, [], []⟩,
    ⟨5, ⟨(some 55), .mv (.t 8), none⟩, [], []⟩,
    ⟨6, ⟨none, .mapset (.a [.i64, .i64]) (.t 53) (.t 54) (.t 55), none⟩, [], []⟩]))
  .skip))
  (.seq [6] (.reg [⟨(some 56), .mv (.t 8), none⟩,
    ⟨(some 6), .mv (.t 56), none⟩])
  .ret)))))
theorem ree287 : Tryz.f287.body.bind (res Tryz.prog Tryz.f287.ntmps [] []) = some (erase ae287) := by kernel_rfl
def fs287 : FnS := .fn 57 ae287 [.t 6]
theorem fsok287 : FnOk Tryz.prog 287 fs287 := fun _ _ _ hn h => ctr_of_resC Tryz.func287 (by kernel_rfl) ree287 (by kernel_rfl) hn h
abbrev ae289 : ACode := (.seq [0, 1] (.reg [⟨(some 3), .mv (.c (.b false)), none⟩])
  (.seq [3] (.reg [⟨(some 4), .mv (.t 0), none⟩,
    ⟨(some 5), .load none (.t 1), none⟩,
    ⟨(some 6), .bin .neq (.t 4) (.t 5), none⟩,
    ⟨(some 3), .mv (.t 6), none⟩])
  .ret))
theorem ree289 : Tryz.f289.body.bind (res Tryz.prog Tryz.f289.ntmps [] []) = some (erase ae289) := by kernel_rfl
def fs289 : FnS := .fn 7 ae289 [.t 3]
theorem fsok289 : FnOk Tryz.prog 289 fs289 := fun _ _ _ hn h => ctr_of_resC Tryz.func289 (by kernel_rfl) ree289 (by kernel_rfl) hn h
abbrev ae288 : ACode := (.seq [0, 1] (.reg [⟨(some 4), .mv (.c (.l [] true)), none⟩])
  (.seq [0, 1, 5] (.reg [⟨(some 5), .mv (.c (.l [] true)), none⟩])
  (.seq [5] (.seq [1, 5, 8, 9, 10] (.reg [⟨(some 8), .mv (.t 0), none⟩,
    ⟨(some 9), .len (.t 8), none⟩,
    ⟨(some 10), .mv (.c (.i .i64 0)), none⟩])
  (.block 0 (.loop [1, 5, 8, 9, 10] (.seq [1, 5, 8, 9, 10, 11] (.reg [⟨(some 11), .bin .lss (.t 10) (.t 9), none⟩])
  (.seq [1, 5, 8, 9, 10] (.cond (.t 11)
  .skip
  (.exit 0))
  (.seq [1, 5, 8, 9, 10] (.block 1 (.seq [1, 5, 7, 8, 9, 10] (.reg [⟨(some 12), .iaddr 1 none (.t 8) (.t 10), none⟩,
    ⟨(some 13), .load none (.t 12), none⟩,
    ⟨(some 7), .mv (.t 13), none⟩])
  (.seq [1, 5, 7, 8, 9, 10, 16] (.reg [⟨(some 14), .mv (.t 1), none⟩,
    ⟨(some 15), .mv (.t 7), none⟩,
    ⟨(some 16), .callv (.t 14) [(.t 15)], none⟩])
  (.cond (.t 16)
  (.reg [⟨(some 17), .mv (.t 5), none⟩,
    ⟨(some 18), .mv (.t 7), none⟩,
    ⟨(some 19), .bslice 1 1 [(.i .i64 0)] [(0, (.t 18))], none⟩,
    ⟨(some 20), .append 1 8 (.t 17) (.t 19), none⟩,
    ⟨(some 5), .mv (.t 20), none⟩])
  .skip))))
  (.reg [⟨(some 21), .bin .add (.t 10) (.c (.i .i64 1)), none⟩,
    ⟨(some 10), .mv (.t 21), none⟩])))))))
  (.seq [4] (.reg [⟨(some 22), .mv (.t 5), none⟩,
    ⟨(some 23), .call 241 [(.t 22)], none⟩,
    ⟨(some 4), .mv (.t 23), none⟩])
  .ret))))
theorem ree288 : Tryz.f288.body.bind (res Tryz.prog Tryz.f288.ntmps [] []) = some (erase ae288) := by kernel_rfl
def fs288 : FnS := .fn 24 ae288 [.t 4]
theorem fsok288 : FnOk Tryz.prog 288 fs288 := fun _ _ _ hn h => ctr_of_resC Tryz.func288 (by kernel_rfl) ree288 (by kernel_rfl) hn h
end Go.Gl
