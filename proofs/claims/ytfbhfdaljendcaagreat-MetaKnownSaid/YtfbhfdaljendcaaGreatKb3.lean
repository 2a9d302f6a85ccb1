/-
  The code of functions of the program, resolved, for the evaluator (printed by wip/gen/mkclosed.py)
-/
import Derived.Test.YtfbhfdaljendcaaGreatEv7
import Derived.Test.YtfbhfdaljendcaaGreatProg
import Derived.KernelRfl
set_option linter.all false
set_option linter.unusedVariables false
set_option linter.unusedSimpArgs false
namespace Go.Gl
open Go.Proofs
abbrev ae239 : ACode := (.seq [0, 1, 2] (.reg [⟨(some 6), .mv (.c (.b false)), none⟩])
  (.seq [6] (.reg [⟨(some 7), .mv (.t 0), none⟩,
    ⟨(some 8), .mv (.t 1), none⟩,
    ⟨(some 9), .mv (.t 2), none⟩,
    ⟨(some 10), .call 287 [(.t 7), (.t 8), (.t 9)], none⟩,
    ⟨(some 11), .mv (.t 10), none⟩,
    ⟨(some 12), .mv (.t 0), (some (11, true))⟩,
    ⟨(some 13), .mv (.t 2), (some (11, true))⟩,
    ⟨(some 14), .mv (.t 1), (some (11, true))⟩,
    ⟨(some 15), .call 287 [(.t 12), (.t 13), (.t 14)], (some (11, true))⟩,
    ⟨(some 16), .not (.t 15), (some (11, true))⟩,
    ⟨(some 17), .pick (.t 11) (.t 16) (.c (.b false)), none⟩,
    ⟨(some 6), .mv (.t 17), none⟩])
  .ret))
theorem ree239 : Tryz.f239.body.bind (res Tryz.prog Tryz.f239.ntmps [] []) = some (erase ae239) := by kernel_rfl
def fs239 : FnS := .fn 18 ae239 [.t 6]
theorem fsok239 : FnOk Tryz.prog 239 fs239 := fun _ _ _ hn h => ctr_of_resC Tryz.func239 (by kernel_rfl) ree239 (by kernel_rfl) hn h
abbrev ae240 : ACode := (.seq [0, 3] (.reg [⟨(some 3), .box (.t 1), none⟩,
    ⟨(some 4), .mv (.c (.l [] true)), none⟩])
  (.seq [4] (.reg [⟨(some 5), .mv (.t 0), none⟩,
    ⟨(some 6), .mkf (.func 289) [] [(.t 3)], none⟩,
    ⟨(some 7), .call 288 [(.t 5), (.t 6)], none⟩,
    ⟨(some 4), .mv (.t 7), none⟩])
  .ret))
theorem ree240 : Tryz.f240.body.bind (res Tryz.prog Tryz.f240.ntmps [] []) = some (erase ae240) := by kernel_rfl
def fs240 : FnS := .fn 8 ae240 [.t 4]
theorem fsok240 : FnOk Tryz.prog 240 fs240 := fun _ _ _ hn h => ctr_of_resC Tryz.func240 (by kernel_rfl) ree240 (by kernel_rfl) hn h
abbrev ae241 : ACode := (.seq [0] (.reg [⟨(some 2), .mv (.c (.l [] true)), none⟩])
  (.seq [2] (.reg [⟨(some 3), .mv (.t 0), none⟩,
    ⟨(some 4), .mv (.t 0), none⟩,
    ⟨(some 5), .len (.t 4), none⟩,
    ⟨(some 6), .mv (.t 0), none⟩,
    ⟨(some 7), .len (.t 6), none⟩,
    ⟨(some 8), .slice 1 (.t 3) none (some (.t 5)) (some (.t 7)), none⟩,
    ⟨(some 2), .mv (.t 8), none⟩])
  .ret))
theorem ree241 : Tryz.f241.body.bind (res Tryz.prog Tryz.f241.ntmps [] []) = some (erase ae241) := by kernel_rfl
def fs241 : FnS := .fn 9 ae241 [.t 2]
theorem fsok241 : FnOk Tryz.prog 241 fs241 := fun _ _ _ hn h => ctr_of_resC Tryz.func241 (by kernel_rfl) ree241 (by kernel_rfl) hn h
abbrev ae243 : ACode := (.seq [1] (.reg [⟨(some 1), .box (.t 0), none⟩,
    ⟨(some 2), .mv (.c .fnil), none⟩])
  (.seq [2] (.reg [⟨(some 3), .mkf (.func 292) [] [(.t 1)], none⟩,
    ⟨(some 2), .mv (.t 3), none⟩])
  .ret))
theorem ree243 : Tryz.f243.body.bind (res Tryz.prog Tryz.f243.ntmps [] []) = some (erase ae243) := by kernel_rfl
def fs243 : FnS := .fn 4 ae243 [.t 2]
theorem fsok243 : FnOk Tryz.prog 243 fs243 := fun _ _ _ hn h => ctr_of_resC Tryz.func243 (by kernel_rfl) ree243 (by kernel_rfl) hn h
abbrev ae242 : ACode := (.seq [0] (.reg [⟨(some 2), .mv (.c (.l [] true)), none⟩])
  (.seq [3] (.reg [⟨(some 4), .mv (.t 0), none⟩,
    ⟨(some 5), .call 290 [(.t 4)], none⟩,
    ⟨(some 3), .mv (.t 5), none⟩])
  (.seq [3] (.reg [⟨(some 6), .mv (.t 3), none⟩,
    ⟨(some 7), .call 291 [(.t 6)], none⟩])
  (.seq [2] (.reg [⟨(some 8), .mv (.t 3), none⟩,
    ⟨(some 2), .mv (.t 8), none⟩])
  .ret))))
theorem ree242 : Tryz.f242.body.bind (res Tryz.prog Tryz.f242.ntmps [] []) = some (erase ae242) := by kernel_rfl
def fs242 : FnS := .fn 9 ae242 [.t 2]
theorem fsok242 : FnOk Tryz.prog 242 fs242 := fun _ _ _ hn h => ctr_of_resC Tryz.func242 (by kernel_rfl) ree242 (by kernel_rfl) hn h
abbrev ae244 : ACode := (.seq [1, 2, 3] (.reg [⟨(some 3), .box (.t 0), none⟩,
    ⟨(some 4), .mv (.c (.b false)), none⟩])
  (.seq [4] (.reg [⟨(some 5), .load none (.t 1), none⟩,
    ⟨(some 6), .mkf (.func 245) [] [(.t 2), (.t 3)], none⟩,
    ⟨(some 7), .call 46 [(.t 5), (.t 6)], none⟩,
    ⟨(some 8), .not (.t 7), none⟩,
    ⟨(some 4), .mv (.t 8), none⟩])
  .ret))
theorem ree244 : Tryz.f244.body.bind (res Tryz.prog Tryz.f244.ntmps [] []) = some (erase ae244) := by kernel_rfl
def fs244 : FnS := .fn 9 ae244 [.t 4]
theorem fsok244 : FnOk Tryz.prog 244 fs244 := fun _ _ _ hn h => ctr_of_resC Tryz.func244 (by kernel_rfl) ree244 (by kernel_rfl) hn h
abbrev ae196 : ACode := (.seq [1] (.reg [⟨(some 1), .box (.t 0), none⟩])
  (.seq [1] (.reg [⟨(some 16), .faddr 0 (.t 1), none⟩,
    ⟨(some 17), .load none (.t 16), none⟩,
    ⟨(some 18), .len (.t 17), none⟩,
    ⟨(some 19), .bin .leq (.t 18) (.c (.i .i64 10)), none⟩,
    ⟨(some 20), .call 197 [(.t 19)], none⟩])
  (.seq [1, 2] (.reg [⟨(some 2), .mv (.c (.i .i64 0)), none⟩])
  (.seq [1, 2] (.seq [1, 2, 22, 23, 24] (.reg [⟨(some 21), .faddr 0 (.t 1), none⟩,
    ⟨(some 22), .load none (.t 21), none⟩,
    ⟨(some 23), .len (.t 22), none⟩,
    ⟨(some 24), .mv (.c (.i .i64 0)), none⟩])
  (.block 0 (.loop [1, 2, 22, 23, 24] (.seq [1, 2, 22, 23, 24, 25] (.reg [⟨(some 25), .bin .lss (.t 24) (.t 23), none⟩])
  (.seq [1, 2, 22, 23, 24] (.cond (.t 25)
  .skip
  (.exit 0))
  (.seq [1, 2, 22, 23, 24] (.block 1 (.seq [1, 2, 4, 22, 23, 24] (.reg [⟨(some 26), .iaddr 3 none (.t 22) (.t 24), none⟩,
    ⟨(some 27), .load (some 3) (.t 26), none⟩,
    ⟨(some 4), .alloc [(.l [] true), (.l [] true), (.l [] true)], none⟩,
    ⟨none, .store 3 (.t 4) (.t 27), none⟩])
  (.seq [1, 2, 4, 22, 23, 24] (.reg [⟨(some 28), .faddr 1 (.t 4), none⟩,
    ⟨(some 29), .load none (.t 28), none⟩,
    ⟨(some 30), .len (.t 29), none⟩,
    ⟨(some 31), .bin .leq (.t 30) (.c (.i .i64 4)), none⟩,
    ⟨(some 32), .call 197 [(.t 31)], none⟩])
  (.seq [1, 2, 22, 23, 24, 34, 35, 36] (.reg [⟨(some 33), .faddr 1 (.t 4), none⟩,
    ⟨(some 34), .load none (.t 33), none⟩,
    ⟨(some 35), .len (.t 34), none⟩,
    ⟨(some 36), .mv (.c (.i .i64 0)), none⟩])
  (.block 2 (.loop [1, 2, 22, 23, 24, 34, 35, 36] (.seq [1, 2, 22, 23, 24, 34, 35, 36, 37] (.reg [⟨(some 37), .bin .lss (.t 36) (.t 35), none⟩])
  (.seq [1, 2, 22, 23, 24, 34, 35, 36] (.cond (.t 37)
  .skip
  (.exit 2))
  (.seq [1, 2, 22, 23, 24, 34, 35, 36] (.block 3 (.seq [1, 2, 6, 22, 23, 24, 34, 35, 36] (.reg [⟨(some 38), .iaddr 1 none (.t 34) (.t 36), none⟩,
    ⟨(some 39), .load none (.t 38), none⟩,
    ⟨(some 6), .mv (.t 39), none⟩])
  (.seq [1, 2, 22, 23, 24, 34, 35, 36] (.reg [⟨(some 40), .mv (.t 6), none⟩,
    ⟨(some 41), .mv (.t 2), none⟩,
    ⟨(some 42), .bin .eql (.t 40) (.t 41), none⟩,
    ⟨(some 43), .call 197 [(.t 42)], none⟩])
  (.reg [⟨(some 44), .mv (.t 2), none⟩,
    ⟨(some 45), .bin .add (.t 44) (.c (.i .i64 1)), none⟩,
    ⟨(some 2), .mv (.t 45), none⟩]))))
  (.reg [⟨(some 46), .bin .add (.t 36) (.c (.i .i64 1)), none⟩,
    ⟨(some 36), .mv (.t 46), none⟩]))))))))))
  (.reg [⟨(some 47), .bin .add (.t 24) (.c (.i .i64 1)), none⟩,
    ⟨(some 24), .mv (.t 47), none⟩])))))))
  (.seq [1, 2, 7] (.reg [⟨(some 48), .load (some 6) (.t 1), none⟩,
    ⟨(some 49), .call 173 [(.t 48)], none⟩,
    ⟨(some 7), .mv (.t 49), none⟩])
  (.seq [1, 7] (.reg [⟨(some 50), .mv (.t 2), none⟩,
    ⟨(some 51), .faddr 1 (.t 1), none⟩,
    ⟨(some 52), .load none (.t 51), none⟩,
    ⟨(some 53), .bin .eql (.t 50) (.t 52), none⟩,
    ⟨(some 54), .mv (.t 53), none⟩,
    ⟨(some 55), .mv (.t 7), (some (54, true))⟩,
    ⟨(some 56), .call 247 [(.t 55)], (some (54, true))⟩,
    ⟨(some 57), .bin .eql (.t 56) (.c (.i .i64 0)), (some (54, true))⟩,
    ⟨(some 58), .pick (.t 54) (.t 57) (.c (.b false)), none⟩,
    ⟨(some 59), .call 197 [(.t 58)], none⟩])
  (.seq [1, 7, 61, 62, 63] (.reg [⟨(some 60), .faddr 0 (.t 1), none⟩,
    ⟨(some 61), .load none (.t 60), none⟩,
    ⟨(some 62), .len (.t 61), none⟩,
    ⟨(some 63), .mv (.c (.i .i64 0)), none⟩])
  (.block 4 (.loop [1, 7, 61, 62, 63] (.seq [1, 7, 61, 62, 63, 64] (.reg [⟨(some 64), .bin .lss (.t 63) (.t 62), none⟩])
  (.seq [1, 7, 61, 62, 63] (.cond (.t 64)
  .skip
  (.exit 4))
  (.seq [1, 7, 61, 62, 63] (.block 5 (.seq [1, 7, 8, 9, 61, 62, 63] (.reg [⟨(some 65), .mv (.t 63), none⟩,
    ⟨(some 66), .iaddr 3 none (.t 61) (.t 63), none⟩,
    ⟨(some 67), .load (some 3) (.t 66), none⟩,
    ⟨(some 9), .alloc [(.l [] true), (.l [] true), (.l [] true)], none⟩,
    ⟨(some 8), .mv (.t 65), none⟩,
    ⟨none, .store 3 (.t 9) (.t 67), none⟩])
  (.seq [1, 7, 8, 9, 11, 61, 62, 63] (.reg [⟨(some 69), .mv (.t 7), none⟩,
    ⟨(some 70), .mv (.t 8), none⟩,
    ⟨(some 71), .bin .add (.t 70) (.c (.i .i64 3)), none⟩,
    ⟨(some 72), .call 248 [(.t 69), (.t 71)], none⟩,
    ⟨(some 68), .mv (.t 72), none⟩,
    ⟨(some 73), .extract 0 (.t 68), none⟩,
    ⟨(some 74), .extract 1 (.t 68), none⟩,
    ⟨(some 10), .mv (.t 73), none⟩,
    ⟨(some 11), .mv (.t 74), none⟩])
  (.seq [1, 7, 8, 9, 61, 62, 63] (.reg [⟨(some 75), .mv (.t 11), none⟩,
    ⟨(some 76), .bin .eql (.t 75) (.c (.i .i64 0)), none⟩,
    ⟨(some 77), .call 197 [(.t 76)], none⟩])
  (.seq [1, 7, 9, 12, 13, 61, 62, 63] (.reg [⟨(some 78), .load (some 6) (.t 1), none⟩,
    ⟨(some 79), .mv (.t 8), none⟩,
    ⟨(some 80), .bin .add (.t 79) (.c (.i .i64 3)), none⟩,
    ⟨(some 81), .call 249 [(.t 78), (.t 80)], none⟩,
    ⟨(some 82), .mkmap, none⟩,
    ⟨(some 12), .mv (.t 81), none⟩,
    ⟨(some 13), .mv (.t 82), none⟩])
  (.seq [1, 7, 12, 13, 61, 62, 63, 84, 85, 86] (.reg [⟨(some 83), .faddr 2 (.t 9), none⟩,
    ⟨(some 84), .load none (.t 83), none⟩,
    ⟨(some 85), .len (.t 84), none⟩,
    ⟨(some 86), .mv (.c (.i .i64 0)), none⟩])
  (.block 6 (.loop [1, 7, 12, 13, 61, 62, 63, 84, 85, 86] (.seq [1, 7, 12, 13, 61, 62, 63, 84, 85, 86, 87] (.reg [⟨(some 87), .bin .lss (.t 86) (.t 85), none⟩])
  (.seq [1, 7, 12, 13, 61, 62, 63, 84, 85, 86] (.cond (.t 87)
  .skip
  (.exit 6))
  (.seq [1, 7, 12, 13, 61, 62, 63, 84, 85, 86] (.block 7 (.seq [1, 7, 12, 13, 15, 61, 62, 63, 84, 85, 86] (.reg [⟨(some 88), .iaddr 2 none (.t 84) (.t 86), none⟩,
    ⟨(some 89), .load (some 2) (.t 88), none⟩,
    ⟨(some 15), .alloc [(.i .i64 0), (.i .i64 0)], none⟩,
    ⟨none, .store 2 (.t 15) (.t 89), none⟩])
  (.seq [1, 7, 12, 13, 15, 61, 62, 63, 84, 85, 86] (.reg [⟨(some 90), .mv (.t 12), none⟩,
    ⟨(some 91), .faddr 0 (.t 15), none⟩,
    ⟨(some 92), .load none (.t 91), none⟩,
    ⟨(some 93), .call 67 [(.t 90), (.t 92)], none⟩,
    ⟨(some 94), .mv (.t 93), none⟩,
    ⟨(some 95), .mv (.t 13), (some (94, true))⟩,
    ⟨(some 96), .faddr 0 (.t 15), (some (94, true))⟩,
    ⟨(some 97), .load none (.t 96), (some (94, true))⟩,
    ⟨(some 98), .lookup (.i .i64) (.b false) false (.t 95) (.t 97), (some (94, true))⟩,
    ⟨(some 99), .not (.t 98), (some (94, true))⟩,
    ⟨(some 100), .pick (.t 94) (.t 99) (.c (.b false)), none⟩,
    ⟨(some 101), .mv (.t 100), none⟩,
    ⟨(some 102), .faddr 1 (.t 15), (some (101, true))⟩,
    ⟨(some 103), .load none (.t 102), (some (101, true))⟩,
    ⟨(some 104), .call 250 [(.t 103)], (some (101, true))⟩,
    ⟨(some 105), .pick (.t 101) (.t 104) (.c (.b false)), none⟩,
    ⟨(some 106), .call 197 [(.t 105)], none⟩])
  (.reg [⟨(some 107), .mv (.t 13), none⟩,
    ⟨(some 108), .faddr 0 (.t 15), none⟩,
    ⟨(some 109), .load none (.t 108), none⟩,
    ⟨none, .mapset (.i .i64) (.t 107) (.t 109) (.c (.b true)), none⟩]))))
  (.reg [⟨(some 110), .bin .add (.t 86) (.c (.i .i64 1)), none⟩,
    ⟨(some 86), .mv (.t 110), none⟩]))))))))))))
  (.reg [⟨(some 111), .bin .add (.t 63) (.c (.i .i64 1)), none⟩,
    ⟨(some 63), .mv (.t 111), none⟩])))))))))))))
theorem ree196 : Tryz.f196.body.bind (res Tryz.prog Tryz.f196.ntmps [] []) = some (erase ae196) := by kernel_rfl
def fs196 : FnS := .fn 112 ae196 []
theorem fsok196 : FnOk Tryz.prog 196 fs196 := fun _ _ _ hn h => ctr_of_resC Tryz.func196 (by kernel_rfl) ree196 (by kernel_rfl) hn h
abbrev ae197 : ACode := (.seq [3] (.reg [⟨(some 2), .mv (.t 0), none⟩,
    ⟨(some 3), .not (.t 2), none⟩])
  (.cond (.t 3)
  (.reg [⟨(some 4), .build [] [], none⟩,
    ⟨(some 5), .mkifc 334 (.t 4), none⟩,
    ⟨none, .panic (.t 5), none⟩])
  .skip))
theorem ree197 : Tryz.f197.body.bind (res Tryz.prog Tryz.f197.ntmps [] []) = some (erase ae197) := by kernel_rfl
def fs197 : FnS := .fn 6 ae197 []
theorem fsok197 : FnOk Tryz.prog 197 fs197 := fun _ _ _ hn h => ctr_of_resC Tryz.func197 (by kernel_rfl) ree197 (by kernel_rfl) hn h
abbrev ae60 : ACode := (.seq [0, 1] (.reg [⟨(some 4), .mv (.c (.l [] true)), none⟩])
  (.seq [0, 1] (.seq [0, 1, 10] (.reg [⟨(some 9), .mv (.t 1), none⟩,
    ⟨(some 10), .bin .lss (.t 9) (.c (.i .i64 0)), none⟩])
  (.cond (.t 10)
  (.reg [⟨(some 11), .mkifc 9 (.c (.s ⟨#[99, 97, 110, 110, 111, 116, 32, 98, 101, 32, 110, 101, 103, 97, 116, 105, 118, 101]⟩)), none⟩,
    ⟨none, .panic (.t 11), none⟩])
  .skip))
  (.seq [0, 5, 6] (.reg [⟨(some 13), .mv (.t 0), none⟩,
    ⟨(some 14), .len (.t 13), none⟩,
    ⟨(some 15), .conv .u64 (.t 14), none⟩,
    ⟨(some 16), .mv (.t 1), none⟩,
    ⟨(some 17), .conv .u64 (.t 16), none⟩,
    ⟨(some 18), .call 115 [(.t 15), (.t 17)], none⟩,
    ⟨(some 12), .mv (.t 18), none⟩,
    ⟨(some 19), .extract 0 (.t 12), none⟩,
    ⟨(some 20), .extract 1 (.t 12), none⟩,
    ⟨(some 5), .mv (.t 19), none⟩,
    ⟨(some 6), .mv (.t 20), none⟩])
  (.seq [0, 6] (.seq [0, 6, 26] (.reg [⟨(some 21), .mv (.t 5), none⟩,
    ⟨(some 22), .bin .gtr (.t 21) (.c (.i .u64 0)), none⟩,
    ⟨(some 23), .mv (.t 22), none⟩,
    ⟨(some 24), .mv (.t 6), (some (23, false))⟩,
    ⟨(some 25), .bin .gtr (.t 24) (.c (.i .u64 9223372036854775807)), (some (23, false))⟩,
    ⟨(some 26), .pick (.t 23) (.c (.b true)) (.t 25), none⟩])
  (.cond (.t 26)
  (.reg [⟨(some 27), .mkifc 9 (.c (.s ⟨#[116, 104, 101, 32, 114, 101, 115, 117, 108, 116, 32, 111, 102, 32, 40, 108, 101, 110, 40, 120, 41, 32, 42, 32, 99, 111, 117, 110, 116, 41, 32, 111, 118, 101, 114, 102, 108, 111, 119, 115]⟩)), none⟩,
    ⟨none, .panic (.t 27), none⟩])
  .skip))
  (.seq [0, 7] (.reg [⟨(some 28), .mv (.t 6), none⟩,
    ⟨(some 29), .conv .i64 (.t 28), none⟩,
    ⟨(some 30), .mkslice 1 8 [(.i .i64 0)] (.t 29) (.t 29), none⟩,
    ⟨(some 7), .mv (.t 30), none⟩])
  (.seq [7, 8] (.reg [⟨(some 31), .mv (.t 7), none⟩,
    ⟨(some 32), .mv (.t 0), none⟩,
    ⟨(some 33), .copy 1 (.t 31) (.t 32), none⟩,
    ⟨(some 8), .mv (.t 33), none⟩])
  (.seq [7] (.block 0 (.loop [7, 8] (.seq [7, 8] (.seq [7, 8, 37] (.reg [⟨(some 34), .mv (.t 8), none⟩,
    ⟨(some 35), .mv (.t 7), none⟩,
    ⟨(some 36), .len (.t 35), none⟩,
    ⟨(some 37), .bin .lss (.t 34) (.t 36), none⟩])
  (.cond (.t 37)
  .skip
  (.exit 0)))
  (.block 1 (.dreg [7, 8] [⟨0, ⟨(some 38), .mv (.t 8), none⟩, [], []⟩,
    ⟨1, ⟨(some 39), .mv (.t 7), none⟩, [], []⟩,
    ⟨2, ⟨(some 40), .mv (.t 8), none⟩, [], []⟩,
    ⟨3, ⟨(some 41), .slice 1 (.t 39) (some (.t 40)) none none, none⟩, [], []⟩,
    ⟨4, ⟨(some 42), .mv (.t 7), none⟩, [], []⟩,
    ⟨5, ⟨(some 43), .mv (.t 8), none⟩, [], []⟩,
    ⟨6, ⟨(some 44), .slice 1 (.t 42) none (some (.t 43)) none, none⟩, [], []⟩,
    ⟨7, ⟨(some 45), .copy 1 (.t 41) (.t 44), none⟩, [], []⟩,
    ⟨8, ⟨(some 46), .bin .add (.t 38) (.t 45), none⟩, [], []⟩,
    ⟨9, ⟨(some 8), .mv (.t 46), none⟩, [], []⟩])))))
  (.seq [4] (.reg [⟨(some 47), .mv (.t 7), none⟩,
    ⟨(some 4), .mv (.t 47), none⟩])
  .ret))))))))
theorem ree60 : Tryz.f60.body.bind (res Tryz.prog Tryz.f60.ntmps [] []) = some (erase ae60) := by kernel_rfl
def fs60 : FnS := .fn 48 ae60 [.t 4]
theorem fsok60 : FnOk Tryz.prog 60 fs60 := fun _ _ _ hn h => ctr_of_resC Tryz.func60 (by kernel_rfl) ree60 (by kernel_rfl) hn h
abbrev ae198 : ACode := (.seq [0, 1, 3, 4, 7] (.reg [⟨(some 7), .box (.t 2), none⟩])
  (.seq [3, 4, 7, 17] (.reg [⟨(some 13), .load (some 6) (.t 3), none⟩,
    ⟨(some 14), .mv (.t 0), none⟩,
    ⟨(some 15), .mv (.t 1), none⟩,
    ⟨(some 16), .build [(.i .i64 0), (.i .i64 0)] [(0, 1, (.t 15)), (1, 1, (.c (.i .i64 1)))], none⟩,
    ⟨(some 17), .call 199 [(.t 13), (.t 14), (.t 16)], none⟩])
  (.block 0 (.rangef [3, 4, 7] (.t 17) [18, 19]
  (.seq [3, 4, 7, 8, 19] (.reg [⟨(some 8), .mv (.t 18), none⟩])
  (.reg [⟨(some 9), .alloc [(.i .i64 0), (.i .i64 0)], none⟩,
    ⟨none, .store 2 (.t 9) (.t 19), none⟩]))
  (.block 1 (.seq [3, 4, 7, 8, 9] (.reg [⟨(some 20), .mv (.t 8), none⟩,
    ⟨(some 21), .bin .geq (.t 20) (.c (.i .i64 0)), none⟩,
    ⟨(some 22), .mv (.t 21), none⟩,
    ⟨(some 23), .mv (.t 8), (some (22, true))⟩,
    ⟨(some 24), .faddr 4 (.t 3), (some (22, true))⟩,
    ⟨(some 25), .load none (.t 24), (some (22, true))⟩,
    ⟨(some 26), .len (.t 25), (some (22, true))⟩,
    ⟨(some 27), .bin .lss (.t 23) (.t 26), (some (22, true))⟩,
    ⟨(some 28), .pick (.t 22) (.t 27) (.c (.b false)), none⟩,
    ⟨(some 29), .mv (.t 28), none⟩,
    ⟨(some 30), .load none (.t 4), (some (29, true))⟩,
    ⟨(some 31), .mv (.t 8), (some (29, true))⟩,
    ⟨(some 32), .iaddr 1 none (.t 30) (.t 31), (some (29, true))⟩,
    ⟨(some 33), .load none (.t 32), (some (29, true))⟩,
    ⟨(some 34), .bin .lss (.t 33) (.c (.i .i64 0)), (some (29, true))⟩,
    ⟨(some 35), .pick (.t 29) (.t 34) (.c (.b false)), none⟩,
    ⟨(some 36), .mv (.t 35), none⟩,
    ⟨(some 37), .faddr 1 (.t 9), (some (36, true))⟩,
    ⟨(some 38), .load none (.t 37), (some (36, true))⟩,
    ⟨(some 39), .bin .leq (.t 38) (.c (.i .i64 12)), (some (36, true))⟩,
    ⟨(some 40), .pick (.t 36) (.t 39) (.c (.b false)), none⟩,
    ⟨(some 41), .call 197 [(.t 40)], none⟩])
  (.seq [3, 7, 8, 9] (.reg [⟨(some 42), .load none (.t 4), none⟩,
    ⟨(some 43), .mv (.t 8), none⟩,
    ⟨(some 44), .faddr 0 (.t 9), none⟩,
    ⟨(some 45), .load none (.t 44), none⟩,
    ⟨(some 46), .iaddr 1 none (.t 42) (.t 43), none⟩,
    ⟨none, .store 1 (.t 46) (.t 45), none⟩])
  (.seq [3, 7, 9, 10] (.reg [⟨(some 47), .faddr 4 (.t 3), none⟩,
    ⟨(some 48), .load none (.t 47), none⟩,
    ⟨(some 49), .mv (.t 8), none⟩,
    ⟨(some 50), .iaddr 3 none (.t 48) (.t 49), none⟩,
    ⟨(some 51), .load (some 3) (.t 50), none⟩,
    ⟨(some 10), .alloc [(.i .i64 0), (.i .i64 0), (.l [] true)], none⟩,
    ⟨none, .store 3 (.t 10) (.t 51), none⟩])
  (.seq [3, 10] (.reg [⟨(some 52), .load (some 6) (.t 3), none⟩,
    ⟨(some 53), .load (some 3) (.t 10), none⟩,
    ⟨(some 54), .faddr 0 (.t 9), none⟩,
    ⟨(some 55), .load none (.t 54), none⟩,
    ⟨(some 56), .call 200 [(.t 52), (.t 53), (.t 55)], none⟩,
    ⟨(some 57), .mv (.t 56), none⟩,
    ⟨(some 58), .load none (.t 7), (some (57, true))⟩,
    ⟨(some 59), .mv (.t 58), (some (57, true))⟩,
    ⟨(some 60), .faddr 0 (.t 10), (some (59, false))⟩,
    ⟨(some 61), .load none (.t 60), (some (59, false))⟩,
    ⟨(some 62), .bin .neq (.t 61) (.c (.i .i64 18)), (some (59, false))⟩,
    ⟨(some 63), .pick (.t 59) (.c (.b true)) (.t 62), (some (57, true))⟩,
    ⟨(some 64), .pick (.t 57) (.t 63) (.c (.b false)), none⟩,
    ⟨(some 65), .call 197 [(.t 64)], none⟩])
  (.seq [3, 10, 68] (.reg [⟨(some 66), .faddr 0 (.t 10), none⟩,
    ⟨(some 67), .load none (.t 66), none⟩,
    ⟨(some 68), .call 201 [(.t 67)], none⟩])
  (.block 2 (.seq [3, 10, 68, 76] (.reg [⟨(some 70), .tas 295 (.i .i64 0) true (.t 68), none⟩,
    ⟨(some 71), .extract 1 (.t 70), none⟩,
    ⟨(some 72), .extract 0 (.t 70), none⟩,
    ⟨(some 73), .tas 296 (.a []) true (.t 68), none⟩,
    ⟨(some 74), .extract 1 (.t 73), none⟩,
    ⟨(some 75), .extract 0 (.t 73), none⟩,
    ⟨(some 76), .pick (.t 71) (.c (.b true)) (.t 74), none⟩])
  (.cond (.t 76)
  (.seq [3, 10, 11] (.reg [⟨(some 11), .mv (.t 68), none⟩])
  (.dreg [] [⟨0, ⟨(some 77), .faddr 2 (.t 10), none⟩, [], []⟩,
    ⟨1, ⟨(some 78), .load none (.t 77), none⟩, [], []⟩,
    ⟨2, ⟨(some 79), .len (.t 78), none⟩, [], []⟩,
    ⟨3, ⟨(some 80), .mv (.t 11), none⟩, [], []⟩,
    ⟨4, ⟨(some 81), .load (some 6) (.t 3), none⟩, [], []⟩,
    ⟨5, ⟨(some 82), .load (some 3) (.t 10), none⟩, [], []⟩,
    ⟨6, ⟨(some 83), .inv [(295, 411), (296, 412)] (.t 80) [(.t 81), (.t 82)], none⟩, [1], [⟨(some 78), .load none (.t 77), none⟩]⟩,
    ⟨7, ⟨(some 84), .bin .eql (.t 79) (.t 83), none⟩, [], []⟩,
    ⟨8, ⟨(some 85), .call 197 [(.t 84)], none⟩, [], []⟩]))
  (.seq [] (.reg [⟨(some 12), .mv (.t 68), none⟩])
  (.reg [⟨(some 69), .call 197 [(.c (.b false))], none⟩])))))))))))))))
theorem ree198 : Tryz.f198.body.bind (res Tryz.prog Tryz.f198.ntmps [] []) = some (erase ae198) := by kernel_rfl
def fs198 : FnS := .fn 86 ae198 []
theorem fsok198 : FnOk Tryz.prog 198 fs198 := fun _ _ _ hn h => ctr_of_resC Tryz.func198 (by kernel_rfl) ree198 (by kernel_rfl) hn h
abbrev ae116 : ACode := (.seq [2, 3] (.reg [⟨(some 2), .box (.t 0), none⟩,
    ⟨(some 3), .box (.t 1), none⟩,
    ⟨(some 4), .mv (.c (.i .i64 0)), none⟩])
  (.seq [6] (.reg [⟨(some 8), .load (some 2) (.t 2), none⟩,
    ⟨(some 9), .load (some 6) (.t 3), none⟩,
    ⟨(some 10), .bslice 6 1 [(.i .i64 0), (.i .i64 0), (.l [] true), (.i .i64 0), (.i .i64 0), (.l [] true)] [(0, (.t 9))], none⟩,
    ⟨(some 11), .call 119 [(.t 8), (.t 10)], none⟩,
    ⟨(some 7), .mv (.t 11), none⟩,
    ⟨(some 12), .extract 0 (.t 7), none⟩,
    ⟨(some 13), .extract 1 (.t 7), none⟩,
    ⟨(some 5), .mv (.t 12), none⟩,
    ⟨(some 6), .mv (.t 13), none⟩])
  (.seq [4] (.reg [⟨(some 14), .mv (.t 6), none⟩,
    ⟨(some 15), .call 172 [(.t 14)], none⟩,
    ⟨(some 4), .mv (.t 15), none⟩])
  .ret)))
theorem ree116 : Tryz.f116.body.bind (res Tryz.prog Tryz.f116.ntmps [] []) = some (erase ae116) := by kernel_rfl
def fs116 : FnS := .fn 16 ae116 [.t 4]
theorem fsok116 : FnOk Tryz.prog 116 fs116 := fun _ _ _ hn h => ctr_of_resC Tryz.func116 (by kernel_rfl) ree116 (by kernel_rfl) hn h
abbrev ae202 : ACode := (.seq [1] (.reg [⟨(some 1), .box (.t 0), none⟩,
    ⟨(some 2), .mv (.c (.i .i64 0)), none⟩])
  (.seq [1, 3] (.reg [⟨(some 3), .mv (.c (.i .i64 0)), none⟩])
  (.seq [1, 3] (.seq [1, 3, 18] (.reg [⟨(some 6), .faddr 0 (.t 1), none⟩,
    ⟨(some 7), .load none (.t 6), none⟩,
    ⟨(some 8), .bin .eql (.t 7) (.c (.i .i64 2)), none⟩,
    ⟨(some 9), .mv (.t 8), none⟩,
    ⟨(some 10), .faddr 0 (.t 1), (some (9, false))⟩,
    ⟨(some 11), .load none (.t 10), (some (9, false))⟩,
    ⟨(some 12), .bin .eql (.t 11) (.c (.i .i64 3)), (some (9, false))⟩,
    ⟨(some 13), .pick (.t 9) (.c (.b true)) (.t 12), none⟩,
    ⟨(some 14), .mv (.t 13), none⟩,
    ⟨(some 15), .faddr 0 (.t 1), (some (14, false))⟩,
    ⟨(some 16), .load none (.t 15), (some (14, false))⟩,
    ⟨(some 17), .bin .eql (.t 16) (.c (.i .i64 4)), (some (14, false))⟩,
    ⟨(some 18), .pick (.t 14) (.c (.b true)) (.t 17), none⟩])
  (.cond (.t 18)
  (.reg [⟨(some 19), .faddr 1 (.t 1), none⟩,
    ⟨(some 20), .load none (.t 19), none⟩,
    ⟨(some 21), .bin .add (.t 20) (.c (.i .i64 1)), none⟩,
    ⟨(some 3), .mv (.t 21), none⟩])
  .skip))
  (.seq [3] (.seq [3, 23, 24, 25] (.reg [⟨(some 22), .faddr 5 (.t 1), none⟩,
    ⟨(some 23), .load none (.t 22), none⟩,
    ⟨(some 24), .len (.t 23), none⟩,
    ⟨(some 25), .mv (.c (.i .i64 0)), none⟩])
  (.block 0 (.loop [3, 23, 24, 25] (.seq [3, 23, 24, 25, 26] (.reg [⟨(some 26), .bin .lss (.t 25) (.t 24), none⟩])
  (.seq [3, 23, 24, 25] (.cond (.t 26)
  .skip
  (.exit 0))
  (.seq [3, 23, 24, 25] (.block 1 (.seq [3, 5, 23, 24, 25] (.reg [⟨(some 27), .iaddr 6 none (.t 23) (.t 25), none⟩,
    ⟨(some 28), .load (some 6) (.t 27), none⟩,
    ⟨(some 5), .alloc [(.i .i64 0), (.i .i64 0), (.l [] true), (.i .i64 0), (.i .i64 0), (.l [] true)], none⟩,
    ⟨none, .store 6 (.t 5) (.t 28), none⟩])
  (.reg [⟨(some 29), .mv (.t 3), none⟩,
    ⟨(some 30), .load (some 6) (.t 5), none⟩,
    ⟨(some 31), .call 202 [(.t 30)], none⟩,
    ⟨(some 32), .mmax (.t 29) (.t 31), none⟩,
    ⟨(some 3), .mv (.t 32), none⟩])))
  (.reg [⟨(some 33), .bin .add (.t 25) (.c (.i .i64 1)), none⟩,
    ⟨(some 25), .mv (.t 33), none⟩])))))))
  (.seq [2] (.reg [⟨(some 34), .mv (.t 3), none⟩,
    ⟨(some 2), .mv (.t 34), none⟩])
  .ret)))))
theorem ree202 : Tryz.f202.body.bind (res Tryz.prog Tryz.f202.ntmps [] []) = some (erase ae202) := by kernel_rfl
def fs202 : FnS := .fn 35 ae202 [.t 2]
theorem fsok202 : FnOk Tryz.prog 202 fs202 := fun _ _ _ hn h => ctr_of_resC Tryz.func202 (by kernel_rfl) ree202 (by kernel_rfl) hn h
abbrev ae67 : ACode := (.seq [0, 1] (.reg [⟨(some 4), .mv (.c (.b false)), none⟩])
  (.seq [4] (.reg [⟨(some 5), .mv (.t 0), none⟩,
    ⟨(some 6), .mv (.t 1), none⟩,
    ⟨(some 7), .call 122 [(.t 5), (.t 6)], none⟩,
    ⟨(some 8), .bin .geq (.t 7) (.c (.i .i64 0)), none⟩,
    ⟨(some 4), .mv (.t 8), none⟩])
  .ret))
theorem ree67 : Tryz.f67.body.bind (res Tryz.prog Tryz.f67.ntmps [] []) = some (erase ae67) := by kernel_rfl
def fs67 : FnS := .fn 9 ae67 [.t 4]
theorem fsok67 : FnOk Tryz.prog 67 fs67 := fun _ _ _ hn h => ctr_of_resC Tryz.func67 (by kernel_rfl) ree67 (by kernel_rfl) hn h
def ose246 : List AOper := [⟨(some 1), .mv (.t 4), none⟩]
abbrev acCe246 : ACode := (.seq [0, 1, 6] (.reg [⟨(some 5), .mv (.t 1), none⟩,
    ⟨(some 6), .eqn 2 true (.t 5), none⟩])
  (.cond (.t 6)
  (.seq [0] (.seq [0, 1, 3] (.reg [⟨(some 8), .mv (.t 1), none⟩,
    ⟨(some 9), .tas 334 (.a []) true (.t 8), none⟩,
    ⟨(some 7), .mv (.t 9), none⟩,
    ⟨(some 10), .extract 0 (.t 7), none⟩,
    ⟨(some 11), .extract 1 (.t 7), none⟩,
    ⟨(some 2), .alloc [], none⟩,
    ⟨none, .store 0 (.t 2) (.t 10), none⟩,
    ⟨(some 3), .mv (.t 11), none⟩])
  (.seq [0, 1, 13] (.reg [⟨(some 12), .mv (.t 3), none⟩,
    ⟨(some 13), .not (.t 12), none⟩])
  (.cond (.t 13)
  (.reg [⟨(some 14), .mv (.t 1), none⟩,
    ⟨none, .panic (.t 14), none⟩])
  .skip)))
  (.reg [⟨none, .store 1 (.t 0) (.c (.b false)), none⟩]))
  .skip))
theorem rese246 : Tryz.f246.body.bind (resRec Tryz.prog Tryz.f246.ntmps [] []) = some (4, ose246, erase acCe246) := by kernel_rfl
def fs246 : FnS := .rcv 15 4 ose246 acCe246 [0, 1]
theorem fsok246 : FnOk Tryz.prog 246 fs246 := fun _ _ _ _ hn h => ctrD_of_T Tryz.func246 (by kernel_rfl) rese246 rfl hn h
abbrev ae275 : ACode := (.seq [1, 2] (.reg [⟨(some 2), .box (.t 0), none⟩,
    ⟨(some 4), .mv (.c (.b false)), none⟩])
  (.seq [4] (.reg [⟨(some 5), .mv (.t 1), none⟩,
    ⟨(some 6), .bin .geq (.t 5) (.c (.i .i64 3)), none⟩,
    ⟨(some 7), .mv (.t 6), none⟩,
    ⟨(some 8), .mv (.t 1), (some (7, true))⟩,
    ⟨(some 9), .faddr 0 (.t 2), (some (7, true))⟩,
    ⟨(some 10), .load none (.t 9), (some (7, true))⟩,
    ⟨(some 11), .len (.t 10), (some (7, true))⟩,
    ⟨(some 12), .bin .add (.c (.i .i64 3)) (.t 11), (some (7, true))⟩,
    ⟨(some 13), .bin .lss (.t 8) (.t 12), (some (7, true))⟩,
    ⟨(some 14), .pick (.t 7) (.t 13) (.c (.b false)), none⟩,
    ⟨(some 15), .mv (.t 14), none⟩,
    ⟨(some 16), .load (some 6) (.t 2), (some (15, true))⟩,
    ⟨(some 17), .call 94 [(.t 16)], (some (15, true))⟩,
    ⟨(some 18), .bin .eql (.t 17) (.c (.i .i64 0)), (some (15, true))⟩,
    ⟨(some 19), .pick (.t 15) (.t 18) (.c (.b false)), none⟩,
    ⟨(some 4), .mv (.t 19), none⟩])
  .ret))
theorem ree275 : Tryz.f275.body.bind (res Tryz.prog Tryz.f275.ntmps [] []) = some (erase ae275) := by kernel_rfl
def fs275 : FnS := .fn 20 ae275 [.t 4]
theorem fsok275 : FnOk Tryz.prog 275 fs275 := fun _ _ _ hn h => ctr_of_resC Tryz.func275 (by kernel_rfl) ree275 (by kernel_rfl) hn h
abbrev ae249 : ACode := (.seq [1, 2] (.reg [⟨(some 2), .box (.t 0), none⟩,
    ⟨(some 4), .mv (.c (.l [] true)), none⟩])
  (.seq [1, 2, 5] (.reg [⟨(some 10), .mkmap, none⟩,
    ⟨(some 11), .mv (.t 1), none⟩,
    ⟨none, .mapset (.i .i64) (.t 10) (.t 11) (.c (.b true)), none⟩,
    ⟨(some 12), .mv (.t 10), none⟩,
    ⟨(some 5), .mv (.t 12), none⟩])
  (.seq [1, 2, 5, 6] (.reg [⟨(some 6), .mv (.c (.l [] true)), none⟩])
  (.seq [6] (.seq [2, 5, 6, 7] (.reg [⟨(some 13), .mv (.t 1), none⟩,
    ⟨(some 7), .mv (.t 13), none⟩])
  (.block 0 (.loop [2, 5, 6, 7] (.seq [2, 5, 6, 7] (.seq [2, 5, 6, 7, 15] (.reg [⟨(some 14), .mv (.t 7), none⟩,
    ⟨(some 15), .bin .geq (.t 14) (.c (.i .i64 3)), none⟩])
  (.cond (.t 15)
  .skip
  (.exit 0)))
  (.seq [2, 5, 6, 7] (.block 1 (.seq [2, 5, 6, 7, 20] (.reg [⟨(some 18), .mv (.t 5), none⟩,
    ⟨(some 19), .mv (.t 7), none⟩,
    ⟨(some 20), .lookup (.i .i64) (.b false) false (.t 18) (.t 19), none⟩])
  (.cond (.t 20)
  (.seq [2, 5, 6, 7] (.reg [⟨(some 21), .mv (.t 6), none⟩,
    ⟨(some 22), .faddr 0 (.t 2), none⟩,
    ⟨(some 23), .load none (.t 22), none⟩,
    ⟨(some 24), .mv (.t 7), none⟩,
    ⟨(some 25), .bin .sub (.t 24) (.c (.i .i64 3)), none⟩,
    ⟨(some 26), .iaddr 3 none (.t 23) (.t 25), none⟩,
    ⟨(some 27), .faddr 1 (.t 26), none⟩,
    ⟨(some 28), .load none (.t 27), none⟩,
    ⟨(some 29), .append 1 8 (.t 21) (.t 28), none⟩,
    ⟨(some 6), .mv (.t 29), none⟩])
  (.seq [2, 5, 6, 7, 36, 37, 38] (.reg [⟨(some 30), .faddr 0 (.t 2), none⟩,
    ⟨(some 31), .load none (.t 30), none⟩,
    ⟨(some 32), .mv (.t 7), none⟩,
    ⟨(some 33), .bin .sub (.t 32) (.c (.i .i64 3)), none⟩,
    ⟨(some 34), .iaddr 3 none (.t 31) (.t 33), none⟩,
    ⟨(some 35), .faddr 0 (.t 34), none⟩,
    ⟨(some 36), .load none (.t 35), none⟩,
    ⟨(some 37), .len (.t 36), none⟩,
    ⟨(some 38), .mv (.c (.i .i64 0)), none⟩])
  (.block 2 (.loop [2, 5, 6, 7, 36, 37, 38] (.seq [2, 5, 6, 7, 36, 37, 38, 39] (.reg [⟨(some 39), .bin .lss (.t 38) (.t 37), none⟩])
  (.seq [2, 5, 6, 7, 36, 37, 38] (.cond (.t 39)
  .skip
  (.exit 2))
  (.seq [2, 5, 6, 7, 36, 37, 38] (.block 3 (.seq [2, 5, 6, 7, 9, 36, 37, 38] (.reg [⟨(some 40), .iaddr 1 none (.t 36) (.t 38), none⟩,
    ⟨(some 41), .load none (.t 40), none⟩,
    ⟨(some 9), .mv (.t 41), none⟩])
  (.reg [⟨(some 42), .mv (.t 5), none⟩,
    ⟨(some 43), .mv (.t 9), none⟩,
    ⟨none, .mapset (.i .i64) (.t 42) (.t 43) (.c (.b true)), none⟩])))
  (.reg [⟨(some 44), .bin .add (.t 38) (.c (.i .i64 1)), none⟩,
    ⟨(some 38), .mv (.t 44), none⟩]))))))))
  .skip)))
  (.reg [⟨(some 16), .mv (.t 7), none⟩,
    ⟨(some 17), .bin .sub (.t 16) (.c (.i .i64 1)), none⟩,
    ⟨(some 7), .mv (.t 17), none⟩]))))))
  (.seq [6] (.reg [⟨(some 45), .mv (.t 6), none⟩,
    ⟨(some 46), .call 291 [(.t 45)], none⟩])
  (.seq [4] (.reg [⟨(some 47), .mv (.t 6), none⟩,
    ⟨(some 48), .call 241 [(.t 47)], none⟩,
    ⟨(some 4), .mv (.t 48), none⟩])
  .ret))))))
theorem ree249 : Tryz.f249.body.bind (res Tryz.prog Tryz.f249.ntmps [] []) = some (erase ae249) := by kernel_rfl
def fs249 : FnS := .fn 49 ae249 [.t 4]
theorem fsok249 : FnOk Tryz.prog 249 fs249 := fun _ _ _ hn h => ctr_of_resC Tryz.func249 (by kernel_rfl) ree249 (by kernel_rfl) hn h
abbrev ae276 : ACode := (.seq [0, 2, 3, 5] (.reg [⟨(some 5), .box (.t 1), none⟩,
    ⟨(some 8), .mv (.c (.b false)), none⟩])
  (.seq [0, 3, 5] (.seq [0, 3, 5, 36] (.reg [⟨(some 11), .mv (.t 0), none⟩,
    ⟨(some 12), .mv (.t 2), none⟩,
    ⟨(some 13), .call 310 [(.t 11), (.t 12)], none⟩,
    ⟨(some 14), .not (.t 13), none⟩,
    ⟨(some 15), .mv (.t 14), none⟩,
    ⟨(some 16), .mv (.t 3), (some (15, false))⟩,
    ⟨(some 17), .len (.t 16), (some (15, false))⟩,
    ⟨(some 18), .mv (.t 0), (some (15, false))⟩,
    ⟨(some 19), .nilck (.t 18), (some (15, false))⟩,
    ⟨(some 20), .faddr 0 (.t 19), (some (15, false))⟩,
    ⟨(some 21), .faddr 2 (.t 20), (some (15, false))⟩,
    ⟨(some 22), .load none (.t 21), (some (15, false))⟩,
    ⟨(some 23), .mv (.t 2), (some (15, false))⟩,
    ⟨(some 24), .iaddr 1 none (.t 22) (.t 23), (some (15, false))⟩,
    ⟨(some 25), .load none (.t 24), (some (15, false))⟩,
    ⟨(some 26), .bin .neq (.t 17) (.t 25), (some (15, false))⟩,
    ⟨(some 27), .pick (.t 15) (.c (.b true)) (.t 26), none⟩,
    ⟨(some 28), .mv (.t 27), none⟩,
    ⟨(some 29), .mv (.t 3), (some (28, false))⟩,
    ⟨(some 30), .mkf (.func 312) [] [(.t 5)], (some (28, false))⟩,
    ⟨(some 31), .call 311 [(.t 29), (.t 30)], (some (28, false))⟩,
    ⟨(some 32), .len (.t 31), (some (28, false))⟩,
    ⟨(some 33), .mv (.t 3), (some (28, false))⟩,
    ⟨(some 34), .len (.t 33), (some (28, false))⟩,
    ⟨(some 35), .bin .neq (.t 32) (.t 34), (some (28, false))⟩,
    ⟨(some 36), .pick (.t 28) (.c (.b true)) (.t 35), none⟩])
  (.cond (.t 36)
  (.seq [8] (.reg [⟨(some 8), .mv (.c (.b false)), none⟩])
  .ret)
  .skip))
  (.seq [10] (.dreg [10] [⟨0, ⟨(some 38), .mv (.t 0), none⟩, [], []⟩,
    ⟨1, ⟨(some 39), .nilck (.t 38), none⟩, [], []⟩,
    ⟨2, ⟨(some 40), .faddr 6 (.t 39), none⟩, [], []⟩,
    ⟨3, ⟨(some 41), .load (some 2) (.t 40), none⟩, [], []⟩,
    ⟨4, ⟨(some 42), .build [(.i .i64 0), (.i .i64 0), (.l [] true), (.i .i64 0), (.i .i64 0), (.l [] true)] [(0, 1, (.c (.i .i64 1)))], none⟩, [], []⟩,
    ⟨5, ⟨(some 43), .load none (.t 5), none⟩, [], []⟩,
    ⟨6, ⟨(some 44), .mv (.t 3), none⟩, [], []⟩,
    ⟨7, ⟨(some 45), .call 314 [(.t 41), (.t 42), (.t 43), (.t 44)], none⟩, [], []⟩,
    ⟨8, ⟨(some 37), .mv (.t 45), none⟩, [], []⟩,
    ⟨9, ⟨(some 46), .extract 0 (.t 37), none⟩, [], []⟩,
    ⟨10, ⟨(some 47), .extract 1 (.t 37), none⟩, [], []⟩,
    ⟨11, ⟨(some 9), .mv (.t 46), none⟩, [], []⟩,
    ⟨12, ⟨(some 10), .mv (.t 47), none⟩, [], []⟩])
  (.seq [8] (.reg [⟨(some 48), .mv (.t 10), none⟩,
    ⟨(some 49), .bin .eql (.t 48) (.c (.i .i64 0)), none⟩,
    ⟨(some 8), .mv (.t 49), none⟩])
  .ret))))
theorem ree276 : Tryz.f276.body.bind (res Tryz.prog Tryz.f276.ntmps [] []) = some (erase ae276) := by kernel_rfl
def fs276 : FnS := .fn 50 ae276 [.t 8]
theorem fsok276 : FnOk Tryz.prog 276 fs276 := fun _ _ _ hn h => ctr_of_resC Tryz.func276 (by kernel_rfl) ree276 (by kernel_rfl) hn h
abbrev ae277 : ACode := (.seq [2, 4, 5, 7] (.reg [⟨(some 4), .box (.t 0), none⟩,
    ⟨(some 5), .box (.t 1), none⟩,
    ⟨(some 7), .box (.t 3), none⟩,
    ⟨(some 8), .mv (.c (.l [] true)), none⟩])
  (.seq [8] (.reg [⟨(some 9), .load none (.t 4), none⟩,
    ⟨(some 10), .mv (.t 2), none⟩,
    ⟨(some 11), .call 315 [(.t 9), (.t 10)], none⟩,
    ⟨(some 12), .call 290 [(.t 11)], none⟩,
    ⟨(some 13), .mkf (.func 316) [] [(.t 4), (.t 5), (.t 7)], none⟩,
    ⟨(some 14), .call 288 [(.t 12), (.t 13)], none⟩,
    ⟨(some 8), .mv (.t 14), none⟩])
  .ret))
theorem ree277 : Tryz.f277.body.bind (res Tryz.prog Tryz.f277.ntmps [] []) = some (erase ae277) := by kernel_rfl
def fs277 : FnS := .fn 15 ae277 [.t 8]
theorem fsok277 : FnOk Tryz.prog 277 fs277 := fun _ _ _ hn h => ctr_of_resC Tryz.func277 (by kernel_rfl) ree277 (by kernel_rfl) hn h
abbrev ae231 : ACode := (.seq [0, 1, 3, 6, 8] (.reg [⟨(some 6), .box (.t 2), none⟩,
    ⟨(some 8), .alloc [(.i .i64 0), (.i .i64 0)], none⟩])
  (.seq [0, 1, 3, 6, 8] (.seq [0, 1, 3, 6, 8, 22, 23, 24] (.reg [⟨(some 20), .faddr 0 (.t 6), none⟩,
    ⟨(some 21), .faddr 2 (.t 20), none⟩,
    ⟨(some 22), .load none (.t 21), none⟩,
    ⟨(some 23), .len (.t 22), none⟩,
    ⟨(some 24), .mv (.c (.i .i64 0)), none⟩])
  (.block 0 (.loop [0, 1, 3, 6, 8, 22, 23, 24] (.seq [0, 1, 3, 6, 8, 22, 23, 24, 25] (.reg [⟨(some 25), .bin .lss (.t 24) (.t 23), none⟩])
  (.seq [0, 1, 3, 6, 8, 22, 23, 24] (.cond (.t 25)
  .skip
  (.exit 0))
  (.seq [0, 1, 3, 6, 8, 22, 23, 24] (.block 1 (.seq [0, 1, 3, 6, 8, 10, 22, 23, 24] (.reg [⟨(some 26), .iaddr 1 none (.t 22) (.t 24), none⟩,
    ⟨(some 27), .load none (.t 26), none⟩,
    ⟨(some 10), .mv (.t 27), none⟩])
  (.reg [⟨(some 28), .mv (.t 0), none⟩,
    ⟨(some 29), .mv (.t 10), none⟩,
    ⟨(some 30), .mv (.t 3), none⟩,
    ⟨(some 31), .mv (.t 0), none⟩,
    ⟨(some 32), .mkf (.func 91) [(.t 31)] [], none⟩,
    ⟨(some 33), .call 278 [(.t 28), (.t 29), (.t 30), (.t 32)], none⟩])))
  (.reg [⟨(some 34), .bin .add (.t 24) (.c (.i .i64 1)), none⟩,
    ⟨(some 24), .mv (.t 34), none⟩])))))))
  (.seq [0, 3, 6, 8, 11] (.reg [⟨(some 35), .mv (.t 0), none⟩,
    ⟨(some 36), .nilck (.t 35), none⟩,
    ⟨(some 37), .faddr 12 (.t 36), none⟩,
    ⟨(some 38), .faddr 0 (.t 37), none⟩,
    ⟨(some 39), .load none (.t 38), none⟩,
    ⟨(some 40), .mv (.t 1), none⟩,
    ⟨(some 41), .iaddr 3 none (.t 39) (.t 40), none⟩,
    ⟨(some 42), .load (some 3) (.t 41), none⟩,
    ⟨(some 11), .alloc [(.i .i64 0), (.i .i64 0), (.i .i64 0)], none⟩,
    ⟨none, .store 3 (.t 11) (.t 42), none⟩])
  (.seq [0, 3, 6, 8, 11, 12, 13] (.reg [⟨(some 44), .load (some 3) (.t 11), none⟩,
    ⟨(some 45), .faddr 0 (.t 6), none⟩,
    ⟨(some 46), .load (some 6) (.t 45), none⟩,
    ⟨(some 47), .call 93 [(.t 44), (.t 46)], none⟩,
    ⟨(some 43), .mv (.t 47), none⟩,
    ⟨(some 48), .extract 0 (.t 43), none⟩,
    ⟨(some 49), .extract 1 (.t 43), none⟩,
    ⟨(some 12), .mv (.t 48), none⟩,
    ⟨(some 13), .mv (.t 49), none⟩])
  (.seq [0, 3, 6, 8, 11, 12, 13] (.seq [0, 3, 6, 8, 11, 12, 13, 60] (.reg [⟨(some 50), .mv (.t 12), none⟩,
    ⟨(some 51), .len (.t 50), none⟩,
    ⟨(some 52), .bin .eql (.t 51) (.c (.i .i64 0)), none⟩,
    ⟨(some 53), .mv (.t 52), none⟩,
    ⟨(some 54), .mv (.t 13), (some (53, false))⟩,
    ⟨(some 55), .mv (.t 54), (some (53, false))⟩,
    ⟨(some 56), .faddr 2 (.t 11), (some (55, true))⟩,
    ⟨(some 57), .load none (.t 56), (some (55, true))⟩,
    ⟨(some 58), .bin .neq (.t 57) (.c (.i .i64 1)), (some (55, true))⟩,
    ⟨(some 59), .pick (.t 55) (.t 58) (.c (.b false)), (some (53, false))⟩,
    ⟨(some 60), .pick (.t 53) (.c (.b true)) (.t 59), none⟩])
  (.cond (.t 60)
  (.reg [⟨(some 61), .mv (.t 0), none⟩,
    ⟨(some 62), .call 145 [(.t 61), (.c (.i .i64 3))], none⟩])
  .skip))
  (.seq [0, 3, 6, 8, 11, 12, 13, 14] (.reg [⟨(some 14), .alloc [(.i .i64 0), (.i .i64 0)], none⟩])
  (.seq [0, 3, 6, 8, 14] (.seq [0, 3, 6, 8, 11, 12, 13, 14, 65] (.reg [⟨(some 63), .faddr 2 (.t 11), none⟩,
    ⟨(some 64), .load none (.t 63), none⟩,
    ⟨(some 65), .bin .eql (.t 64) (.c (.i .i64 1)), none⟩])
  (.cond (.t 65)
  (.reg [⟨(some 66), .mv (.t 0), none⟩,
    ⟨(some 67), .mv (.t 12), none⟩,
    ⟨(some 68), .mv (.t 13), none⟩,
    ⟨(some 69), .mv (.t 3), none⟩,
    ⟨(some 70), .mv (.t 0), none⟩,
    ⟨(some 71), .mkf (.func 91) [(.t 70)] [], none⟩,
    ⟨(some 72), .call 232 [(.t 66), (.t 67), (.t 68), (.t 69), (.t 71)], none⟩,
    ⟨none, .store 2 (.t 14) (.t 72), none⟩])
  (.seq [0, 3, 6, 8, 11, 12, 14, 15] (.reg [⟨(some 15), .mv (.c (.l [] true)), none⟩])
  (.seq [0, 3, 6, 8, 11, 14, 15] (.seq [0, 3, 6, 8, 11, 14, 15, 73, 74, 75] (.reg [⟨(some 73), .mv (.t 12), none⟩,
    ⟨(some 74), .len (.t 73), none⟩,
    ⟨(some 75), .mv (.c (.i .i64 0)), none⟩])
  (.block 2 (.loop [0, 3, 6, 8, 11, 14, 15, 73, 74, 75] (.seq [0, 3, 6, 8, 11, 14, 15, 73, 74, 75, 76] (.reg [⟨(some 76), .bin .lss (.t 75) (.t 74), none⟩])
  (.seq [0, 3, 6, 8, 11, 14, 15, 73, 74, 75] (.cond (.t 76)
  .skip
  (.exit 2))
  (.seq [0, 3, 6, 8, 11, 14, 15, 73, 74, 75] (.block 3 (.seq [0, 3, 6, 8, 11, 14, 15, 17, 73, 74, 75] (.reg [⟨(some 77), .iaddr 1 none (.t 73) (.t 75), none⟩,
    ⟨(some 78), .load none (.t 77), none⟩,
    ⟨(some 17), .mv (.t 78), none⟩])
  (.seq [0, 3, 6, 8, 11, 14, 15, 73, 74, 75] (.reg [⟨(some 79), .mv (.t 15), none⟩,
    ⟨(some 80), .mv (.t 0), none⟩,
    ⟨(some 81), .mv (.t 17), none⟩,
    ⟨(some 82), .mv (.t 3), none⟩,
    ⟨(some 83), .mv (.t 0), none⟩,
    ⟨(some 84), .mkf (.func 91) [(.t 83)] [], none⟩,
    ⟨(some 85), .call 278 [(.t 80), (.t 81), (.t 82), (.t 84)], none⟩,
    ⟨(some 86), .bslice 2 1 [(.i .i64 0), (.i .i64 0)] [(0, (.t 85))], none⟩,
    ⟨(some 87), .append 2 16 (.t 79) (.t 86), none⟩,
    ⟨(some 15), .mv (.t 87), none⟩])
  (.seq [0, 3, 6, 8, 11, 14, 15, 73, 74, 75, 96] (.dreg [0, 3, 6, 8, 11, 14, 15, 73, 74, 75, 96] [⟨0, ⟨(some 88), .faddr 2 (.t 11), none⟩, [], []⟩,
    ⟨1, ⟨(some 89), .load none (.t 88), none⟩, [], []⟩,
    ⟨2, ⟨(some 90), .mv (.t 15), none⟩, [], []⟩,
    ⟨3, ⟨(some 91), .mv (.t 15), none⟩, [], []⟩,
    ⟨4, ⟨(some 92), .len (.t 91), none⟩, [], []⟩,
    ⟨5, ⟨(some 93), .bin .sub (.t 92) (.c (.i .i64 1)), none⟩, [], []⟩,
    ⟨6, ⟨(some 94), .iaddr 2 none (.t 90) (.t 93), none⟩, [], []⟩,
    ⟨7, ⟨(some 95), .load (some 2) (.t 94), none⟩, [], []⟩,
    ⟨8, ⟨(some 96), .call 81 [(.t 89), (.t 95)], none⟩, [], []⟩])
  (.cond (.t 96)
  (.exit 2)
  .skip)))))
  (.reg [⟨(some 97), .bin .add (.t 75) (.c (.i .i64 1)), none⟩,
    ⟨(some 75), .mv (.t 97), none⟩])))))))
  (.reg [⟨(some 98), .faddr 2 (.t 11), none⟩,
    ⟨(some 99), .load none (.t 98), none⟩,
    ⟨(some 100), .mv (.t 15), none⟩,
    ⟨(some 101), .call 82 [(.t 99), (.t 100)], none⟩,
    ⟨none, .store 2 (.t 14) (.t 101), none⟩])))))
  (.seq [8, 14] (.seq [0, 3, 8, 14, 104, 105, 106] (.reg [⟨(some 102), .faddr 0 (.t 6), none⟩,
    ⟨(some 103), .faddr 5 (.t 102), none⟩,
    ⟨(some 104), .load none (.t 103), none⟩,
    ⟨(some 105), .len (.t 104), none⟩,
    ⟨(some 106), .mv (.c (.i .i64 0)), none⟩])
  (.block 4 (.loop [0, 3, 8, 14, 104, 105, 106] (.seq [0, 3, 8, 14, 104, 105, 106, 107] (.reg [⟨(some 107), .bin .lss (.t 106) (.t 105), none⟩])
  (.seq [0, 3, 8, 14, 104, 105, 106] (.cond (.t 107)
  .skip
  (.exit 4))
  (.seq [0, 3, 8, 14, 104, 105, 106] (.block 5 (.seq [0, 3, 8, 14, 19, 104, 105, 106] (.reg [⟨(some 108), .iaddr 1 none (.t 104) (.t 106), none⟩,
    ⟨(some 109), .load none (.t 108), none⟩,
    ⟨(some 19), .mv (.t 109), none⟩])
  (.reg [⟨(some 110), .mv (.t 0), none⟩,
    ⟨(some 111), .mv (.t 19), none⟩,
    ⟨(some 112), .mv (.t 3), none⟩,
    ⟨(some 113), .mv (.t 0), none⟩,
    ⟨(some 114), .mkf (.func 91) [(.t 113)] [], none⟩,
    ⟨(some 115), .call 278 [(.t 110), (.t 111), (.t 112), (.t 114)], none⟩])))
  (.reg [⟨(some 116), .bin .add (.t 106) (.c (.i .i64 1)), none⟩,
    ⟨(some 106), .mv (.t 116), none⟩])))))))
  (.seq [8] (.reg [⟨(some 117), .load (some 2) (.t 14), none⟩,
    ⟨none, .store 2 (.t 8) (.t 117), none⟩])
  .ret)))))))))
theorem ree231 : Tryz.f231.body.bind (res Tryz.prog Tryz.f231.ntmps [] []) = some (erase ae231) := by kernel_rfl
def fs231 : FnS := .fn 118 ae231 [.c 8 (some 2)]
theorem fsok231 : FnOk Tryz.prog 231 fs231 := fun _ _ _ hn h => ctr_of_resC Tryz.func231 (by kernel_rfl) ree231 (by kernel_rfl) hn h
abbrev ae279 : ACode := (.seq [0, 1, 2, 3, 4, 5] (.reg [⟨(some 5), .alloc [(.i .i64 0), (.i .i64 0)], none⟩])
  (.seq [4, 5] (.block 0 (.seq [0, 1, 2, 3, 4, 5, 6] (.reg [⟨(some 7), .load none (.t 0), none⟩,
    ⟨(some 8), .len (.t 7), none⟩,
    ⟨(some 9), .bin .gtr (.t 8) (.c (.i .i64 1)), none⟩,
    ⟨(some 6), .mv (.t 9), none⟩])
  (.cond (.t 6)
  (.seq [5] (.dreg [5] [⟨0, ⟨(some 10), .load none (.t 1), none⟩, [], []⟩,
    ⟨1, ⟨(some 11), .load none (.t 0), none⟩, [], []⟩,
    ⟨2, ⟨(some 12), .slice 1 (.t 11) (some (.c (.i .i64 1))) none none, none⟩, [], []⟩,
    ⟨3, ⟨(some 13), .load none (.t 2), none⟩, [], []⟩,
    ⟨4, ⟨(some 14), .load none (.t 3), none⟩, [], []⟩,
    ⟨5, ⟨(some 15), .load none (.t 4), none⟩, [], []⟩,
    ⟨6, ⟨(some 16), .call 232 [(.t 10), (.t 12), (.t 13), (.t 14), (.t 15)], none⟩, [], []⟩,
    ⟨7, ⟨none, .store 2 (.t 5) (.t 16), none⟩, [], []⟩])
  .ret)
  (.seq [1, 4, 5, 17] (.reg [⟨(some 18), .load none (.t 2), none⟩,
    ⟨(some 17), .mv (.t 18), none⟩])
  (.cond (.t 17)
  (.seq [5] (.reg [⟨(some 19), .load none (.t 1), none⟩,
    ⟨(some 20), .call 145 [(.t 19), (.c (.i .i64 3))], none⟩,
    ⟨none, .store 2 (.t 5) (.t 20), none⟩])
  .ret)
  .skip)))))
  (.seq [5] (.reg [⟨(some 21), .load none (.t 4), none⟩,
    ⟨(some 22), .callv (.t 21) [], none⟩,
    ⟨none, .store 2 (.t 5) (.t 22), none⟩])
  .ret)))
theorem ree279 : Tryz.f279.body.bind (res Tryz.prog Tryz.f279.ntmps [] []) = some (erase ae279) := by kernel_rfl
def fs279 : FnS := .fn 23 ae279 [.c 5 (some 2)]
theorem fsok279 : FnOk Tryz.prog 279 fs279 := fun _ _ _ hn h => ctr_of_resC Tryz.func279 (by kernel_rfl) ree279 (by kernel_rfl) hn h
abbrev ae278 : ACode := (.seq [0, 1, 2, 3, 8] (.reg [⟨(some 8), .alloc [(.i .i64 0), (.i .i64 0)], none⟩])
  (.seq [0, 1, 2, 3, 8] (.seq [0, 1, 2, 3, 8, 14] (.reg [⟨(some 9), .mv (.t 0), none⟩,
    ⟨(some 10), .nilck (.t 9), none⟩,
    ⟨(some 11), .faddr 0 (.t 10), none⟩,
    ⟨(some 12), .faddr 5 (.t 11), none⟩,
    ⟨(some 13), .load none (.t 12), none⟩,
    ⟨(some 14), .bin .eql (.t 13) (.c (.i .i64 0)), none⟩])
  (.cond (.t 14)
  (.reg [⟨(some 15), .mv (.t 0), none⟩,
    ⟨(some 16), .call 145 [(.t 15), (.c (.i .i64 7))], none⟩])
  .skip))
  (.seq [0, 1, 2, 3, 8] (.reg [⟨(some 17), .mv (.t 0), none⟩,
    ⟨(some 18), .nilck (.t 17), none⟩,
    ⟨(some 19), .faddr 0 (.t 18), none⟩,
    ⟨(some 20), .faddr 5 (.t 19), none⟩,
    ⟨(some 21), .load none (.t 20), none⟩,
    ⟨(some 22), .bin .sub (.t 21) (.c (.i .i64 1)), none⟩,
    ⟨(some 23), .nilck (.t 17), none⟩,
    ⟨(some 24), .faddr 0 (.t 23), none⟩,
    ⟨(some 25), .faddr 5 (.t 24), none⟩,
    ⟨none, .store 1 (.t 25) (.t 22), none⟩])
  (.seq [0, 1, 2, 3, 8] (.dreg [0, 1, 2, 3, 8] [⟨0, ⟨(some 26), .mv (.t 0), none⟩, [], []⟩,
    ⟨1, ⟨(some 27), .mv (.t 0), none⟩, [], []⟩,
    ⟨2, ⟨(some 28), .nilck (.t 27), none⟩, [], []⟩,
    ⟨3, ⟨(some 29), .faddr 0 (.t 28), none⟩, [], []⟩,
    ⟨4, ⟨(some 30), .faddr 3 (.t 29), none⟩, [], []⟩,
    ⟨5, ⟨(some 31), .load none (.t 30), none⟩, [], []⟩,
    ⟨6, ⟨(some 32), .mv (.t 1), none⟩, [], []⟩,
    ⟨7, ⟨(some 33), .mv (.t 2), none⟩, [], []⟩,
    ⟨8, ⟨(some 34), .call 129 [(.t 33)], none⟩, [5], [⟨(some 31), .load none (.t 30), none⟩]⟩,
    ⟨9, ⟨(some 35), .build [(.i .i64 0), (.i .i64 0), (.l [] true)] [(0, 1, (.c (.i .i64 1))), (1, 1, (.t 32)), (2, 1, (.t 34))], none⟩, [], []⟩,
    ⟨10, ⟨(some 36), .bslice 3 1 [(.i .i64 0), (.i .i64 0), (.l [] true)] [(0, (.t 35))], none⟩, [], []⟩,
    ⟨11, ⟨(some 37), .append 3 40 (.t 31) (.t 36), none⟩, [], []⟩,
    ⟨12, ⟨(some 38), .nilck (.t 26), none⟩, [], []⟩,
    ⟨13, ⟨(some 39), .faddr 0 (.t 38), none⟩, [], []⟩,
    ⟨14, ⟨(some 40), .faddr 3 (.t 39), none⟩, [], []⟩,
    ⟨15, ⟨none, .store 1 (.t 40) (.t 37), none⟩, [], []⟩])
  (.seq [8] (.dreg [8] [⟨0, ⟨(some 41), .mv (.t 0), none⟩, [], []⟩,
    ⟨1, ⟨(some 42), .mv (.t 0), none⟩, [], []⟩,
    ⟨2, ⟨(some 43), .nilck (.t 42), none⟩, [], []⟩,
    ⟨3, ⟨(some 44), .faddr 6 (.t 43), none⟩, [], []⟩,
    ⟨4, ⟨(some 45), .faddr 3 (.t 44), none⟩, [], []⟩,
    ⟨5, ⟨(some 46), .load none (.t 45), none⟩, [], []⟩,
    ⟨6, ⟨(some 47), .mv (.t 1), none⟩, [], []⟩,
    ⟨7, ⟨(some 48), .iaddr 9 none (.t 46) (.t 47), none⟩, [], []⟩,
    ⟨8, ⟨(some 49), .faddr 8 (.t 48), none⟩, [], []⟩,
    ⟨9, ⟨(some 50), .load none (.t 49), none⟩, [], []⟩,
    ⟨10, ⟨(some 51), .mv (.t 2), none⟩, [], []⟩,
    ⟨12, ⟨(some 53), .mv (.t 3), none⟩, [], []⟩,
    ⟨11, ⟨(some 52), .call 129 [(.t 51)], none⟩, [9, 5], [⟨(some 50), .load none (.t 49), none⟩, ⟨(some 46), .load none (.t 45), none⟩]⟩,
    ⟨13, ⟨(some 54), .call 90 [(.t 41), (.t 50), (.t 52), (.t 53)], none⟩, [], []⟩,
    ⟨14, ⟨none, .store 2 (.t 8) (.t 54), none⟩, [], []⟩])
  .ret)))))
theorem ree278 : Tryz.f278.body.bind (res Tryz.prog Tryz.f278.ntmps [] []) = some (erase ae278) := by kernel_rfl
def fs278 : FnS := .fn 55 ae278 [.c 8 (some 2)]
theorem fsok278 : FnOk Tryz.prog 278 fs278 := fun _ _ _ hn h => ctr_of_resC Tryz.func278 (by kernel_rfl) ree278 (by kernel_rfl) hn h
abbrev ae280 : ACode := (.seq [1, 2] (.reg [⟨(some 2), .box (.t 0), none⟩,
    ⟨(some 4), .mv (.c (.l [] true)), none⟩,
    ⟨(some 5), .mv (.c (.i .i64 0)), none⟩])
  (.seq [1, 2] (.seq [1, 2, 21] (.reg [⟨(some 18), .load (some 6) (.t 2), none⟩,
    ⟨(some 19), .mv (.t 1), none⟩,
    ⟨(some 20), .call 275 [(.t 18), (.t 19)], none⟩,
    ⟨(some 21), .not (.t 20), none⟩])
  (.cond (.t 21)
  (.seq [4, 5] (.reg [⟨(some 4), .mv (.c (.l [] true)), none⟩,
    ⟨(some 5), .mv (.c (.i .i64 2)), none⟩])
  .ret)
  .skip))
  (.seq [1, 2, 6, 7] (.reg [⟨(some 23), .load (some 6) (.t 2), none⟩,
    ⟨(some 24), .call 173 [(.t 23)], none⟩,
    ⟨(some 25), .mv (.t 1), none⟩,
    ⟨(some 26), .call 248 [(.t 24), (.t 25)], none⟩,
    ⟨(some 22), .mv (.t 26), none⟩,
    ⟨(some 27), .extract 0 (.t 22), none⟩,
    ⟨(some 28), .extract 1 (.t 22), none⟩,
    ⟨(some 6), .mv (.t 27), none⟩,
    ⟨(some 7), .mv (.t 28), none⟩])
  (.seq [1, 2, 6] (.seq [1, 2, 6, 7, 30] (.reg [⟨(some 29), .mv (.t 7), none⟩,
    ⟨(some 30), .bin .neq (.t 29) (.c (.i .i64 0)), none⟩])
  (.cond (.t 30)
  (.seq [4, 5] (.reg [⟨(some 31), .mv (.t 7), none⟩,
    ⟨(some 4), .mv (.c (.l [] true)), none⟩,
    ⟨(some 5), .mv (.t 31), none⟩])
  .ret)
  .skip))
  (.seq [1, 2, 6, 8] (.reg [⟨(some 32), .mkmap, none⟩,
    ⟨(some 8), .alloc [.mn], none⟩,
    ⟨none, .store 1 (.t 8) (.t 32), none⟩])
  (.seq [1, 2, 8] (.seq [1, 2, 8, 34] (.reg [⟨(some 33), .mv (.t 6), none⟩,
    ⟨(some 34), .call 317 [(.t 33)], none⟩])
  (.block 0 (.rangef [2, 8] (.t 34) [35, 36]
  (.reg [⟨(some 10), .mv (.t 36), none⟩])
  (.block 1 (.seq [2, 8, 10, 38] (.reg [⟨(some 37), .mv (.t 10), none⟩,
    ⟨(some 38), .bin .geq (.t 37) (.c (.i .i64 3)), none⟩])
  (.cond (.t 38)
  (.seq [8, 45, 46, 47] (.reg [⟨(some 39), .faddr 0 (.t 2), none⟩,
    ⟨(some 40), .load none (.t 39), none⟩,
    ⟨(some 41), .mv (.t 10), none⟩,
    ⟨(some 42), .bin .sub (.t 41) (.c (.i .i64 3)), none⟩,
    ⟨(some 43), .iaddr 3 none (.t 40) (.t 42), none⟩,
    ⟨(some 44), .faddr 2 (.t 43), none⟩,
    ⟨(some 45), .load none (.t 44), none⟩,
    ⟨(some 46), .len (.t 45), none⟩,
    ⟨(some 47), .mv (.c (.i .i64 0)), none⟩])
  (.block 2 (.loop [8, 45, 46, 47] (.seq [8, 45, 46, 47, 48] (.reg [⟨(some 48), .bin .lss (.t 47) (.t 46), none⟩])
  (.seq [8, 45, 46, 47] (.cond (.t 48)
  .skip
  (.exit 2))
  (.seq [8, 45, 46, 47] (.block 3 (.seq [8, 12, 45, 46, 47] (.reg [⟨(some 49), .iaddr 2 none (.t 45) (.t 47), none⟩,
    ⟨(some 50), .load (some 2) (.t 49), none⟩,
    ⟨(some 12), .alloc [(.i .i64 0), (.i .i64 0)], none⟩,
    ⟨none, .store 2 (.t 12) (.t 50), none⟩])
  (.reg [⟨(some 51), .load none (.t 8), none⟩,
    ⟨(some 52), .faddr 0 (.t 12), none⟩,
    ⟨(some 53), .load none (.t 52), none⟩,
    ⟨(some 54), .faddr 1 (.t 12), none⟩,
    ⟨(some 55), .load none (.t 54), none⟩,
    ⟨none, .mapset (.i .i64) (.t 51) (.t 53) (.t 55), none⟩])))
  (.reg [⟨(some 56), .bin .add (.t 47) (.c (.i .i64 1)), none⟩,
    ⟨(some 47), .mv (.t 56), none⟩])))))))
  .skip))))))
  (.seq [1, 2, 8, 13] (.reg [⟨(some 13), .mv (.c (.l [] true)), none⟩])
  (.seq [13] (.seq [8, 13, 59, 60, 61] (.reg [⟨(some 57), .load (some 6) (.t 2), none⟩,
    ⟨(some 58), .mv (.t 1), none⟩,
    ⟨(some 59), .call 249 [(.t 57), (.t 58)], none⟩,
    ⟨(some 60), .len (.t 59), none⟩,
    ⟨(some 61), .mv (.c (.i .i64 0)), none⟩])
  (.block 4 (.loop [8, 13, 59, 60, 61] (.seq [8, 13, 59, 60, 61, 62] (.reg [⟨(some 62), .bin .lss (.t 61) (.t 60), none⟩])
  (.seq [8, 13, 59, 60, 61] (.cond (.t 62)
  .skip
  (.exit 4))
  (.seq [8, 13, 59, 60, 61] (.block 5 (.seq [8, 13, 15, 59, 60, 61] (.reg [⟨(some 63), .iaddr 1 none (.t 59) (.t 61), none⟩,
    ⟨(some 64), .load none (.t 63), none⟩,
    ⟨(some 15), .mv (.t 64), none⟩])
  (.seq [8, 13, 15, 16, 17, 59, 60, 61] (.reg [⟨(some 66), .load none (.t 8), none⟩,
    ⟨(some 67), .mv (.t 15), none⟩,
    ⟨(some 68), .lookup (.i .i64) (.i .i64 0) true (.t 66) (.t 67), none⟩,
    ⟨(some 65), .mv (.t 68), none⟩,
    ⟨(some 69), .extract 0 (.t 65), none⟩,
    ⟨(some 70), .extract 1 (.t 65), none⟩,
    ⟨(some 16), .mv (.t 69), none⟩,
    ⟨(some 17), .mv (.t 70), none⟩])
  (.seq [8, 13, 15, 16, 59, 60, 61, 71] (.reg [⟨(some 71), .mv (.t 17), none⟩])
  (.cond (.t 71)
  (.reg [⟨(some 72), .mv (.t 13), none⟩,
    ⟨(some 73), .mv (.t 15), none⟩,
    ⟨(some 74), .mv (.t 16), none⟩,
    ⟨(some 75), .build [(.i .i64 0), (.i .i64 0)] [(0, 1, (.t 73)), (1, 1, (.t 74))], none⟩,
    ⟨(some 76), .bslice 2 1 [(.i .i64 0), (.i .i64 0)] [(0, (.t 75))], none⟩,
    ⟨(some 77), .append 2 16 (.t 72) (.t 76), none⟩,
    ⟨(some 13), .mv (.t 77), none⟩])
  .skip)))))
  (.reg [⟨(some 78), .bin .add (.t 61) (.c (.i .i64 1)), none⟩,
    ⟨(some 61), .mv (.t 78), none⟩])))))))
  (.seq [4, 5] (.reg [⟨(some 79), .mv (.t 13), none⟩,
    ⟨(some 80), .call 318 [(.t 79)], none⟩,
    ⟨(some 4), .mv (.t 80), none⟩,
    ⟨(some 5), .mv (.c (.i .i64 0)), none⟩])
  .ret)))))))))
theorem ree280 : Tryz.f280.body.bind (res Tryz.prog Tryz.f280.ntmps [] []) = some (erase ae280) := by kernel_rfl
def fs280 : FnS := .fn 81 ae280 [.t 4, .t 5]
theorem fsok280 : FnOk Tryz.prog 280 fs280 := fun _ _ _ hn h => ctr_of_resC Tryz.func280 (by kernel_rfl) ree280 (by kernel_rfl) hn h
abbrev ae282 : ACode := (.seq [1, 2] (.reg [⟨(some 2), .box (.t 0), none⟩,
    ⟨(some 3), .mv (.c (.b false)), none⟩])
  (.seq [3] (.reg [⟨(some 4), .faddr 0 (.t 2), none⟩,
    ⟨(some 5), .load none (.t 4), none⟩,
    ⟨(some 6), .load none (.t 1), none⟩,
    ⟨(some 7), .bin .eql (.t 5) (.t 6), none⟩,
    ⟨(some 3), .mv (.t 7), none⟩])
  .ret))
theorem ree282 : Tryz.f282.body.bind (res Tryz.prog Tryz.f282.ntmps [] []) = some (erase ae282) := by kernel_rfl
def fs282 : FnS := .fn 8 ae282 [.t 3]
theorem fsok282 : FnOk Tryz.prog 282 fs282 := fun _ _ _ hn h => ctr_of_resC Tryz.func282 (by kernel_rfl) ree282 (by kernel_rfl) hn h
abbrev ae281 : ACode := (.seq [0, 1] (.reg [⟨(some 4), .mv (.c (.i .i64 0)), none⟩])
  (.seq [] (.seq [0, 1, 7, 8] (.reg [⟨(some 6), .mv (.t 0), none⟩,
    ⟨(some 7), .len (.t 6), none⟩,
    ⟨(some 8), .mv (.c (.i .i64 0)), none⟩])
  (.block 0 (.loop [0, 1, 7, 8] (.seq [0, 1, 7, 8, 9] (.reg [⟨(some 9), .bin .lss (.t 8) (.t 7), none⟩])
  (.seq [0, 1, 7, 8] (.cond (.t 9)
  .skip
  (.exit 0))
  (.seq [0, 1, 7, 8] (.block 1 (.seq [0, 1, 5, 7, 8] (.reg [⟨(some 10), .mv (.t 8), none⟩,
    ⟨(some 5), .mv (.t 10), none⟩])
  (.seq [0, 1, 5, 7, 8, 16] (.reg [⟨(some 11), .mv (.t 1), none⟩,
    ⟨(some 12), .mv (.t 0), none⟩,
    ⟨(some 13), .mv (.t 5), none⟩,
    ⟨(some 14), .iaddr 2 none (.t 12) (.t 13), none⟩,
    ⟨(some 15), .load (some 2) (.t 14), none⟩,
    ⟨(some 16), .callv (.t 11) [(.t 15)], none⟩])
  (.cond (.t 16)
  (.seq [4] (.reg [⟨(some 17), .mv (.t 5), none⟩,
    ⟨(some 4), .mv (.t 17), none⟩])
  .ret)
  .skip))))
  (.reg [⟨(some 18), .bin .add (.t 8) (.c (.i .i64 1)), none⟩,
    ⟨(some 8), .mv (.t 18), none⟩])))))))
  (.seq [4] (.reg [⟨(some 4), .mv (.c (.i .i64 (-1))), none⟩])
  .ret)))
theorem ree281 : Tryz.f281.body.bind (res Tryz.prog Tryz.f281.ntmps [] []) = some (erase ae281) := by kernel_rfl
def fs281 : FnS := .fn 19 ae281 [.t 4]
theorem fsok281 : FnOk Tryz.prog 281 fs281 := fun _ _ _ hn h => ctr_of_resC Tryz.func281 (by kernel_rfl) ree281 (by kernel_rfl) hn h
abbrev ae283 : ACode := (.seq [0] (.reg [⟨(some 2), .mv (.c (.l [] true)), none⟩])
  (.seq [2] (.reg [⟨(some 3), .mv (.t 0), none⟩,
    ⟨(some 4), .call 319 [(.t 3), (.c (.f (.func 320) [] []))], none⟩,
    ⟨(some 2), .mv (.t 4), none⟩])
  .ret))
theorem ree283 : Tryz.f283.body.bind (res Tryz.prog Tryz.f283.ntmps [] []) = some (erase ae283) := by kernel_rfl
def fs283 : FnS := .fn 5 ae283 [.t 2]
theorem fsok283 : FnOk Tryz.prog 283 fs283 := fun _ _ _ hn h => ctr_of_resC Tryz.func283 (by kernel_rfl) ree283 (by kernel_rfl) hn h
abbrev ae284 : ACode := (.seq [0, 3] (.reg [⟨(some 3), .box (.t 1), none⟩,
    ⟨(some 4), .mv (.c (.b false)), none⟩])
  (.seq [4] (.reg [⟨(some 5), .mv (.t 0), none⟩,
    ⟨(some 6), .mkf (.func 321) [] [(.t 3)], none⟩,
    ⟨(some 7), .call 24 [(.t 5), (.t 6)], none⟩,
    ⟨(some 8), .not (.t 7), none⟩,
    ⟨(some 4), .mv (.t 8), none⟩])
  .ret))
theorem ree284 : Tryz.f284.body.bind (res Tryz.prog Tryz.f284.ntmps [] []) = some (erase ae284) := by kernel_rfl
def fs284 : FnS := .fn 9 ae284 [.t 4]
theorem fsok284 : FnOk Tryz.prog 284 fs284 := fun _ _ _ hn h => ctr_of_resC Tryz.func284 (by kernel_rfl) ree284 (by kernel_rfl) hn h
abbrev ae285 : ACode := (.seq [0, 1] (.reg [⟨(some 4), .mv (.c (.l [] true)), none⟩])
  (.seq [0, 1, 5] (.reg [⟨(some 5), .mv (.c (.l [] true)), none⟩])
  (.seq [5] (.seq [1, 5, 8, 9, 10] (.reg [⟨(some 8), .mv (.t 0), none⟩,
    ⟨(some 9), .len (.t 8), none⟩,
    ⟨(some 10), .mv (.c (.i .i64 0)), none⟩])
  (.block 0 (.loop [1, 5, 8, 9, 10] (.seq [1, 5, 8, 9, 10, 11] (.reg [⟨(some 11), .bin .lss (.t 10) (.t 9), none⟩])
  (.seq [1, 5, 8, 9, 10] (.cond (.t 11)
  .skip
  (.exit 0))
  (.seq [1, 5, 8, 9, 10] (.block 1 (.seq [1, 5, 7, 8, 9, 10] (.reg [⟨(some 12), .iaddr 2 none (.t 8) (.t 10), none⟩,
    ⟨(some 13), .load (some 2) (.t 12), none⟩,
    ⟨(some 7), .alloc [(.i .i64 0), (.l [] true)], none⟩,
    ⟨none, .store 2 (.t 7) (.t 13), none⟩])
  (.reg [⟨(some 14), .mv (.t 5), none⟩,
    ⟨(some 15), .mv (.t 1), none⟩,
    ⟨(some 16), .load (some 2) (.t 7), none⟩,
    ⟨(some 17), .callv (.t 15) [(.t 16)], none⟩,
    ⟨(some 18), .bslice 2 1 [(.i .i64 0), (.l [] true)] [(0, (.t 17))], none⟩,
    ⟨(some 19), .append 2 32 (.t 14) (.t 18), none⟩,
    ⟨(some 5), .mv (.t 19), none⟩])))
  (.reg [⟨(some 20), .bin .add (.t 10) (.c (.i .i64 1)), none⟩,
    ⟨(some 10), .mv (.t 20), none⟩])))))))
  (.seq [4] (.reg [⟨(some 21), .mv (.t 5), none⟩,
    ⟨(some 22), .call 323 [(.t 21)], none⟩,
    ⟨(some 4), .mv (.t 22), none⟩])
  .ret))))
theorem ree285 : Tryz.f285.body.bind (res Tryz.prog Tryz.f285.ntmps [] []) = some (erase ae285) := by kernel_rfl
def fs285 : FnS := .fn 23 ae285 [.t 4]
theorem fsok285 : FnOk Tryz.prog 285 fs285 := fun _ _ _ hn h => ctr_of_resC Tryz.func285 (by kernel_rfl) ree285 (by kernel_rfl) hn h
abbrev ae286 : ACode := (.seq [1, 2] (.reg [⟨(some 1), .box (.t 0), none⟩,
    ⟨(some 2), .alloc [(.i .i64 0), (.l [] true)], none⟩])
  (.seq [2] (.dreg [2] [⟨0, ⟨(some 3), .faddr 0 (.t 1), none⟩, [], []⟩,
    ⟨1, ⟨(some 4), .load none (.t 3), none⟩, [], []⟩,
    ⟨2, ⟨(some 5), .faddr 1 (.t 1), none⟩, [], []⟩,
    ⟨3, ⟨(some 6), .load none (.t 5), none⟩, [], []⟩,
    ⟨4, ⟨(some 7), .call 283 [(.t 6)], none⟩, [1], [⟨(some 4), .load none (.t 3), none⟩]⟩,
    ⟨5, ⟨(some 8), .build [(.i .i64 0), (.l [] true)] [(0, 1, (.t 4)), (1, 1, (.t 7))], none⟩, [], []⟩,
    ⟨6, ⟨none, .store 2 (.t 2) (.t 8), none⟩, [], []⟩])
  .ret))
theorem ree286 : Tryz.f286.body.bind (res Tryz.prog Tryz.f286.ntmps [] []) = some (erase ae286) := by kernel_rfl
def fs286 : FnS := .fn 9 ae286 [.c 2 (some 2)]
theorem fsok286 : FnOk Tryz.prog 286 fs286 := fun _ _ _ hn h => ctr_of_resC Tryz.func286 (by kernel_rfl) ree286 (by kernel_rfl) hn h
abbrev ae173 : ACode := (.seq [1] (.reg [⟨(some 1), .box (.t 0), none⟩,
    ⟨(some 2), .mv (.c (.l [] true)), none⟩])
  (.seq [2] (.reg [⟨(some 3), .faddr 0 (.t 1), none⟩,
    ⟨(some 4), .load none (.t 3), none⟩,
    ⟨(some 5), .call 212 [(.t 4), (.c (.f (.func 213) [] []))], none⟩,
    ⟨(some 2), .mv (.t 5), none⟩])
  .ret))
theorem ree173 : Tryz.f173.body.bind (res Tryz.prog Tryz.f173.ntmps [] []) = some (erase ae173) := by kernel_rfl
def fs173 : FnS := .fnz 6 ae173 [.t 2]
theorem fsok173 : FnOk Tryz.prog 173 fs173 := fun _ _ _ hn h => ctr_of_resC Tryz.func173 (by kernel_rfl) ree173 (by kernel_rfl) hn h
abbrev ae287 : ACode := (.seq [0, 1, 2] (.reg [⟨(some 6), .mv (.c (.b false)), none⟩])
  (.seq [0, 1, 2, 7] (.reg [⟨(some 10), .mv (.t 1), none⟩,
    ⟨(some 11), .mv (.t 2), none⟩,
    ⟨(some 12), .build [(.i .i64 0), (.i .i64 0)] [(0, 1, (.t 10)), (1, 1, (.t 11))], none⟩,
    ⟨(some 7), .alloc [(.i .i64 0), (.i .i64 0)], none⟩,
    ⟨none, .store 2 (.t 7) (.t 12), none⟩])
  (.seq [0, 1, 2, 7, 8, 9] (.dreg [0, 1, 2, 7, 8, 9] [⟨0, ⟨(some 14), .mv (.t 0), none⟩, [], []⟩,
    ⟨1, ⟨(some 15), .nilck (.t 14), none⟩, [], []⟩,
    ⟨2, ⟨(some 16), .faddr 8 (.t 15), none⟩, [], []⟩,
    ⟨3, ⟨(some 17), .load none (.t 16), none⟩, [], []⟩,
    ⟨4, ⟨(some 18), .load (some 2) (.t 7), none⟩, [], []⟩,
    ⟨5, ⟨(some 19), .lookup (.a [.i64, .i64]) (.b false) true (.t 17) (.t 18), none⟩, [], []⟩,
    ⟨6, ⟨(some 13), .mv (.t 19), none⟩, [], []⟩,
    ⟨7, ⟨(some 20), .extract 0 (.t 13), none⟩, [], []⟩,
    ⟨8, ⟨(some 21), .extract 1 (.t 13), none⟩, [], []⟩,
    ⟨9, ⟨(some 8), .mv (.t 20), none⟩, [], []⟩,
    ⟨10, ⟨(some 9), .mv (.t 21), none⟩, [], []⟩])
  (.seq [8] (.seq [0, 1, 2, 7, 8, 23] (.reg [⟨(some 22), .mv (.t 9), none⟩,
    ⟨(some 23), .not (.t 22), none⟩])
  (.cond (.t 23)
  (.seq [0, 7, 8] (.dreg [0, 7, 8] [⟨0, ⟨(some 25), .mv (.t 0), none⟩, [], []⟩,
    ⟨1, ⟨(some 26), .nilck (.t 25), none⟩, [], []⟩,
    ⟨2, ⟨(some 27), .faddr 6 (.t 26), none⟩, [], []⟩,
    ⟨3, ⟨(some 28), .load (some 2) (.t 27), none⟩, [], []⟩,
    ⟨4, ⟨(some 29), .mv (.t 0), none⟩, [], []⟩,
    ⟨5, ⟨(some 30), .nilck (.t 29), none⟩, [], []⟩,
    ⟨6, ⟨(some 31), .faddr 0 (.t 30), none⟩, [], []⟩,
    ⟨7, ⟨(some 32), .faddr 3 (.t 31), none⟩, [], []⟩,
    ⟨8, ⟨(some 33), .load none (.t 32), none⟩, [], []⟩,
    ⟨9, ⟨(some 34), .mv (.t 1), none⟩, [], []⟩,
    ⟨10, ⟨(some 35), .iaddr 9 none (.t 33) (.t 34), none⟩, [], []⟩,
    ⟨11, ⟨(some 36), .faddr 2 (.t 35), none⟩, [], []⟩,
    ⟨12, ⟨(some 37), .load (some 6) (.t 36), none⟩, [], []⟩,
    ⟨13, ⟨(some 38), .mv (.t 0), none⟩, [], []⟩,
    ⟨14, ⟨(some 39), .nilck (.t 38), none⟩, [], []⟩,
    ⟨15, ⟨(some 40), .faddr 0 (.t 39), none⟩, [], []⟩,
    ⟨16, ⟨(some 41), .faddr 3 (.t 40), none⟩, [], []⟩,
    ⟨17, ⟨(some 42), .load none (.t 41), none⟩, [], []⟩,
    ⟨18, ⟨(some 43), .mv (.t 2), none⟩, [], []⟩,
    ⟨19, ⟨(some 44), .iaddr 9 none (.t 42) (.t 43), none⟩, [], []⟩,
    ⟨20, ⟨(some 45), .faddr 2 (.t 44), none⟩, [], []⟩,
    ⟨21, ⟨(some 46), .load (some 6) (.t 45), none⟩, [], []⟩,
    ⟨22, ⟨(some 47), .call 324 [(.t 28), (.t 37), (.t 46)], none⟩, [], []⟩,
    ⟨23, ⟨(some 24), .mv (.t 47), none⟩, [], []⟩,
    ⟨24, ⟨(some 48), .extract 0 (.t 24), none⟩, [], []⟩,
    ⟨25, ⟨(some 49), .extract 1 (.t 24), none⟩, [], []⟩,
    ⟨26, ⟨(some 8), .mv (.t 48), none⟩, [], []⟩])
  (.dreg [8] [⟨0, ⟨(some 50), .mv (.t 0), none⟩, [], []⟩,
    ⟨1, ⟨(some 51), .nilck (.t 50), none⟩, [], []⟩,
    ⟨2, ⟨(some 52), .faddr 8 (.t 51), none⟩, [], []⟩,
    ⟨3, ⟨(some 53), .load none (.t 52), none⟩, [], []⟩,
    ⟨4, ⟨(some 54), .load (some 2) (.t 7), none⟩, [], []⟩,
    ⟨5, ⟨(some 55), .mv (.t 8), none⟩, [], []⟩,
    ⟨6, ⟨none, .mapset (.a [.i64, .i64]) (.t 53) (.t 54) (.t 55), none⟩, [], []⟩]))
  .skip))
  (.seq [6] (.reg [⟨(some 56), .mv (.t 8), none⟩,
    ⟨(some 6), .mv (.t 56), none⟩])
  .ret)))))
theorem ree287 : Tryz.f287.body.bind (res Tryz.prog Tryz.f287.ntmps [] []) = some (erase ae287) := by kernel_rfl
def fs287 : FnS := .fn 57 ae287 [.t 6]
theorem fsok287 : FnOk Tryz.prog 287 fs287 := fun _ _ _ hn h => ctr_of_resC Tryz.func287 (by kernel_rfl) ree287 (by kernel_rfl) hn h
abbrev ae289 : ACode := (.seq [0, 1] (.reg [⟨(some 3), .mv (.c (.b false)), none⟩])
  (.seq [3] (.reg [⟨(some 4), .mv (.t 0), none⟩,
    ⟨(some 5), .load none (.t 1), none⟩,
    ⟨(some 6), .bin .neq (.t 4) (.t 5), none⟩,
    ⟨(some 3), .mv (.t 6), none⟩])
  .ret))
theorem ree289 : Tryz.f289.body.bind (res Tryz.prog Tryz.f289.ntmps [] []) = some (erase ae289) := by kernel_rfl
def fs289 : FnS := .fn 7 ae289 [.t 3]
theorem fsok289 : FnOk Tryz.prog 289 fs289 := fun _ _ _ hn h => ctr_of_resC Tryz.func289 (by kernel_rfl) ree289 (by kernel_rfl) hn h
abbrev ae288 : ACode := (.seq [0, 1] (.reg [⟨(some 4), .mv (.c (.l [] true)), none⟩])
  (.seq [0, 1, 5] (.reg [⟨(some 5), .mv (.c (.l [] true)), none⟩])
  (.seq [5] (.seq [1, 5, 8, 9, 10] (.reg [⟨(some 8), .mv (.t 0), none⟩,
    ⟨(some 9), .len (.t 8), none⟩,
    ⟨(some 10), .mv (.c (.i .i64 0)), none⟩])
  (.block 0 (.loop [1, 5, 8, 9, 10] (.seq [1, 5, 8, 9, 10, 11] (.reg [⟨(some 11), .bin .lss (.t 10) (.t 9), none⟩])
  (.seq [1, 5, 8, 9, 10] (.cond (.t 11)
  .skip
  (.exit 0))
  (.seq [1, 5, 8, 9, 10] (.block 1 (.seq [1, 5, 7, 8, 9, 10] (.reg [⟨(some 12), .iaddr 1 none (.t 8) (.t 10), none⟩,
    ⟨(some 13), .load none (.t 12), none⟩,
    ⟨(some 7), .mv (.t 13), none⟩])
  (.seq [1, 5, 7, 8, 9, 10, 16] (.reg [⟨(some 14), .mv (.t 1), none⟩,
    ⟨(some 15), .mv (.t 7), none⟩,
    ⟨(some 16), .callv (.t 14) [(.t 15)], none⟩])
  (.cond (.t 16)
  (.reg [⟨(some 17), .mv (.t 5), none⟩,
    ⟨(some 18), .mv (.t 7), none⟩,
    ⟨(some 19), .bslice 1 1 [(.i .i64 0)] [(0, (.t 18))], none⟩,
    ⟨(some 20), .append 1 8 (.t 17) (.t 19), none⟩,
    ⟨(some 5), .mv (.t 20), none⟩])
  .skip))))
  (.reg [⟨(some 21), .bin .add (.t 10) (.c (.i .i64 1)), none⟩,
    ⟨(some 10), .mv (.t 21), none⟩])))))))
  (.seq [4] (.reg [⟨(some 22), .mv (.t 5), none⟩,
    ⟨(some 23), .call 241 [(.t 22)], none⟩,
    ⟨(some 4), .mv (.t 23), none⟩])
  .ret))))
theorem ree288 : Tryz.f288.body.bind (res Tryz.prog Tryz.f288.ntmps [] []) = some (erase ae288) := by kernel_rfl
def fs288 : FnS := .fn 24 ae288 [.t 4]
theorem fsok288 : FnOk Tryz.prog 288 fs288 := fun _ _ _ hn h => ctr_of_resC Tryz.func288 (by kernel_rfl) ree288 (by kernel_rfl) hn h
abbrev ae292 : ACode := (.seq [0, 5, 6, 7] (.reg [⟨(some 5), .load none (.t 1), none⟩,
    ⟨(some 6), .len (.t 5), none⟩,
    ⟨(some 7), .mv (.c (.i .i64 0)), none⟩])
  (.block 0 (.loop [0, 5, 6, 7] (.seq [0, 5, 6, 7, 8] (.reg [⟨(some 8), .bin .lss (.t 7) (.t 6), none⟩])
  (.seq [0, 5, 6, 7] (.cond (.t 8)
  .skip
  (.exit 0))
  (.seq [0, 5, 6, 7] (.block 1 (.seq [0, 4, 5, 6, 7] (.reg [⟨(some 9), .iaddr 1 none (.t 5) (.t 7), none⟩,
    ⟨(some 10), .load none (.t 9), none⟩,
    ⟨(some 4), .mv (.t 10), none⟩])
  (.seq [0, 5, 6, 7, 14] (.reg [⟨(some 11), .mv (.t 0), none⟩,
    ⟨(some 12), .mv (.t 4), none⟩,
    ⟨(some 13), .callv (.t 11) [(.t 12)], none⟩,
    ⟨(some 14), .not (.t 13), none⟩])
  (.cond (.t 14)
  .ret
  .skip))))
  (.reg [⟨(some 15), .bin .add (.t 7) (.c (.i .i64 1)), none⟩,
    ⟨(some 7), .mv (.t 15), none⟩])))))))
theorem ree292 : Tryz.f292.body.bind (res Tryz.prog Tryz.f292.ntmps [] []) = some (erase ae292) := by kernel_rfl
def fs292 : FnS := .fn 16 ae292 []
theorem fsok292 : FnOk Tryz.prog 292 fs292 := fun _ _ _ hn h => ctr_of_resC Tryz.func292 (by kernel_rfl) ree292 (by kernel_rfl) hn h
abbrev ae290 : ACode := (.seq [0] (.reg [⟨(some 2), .mv (.c (.l [] true)), none⟩])
  (.seq [2] (.reg [⟨(some 3), .mv (.t 0), none⟩,
    ⟨(some 4), .call 325 [(.c (.l [] true)), (.t 3)], none⟩,
    ⟨(some 2), .mv (.t 4), none⟩])
  .ret))
theorem ree290 : Tryz.f290.body.bind (res Tryz.prog Tryz.f290.ntmps [] []) = some (erase ae290) := by kernel_rfl
def fs290 : FnS := .fn 5 ae290 [.t 2]
theorem fsok290 : FnOk Tryz.prog 290 fs290 := fun _ _ _ hn h => ctr_of_resC Tryz.func290 (by kernel_rfl) ree290 (by kernel_rfl) hn h
abbrev ae291 : ACode := (.seq [0, 2] (.reg [⟨(some 3), .mv (.t 0), none⟩,
    ⟨(some 4), .len (.t 3), none⟩,
    ⟨(some 2), .mv (.t 4), none⟩])
  (.reg [⟨(some 5), .mv (.t 0), none⟩,
    ⟨(some 6), .mv (.t 2), none⟩,
    ⟨(some 7), .mv (.t 2), none⟩,
    ⟨(some 8), .conv .u64 (.t 7), none⟩,
    ⟨(some 9), .call 327 [(.t 8)], none⟩,
    ⟨(some 10), .call 326 [(.t 5), (.c (.i .i64 0)), (.t 6), (.t 9)], none⟩]))
theorem ree291 : Tryz.f291.body.bind (res Tryz.prog Tryz.f291.ntmps [] []) = some (erase ae291) := by kernel_rfl
def fs291 : FnS := .fn 11 ae291 []
theorem fsok291 : FnOk Tryz.prog 291 fs291 := fun _ _ _ hn h => ctr_of_resC Tryz.func291 (by kernel_rfl) ree291 (by kernel_rfl) hn h
abbrev ae245 : ACode := (.seq [0, 1, 2] (.reg [⟨(some 4), .mv (.c (.b false)), none⟩])
  (.seq [4] (.reg [⟨(some 5), .load none (.t 1), none⟩,
    ⟨(some 6), .mv (.t 0), none⟩,
    ⟨(some 7), .load none (.t 2), none⟩,
    ⟨(some 8), .call 239 [(.t 5), (.t 6), (.t 7)], none⟩,
    ⟨(some 4), .mv (.t 8), none⟩])
  .ret))
theorem ree245 : Tryz.f245.body.bind (res Tryz.prog Tryz.f245.ntmps [] []) = some (erase ae245) := by kernel_rfl
def fs245 : FnS := .fn 9 ae245 [.t 4]
theorem fsok245 : FnOk Tryz.prog 245 fs245 := fun _ _ _ hn h => ctr_of_resC Tryz.func245 (by kernel_rfl) ree245 (by kernel_rfl) hn h
abbrev ae247 : ACode := (.seq [0] (.reg [⟨(some 2), .mv (.c (.i .i64 0)), none⟩])
  (.seq [] (.seq [5] (.reg [⟨(some 3), .mv (.t 0), none⟩,
    ⟨(some 4), .call 293 [(.t 3)], none⟩,
    ⟨(some 5), .not (.t 4), none⟩])
  (.cond (.t 5)
  (.seq [2] (.reg [⟨(some 2), .mv (.c (.i .i64 2)), none⟩])
  .ret)
  .skip))
  (.seq [2] (.reg [⟨(some 2), .mv (.c (.i .i64 0)), none⟩])
  .ret)))
theorem ree247 : Tryz.f247.body.bind (res Tryz.prog Tryz.f247.ntmps [] []) = some (erase ae247) := by kernel_rfl
def fs247 : FnS := .fn 6 ae247 [.t 2]
theorem fsok247 : FnOk Tryz.prog 247 fs247 := fun _ _ _ hn h => ctr_of_resC Tryz.func247 (by kernel_rfl) ree247 (by kernel_rfl) hn h
abbrev ae248 : ACode := (.seq [0, 1] (.reg [⟨(some 4), .mv (.c (.l [] true)), none⟩,
    ⟨(some 5), .mv (.c (.i .i64 0)), none⟩])
  (.seq [1, 6, 7] (.reg [⟨(some 9), .mv (.t 0), none⟩,
    ⟨(some 10), .mv (.t 1), none⟩,
    ⟨(some 11), .bslice 1 1 [(.i .i64 0)] [(0, (.t 10))], none⟩,
    ⟨(some 12), .call 294 [(.t 9), (.t 11)], none⟩,
    ⟨(some 8), .mv (.t 12), none⟩,
    ⟨(some 13), .extract 0 (.t 8), none⟩,
    ⟨(some 14), .extract 1 (.t 8), none⟩,
    ⟨(some 6), .mv (.t 13), none⟩,
    ⟨(some 7), .mv (.t 14), none⟩])
  (.seq [1, 6] (.seq [1, 6, 16] (.reg [⟨(some 15), .mv (.t 7), none⟩,
    ⟨(some 16), .not (.t 15), none⟩])
  (.cond (.t 16)
  (.seq [4, 5] (.reg [⟨(some 4), .mv (.c (.l [] true)), none⟩,
    ⟨(some 5), .mv (.c (.i .i64 2)), none⟩])
  .ret)
  .skip))
  (.seq [1, 6] (.seq [1, 6, 24] (.reg [⟨(some 17), .mv (.t 6), none⟩,
    ⟨(some 18), .nilck (.t 17), none⟩,
    ⟨(some 19), .faddr 2 (.t 18), none⟩,
    ⟨(some 20), .load none (.t 19), none⟩,
    ⟨(some 21), .mv (.t 1), none⟩,
    ⟨(some 22), .lookup (.i .i64) (.l [] true) false (.t 20) (.t 21), none⟩,
    ⟨(some 23), .len (.t 22), none⟩,
    ⟨(some 24), .bin .eql (.t 23) (.c (.i .i64 0)), none⟩])
  (.cond (.t 24)
  (.seq [4, 5] (.reg [⟨(some 4), .mv (.c (.l [] true)), none⟩,
    ⟨(some 5), .mv (.c (.i .i64 7)), none⟩])
  .ret)
  .skip))
  (.seq [4, 5] (.reg [⟨(some 25), .mv (.t 6), none⟩,
    ⟨(some 26), .nilck (.t 25), none⟩,
    ⟨(some 27), .faddr 2 (.t 26), none⟩,
    ⟨(some 28), .load none (.t 27), none⟩,
    ⟨(some 29), .mv (.t 1), none⟩,
    ⟨(some 30), .lookup (.i .i64) (.l [] true) false (.t 28) (.t 29), none⟩,
    ⟨(some 31), .call 149 [(.t 30)], none⟩,
    ⟨(some 4), .mv (.t 31), none⟩,
    ⟨(some 5), .mv (.c (.i .i64 0)), none⟩])
  .ret)))))
theorem ree248 : Tryz.f248.body.bind (res Tryz.prog Tryz.f248.ntmps [] []) = some (erase ae248) := by kernel_rfl
def fs248 : FnS := .fn 32 ae248 [.t 4, .t 5]
theorem fsok248 : FnOk Tryz.prog 248 fs248 := fun _ _ _ hn h => ctr_of_resC Tryz.func248 (by kernel_rfl) ree248 (by kernel_rfl) hn h
abbrev ae250 : ACode := (.seq [0] (.reg [⟨(some 2), .mv (.c (.b false)), none⟩])
  (.seq [2] (.reg [⟨(some 3), .mv (.t 0), none⟩,
    ⟨(some 4), .bin .geq (.t 3) (.c (.i .i64 (-1000000000))), none⟩,
    ⟨(some 5), .mv (.t 4), none⟩,
    ⟨(some 6), .mv (.t 0), (some (5, true))⟩,
    ⟨(some 7), .bin .leq (.t 6) (.c (.i .i64 1000000000)), (some (5, true))⟩,
    ⟨(some 8), .pick (.t 5) (.t 7) (.c (.b false)), none⟩,
    ⟨(some 2), .mv (.t 8), none⟩])
  .ret))
theorem ree250 : Tryz.f250.body.bind (res Tryz.prog Tryz.f250.ntmps [] []) = some (erase ae250) := by kernel_rfl
def fs250 : FnS := .fn 9 ae250 [.t 2]
theorem fsok250 : FnOk Tryz.prog 250 fs250 := fun _ _ _ hn h => ctr_of_resC Tryz.func250 (by kernel_rfl) ree250 (by kernel_rfl) hn h
abbrev ae115 : ACode := (.seq [0, 1] (.reg [⟨(some 4), .mv (.c (.i .u64 0)), none⟩,
    ⟨(some 5), .mv (.c (.i .u64 0)), none⟩])
  (.seq [0, 1] (.cond (.c (.b false))
  (.seq [6, 7] (.reg [⟨(some 11), .mv (.t 0), none⟩,
    ⟨(some 12), .conv .u32 (.t 11), none⟩,
    ⟨(some 13), .mv (.t 1), none⟩,
    ⟨(some 14), .conv .u32 (.t 13), none⟩,
    ⟨(some 15), .call 170 [(.t 12), (.t 14)], none⟩,
    ⟨(some 10), .mv (.t 15), none⟩,
    ⟨(some 16), .extract 0 (.t 10), none⟩,
    ⟨(some 17), .extract 1 (.t 10), none⟩,
    ⟨(some 6), .mv (.t 16), none⟩,
    ⟨(some 7), .mv (.t 17), none⟩])
  (.seq [4, 5] (.reg [⟨(some 18), .mv (.t 6), none⟩,
    ⟨(some 19), .conv .u64 (.t 18), none⟩,
    ⟨(some 20), .mv (.t 7), none⟩,
    ⟨(some 21), .conv .u64 (.t 20), none⟩,
    ⟨(some 4), .mv (.t 19), none⟩,
    ⟨(some 5), .mv (.t 21), none⟩])
  .ret))
  .skip)
  (.seq [8, 9] (.reg [⟨(some 23), .mv (.t 0), none⟩,
    ⟨(some 24), .mv (.t 1), none⟩,
    ⟨(some 25), .call 171 [(.t 23), (.t 24)], none⟩,
    ⟨(some 22), .mv (.t 25), none⟩,
    ⟨(some 26), .extract 0 (.t 22), none⟩,
    ⟨(some 27), .extract 1 (.t 22), none⟩,
    ⟨(some 8), .mv (.t 26), none⟩,
    ⟨(some 9), .mv (.t 27), none⟩])
  (.seq [4, 5] (.reg [⟨(some 28), .mv (.t 8), none⟩,
    ⟨(some 29), .mv (.t 9), none⟩,
    ⟨(some 4), .mv (.t 28), none⟩,
    ⟨(some 5), .mv (.t 29), none⟩])
  .ret))))
theorem ree115 : Tryz.f115.body.bind (res Tryz.prog Tryz.f115.ntmps [] []) = some (erase ae115) := by kernel_rfl
def fs115 : FnS := .fn 30 ae115 [.t 4, .t 5]
theorem fsok115 : FnOk Tryz.prog 115 fs115 := fun _ _ _ hn h => ctr_of_resC Tryz.func115 (by kernel_rfl) ree115 (by kernel_rfl) hn h
abbrev ae199 : ACode := (.seq [3, 4, 5] (.reg [⟨(some 3), .box (.t 0), none⟩,
    ⟨(some 4), .box (.t 1), none⟩,
    ⟨(some 5), .box (.t 2), none⟩,
    ⟨(some 6), .mv (.c .fnil), none⟩])
  (.seq [6] (.reg [⟨(some 7), .mkf (.func 251) [] [(.t 3), (.t 4), (.t 5)], none⟩,
    ⟨(some 6), .mv (.t 7), none⟩])
  .ret))
theorem ree199 : Tryz.f199.body.bind (res Tryz.prog Tryz.f199.ntmps [] []) = some (erase ae199) := by kernel_rfl
def fs199 : FnS := .fn 8 ae199 [.t 6]
theorem fsok199 : FnOk Tryz.prog 199 fs199 := fun _ _ _ hn h => ctr_of_resC Tryz.func199 (by kernel_rfl) ree199 (by kernel_rfl) hn h
abbrev ae200 : ACode := (.seq [2, 3, 4] (.reg [⟨(some 3), .box (.t 0), none⟩,
    ⟨(some 4), .box (.t 1), none⟩,
    ⟨(some 6), .mv (.c (.b false)), none⟩])
  (.seq [2, 3, 4, 7] (.reg [⟨(some 7), .mv (.c (.i .i64 1)), none⟩])
  (.seq [4, 7] (.seq [2, 3, 4, 7, 9] (.reg [⟨(some 8), .faddr 0 (.t 4), none⟩,
    ⟨(some 9), .load none (.t 8), none⟩])
  (.block 0 (.seq [2, 3, 4, 7, 9, 10] (.reg [⟨(some 11), .bin .eql (.t 9) (.c (.i .i64 1)), none⟩,
    ⟨(some 10), .mv (.t 11), none⟩])
  (.cond (.t 10)
  (.seq [6] (.reg [⟨(some 12), .faddr 1 (.t 4), none⟩,
    ⟨(some 13), .load none (.t 12), none⟩,
    ⟨(some 14), .call 250 [(.t 13)], none⟩,
    ⟨(some 6), .mv (.t 14), none⟩])
  .ret)
  (.seq [2, 3, 4, 7, 9, 15] (.reg [⟨(some 16), .bin .eql (.t 9) (.c (.i .i64 3)), none⟩,
    ⟨(some 15), .mv (.t 16), none⟩])
  (.cond (.t 15)
  (.reg [⟨(some 17), .mv (.t 2), none⟩,
    ⟨(some 7), .mv (.t 17), none⟩])
  (.seq [3, 4, 7, 9, 18] (.seq [3, 4, 7, 9, 18] (.reg [⟨(some 19), .bin .eql (.t 9) (.c (.i .i64 4)), none⟩,
    ⟨(some 18), .mv (.t 19), none⟩])
  (.cond (.t 18)
  .skip
  (.reg [⟨(some 20), .bin .eql (.t 9) (.c (.i .i64 7)), none⟩,
    ⟨(some 18), .mv (.t 20), none⟩])))
  (.cond (.t 18)
  (.reg [⟨(some 21), .faddr 1 (.t 3), none⟩,
    ⟨(some 22), .load none (.t 21), none⟩,
    ⟨(some 7), .mv (.t 22), none⟩])
  (.seq [3, 4, 7, 9, 23] (.seq [3, 4, 7, 9, 23] (.reg [⟨(some 24), .bin .eql (.t 9) (.c (.i .i64 6)), none⟩,
    ⟨(some 23), .mv (.t 24), none⟩])
  (.cond (.t 23)
  .skip
  (.reg [⟨(some 25), .bin .eql (.t 9) (.c (.i .i64 8)), none⟩,
    ⟨(some 23), .mv (.t 25), none⟩])))
  (.cond (.t 23)
  (.seq [6] (.reg [⟨(some 26), .faddr 1 (.t 4), none⟩,
    ⟨(some 27), .load none (.t 26), none⟩,
    ⟨(some 28), .bin .geq (.t 27) (.c (.i .i64 3)), none⟩,
    ⟨(some 29), .mv (.t 28), none⟩,
    ⟨(some 30), .faddr 1 (.t 4), (some (29, true))⟩,
    ⟨(some 31), .load none (.t 30), (some (29, true))⟩,
    ⟨(some 32), .faddr 0 (.t 3), (some (29, true))⟩,
    ⟨(some 33), .load none (.t 32), (some (29, true))⟩,
    ⟨(some 34), .len (.t 33), (some (29, true))⟩,
    ⟨(some 35), .bin .add (.c (.i .i64 3)) (.t 34), (some (29, true))⟩,
    ⟨(some 36), .bin .lss (.t 31) (.t 35), (some (29, true))⟩,
    ⟨(some 37), .pick (.t 29) (.t 36) (.c (.b false)), none⟩,
    ⟨(some 6), .mv (.t 37), none⟩])
  .ret)
  (.seq [3, 4, 7, 38] (.reg [⟨(some 39), .bin .eql (.t 9) (.c (.i .i64 5)), none⟩,
    ⟨(some 38), .mv (.t 39), none⟩])
  (.cond (.t 38)
  (.reg [⟨(some 40), .faddr 2 (.t 3), none⟩,
    ⟨(some 41), .load none (.t 40), none⟩,
    ⟨(some 42), .len (.t 41), none⟩,
    ⟨(some 7), .mv (.t 42), none⟩])
  .skip))))))))))))
  (.seq [6] (.reg [⟨(some 43), .faddr 1 (.t 4), none⟩,
    ⟨(some 44), .load none (.t 43), none⟩,
    ⟨(some 45), .bin .geq (.t 44) (.c (.i .i64 0)), none⟩,
    ⟨(some 46), .mv (.t 45), none⟩,
    ⟨(some 47), .faddr 1 (.t 4), (some (46, true))⟩,
    ⟨(some 48), .load none (.t 47), (some (46, true))⟩,
    ⟨(some 49), .mv (.t 7), (some (46, true))⟩,
    ⟨(some 50), .bin .lss (.t 48) (.t 49), (some (46, true))⟩,
    ⟨(some 51), .pick (.t 46) (.t 50) (.c (.b false)), none⟩,
    ⟨(some 6), .mv (.t 51), none⟩])
  .ret))))
theorem ree200 : Tryz.f200.body.bind (res Tryz.prog Tryz.f200.ntmps [] []) = some (erase ae200) := by kernel_rfl
def fs200 : FnS := .fn 52 ae200 [.t 6]
theorem fsok200 : FnOk Tryz.prog 200 fs200 := fun _ _ _ hn h => ctr_of_resC Tryz.func200 (by kernel_rfl) ree200 (by kernel_rfl) hn h
abbrev ae201 : ACode := (.seq [0] (.reg [⟨(some 2), .mv (.c .inil), none⟩])
  (.seq [] (.seq [3] (.reg [⟨(some 3), .mv (.t 0), none⟩])
  (.block 0 (.seq [3, 4] (.reg [⟨(some 5), .bin .eql (.t 3) (.c (.i .i64 5)), none⟩,
    ⟨(some 4), .mv (.t 5), none⟩])
  (.cond (.t 4)
  (.seq [2] (.reg [⟨(some 6), .build [] [], none⟩,
    ⟨(some 7), .mkifc 296 (.t 6), none⟩,
    ⟨(some 2), .mv (.t 7), none⟩])
  .ret)
  (.seq [3, 8] (.seq [3, 8] (.reg [⟨(some 9), .bin .eql (.t 3) (.c (.i .i64 1)), none⟩,
    ⟨(some 8), .mv (.t 9), none⟩])
  (.cond (.t 8)
  .skip
  (.seq [3, 8] (.reg [⟨(some 10), .bin .eql (.t 3) (.c (.i .i64 2)), none⟩,
    ⟨(some 8), .mv (.t 10), none⟩])
  (.cond (.t 8)
  .skip
  (.seq [3, 8] (.reg [⟨(some 11), .bin .eql (.t 3) (.c (.i .i64 3)), none⟩,
    ⟨(some 8), .mv (.t 11), none⟩])
  (.cond (.t 8)
  .skip
  (.seq [3, 8] (.reg [⟨(some 12), .bin .eql (.t 3) (.c (.i .i64 6)), none⟩,
    ⟨(some 8), .mv (.t 12), none⟩])
  (.cond (.t 8)
  .skip
  (.reg [⟨(some 13), .bin .eql (.t 3) (.c (.i .i64 18)), none⟩,
    ⟨(some 8), .mv (.t 13), none⟩])))))))))
  (.cond (.t 8)
  (.seq [2] (.reg [⟨(some 14), .mkifc 295 (.c (.i .i64 0)), none⟩,
    ⟨(some 2), .mv (.t 14), none⟩])
  .ret)
  (.seq [3, 15] (.seq [3, 15] (.reg [⟨(some 16), .bin .eql (.t 3) (.c (.i .i64 4)), none⟩,
    ⟨(some 15), .mv (.t 16), none⟩])
  (.cond (.t 15)
  .skip
  (.seq [3, 15] (.reg [⟨(some 17), .bin .eql (.t 3) (.c (.i .i64 8)), none⟩,
    ⟨(some 15), .mv (.t 17), none⟩])
  (.cond (.t 15)
  .skip
  (.reg [⟨(some 18), .bin .eql (.t 3) (.c (.i .i64 17)), none⟩,
    ⟨(some 15), .mv (.t 18), none⟩])))))
  (.cond (.t 15)
  (.seq [2] (.reg [⟨(some 19), .mkifc 295 (.c (.i .i64 1)), none⟩,
    ⟨(some 2), .mv (.t 19), none⟩])
  .ret)
  (.seq [3, 20] (.seq [3, 20] (.reg [⟨(some 21), .bin .eql (.t 3) (.c (.i .i64 7)), none⟩,
    ⟨(some 20), .mv (.t 21), none⟩])
  (.cond (.t 20)
  .skip
  (.seq [3, 20] (.reg [⟨(some 22), .bin .eql (.t 3) (.c (.i .i64 9)), none⟩,
    ⟨(some 20), .mv (.t 22), none⟩])
  (.cond (.t 20)
  .skip
  (.seq [3, 20] (.reg [⟨(some 23), .bin .eql (.t 3) (.c (.i .i64 11)), none⟩,
    ⟨(some 20), .mv (.t 23), none⟩])
  (.cond (.t 20)
  .skip
  (.seq [3, 20] (.reg [⟨(some 24), .bin .eql (.t 3) (.c (.i .i64 12)), none⟩,
    ⟨(some 20), .mv (.t 24), none⟩])
  (.cond (.t 20)
  .skip
  (.seq [3, 20] (.reg [⟨(some 25), .bin .eql (.t 3) (.c (.i .i64 13)), none⟩,
    ⟨(some 20), .mv (.t 25), none⟩])
  (.cond (.t 20)
  .skip
  (.seq [3, 20] (.reg [⟨(some 26), .bin .eql (.t 3) (.c (.i .i64 14)), none⟩,
    ⟨(some 20), .mv (.t 26), none⟩])
  (.cond (.t 20)
  .skip
  (.seq [3, 20] (.reg [⟨(some 27), .bin .eql (.t 3) (.c (.i .i64 15)), none⟩,
    ⟨(some 20), .mv (.t 27), none⟩])
  (.cond (.t 20)
  .skip
  (.reg [⟨(some 28), .bin .eql (.t 3) (.c (.i .i64 16)), none⟩,
    ⟨(some 20), .mv (.t 28), none⟩])))))))))))))))
  (.cond (.t 20)
  (.seq [2] (.reg [⟨(some 29), .mkifc 295 (.c (.i .i64 2)), none⟩,
    ⟨(some 2), .mv (.t 29), none⟩])
  .ret)
  (.seq [30] (.reg [⟨(some 31), .bin .eql (.t 3) (.c (.i .i64 10)), none⟩,
    ⟨(some 30), .mv (.t 31), none⟩])
  (.cond (.t 30)
  (.seq [2] (.reg [⟨(some 32), .mkifc 295 (.c (.i .i64 3)), none⟩,
    ⟨(some 2), .mv (.t 32), none⟩])
  .ret)
  .skip))))))))))))
  (.seq [2] (.reg [⟨(some 2), .mv (.c .inil), none⟩])
  .ret)))
theorem ree201 : Tryz.f201.body.bind (res Tryz.prog Tryz.f201.ntmps [] []) = some (erase ae201) := by kernel_rfl
def fs201 : FnS := .fn 33 ae201 [.t 2]
theorem fsok201 : FnOk Tryz.prog 201 fs201 := fun _ _ _ hn h => ctr_of_resC Tryz.func201 (by kernel_rfl) ree201 (by kernel_rfl) hn h
abbrev ae411 : ACode := (.seq [0] (.reg [⟨(some 4), .box (.t 1), none⟩,
    ⟨(some 5), .box (.t 2), none⟩,
    ⟨(some 6), .mv (.c (.i .i64 0)), none⟩])
  (.seq [6] (.reg [⟨(some 7), .mv (.t 0), none⟩,
    ⟨(some 6), .mv (.t 7), none⟩])
  .ret))
theorem ree411 : Tryz.f411.body.bind (res Tryz.prog Tryz.f411.ntmps [] []) = some (erase ae411) := by kernel_rfl
def fs411 : FnS := .fn 8 ae411 [.t 6]
theorem fsok411 : FnOk Tryz.prog 411 fs411 := fun _ _ _ hn h => ctr_of_resC Tryz.func411 (by kernel_rfl) ree411 (by kernel_rfl) hn h
abbrev ae412 : ACode := (.seq [4, 5] (.reg [⟨(some 3), .box (.t 0), none⟩,
    ⟨(some 4), .box (.t 1), none⟩,
    ⟨(some 5), .box (.t 2), none⟩,
    ⟨(some 6), .mv (.c (.i .i64 0)), none⟩])
  (.seq [6] (.reg [⟨(some 7), .faddr 2 (.t 4), none⟩,
    ⟨(some 8), .load none (.t 7), none⟩,
    ⟨(some 9), .faddr 1 (.t 5), none⟩,
    ⟨(some 10), .load none (.t 9), none⟩,
    ⟨(some 11), .iaddr 1 none (.t 8) (.t 10), none⟩,
    ⟨(some 12), .load none (.t 11), none⟩,
    ⟨(some 6), .mv (.t 12), none⟩])
  .ret))
theorem ree412 : Tryz.f412.body.bind (res Tryz.prog Tryz.f412.ntmps [] []) = some (erase ae412) := by kernel_rfl
def fs412 : FnS := .fn 13 ae412 [.t 6]
theorem fsok412 : FnOk Tryz.prog 412 fs412 := fun _ _ _ hn h => ctr_of_resC Tryz.func412 (by kernel_rfl) ree412 (by kernel_rfl) hn h
abbrev ae119 : ACode := (.seq [1, 2] (.reg [⟨(some 2), .box (.t 0), none⟩,
    ⟨(some 4), .mv (.c .pn), none⟩,
    ⟨(some 5), .mv (.c (.b false)), none⟩])
  (.seq [1, 6, 7] (.reg [⟨(some 9), .load (some 2) (.t 2), none⟩,
    ⟨(some 10), .call 174 [(.t 9)], none⟩,
    ⟨(some 8), .mv (.t 10), none⟩,
    ⟨(some 11), .extract 0 (.t 8), none⟩,
    ⟨(some 12), .extract 1 (.t 8), none⟩,
    ⟨(some 6), .mv (.t 11), none⟩,
    ⟨(some 7), .mv (.t 12), none⟩])
  (.seq [4, 5] (.reg [⟨(some 13), .mv (.t 6), none⟩,
    ⟨(some 14), .mv (.t 7), none⟩,
    ⟨(some 15), .mv (.t 14), none⟩,
    ⟨(some 16), .mv (.t 6), (some (15, true))⟩,
    ⟨(some 17), .mv (.t 1), (some (15, true))⟩,
    ⟨(some 18), .call 175 [(.t 16), (.t 17)], (some (15, true))⟩,
    ⟨(some 19), .pick (.t 15) (.t 18) (.c (.b false)), none⟩,
    ⟨(some 4), .mv (.t 13), none⟩,
    ⟨(some 5), .mv (.t 19), none⟩])
  .ret)))
theorem ree119 : Tryz.f119.body.bind (res Tryz.prog Tryz.f119.ntmps [] []) = some (erase ae119) := by kernel_rfl
def fs119 : FnS := .fn 20 ae119 [.t 4, .t 5]
theorem fsok119 : FnOk Tryz.prog 119 fs119 := fun _ _ _ hn h => ctr_of_resC Tryz.func119 (by kernel_rfl) ree119 (by kernel_rfl) hn h
abbrev ae172 : ACode := (.seq [0] (.reg [⟨(some 2), .mv (.c (.i .i64 0)), none⟩])
  (.seq [] (.seq [4] (.reg [⟨(some 3), .mv (.t 0), none⟩,
    ⟨(some 4), .not (.t 3), none⟩])
  (.cond (.t 4)
  (.seq [2] (.reg [⟨(some 2), .mv (.c (.i .i64 2)), none⟩])
  .ret)
  .skip))
  (.seq [2] (.reg [⟨(some 2), .mv (.c (.i .i64 0)), none⟩])
  .ret)))
theorem ree172 : Tryz.f172.body.bind (res Tryz.prog Tryz.f172.ntmps [] []) = some (erase ae172) := by kernel_rfl
def fs172 : FnS := .fn 5 ae172 [.t 2]
theorem fsok172 : FnOk Tryz.prog 172 fs172 := fun _ _ _ hn h => ctr_of_resC Tryz.func172 (by kernel_rfl) ree172 (by kernel_rfl) hn h
abbrev ae310 : ACode := (.seq [0, 1] (.reg [⟨(some 4), .mv (.c (.b false)), none⟩])
  (.seq [4] (.reg [⟨(some 5), .mv (.t 0), none⟩,
    ⟨(some 6), .eqn 0 true (.t 5), none⟩,
    ⟨(some 7), .mv (.t 6), none⟩,
    ⟨(some 8), .mv (.t 1), (some (7, true))⟩,
    ⟨(some 9), .bin .geq (.t 8) (.c (.i .i64 0)), (some (7, true))⟩,
    ⟨(some 10), .pick (.t 7) (.t 9) (.c (.b false)), none⟩,
    ⟨(some 11), .mv (.t 10), none⟩,
    ⟨(some 12), .mv (.t 1), (some (11, true))⟩,
    ⟨(some 13), .mv (.t 0), (some (11, true))⟩,
    ⟨(some 14), .nilck (.t 13), (some (11, true))⟩,
    ⟨(some 15), .faddr 0 (.t 14), (some (11, true))⟩,
    ⟨(some 16), .faddr 2 (.t 15), (some (11, true))⟩,
    ⟨(some 17), .load none (.t 16), (some (11, true))⟩,
    ⟨(some 18), .len (.t 17), (some (11, true))⟩,
    ⟨(some 19), .bin .lss (.t 12) (.t 18), (some (11, true))⟩,
    ⟨(some 20), .pick (.t 11) (.t 19) (.c (.b false)), none⟩,
    ⟨(some 4), .mv (.t 20), none⟩])
  .ret))
theorem ree310 : Tryz.f310.body.bind (res Tryz.prog Tryz.f310.ntmps [] []) = some (erase ae310) := by kernel_rfl
def fs310 : FnS := .fn 21 ae310 [.t 4]
theorem fsok310 : FnOk Tryz.prog 310 fs310 := fun _ _ _ hn h => ctr_of_resC Tryz.func310 (by kernel_rfl) ree310 (by kernel_rfl) hn h
abbrev ae312 : ACode := (.seq [1, 2] (.reg [⟨(some 2), .box (.t 0), none⟩,
    ⟨(some 3), .mv (.c (.b false)), none⟩])
  (.seq [3] (.reg [⟨(some 4), .load (some 2) (.t 2), none⟩,
    ⟨(some 5), .load none (.t 1), none⟩,
    ⟨(some 6), .len (.t 5), none⟩,
    ⟨(some 7), .call 313 [(.t 4), (.t 6)], none⟩,
    ⟨(some 3), .mv (.t 7), none⟩])
  .ret))
theorem ree312 : Tryz.f312.body.bind (res Tryz.prog Tryz.f312.ntmps [] []) = some (erase ae312) := by kernel_rfl
def fs312 : FnS := .fn 8 ae312 [.t 3]
theorem fsok312 : FnOk Tryz.prog 312 fs312 := fun _ _ _ hn h => ctr_of_resC Tryz.func312 (by kernel_rfl) ree312 (by kernel_rfl) hn h
abbrev ae311 : ACode := (.seq [0, 1] (.reg [⟨(some 4), .mv (.c (.l [] true)), none⟩])
  (.seq [0, 1, 5] (.reg [⟨(some 5), .mv (.c (.l [] true)), none⟩])
  (.seq [5] (.seq [1, 5, 8, 9, 10] (.reg [⟨(some 8), .mv (.t 0), none⟩,
    ⟨(some 9), .len (.t 8), none⟩,
    ⟨(some 10), .mv (.c (.i .i64 0)), none⟩])
  (.block 0 (.loop [1, 5, 8, 9, 10] (.seq [1, 5, 8, 9, 10, 11] (.reg [⟨(some 11), .bin .lss (.t 10) (.t 9), none⟩])
  (.seq [1, 5, 8, 9, 10] (.cond (.t 11)
  .skip
  (.exit 0))
  (.seq [1, 5, 8, 9, 10] (.block 1 (.seq [1, 5, 7, 8, 9, 10] (.reg [⟨(some 12), .iaddr 2 none (.t 8) (.t 10), none⟩,
    ⟨(some 13), .load (some 2) (.t 12), none⟩,
    ⟨(some 7), .alloc [(.i .i64 0), (.i .i64 0)], none⟩,
    ⟨none, .store 2 (.t 7) (.t 13), none⟩])
  (.seq [1, 5, 7, 8, 9, 10, 16] (.reg [⟨(some 14), .mv (.t 1), none⟩,
    ⟨(some 15), .load (some 2) (.t 7), none⟩,
    ⟨(some 16), .callv (.t 14) [(.t 15)], none⟩])
  (.cond (.t 16)
  (.reg [⟨(some 17), .mv (.t 5), none⟩,
    ⟨(some 18), .load (some 2) (.t 7), none⟩,
    ⟨(some 19), .bslice 2 1 [(.i .i64 0), (.i .i64 0)] [(0, (.t 18))], none⟩,
    ⟨(some 20), .append 2 16 (.t 17) (.t 19), none⟩,
    ⟨(some 5), .mv (.t 20), none⟩])
  .skip))))
  (.reg [⟨(some 21), .bin .add (.t 10) (.c (.i .i64 1)), none⟩,
    ⟨(some 10), .mv (.t 21), none⟩])))))))
  (.seq [4] (.reg [⟨(some 22), .mv (.t 5), none⟩,
    ⟨(some 23), .call 189 [(.t 22)], none⟩,
    ⟨(some 4), .mv (.t 23), none⟩])
  .ret))))
theorem ree311 : Tryz.f311.body.bind (res Tryz.prog Tryz.f311.ntmps [] []) = some (erase ae311) := by kernel_rfl
def fs311 : FnS := .fn 24 ae311 [.t 4]
theorem fsok311 : FnOk Tryz.prog 311 fs311 := fun _ _ _ hn h => ctr_of_resC Tryz.func311 (by kernel_rfl) ree311 (by kernel_rfl) hn h
abbrev ae314 : ACode := (.seq [2, 3, 4, 5] (.reg [⟨(some 4), .box (.t 0), none⟩,
    ⟨(some 5), .box (.t 1), none⟩,
    ⟨(some 8), .mv (.c (.b false)), none⟩,
    ⟨(some 9), .mv (.c (.i .i64 0)), none⟩])
  (.seq [2, 3, 5, 10, 11] (.reg [⟨(some 13), .load (some 2) (.t 4), none⟩,
    ⟨(some 14), .load (some 6) (.t 5), none⟩,
    ⟨(some 15), .bslice 6 1 [(.i .i64 0), (.i .i64 0), (.l [] true), (.i .i64 0), (.i .i64 0), (.l [] true)] [(0, (.t 14))], none⟩,
    ⟨(some 16), .call 119 [(.t 13), (.t 15)], none⟩,
    ⟨(some 12), .mv (.t 16), none⟩,
    ⟨(some 17), .extract 0 (.t 12), none⟩,
    ⟨(some 18), .extract 1 (.t 12), none⟩,
    ⟨(some 10), .mv (.t 17), none⟩,
    ⟨(some 11), .mv (.t 18), none⟩])
  (.seq [2, 3, 5, 10] (.seq [2, 3, 5, 10, 34] (.reg [⟨(some 19), .mv (.t 11), none⟩,
    ⟨(some 20), .not (.t 19), none⟩,
    ⟨(some 21), .mv (.t 20), none⟩,
    ⟨(some 22), .mv (.t 10), (some (21, false))⟩,
    ⟨(some 23), .mv (.t 2), (some (21, false))⟩,
    ⟨(some 24), .mv (.t 3), (some (21, false))⟩,
    ⟨(some 25), .call 339 [(.t 22), (.t 23), (.t 24)], (some (21, false))⟩,
    ⟨(some 26), .not (.t 25), (some (21, false))⟩,
    ⟨(some 27), .pick (.t 21) (.c (.b true)) (.t 26), none⟩,
    ⟨(some 28), .mv (.t 27), none⟩,
    ⟨(some 29), .load (some 6) (.t 5), (some (28, false))⟩,
    ⟨(some 30), .call 340 [(.t 29)], (some (28, false))⟩,
    ⟨(some 31), .mv (.t 3), (some (28, false))⟩,
    ⟨(some 32), .len (.t 31), (some (28, false))⟩,
    ⟨(some 33), .bin .gtr (.t 30) (.t 32), (some (28, false))⟩,
    ⟨(some 34), .pick (.t 28) (.c (.b true)) (.t 33), none⟩])
  (.cond (.t 34)
  (.seq [8, 9] (.reg [⟨(some 8), .mv (.c (.b false)), none⟩,
    ⟨(some 9), .mv (.c (.i .i64 2)), none⟩])
  .ret)
  .skip))
  (.seq [8, 9] (.reg [⟨(some 35), .mv (.t 10), none⟩,
    ⟨(some 36), .load (some 6) (.t 5), none⟩,
    ⟨(some 37), .mv (.t 2), none⟩,
    ⟨(some 38), .mv (.t 3), none⟩,
    ⟨(some 39), .call 341 [(.t 35), (.t 36), (.t 37), (.t 38)], none⟩,
    ⟨(some 8), .mv (.t 39), none⟩,
    ⟨(some 9), .mv (.c (.i .i64 0)), none⟩])
  .ret))))
theorem ree314 : Tryz.f314.body.bind (res Tryz.prog Tryz.f314.ntmps [] []) = some (erase ae314) := by kernel_rfl
def fs314 : FnS := .fn 40 ae314 [.t 8, .t 9]
theorem fsok314 : FnOk Tryz.prog 314 fs314 := fun _ _ _ hn h => ctr_of_resC Tryz.func314 (by kernel_rfl) ree314 (by kernel_rfl) hn h
abbrev ae315 : ACode := (.seq [2, 3] (.reg [⟨(some 2), .box (.t 0), none⟩,
    ⟨(some 3), .box (.t 1), none⟩,
    ⟨(some 4), .mv (.c .fnil), none⟩])
  (.seq [4] (.reg [⟨(some 5), .mkf (.func 342) [] [(.t 2), (.t 3)], none⟩,
    ⟨(some 4), .mv (.t 5), none⟩])
  .ret))
theorem ree315 : Tryz.f315.body.bind (res Tryz.prog Tryz.f315.ntmps [] []) = some (erase ae315) := by kernel_rfl
def fs315 : FnS := .fn 6 ae315 [.t 4]
theorem fsok315 : FnOk Tryz.prog 315 fs315 := fun _ _ _ hn h => ctr_of_resC Tryz.func315 (by kernel_rfl) ree315 (by kernel_rfl) hn h
abbrev ae316 : ACode := (.seq [0, 1, 2, 3] (.reg [⟨(some 5), .mv (.c (.b false)), none⟩])
  (.seq [6, 7] (.dreg [6, 7] [⟨0, ⟨(some 9), .load none (.t 1), none⟩, [], []⟩,
    ⟨1, ⟨(some 10), .nilck (.t 9), none⟩, [], []⟩,
    ⟨2, ⟨(some 11), .faddr 6 (.t 10), none⟩, [], []⟩,
    ⟨3, ⟨(some 12), .load (some 2) (.t 11), none⟩, [], []⟩,
    ⟨4, ⟨(some 13), .load none (.t 1), none⟩, [], []⟩,
    ⟨5, ⟨(some 14), .nilck (.t 13), none⟩, [], []⟩,
    ⟨6, ⟨(some 15), .faddr 0 (.t 14), none⟩, [], []⟩,
    ⟨7, ⟨(some 16), .faddr 3 (.t 15), none⟩, [], []⟩,
    ⟨8, ⟨(some 17), .load none (.t 16), none⟩, [], []⟩,
    ⟨9, ⟨(some 18), .mv (.t 0), none⟩, [], []⟩,
    ⟨10, ⟨(some 19), .iaddr 9 none (.t 17) (.t 18), none⟩, [], []⟩,
    ⟨11, ⟨(some 20), .faddr 2 (.t 19), none⟩, [], []⟩,
    ⟨12, ⟨(some 21), .load (some 6) (.t 20), none⟩, [], []⟩,
    ⟨13, ⟨(some 22), .load none (.t 2), none⟩, [], []⟩,
    ⟨14, ⟨(some 23), .load none (.t 3), none⟩, [], []⟩,
    ⟨15, ⟨(some 24), .call 314 [(.t 12), (.t 21), (.t 22), (.t 23)], none⟩, [], []⟩,
    ⟨16, ⟨(some 8), .mv (.t 24), none⟩, [], []⟩,
    ⟨17, ⟨(some 25), .extract 0 (.t 8), none⟩, [], []⟩,
    ⟨18, ⟨(some 26), .extract 1 (.t 8), none⟩, [], []⟩,
    ⟨19, ⟨(some 6), .mv (.t 25), none⟩, [], []⟩,
    ⟨20, ⟨(some 7), .mv (.t 26), none⟩, [], []⟩])
  (.seq [5] (.reg [⟨(some 27), .mv (.t 6), none⟩,
    ⟨(some 28), .mv (.t 27), none⟩,
    ⟨(some 29), .mv (.t 7), (some (28, true))⟩,
    ⟨(some 30), .bin .eql (.t 29) (.c (.i .i64 0)), (some (28, true))⟩,
    ⟨(some 31), .pick (.t 28) (.t 30) (.c (.b false)), none⟩,
    ⟨(some 5), .mv (.t 31), none⟩])
  .ret)))
theorem ree316 : Tryz.f316.body.bind (res Tryz.prog Tryz.f316.ntmps [] []) = some (erase ae316) := by kernel_rfl
def fs316 : FnS := .fn 32 ae316 [.t 5]
theorem fsok316 : FnOk Tryz.prog 316 fs316 := fun _ _ _ hn h => ctr_of_resC Tryz.func316 (by kernel_rfl) ree316 (by kernel_rfl) hn h
abbrev ae317 : ACode := (.seq [1] (.reg [⟨(some 1), .box (.t 0), none⟩,
    ⟨(some 2), .mv (.c .fnil), none⟩])
  (.seq [2] (.reg [⟨(some 3), .mkf (.func 343) [] [(.t 1)], none⟩,
    ⟨(some 2), .mv (.t 3), none⟩])
  .ret))
theorem ree317 : Tryz.f317.body.bind (res Tryz.prog Tryz.f317.ntmps [] []) = some (erase ae317) := by kernel_rfl
def fs317 : FnS := .fn 4 ae317 [.t 2]
theorem fsok317 : FnOk Tryz.prog 317 fs317 := fun _ _ _ hn h => ctr_of_resC Tryz.func317 (by kernel_rfl) ree317 (by kernel_rfl) hn h
abbrev ae318 : ACode := (.seq [0] (.reg [⟨(some 2), .mv (.c (.l [] true)), none⟩])
  (.seq [2] (.reg [⟨(some 3), .mv (.t 0), none⟩,
    ⟨(some 4), .mv (.t 0), none⟩,
    ⟨(some 5), .len (.t 4), none⟩,
    ⟨(some 6), .mv (.t 0), none⟩,
    ⟨(some 7), .len (.t 6), none⟩,
    ⟨(some 8), .slice 2 (.t 3) none (some (.t 5)) (some (.t 7)), none⟩,
    ⟨(some 2), .mv (.t 8), none⟩])
  .ret))
theorem ree318 : Tryz.f318.body.bind (res Tryz.prog Tryz.f318.ntmps [] []) = some (erase ae318) := by kernel_rfl
def fs318 : FnS := .fn 9 ae318 [.t 2]
theorem fsok318 : FnOk Tryz.prog 318 fs318 := fun _ _ _ hn h => ctr_of_resC Tryz.func318 (by kernel_rfl) ree318 (by kernel_rfl) hn h
abbrev ae319 : ACode := (.seq [0, 1] (.reg [⟨(some 4), .mv (.c (.l [] true)), none⟩])
  (.seq [0, 1, 5] (.reg [⟨(some 5), .mv (.c (.l [] true)), none⟩])
  (.seq [5] (.seq [1, 5, 8, 9, 10] (.reg [⟨(some 8), .mv (.t 0), none⟩,
    ⟨(some 9), .len (.t 8), none⟩,
    ⟨(some 10), .mv (.c (.i .i64 0)), none⟩])
  (.block 0 (.loop [1, 5, 8, 9, 10] (.seq [1, 5, 8, 9, 10, 11] (.reg [⟨(some 11), .bin .lss (.t 10) (.t 9), none⟩])
  (.seq [1, 5, 8, 9, 10] (.cond (.t 11)
  .skip
  (.exit 0))
  (.seq [1, 5, 8, 9, 10] (.block 1 (.seq [1, 5, 7, 8, 9, 10] (.reg [⟨(some 12), .iaddr 2 none (.t 8) (.t 10), none⟩,
    ⟨(some 13), .load (some 2) (.t 12), none⟩,
    ⟨(some 7), .alloc [(.i .i64 0), (.i .i64 0)], none⟩,
    ⟨none, .store 2 (.t 7) (.t 13), none⟩])
  (.reg [⟨(some 14), .mv (.t 5), none⟩,
    ⟨(some 15), .mv (.t 1), none⟩,
    ⟨(some 16), .load (some 2) (.t 7), none⟩,
    ⟨(some 17), .callv (.t 15) [(.t 16)], none⟩,
    ⟨(some 18), .bslice 2 1 [(.i .i64 0), (.i .i64 0)] [(0, (.t 17))], none⟩,
    ⟨(some 19), .append 2 16 (.t 14) (.t 18), none⟩,
    ⟨(some 5), .mv (.t 19), none⟩])))
  (.reg [⟨(some 20), .bin .add (.t 10) (.c (.i .i64 1)), none⟩,
    ⟨(some 10), .mv (.t 20), none⟩])))))))
  (.seq [4] (.reg [⟨(some 21), .mv (.t 5), none⟩,
    ⟨(some 22), .call 189 [(.t 21)], none⟩,
    ⟨(some 4), .mv (.t 22), none⟩])
  .ret))))
theorem ree319 : Tryz.f319.body.bind (res Tryz.prog Tryz.f319.ntmps [] []) = some (erase ae319) := by kernel_rfl
def fs319 : FnS := .fn 23 ae319 [.t 4]
theorem fsok319 : FnOk Tryz.prog 319 fs319 := fun _ _ _ hn h => ctr_of_resC Tryz.func319 (by kernel_rfl) ree319 (by kernel_rfl) hn h
abbrev ae320 : ACode := (.seq [1, 2] (.reg [⟨(some 1), .box (.t 0), none⟩,
    ⟨(some 2), .alloc [(.i .i64 0), (.i .i64 0)], none⟩])
  (.seq [2] (.reg [⟨(some 3), .load (some 2) (.t 1), none⟩,
    ⟨none, .store 2 (.t 2) (.t 3), none⟩])
  .ret))
theorem ree320 : Tryz.f320.body.bind (res Tryz.prog Tryz.f320.ntmps [] []) = some (erase ae320) := by kernel_rfl
def fs320 : FnS := .fn 4 ae320 [.c 2 (some 2)]
theorem fsok320 : FnOk Tryz.prog 320 fs320 := fun _ _ _ hn h => ctr_of_resC Tryz.func320 (by kernel_rfl) ree320 (by kernel_rfl) hn h
abbrev ae321 : ACode := (.seq [1, 2] (.reg [⟨(some 2), .box (.t 0), none⟩,
    ⟨(some 3), .mv (.c (.b false)), none⟩])
  (.seq [3] (.reg [⟨(some 4), .load (some 2) (.t 2), none⟩,
    ⟨(some 5), .load none (.t 1), none⟩,
    ⟨(some 6), .call 322 [(.t 4), (.t 5)], none⟩,
    ⟨(some 7), .not (.t 6), none⟩,
    ⟨(some 3), .mv (.t 7), none⟩])
  .ret))
theorem ree321 : Tryz.f321.body.bind (res Tryz.prog Tryz.f321.ntmps [] []) = some (erase ae321) := by kernel_rfl
def fs321 : FnS := .fn 8 ae321 [.t 3]
theorem fsok321 : FnOk Tryz.prog 321 fs321 := fun _ _ _ hn h => ctr_of_resC Tryz.func321 (by kernel_rfl) ree321 (by kernel_rfl) hn h
abbrev ae323 : ACode := (.seq [0] (.reg [⟨(some 2), .mv (.c (.l [] true)), none⟩])
  (.seq [2] (.reg [⟨(some 3), .mv (.t 0), none⟩,
    ⟨(some 4), .mv (.t 0), none⟩,
    ⟨(some 5), .len (.t 4), none⟩,
    ⟨(some 6), .mv (.t 0), none⟩,
    ⟨(some 7), .len (.t 6), none⟩,
    ⟨(some 8), .slice 2 (.t 3) none (some (.t 5)) (some (.t 7)), none⟩,
    ⟨(some 2), .mv (.t 8), none⟩])
  .ret))
theorem ree323 : Tryz.f323.body.bind (res Tryz.prog Tryz.f323.ntmps [] []) = some (erase ae323) := by kernel_rfl
def fs323 : FnS := .fn 9 ae323 [.t 2]
theorem fsok323 : FnOk Tryz.prog 323 fs323 := fun _ _ _ hn h => ctr_of_resC Tryz.func323 (by kernel_rfl) ree323 (by kernel_rfl) hn h
abbrev ae212 : ACode := (.seq [0, 1] (.reg [⟨(some 4), .mv (.c (.l [] true)), none⟩])
  (.seq [0, 1, 5] (.reg [⟨(some 5), .mv (.c (.l [] true)), none⟩])
  (.seq [5] (.seq [1, 5, 8, 9, 10] (.reg [⟨(some 8), .mv (.t 0), none⟩,
    ⟨(some 9), .len (.t 8), none⟩,
    ⟨(some 10), .mv (.c (.i .i64 0)), none⟩])
  (.block 0 (.loop [1, 5, 8, 9, 10] (.seq [1, 5, 8, 9, 10, 11] (.reg [⟨(some 11), .bin .lss (.t 10) (.t 9), none⟩])
  (.seq [1, 5, 8, 9, 10] (.cond (.t 11)
  .skip
  (.exit 0))
  (.seq [1, 5, 8, 9, 10] (.block 1 (.seq [1, 5, 7, 8, 9, 10] (.reg [⟨(some 12), .iaddr 3 none (.t 8) (.t 10), none⟩,
    ⟨(some 13), .load (some 3) (.t 12), none⟩,
    ⟨(some 7), .alloc [(.l [] true), (.l [] true), (.l [] true)], none⟩,
    ⟨none, .store 3 (.t 7) (.t 13), none⟩])
  (.reg [⟨(some 14), .mv (.t 5), none⟩,
    ⟨(some 15), .mv (.t 1), none⟩,
    ⟨(some 16), .load (some 3) (.t 7), none⟩,
    ⟨(some 17), .callv (.t 15) [(.t 16)], none⟩,
    ⟨(some 18), .bslice 1 1 [(.l [] true)] [(0, (.t 17))], none⟩,
    ⟨(some 19), .append 1 24 (.t 14) (.t 18), none⟩,
    ⟨(some 5), .mv (.t 19), none⟩])))
  (.reg [⟨(some 20), .bin .add (.t 10) (.c (.i .i64 1)), none⟩,
    ⟨(some 10), .mv (.t 20), none⟩])))))))
  (.seq [4] (.reg [⟨(some 21), .mv (.t 5), none⟩,
    ⟨(some 22), .call 264 [(.t 21)], none⟩,
    ⟨(some 4), .mv (.t 22), none⟩])
  .ret))))
theorem ree212 : Tryz.f212.body.bind (res Tryz.prog Tryz.f212.ntmps [] []) = some (erase ae212) := by kernel_rfl
def fs212 : FnS := .fn 23 ae212 [.t 4]
theorem fsok212 : FnOk Tryz.prog 212 fs212 := fun _ _ _ hn h => ctr_of_resC Tryz.func212 (by kernel_rfl) ree212 (by kernel_rfl) hn h
abbrev ae213 : ACode := (.seq [1] (.reg [⟨(some 1), .box (.t 0), none⟩,
    ⟨(some 2), .mv (.c (.l [] true)), none⟩])
  (.seq [2] (.reg [⟨(some 3), .faddr 0 (.t 1), none⟩,
    ⟨(some 4), .load none (.t 3), none⟩,
    ⟨(some 5), .call 149 [(.t 4)], none⟩,
    ⟨(some 2), .mv (.t 5), none⟩])
  .ret))
theorem ree213 : Tryz.f213.body.bind (res Tryz.prog Tryz.f213.ntmps [] []) = some (erase ae213) := by kernel_rfl
def fs213 : FnS := .fn 6 ae213 [.t 2]
theorem fsok213 : FnOk Tryz.prog 213 fs213 := fun _ _ _ hn h => ctr_of_resC Tryz.func213 (by kernel_rfl) ree213 (by kernel_rfl) hn h
abbrev ae324 : ACode := (.seq [3, 4, 5] (.reg [⟨(some 3), .box (.t 0), none⟩,
    ⟨(some 4), .box (.t 1), none⟩,
    ⟨(some 5), .box (.t 2), none⟩,
    ⟨(some 6), .mv (.c (.b false)), none⟩,
    ⟨(some 7), .mv (.c (.i .i64 0)), none⟩])
  (.seq [4, 5, 8, 9] (.reg [⟨(some 11), .load (some 2) (.t 3), none⟩,
    ⟨(some 12), .load (some 6) (.t 4), none⟩,
    ⟨(some 13), .load (some 6) (.t 5), none⟩,
    ⟨(some 14), .bslice 6 2 [(.i .i64 0), (.i .i64 0), (.l [] true), (.i .i64 0), (.i .i64 0), (.l [] true)] [(0, (.t 12)), (1, (.t 13))], none⟩,
    ⟨(some 15), .call 119 [(.t 11), (.t 14)], none⟩,
    ⟨(some 10), .mv (.t 15), none⟩,
    ⟨(some 16), .extract 0 (.t 10), none⟩,
    ⟨(some 17), .extract 1 (.t 10), none⟩,
    ⟨(some 8), .mv (.t 16), none⟩,
    ⟨(some 9), .mv (.t 17), none⟩])
  (.seq [4, 5, 8] (.seq [4, 5, 8, 19] (.reg [⟨(some 18), .mv (.t 9), none⟩,
    ⟨(some 19), .not (.t 18), none⟩])
  (.cond (.t 19)
  (.seq [6, 7] (.reg [⟨(some 6), .mv (.c (.b false)), none⟩,
    ⟨(some 7), .mv (.c (.i .i64 2)), none⟩])
  .ret)
  .skip))
  (.seq [6, 7] (.reg [⟨(some 20), .mv (.t 8), none⟩,
    ⟨(some 21), .load (some 6) (.t 4), none⟩,
    ⟨(some 22), .load (some 6) (.t 5), none⟩,
    ⟨(some 23), .call 181 [(.t 20), (.t 21), (.t 22)], none⟩,
    ⟨(some 6), .mv (.t 23), none⟩,
    ⟨(some 7), .mv (.c (.i .i64 0)), none⟩])
  .ret))))
theorem ree324 : Tryz.f324.body.bind (res Tryz.prog Tryz.f324.ntmps [] []) = some (erase ae324) := by kernel_rfl
def fs324 : FnS := .fn 24 ae324 [.t 6, .t 7]
theorem fsok324 : FnOk Tryz.prog 324 fs324 := fun _ _ _ hn h => ctr_of_resC Tryz.func324 (by kernel_rfl) ree324 (by kernel_rfl) hn h
abbrev ae325 : ACode := (.seq [1, 2] (.reg [⟨(some 2), .box (.t 0), none⟩,
    ⟨(some 4), .mv (.c (.l [] true)), none⟩])
  (.seq [2] (.seq [2, 6] (.reg [⟨(some 6), .mv (.t 1), none⟩])
  (.block 0 (.rangef [2] (.t 6) [7]
  (.reg [⟨(some 5), .mv (.t 7), none⟩])
  (.block 1 (.reg [⟨(some 8), .load none (.t 2), none⟩,
    ⟨(some 9), .mv (.t 5), none⟩,
    ⟨(some 10), .bslice 1 1 [(.i .i64 0)] [(0, (.t 9))], none⟩,
    ⟨(some 11), .append 1 8 (.t 8) (.t 10), none⟩,
    ⟨none, .store 1 (.t 2) (.t 11), none⟩])))))
  (.seq [4] (.reg [⟨(some 12), .load none (.t 2), none⟩,
    ⟨(some 4), .mv (.t 12), none⟩])
  .ret)))
theorem ree325 : Tryz.f325.body.bind (res Tryz.prog Tryz.f325.ntmps [] []) = some (erase ae325) := by kernel_rfl
def fs325 : FnS := .fn 13 ae325 [.t 4]
theorem fsok325 : FnOk Tryz.prog 325 fs325 := fun _ _ _ hn h => ctr_of_resC Tryz.func325 (by kernel_rfl) ree325 (by kernel_rfl) hn h
end Go.Gl
