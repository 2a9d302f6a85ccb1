/-
  The code of functions of the program, resolved, for the evaluator (printed by wip/gen/mkclosed.py)
-/
import Derived.Test.YtfbhfdaljendcaaGreatEv7
import Derived.Test.YtfbhfdaljendcaaGreatProg
import Derived.KernelRfl
set_option linter.all false
set_option linter.unusedVariables false
set_option linter.unusedSimpArgs false
namespace Go.Gl
open Go.Proofs
abbrev ae338 : ACode := (.seq [0, 3] (.reg [⟨(some 3), .box (.t 1), none⟩,
    ⟨(some 4), .mv (.c (.b false)), none⟩])
  (.seq [0, 3] (.seq [0, 3, 6] (.reg [⟨(some 10), .mv (.t 0), none⟩,
    ⟨(some 11), .load (some 4) (.t 3), none⟩,
    ⟨(some 12), .call 364 [(.t 10), (.t 11)], none⟩,
    ⟨(some 9), .mv (.t 12), none⟩,
    ⟨(some 13), .extract 0 (.t 9), none⟩,
    ⟨(some 14), .extract 1 (.t 9), none⟩,
    ⟨(some 5), .mv (.t 13), none⟩,
    ⟨(some 6), .mv (.t 14), none⟩])
  (.seq [0, 3, 20] (.reg [⟨(some 15), .mv (.t 6), none⟩,
    ⟨(some 16), .mv (.t 15), none⟩,
    ⟨(some 17), .mv (.t 0), (some (16, false))⟩,
    ⟨(some 18), .load (some 4) (.t 3), (some (16, false))⟩,
    ⟨(some 19), .call 365 [(.t 17), (.t 18)], (some (16, false))⟩,
    ⟨(some 20), .pick (.t 16) (.c (.b true)) (.t 19), none⟩])
  (.cond (.t 20)
  (.seq [4] (.reg [⟨(some 4), .mv (.c (.b true)), none⟩])
  .ret)
  .skip)))
  (.seq [8] (.reg [⟨(some 22), .mv (.t 0), none⟩,
    ⟨(some 23), .load (some 4) (.t 3), none⟩,
    ⟨(some 24), .call 366 [(.t 22), (.t 23)], none⟩,
    ⟨(some 21), .mv (.t 24), none⟩,
    ⟨(some 25), .extract 0 (.t 21), none⟩,
    ⟨(some 26), .extract 1 (.t 21), none⟩,
    ⟨(some 7), .mv (.t 25), none⟩,
    ⟨(some 8), .mv (.t 26), none⟩])
  (.seq [4] (.reg [⟨(some 27), .mv (.t 8), none⟩,
    ⟨(some 4), .mv (.t 27), none⟩])
  .ret))))
theorem ree338 : Tryz.f338.body.bind (res Tryz.prog Tryz.f338.ntmps [] []) = some (erase ae338) := by kernel_rfl
def fs338 : FnS := .fn 28 ae338 [.t 4]
theorem fsok338 : FnOk Tryz.prog 338 fs338 := fun _ _ _ hn h => ctr_of_resC Tryz.func338 (by kernel_rfl) ree338 (by kernel_rfl) hn h
abbrev ae304 : ACode := (.seq [1, 2, 3, 4, 5] (.reg [⟨(some 5), .box (.t 0), none⟩,
    ⟨(some 6), .mv (.c (.b false)), none⟩])
  (.seq [6] (.dreg [6] [⟨0, ⟨(some 7), .load none (.t 1), none⟩, [], []⟩,
    ⟨1, ⟨(some 8), .faddr 5 (.t 2), none⟩, [], []⟩,
    ⟨2, ⟨(some 9), .load none (.t 8), none⟩, [], []⟩,
    ⟨3, ⟨(some 10), .iaddr 6 none (.t 9) (.c (.i .i64 1)), none⟩, [], []⟩,
    ⟨4, ⟨(some 11), .load (some 6) (.t 10), none⟩, [], []⟩,
    ⟨5, ⟨(some 12), .load none (.t 3), none⟩, [], []⟩,
    ⟨6, ⟨(some 13), .mkf (.func 305) [] [(.t 4), (.t 5)], none⟩, [], []⟩,
    ⟨7, ⟨(some 14), .callv (.t 7) [(.t 11), (.t 12), (.t 13)], none⟩, [], []⟩,
    ⟨8, ⟨(some 6), .mv (.t 14), none⟩, [], []⟩])
  .ret))
theorem ree304 : Tryz.f304.body.bind (res Tryz.prog Tryz.f304.ntmps [] []) = some (erase ae304) := by kernel_rfl
def fs304 : FnS := .fn 15 ae304 [.t 6]
theorem fsok304 : FnOk Tryz.prog 304 fs304 := fun _ _ _ hn h => ctr_of_resC Tryz.func304 (by kernel_rfl) ree304 (by kernel_rfl) hn h
abbrev ae361 : ACode := (.seq [0, 3] (.reg [⟨(some 3), .box (.t 1), none⟩,
    ⟨(some 4), .mv (.c .pn), none⟩])
  (.seq [0, 3, 5, 6] (.dreg [0, 3, 5, 6] [⟨0, ⟨(some 8), .mv (.t 0), none⟩, [], []⟩,
    ⟨1, ⟨(some 9), .nilck (.t 8), none⟩, [], []⟩,
    ⟨2, ⟨(some 10), .faddr 1 (.t 9), none⟩, [], []⟩,
    ⟨3, ⟨(some 11), .load none (.t 10), none⟩, [], []⟩,
    ⟨4, ⟨(some 12), .load (some 4) (.t 3), none⟩, [], []⟩,
    ⟨5, ⟨(some 13), .lookup (.a [.i64, .i64, .i64, .i64]) .pn true (.t 11) (.t 12), none⟩, [], []⟩,
    ⟨6, ⟨(some 7), .mv (.t 13), none⟩, [], []⟩,
    ⟨7, ⟨(some 14), .extract 0 (.t 7), none⟩, [], []⟩,
    ⟨8, ⟨(some 15), .extract 1 (.t 7), none⟩, [], []⟩,
    ⟨9, ⟨(some 5), .mv (.t 14), none⟩, [], []⟩,
    ⟨10, ⟨(some 6), .mv (.t 15), none⟩, [], []⟩])
  (.seq [5] (.seq [0, 3, 5, 17] (.reg [⟨(some 16), .mv (.t 6), none⟩,
    ⟨(some 17), .not (.t 16), none⟩])
  (.cond (.t 17)
  (.seq [0, 3, 5] (.reg [⟨(some 18), .build [(.i .i64 0), (.i .i64 0), (.l [] true)] [(0, 1, (.c (.i .i64 (-1000000000)))), (1, 1, (.c (.i .i64 1000000000)))], none⟩,
    ⟨(some 19), .build [(.i .i64 0), (.i .i64 0), (.l [] true), (.i .u64 0), (.i .u64 0), (.b false), (.b false), (.l [] true)] [(0, 3, (.t 18))], none⟩,
    ⟨(some 20), .box (.t 19), none⟩,
    ⟨(some 5), .mv (.t 20), none⟩])
  (.dreg [5] [⟨0, ⟨(some 21), .mv (.t 0), none⟩, [], []⟩,
    ⟨1, ⟨(some 22), .nilck (.t 21), none⟩, [], []⟩,
    ⟨2, ⟨(some 23), .faddr 1 (.t 22), none⟩, [], []⟩,
    ⟨3, ⟨(some 24), .load none (.t 23), none⟩, [], []⟩,
    ⟨4, ⟨(some 25), .load (some 4) (.t 3), none⟩, [], []⟩,
    ⟨5, ⟨(some 26), .mv (.t 5), none⟩, [], []⟩,
    ⟨6, ⟨none, .mapset (.a [.i64, .i64, .i64, .i64]) (.t 24) (.t 25) (.t 26), none⟩, [], []⟩]))
  .skip))
  (.seq [4] (.reg [⟨(some 27), .mv (.t 5), none⟩,
    ⟨(some 4), .mv (.t 27), none⟩])
  .ret))))
theorem ree361 : Tryz.f361.body.bind (res Tryz.prog Tryz.f361.ntmps [] []) = some (erase ae361) := by kernel_rfl
def fs361 : FnS := .fn 28 ae361 [.t 4]
theorem fsok361 : FnOk Tryz.prog 361 fs361 := fun _ _ _ hn h => ctr_of_resC Tryz.func361 (by kernel_rfl) ree361 (by kernel_rfl) hn h
abbrev ae362 : ACode := (.seq [1, 2, 4] (.reg [⟨(some 2), .box (.t 0), none⟩,
    ⟨(some 4), .alloc [(.i .i64 0), (.i .i64 0), (.i .i64 0), (.i .i64 0)], none⟩])
  (.seq [2, 4] (.reg [⟨(some 5), .faddr 1 (.t 2), none⟩,
    ⟨(some 6), .load none (.t 5), none⟩,
    ⟨(some 7), .mv (.t 1), none⟩,
    ⟨(some 8), .faddr 2 (.t 2), none⟩,
    ⟨(some 9), .iaddr 1 (some 2) (.t 8) (.t 6), none⟩,
    ⟨none, .store 1 (.t 9) (.t 7), none⟩])
  (.seq [2, 4] (.reg [⟨(some 10), .faddr 1 (.t 2), none⟩,
    ⟨(some 11), .load none (.t 10), none⟩,
    ⟨(some 12), .bin .add (.t 11) (.c (.i .i64 1)), none⟩,
    ⟨(some 13), .faddr 1 (.t 2), none⟩,
    ⟨none, .store 1 (.t 13) (.t 12), none⟩])
  (.seq [4] (.reg [⟨(some 14), .load (some 4) (.t 2), none⟩,
    ⟨none, .store 4 (.t 4) (.t 14), none⟩])
  .ret))))
theorem ree362 : Tryz.f362.body.bind (res Tryz.prog Tryz.f362.ntmps [] []) = some (erase ae362) := by kernel_rfl
def fs362 : FnS := .fn 15 ae362 [.c 4 (some 4)]
theorem fsok362 : FnOk Tryz.prog 362 fs362 := fun _ _ _ hn h => ctr_of_resC Tryz.func362 (by kernel_rfl) ree362 (by kernel_rfl) hn h
abbrev ae363 : ACode := (.seq [0, 3] (.reg [⟨(some 3), .box (.t 1), none⟩])
  (.block 0 (.seq [0, 3, 33] (.reg [⟨(some 34), .faddr 0 (.t 3), none⟩,
    ⟨(some 35), .faddr 0 (.t 34), none⟩,
    ⟨(some 36), .load none (.t 35), none⟩,
    ⟨(some 37), .bin .eql (.t 36) (.c (.i .i64 2)), none⟩,
    ⟨(some 38), .mv (.t 37), none⟩,
    ⟨(some 39), .faddr 6 (.t 3), (some (38, true))⟩,
    ⟨(some 40), .load none (.t 39), (some (38, true))⟩,
    ⟨(some 41), .pick (.t 38) (.t 40) (.c (.b false)), none⟩,
    ⟨(some 33), .mv (.t 41), none⟩])
  (.cond (.t 33)
  (.dreg [] [⟨0, ⟨(some 42), .mv (.t 0), none⟩, [], []⟩,
    ⟨1, ⟨(some 43), .mv (.t 0), none⟩, [], []⟩,
    ⟨2, ⟨(some 44), .nilck (.t 43), none⟩, [], []⟩,
    ⟨3, ⟨(some 45), .faddr 4 (.t 44), none⟩, [], []⟩,
    ⟨4, ⟨(some 46), .load none (.t 45), none⟩, [], []⟩,
    ⟨5, ⟨(some 47), .faddr 0 (.t 3), none⟩, [], []⟩,
    ⟨6, ⟨(some 48), .faddr 3 (.t 47), none⟩, [], []⟩,
    ⟨7, ⟨(some 49), .load none (.t 48), none⟩, [], []⟩,
    ⟨8, ⟨(some 50), .call 214 [(.t 46), (.t 49)], none⟩, [], []⟩,
    ⟨9, ⟨(some 51), .nilck (.t 42), none⟩, [], []⟩,
    ⟨10, ⟨(some 52), .faddr 4 (.t 51), none⟩, [], []⟩,
    ⟨11, ⟨none, .store 1 (.t 52) (.t 50), none⟩, [], []⟩])
  (.seq [0, 3, 53] (.reg [⟨(some 54), .faddr 0 (.t 3), none⟩,
    ⟨(some 55), .faddr 0 (.t 54), none⟩,
    ⟨(some 56), .load none (.t 55), none⟩,
    ⟨(some 57), .bin .eql (.t 56) (.c (.i .i64 2)), none⟩,
    ⟨(some 53), .mv (.t 57), none⟩])
  (.cond (.t 53)
  (.dreg [] [⟨0, ⟨(some 58), .mv (.t 0), none⟩, [], []⟩,
    ⟨1, ⟨(some 59), .mv (.t 0), none⟩, [], []⟩,
    ⟨2, ⟨(some 60), .nilck (.t 59), none⟩, [], []⟩,
    ⟨3, ⟨(some 61), .faddr 3 (.t 60), none⟩, [], []⟩,
    ⟨4, ⟨(some 62), .load none (.t 61), none⟩, [], []⟩,
    ⟨5, ⟨(some 63), .faddr 0 (.t 3), none⟩, [], []⟩,
    ⟨6, ⟨(some 64), .faddr 3 (.t 63), none⟩, [], []⟩,
    ⟨7, ⟨(some 65), .load none (.t 64), none⟩, [], []⟩,
    ⟨8, ⟨(some 66), .call 214 [(.t 62), (.t 65)], none⟩, [], []⟩,
    ⟨9, ⟨(some 67), .nilck (.t 58), none⟩, [], []⟩,
    ⟨10, ⟨(some 68), .faddr 3 (.t 67), none⟩, [], []⟩,
    ⟨11, ⟨none, .store 1 (.t 68) (.t 66), none⟩, [], []⟩])
  (.seq [0, 3, 69] (.reg [⟨(some 70), .faddr 0 (.t 3), none⟩,
    ⟨(some 71), .faddr 0 (.t 70), none⟩,
    ⟨(some 72), .load none (.t 71), none⟩,
    ⟨(some 73), .bin .eql (.t 72) (.c (.i .i64 3)), none⟩,
    ⟨(some 74), .mv (.t 73), none⟩,
    ⟨(some 75), .faddr 6 (.t 3), (some (74, true))⟩,
    ⟨(some 76), .load none (.t 75), (some (74, true))⟩,
    ⟨(some 77), .pick (.t 74) (.t 76) (.c (.b false)), none⟩,
    ⟨(some 69), .mv (.t 77), none⟩])
  (.cond (.t 69)
  (.dreg [] [⟨0, ⟨(some 78), .mv (.t 0), none⟩, [], []⟩,
    ⟨1, ⟨(some 79), .mv (.t 0), none⟩, [], []⟩,
    ⟨2, ⟨(some 80), .nilck (.t 79), none⟩, [], []⟩,
    ⟨3, ⟨(some 81), .faddr 0 (.t 80), none⟩, [], []⟩,
    ⟨4, ⟨(some 82), .faddr 0 (.t 81), none⟩, [], []⟩,
    ⟨5, ⟨(some 83), .load none (.t 82), none⟩, [], []⟩,
    ⟨6, ⟨(some 84), .faddr 0 (.t 3), none⟩, [], []⟩,
    ⟨7, ⟨(some 85), .faddr 4 (.t 84), none⟩, [], []⟩,
    ⟨8, ⟨(some 86), .load none (.t 85), none⟩, [], []⟩,
    ⟨9, ⟨(some 87), .mmax (.t 83) (.t 86), none⟩, [], []⟩,
    ⟨10, ⟨(some 88), .nilck (.t 78), none⟩, [], []⟩,
    ⟨11, ⟨(some 89), .faddr 0 (.t 88), none⟩, [], []⟩,
    ⟨12, ⟨(some 90), .faddr 0 (.t 89), none⟩, [], []⟩,
    ⟨13, ⟨none, .store 1 (.t 90) (.t 87), none⟩, [], []⟩])
  (.seq [0, 3, 91] (.reg [⟨(some 92), .faddr 0 (.t 3), none⟩,
    ⟨(some 93), .faddr 0 (.t 92), none⟩,
    ⟨(some 94), .load none (.t 93), none⟩,
    ⟨(some 95), .bin .eql (.t 94) (.c (.i .i64 3)), none⟩,
    ⟨(some 91), .mv (.t 95), none⟩])
  (.cond (.t 91)
  (.dreg [] [⟨0, ⟨(some 96), .mv (.t 0), none⟩, [], []⟩,
    ⟨1, ⟨(some 97), .mv (.t 0), none⟩, [], []⟩,
    ⟨2, ⟨(some 98), .mv (.t 0), none⟩, [], []⟩,
    ⟨3, ⟨(some 99), .nilck (.t 98), none⟩, [], []⟩,
    ⟨4, ⟨(some 100), .faddr 0 (.t 99), none⟩, [], []⟩,
    ⟨5, ⟨(some 101), .faddr 1 (.t 100), none⟩, [], []⟩,
    ⟨6, ⟨(some 102), .load none (.t 101), none⟩, [], []⟩,
    ⟨7, ⟨(some 103), .faddr 0 (.t 3), none⟩, [], []⟩,
    ⟨8, ⟨(some 104), .faddr 4 (.t 103), none⟩, [], []⟩,
    ⟨9, ⟨(some 105), .load none (.t 104), none⟩, [], []⟩,
    ⟨10, ⟨(some 106), .bin .sub (.t 105) (.c (.i .i64 1)), none⟩, [], []⟩,
    ⟨11, ⟨(some 107), .mmin (.t 102) (.t 106), none⟩, [], []⟩,
    ⟨12, ⟨(some 108), .nilck (.t 96), none⟩, [], []⟩,
    ⟨13, ⟨(some 109), .faddr 0 (.t 108), none⟩, [], []⟩,
    ⟨14, ⟨(some 110), .faddr 1 (.t 109), none⟩, [], []⟩,
    ⟨15, ⟨none, .store 1 (.t 110) (.t 107), none⟩, [], []⟩,
    ⟨16, ⟨(some 111), .nilck (.t 97), none⟩, [], []⟩,
    ⟨17, ⟨(some 112), .faddr 5 (.t 111), none⟩, [], []⟩,
    ⟨18, ⟨none, .store 1 (.t 112) (.c (.b true)), none⟩, [], []⟩])
  (.seq [0, 3, 113] (.reg [⟨(some 114), .faddr 6 (.t 3), none⟩,
    ⟨(some 115), .load none (.t 114), none⟩,
    ⟨(some 113), .mv (.t 115), none⟩])
  (.cond (.t 113)
  (.dreg [] [⟨0, ⟨(some 116), .mv (.t 0), none⟩, [], []⟩,
    ⟨1, ⟨(some 117), .mv (.t 0), none⟩, [], []⟩,
    ⟨2, ⟨(some 118), .nilck (.t 117), none⟩, [], []⟩,
    ⟨3, ⟨(some 119), .faddr 0 (.t 118), none⟩, [], []⟩,
    ⟨4, ⟨(some 120), .faddr 2 (.t 119), none⟩, [], []⟩,
    ⟨5, ⟨(some 121), .load none (.t 120), none⟩, [], []⟩,
    ⟨6, ⟨(some 122), .faddr 0 (.t 3), none⟩, [], []⟩,
    ⟨7, ⟨(some 123), .faddr 4 (.t 122), none⟩, [], []⟩,
    ⟨8, ⟨(some 124), .load none (.t 123), none⟩, [], []⟩,
    ⟨9, ⟨(some 125), .bslice 1 1 [(.i .i64 0)] [(0, (.t 124))], none⟩, [], []⟩,
    ⟨10, ⟨(some 126), .append 1 8 (.t 121) (.t 125), none⟩, [], []⟩,
    ⟨11, ⟨(some 127), .nilck (.t 116), none⟩, [], []⟩,
    ⟨12, ⟨(some 128), .faddr 0 (.t 127), none⟩, [], []⟩,
    ⟨13, ⟨(some 129), .faddr 2 (.t 128), none⟩, [], []⟩,
    ⟨14, ⟨none, .store 1 (.t 129) (.t 126), none⟩, [], []⟩])
  (.dreg [] [⟨0, ⟨(some 4), .mv (.t 0), none⟩, [], []⟩,
    ⟨1, ⟨(some 5), .mv (.t 0), none⟩, [], []⟩,
    ⟨2, ⟨(some 6), .mv (.t 0), none⟩, [], []⟩,
    ⟨3, ⟨(some 7), .mv (.t 0), none⟩, [], []⟩,
    ⟨4, ⟨(some 8), .nilck (.t 7), none⟩, [], []⟩,
    ⟨5, ⟨(some 9), .faddr 0 (.t 8), none⟩, [], []⟩,
    ⟨6, ⟨(some 10), .faddr 0 (.t 9), none⟩, [], []⟩,
    ⟨7, ⟨(some 11), .load none (.t 10), none⟩, [], []⟩,
    ⟨8, ⟨(some 12), .faddr 0 (.t 3), none⟩, [], []⟩,
    ⟨9, ⟨(some 13), .faddr 4 (.t 12), none⟩, [], []⟩,
    ⟨10, ⟨(some 14), .load none (.t 13), none⟩, [], []⟩,
    ⟨11, ⟨(some 15), .mmax (.t 11) (.t 14), none⟩, [], []⟩,
    ⟨12, ⟨(some 16), .mv (.t 0), none⟩, [], []⟩,
    ⟨13, ⟨(some 17), .nilck (.t 16), none⟩, [], []⟩,
    ⟨14, ⟨(some 18), .faddr 0 (.t 17), none⟩, [], []⟩,
    ⟨15, ⟨(some 19), .faddr 1 (.t 18), none⟩, [], []⟩,
    ⟨16, ⟨(some 20), .load none (.t 19), none⟩, [], []⟩,
    ⟨17, ⟨(some 21), .faddr 0 (.t 3), none⟩, [], []⟩,
    ⟨18, ⟨(some 22), .faddr 4 (.t 21), none⟩, [], []⟩,
    ⟨19, ⟨(some 23), .load none (.t 22), none⟩, [], []⟩,
    ⟨20, ⟨(some 24), .mmin (.t 20) (.t 23), none⟩, [], []⟩,
    ⟨21, ⟨(some 25), .nilck (.t 4), none⟩, [], []⟩,
    ⟨22, ⟨(some 26), .faddr 0 (.t 25), none⟩, [], []⟩,
    ⟨23, ⟨(some 27), .faddr 0 (.t 26), none⟩, [], []⟩,
    ⟨24, ⟨none, .store 1 (.t 27) (.t 15), none⟩, [19], [⟨(some 23), .load none (.t 22), none⟩]⟩,
    ⟨25, ⟨(some 28), .nilck (.t 5), none⟩, [], []⟩,
    ⟨26, ⟨(some 29), .faddr 0 (.t 28), none⟩, [], []⟩,
    ⟨27, ⟨(some 30), .faddr 1 (.t 29), none⟩, [], []⟩,
    ⟨28, ⟨none, .store 1 (.t 30) (.t 24), none⟩, [], []⟩,
    ⟨29, ⟨(some 31), .nilck (.t 6), none⟩, [], []⟩,
    ⟨30, ⟨(some 32), .faddr 5 (.t 31), none⟩, [], []⟩,
    ⟨31, ⟨none, .store 1 (.t 32) (.c (.b true)), none⟩, [], []⟩])))))))))))))
theorem ree363 : Tryz.f363.body.bind (res Tryz.prog Tryz.f363.ntmps [] []) = some (erase ae363) := by kernel_rfl
def fs363 : FnS := .fn 130 ae363 []
theorem fsok363 : FnOk Tryz.prog 363 fs363 := fun _ _ _ hn h => ctr_of_resC Tryz.func363 (by kernel_rfl) ree363 (by kernel_rfl) hn h
abbrev ae364 : ACode := (.seq [0, 3] (.reg [⟨(some 3), .box (.t 1), none⟩,
    ⟨(some 4), .mv (.c (.i .i64 0)), none⟩,
    ⟨(some 5), .mv (.c (.b false)), none⟩])
  (.seq [0, 3, 6] (.reg [⟨(some 8), .mv (.t 0), none⟩,
    ⟨(some 9), .load (some 4) (.t 3), none⟩,
    ⟨(some 10), .call 361 [(.t 8), (.t 9)], none⟩,
    ⟨(some 6), .mv (.t 10), none⟩])
  (.seq [0, 3, 6, 7] (.reg [⟨(some 11), .mv (.t 6), none⟩,
    ⟨(some 12), .nilck (.t 11), none⟩,
    ⟨(some 13), .faddr 0 (.t 12), none⟩,
    ⟨(some 14), .faddr 0 (.t 13), none⟩,
    ⟨(some 15), .load none (.t 14), none⟩,
    ⟨(some 7), .mv (.t 15), none⟩])
  (.seq [0, 3, 6, 7] (.block 0 (.loop [0, 3, 6, 7] (.seq [0, 3, 6, 7] (.seq [0, 3, 6, 7, 22] (.reg [⟨(some 16), .mv (.t 6), none⟩,
    ⟨(some 17), .nilck (.t 16), none⟩,
    ⟨(some 18), .faddr 0 (.t 17), none⟩,
    ⟨(some 19), .faddr 2 (.t 18), none⟩,
    ⟨(some 20), .load none (.t 19), none⟩,
    ⟨(some 21), .mv (.t 7), none⟩,
    ⟨(some 22), .call 67 [(.t 20), (.t 21)], none⟩])
  (.cond (.t 22)
  .skip
  (.exit 0)))
  (.block 1 (.reg [⟨(some 23), .mv (.t 7), none⟩,
    ⟨(some 24), .bin .add (.t 23) (.c (.i .i64 1)), none⟩,
    ⟨(some 7), .mv (.t 24), none⟩])))))
  (.seq [4, 5] (.reg [⟨(some 25), .mv (.t 7), none⟩,
    ⟨(some 26), .mv (.t 7), none⟩,
    ⟨(some 27), .mv (.t 6), none⟩,
    ⟨(some 28), .nilck (.t 27), none⟩,
    ⟨(some 29), .faddr 0 (.t 28), none⟩,
    ⟨(some 30), .faddr 1 (.t 29), none⟩,
    ⟨(some 31), .load none (.t 30), none⟩,
    ⟨(some 32), .bin .leq (.t 26) (.t 31), none⟩,
    ⟨(some 33), .mv (.t 32), none⟩,
    ⟨(some 34), .mv (.t 0), (some (33, true))⟩,
    ⟨(some 35), .load (some 4) (.t 3), (some (33, true))⟩,
    ⟨(some 36), .call 382 [(.t 34), (.t 35), (.c (.i .i64 1))], (some (33, true))⟩,
    ⟨(some 37), .pick (.t 33) (.t 36) (.c (.b false)), none⟩,
    ⟨(some 4), .mv (.t 25), none⟩,
    ⟨(some 5), .mv (.t 37), none⟩])
  .ret)))))
theorem ree364 : Tryz.f364.body.bind (res Tryz.prog Tryz.f364.ntmps [] []) = some (erase ae364) := by kernel_rfl
def fs364 : FnS := .fn 38 ae364 [.t 4, .t 5]
theorem fsok364 : FnOk Tryz.prog 364 fs364 := fun _ _ _ hn h => ctr_of_resC Tryz.func364 (by kernel_rfl) ree364 (by kernel_rfl) hn h
abbrev ae365 : ACode := (.seq [0, 3] (.reg [⟨(some 3), .box (.t 1), none⟩,
    ⟨(some 4), .mv (.c (.b false)), none⟩])
  (.seq [4] (.reg [⟨(some 5), .mv (.t 0), none⟩,
    ⟨(some 6), .load (some 4) (.t 3), none⟩,
    ⟨(some 7), .call 361 [(.t 5), (.t 6)], none⟩,
    ⟨(some 8), .nilck (.t 7), none⟩,
    ⟨(some 9), .faddr 5 (.t 8), none⟩,
    ⟨(some 10), .load none (.t 9), none⟩,
    ⟨(some 11), .not (.t 10), none⟩,
    ⟨(some 12), .mv (.t 11), none⟩,
    ⟨(some 13), .mv (.t 0), (some (12, true))⟩,
    ⟨(some 14), .load (some 4) (.t 3), (some (12, true))⟩,
    ⟨(some 15), .call 382 [(.t 13), (.t 14), (.c (.i .i64 2))], (some (12, true))⟩,
    ⟨(some 16), .pick (.t 12) (.t 15) (.c (.b false)), none⟩,
    ⟨(some 4), .mv (.t 16), none⟩])
  .ret))
theorem ree365 : Tryz.f365.body.bind (res Tryz.prog Tryz.f365.ntmps [] []) = some (erase ae365) := by kernel_rfl
def fs365 : FnS := .fn 17 ae365 [.t 4]
theorem fsok365 : FnOk Tryz.prog 365 fs365 := fun _ _ _ hn h => ctr_of_resC Tryz.func365 (by kernel_rfl) ree365 (by kernel_rfl) hn h
abbrev ae366 : ACode := (.seq [0, 3] (.reg [⟨(some 3), .box (.t 1), none⟩,
    ⟨(some 4), .mv (.c (.i .u64 0)), none⟩,
    ⟨(some 5), .mv (.c (.b false)), none⟩])
  (.seq [0, 3, 6] (.reg [⟨(some 15), .mv (.t 0), none⟩,
    ⟨(some 16), .load (some 4) (.t 3), none⟩,
    ⟨(some 17), .call 361 [(.t 15), (.t 16)], none⟩,
    ⟨(some 6), .mv (.t 17), none⟩])
  (.seq [0, 3, 6, 7, 8] (.dreg [0, 3, 6, 7, 8] [⟨0, ⟨(some 18), .mv (.t 6), none⟩, [], []⟩,
    ⟨1, ⟨(some 19), .nilck (.t 18), none⟩, [], []⟩,
    ⟨2, ⟨(some 20), .faddr 3 (.t 19), none⟩, [], []⟩,
    ⟨3, ⟨(some 21), .load none (.t 20), none⟩, [], []⟩,
    ⟨4, ⟨(some 22), .mv (.t 6), none⟩, [], []⟩,
    ⟨5, ⟨(some 23), .nilck (.t 22), none⟩, [], []⟩,
    ⟨6, ⟨(some 24), .faddr 4 (.t 23), none⟩, [], []⟩,
    ⟨7, ⟨(some 25), .load none (.t 24), none⟩, [], []⟩,
    ⟨8, ⟨(some 7), .mv (.t 21), none⟩, [], []⟩,
    ⟨9, ⟨(some 8), .mv (.t 25), none⟩, [], []⟩])
  (.seq [0, 3, 6, 7, 8] (.seq [0, 3, 6, 7, 8, 41] (.reg [⟨(some 26), .mv (.t 6), none⟩,
    ⟨(some 27), .nilck (.t 26), none⟩,
    ⟨(some 28), .faddr 5 (.t 27), none⟩,
    ⟨(some 29), .load none (.t 28), none⟩,
    ⟨(some 30), .mv (.t 29), none⟩,
    ⟨(some 31), .mv (.t 7), (some (30, false))⟩,
    ⟨(some 32), .call 372 [(.t 31), (.c (.i .i64 1))], (some (30, false))⟩,
    ⟨(some 33), .pick (.t 30) (.c (.b true)) (.t 32), none⟩,
    ⟨(some 34), .mv (.t 33), none⟩,
    ⟨(some 35), .mv (.t 7), (some (34, false))⟩,
    ⟨(some 36), .call 372 [(.t 35), (.c (.i .i64 2))], (some (34, false))⟩,
    ⟨(some 37), .pick (.t 34) (.c (.b true)) (.t 36), none⟩,
    ⟨(some 38), .mv (.t 37), none⟩,
    ⟨(some 39), .mv (.t 8), (some (38, false))⟩,
    ⟨(some 40), .call 372 [(.t 39), (.c (.i .i64 0))], (some (38, false))⟩,
    ⟨(some 41), .pick (.t 38) (.c (.b true)) (.t 40), none⟩])
  (.cond (.t 41)
  (.seq [4, 5] (.reg [⟨(some 4), .mv (.c (.i .u64 0)), none⟩,
    ⟨(some 5), .mv (.c (.b false)), none⟩])
  .ret)
  .skip))
  (.seq [0, 7, 8] (.seq [0, 3, 7, 8, 45, 46, 47] (.reg [⟨(some 42), .mv (.t 6), none⟩,
    ⟨(some 43), .nilck (.t 42), none⟩,
    ⟨(some 44), .faddr 7 (.t 43), none⟩,
    ⟨(some 45), .load none (.t 44), none⟩,
    ⟨(some 46), .len (.t 45), none⟩,
    ⟨(some 47), .mv (.c (.i .i64 0)), none⟩])
  (.block 0 (.loop [0, 3, 7, 8, 45, 46, 47] (.seq [0, 3, 7, 8, 45, 46, 47, 48] (.reg [⟨(some 48), .bin .lss (.t 47) (.t 46), none⟩])
  (.seq [0, 3, 7, 8, 45, 46, 47] (.cond (.t 48)
  .skip
  (.exit 0))
  (.seq [0, 3, 7, 8, 45, 46, 47] (.block 1 (.seq [0, 3, 7, 8, 10, 45, 46, 47] (.reg [⟨(some 49), .iaddr 1 none (.t 45) (.t 47), none⟩,
    ⟨(some 50), .load none (.t 49), none⟩,
    ⟨(some 10), .mv (.t 50), none⟩])
  (.seq [0, 3, 7, 8, 10, 11, 45, 46, 47] (.reg [⟨(some 51), .load (some 4) (.t 3), none⟩,
    ⟨(some 52), .mv (.t 10), none⟩,
    ⟨(some 53), .call 362 [(.t 51), (.t 52)], none⟩,
    ⟨(some 11), .alloc [(.i .i64 0), (.i .i64 0), (.i .i64 0), (.i .i64 0)], none⟩,
    ⟨none, .store 4 (.t 11) (.t 53), none⟩])
  (.seq [0, 3, 7, 8, 10, 12, 13, 45, 46, 47] (.dreg [0, 3, 7, 8, 10, 12, 13, 45, 46, 47] [⟨0, ⟨(some 54), .mv (.t 0), none⟩, [], []⟩,
    ⟨1, ⟨(some 55), .load (some 4) (.t 11), none⟩, [], []⟩,
    ⟨6, ⟨(some 60), .mv (.t 0), none⟩, [], []⟩,
    ⟨7, ⟨(some 61), .load (some 4) (.t 11), none⟩, [], []⟩,
    ⟨2, ⟨(some 56), .call 361 [(.t 54), (.t 55)], none⟩, [7], [⟨(some 61), .load (some 4) (.t 11), none⟩]⟩,
    ⟨3, ⟨(some 57), .nilck (.t 56), none⟩, [], []⟩,
    ⟨4, ⟨(some 58), .faddr 6 (.t 57), none⟩, [], []⟩,
    ⟨5, ⟨(some 59), .load none (.t 58), none⟩, [], []⟩,
    ⟨8, ⟨(some 62), .call 338 [(.t 60), (.t 61)], none⟩, [5], [⟨(some 59), .load none (.t 58), none⟩]⟩,
    ⟨9, ⟨(some 12), .mv (.t 59), none⟩, [], []⟩,
    ⟨10, ⟨(some 13), .mv (.t 62), none⟩, [], []⟩])
  (.block 2 (.seq [0, 3, 7, 8, 10, 12, 13, 45, 46, 47, 63] (.reg [⟨(some 64), .mv (.t 12), none⟩,
    ⟨(some 65), .mv (.t 64), none⟩,
    ⟨(some 66), .mv (.t 13), (some (65, true))⟩,
    ⟨(some 67), .not (.t 66), (some (65, true))⟩,
    ⟨(some 68), .pick (.t 65) (.t 67) (.c (.b false)), none⟩,
    ⟨(some 63), .mv (.t 68), none⟩])
  (.cond (.t 63)
  (.seq [4, 5] (.reg [⟨(some 4), .mv (.c (.i .u64 0)), none⟩,
    ⟨(some 5), .mv (.c (.b false)), none⟩])
  .ret)
  (.seq [0, 3, 7, 8, 10, 13, 45, 46, 47, 69] (.reg [⟨(some 70), .mv (.t 12), none⟩,
    ⟨(some 69), .mv (.t 70), none⟩])
  (.cond (.t 69)
  (.reg [⟨(some 71), .mv (.t 7), none⟩,
    ⟨(some 72), .mv (.t 0), none⟩,
    ⟨(some 73), .nilck (.t 72), none⟩,
    ⟨(some 74), .faddr 0 (.t 73), none⟩,
    ⟨(some 75), .load none (.t 74), none⟩,
    ⟨(some 76), .nilck (.t 75), none⟩,
    ⟨(some 77), .faddr 0 (.t 76), none⟩,
    ⟨(some 78), .faddr 1 (.t 77), none⟩,
    ⟨(some 79), .load none (.t 78), none⟩,
    ⟨(some 80), .mv (.t 10), none⟩,
    ⟨(some 81), .iaddr 1 none (.t 79) (.t 80), none⟩,
    ⟨(some 82), .load none (.t 81), none⟩,
    ⟨(some 83), .call 214 [(.t 71), (.t 82)], none⟩,
    ⟨(some 7), .mv (.t 83), none⟩])
  (.seq [0, 3, 7, 8, 10, 45, 46, 47, 84] (.reg [⟨(some 85), .mv (.t 13), none⟩,
    ⟨(some 86), .not (.t 85), none⟩,
    ⟨(some 84), .mv (.t 86), none⟩])
  (.cond (.t 84)
  (.reg [⟨(some 87), .mv (.t 8), none⟩,
    ⟨(some 88), .mv (.t 0), none⟩,
    ⟨(some 89), .nilck (.t 88), none⟩,
    ⟨(some 90), .faddr 0 (.t 89), none⟩,
    ⟨(some 91), .load none (.t 90), none⟩,
    ⟨(some 92), .nilck (.t 91), none⟩,
    ⟨(some 93), .faddr 0 (.t 92), none⟩,
    ⟨(some 94), .faddr 1 (.t 93), none⟩,
    ⟨(some 95), .load none (.t 94), none⟩,
    ⟨(some 96), .mv (.t 10), none⟩,
    ⟨(some 97), .iaddr 1 none (.t 95) (.t 96), none⟩,
    ⟨(some 98), .load none (.t 97), none⟩,
    ⟨(some 99), .call 214 [(.t 87), (.t 98)], none⟩,
    ⟨(some 8), .mv (.t 99), none⟩])
  .skip)))))))))))
  (.reg [⟨(some 100), .bin .add (.t 47) (.c (.i .i64 1)), none⟩,
    ⟨(some 47), .mv (.t 100), none⟩])))))))
  (.seq [7, 8] (.seq [0, 7, 8, 14] (.reg [⟨(some 14), .mv (.c (.i .i64 3)), none⟩])
  (.block 3 (.loop [0, 7, 8, 14] (.seq [0, 7, 8, 14] (.seq [0, 7, 8, 14, 112] (.reg [⟨(some 101), .mv (.t 14), none⟩,
    ⟨(some 102), .mv (.t 0), none⟩,
    ⟨(some 103), .nilck (.t 102), none⟩,
    ⟨(some 104), .faddr 0 (.t 103), none⟩,
    ⟨(some 105), .load none (.t 104), none⟩,
    ⟨(some 106), .nilck (.t 105), none⟩,
    ⟨(some 107), .faddr 0 (.t 106), none⟩,
    ⟨(some 108), .faddr 0 (.t 107), none⟩,
    ⟨(some 109), .load none (.t 108), none⟩,
    ⟨(some 110), .len (.t 109), none⟩,
    ⟨(some 111), .bin .add (.c (.i .i64 3)) (.t 110), none⟩,
    ⟨(some 112), .bin .lss (.t 101) (.t 111), none⟩])
  (.cond (.t 112)
  .skip
  (.exit 3)))
  (.seq [0, 7, 8, 14] (.block 4 (.seq [0, 7, 8, 14, 117] (.reg [⟨(some 115), .mv (.t 7), none⟩,
    ⟨(some 116), .mv (.t 14), none⟩,
    ⟨(some 117), .call 372 [(.t 115), (.t 116)], none⟩])
  (.cond (.t 117)
  (.reg [⟨(some 118), .mv (.t 7), none⟩,
    ⟨(some 119), .mv (.t 0), none⟩,
    ⟨(some 120), .nilck (.t 119), none⟩,
    ⟨(some 121), .faddr 0 (.t 120), none⟩,
    ⟨(some 122), .load none (.t 121), none⟩,
    ⟨(some 123), .mv (.t 14), none⟩,
    ⟨(some 124), .nilck (.t 122), none⟩,
    ⟨(some 125), .faddr 2 (.t 124), none⟩,
    ⟨(some 126), .iaddr 1 (some 63) (.t 125) (.t 123), none⟩,
    ⟨(some 127), .load none (.t 126), none⟩,
    ⟨(some 128), .bin .or (.t 118) (.t 127), none⟩,
    ⟨(some 7), .mv (.t 128), none⟩])
  .skip)))
  (.reg [⟨(some 113), .mv (.t 14), none⟩,
    ⟨(some 114), .bin .add (.t 113) (.c (.i .i64 1)), none⟩,
    ⟨(some 14), .mv (.t 114), none⟩]))))))
  (.seq [7, 8] (.reg [⟨(some 129), .mv (.t 7), none⟩,
    ⟨(some 130), .bin .andNot (.t 129) (.c (.i .u64 1)), none⟩,
    ⟨(some 7), .mv (.t 130), none⟩])
  (.seq [4, 5] (.reg [⟨(some 131), .mv (.t 7), none⟩,
    ⟨(some 132), .mv (.t 7), none⟩,
    ⟨(some 133), .mv (.t 8), none⟩,
    ⟨(some 134), .bin .and (.t 132) (.t 133), none⟩,
    ⟨(some 135), .bin .eql (.t 134) (.c (.i .u64 0)), none⟩,
    ⟨(some 4), .mv (.t 131), none⟩,
    ⟨(some 5), .mv (.t 135), none⟩])
  .ret))))))))
theorem ree366 : Tryz.f366.body.bind (res Tryz.prog Tryz.f366.ntmps [] []) = some (erase ae366) := by kernel_rfl
def fs366 : FnS := .fn 136 ae366 [.t 4, .t 5]
theorem fsok366 : FnOk Tryz.prog 366 fs366 := fun _ _ _ hn h => ctr_of_resC Tryz.func366 (by kernel_rfl) ree366 (by kernel_rfl) hn h
abbrev ae305 : ACode := (.seq [0, 1, 2] (.reg [⟨(some 4), .mv (.c (.b false)), none⟩])
  (.seq [4] (.dreg [4] [⟨0, ⟨(some 5), .load none (.t 1), none⟩, [], []⟩,
    ⟨1, ⟨(some 6), .load none (.t 2), none⟩, [], []⟩,
    ⟨2, ⟨(some 7), .mv (.t 0), none⟩, [], []⟩,
    ⟨3, ⟨(some 8), .call 306 [(.t 6), (.t 7)], none⟩, [0], [⟨(some 5), .load none (.t 1), none⟩]⟩,
    ⟨4, ⟨(some 9), .callv (.t 5) [(.t 8)], none⟩, [], []⟩,
    ⟨5, ⟨(some 4), .mv (.t 9), none⟩, [], []⟩])
  .ret))
theorem ree305 : Tryz.f305.body.bind (res Tryz.prog Tryz.f305.ntmps [] []) = some (erase ae305) := by kernel_rfl
def fs305 : FnS := .fn 10 ae305 [.t 4]
theorem fsok305 : FnOk Tryz.prog 305 fs305 := fun _ _ _ hn h => ctr_of_resC Tryz.func305 (by kernel_rfl) ree305 (by kernel_rfl) hn h
abbrev ae382 : ACode := (.seq [0, 2, 4] (.reg [⟨(some 4), .box (.t 1), none⟩,
    ⟨(some 6), .mv (.c (.b false)), none⟩])
  (.seq [0, 2, 4, 7] (.reg [⟨(some 9), .mv (.t 0), none⟩,
    ⟨(some 10), .load (some 4) (.t 4), none⟩,
    ⟨(some 11), .call 361 [(.t 9), (.t 10)], none⟩,
    ⟨(some 7), .mv (.t 11), none⟩])
  (.seq [0, 4, 7, 8] (.reg [⟨(some 12), .mv (.t 2), none⟩,
    ⟨(some 13), .call 214 [(.c (.i .u64 1)), (.t 12)], none⟩,
    ⟨(some 8), .mv (.t 13), none⟩])
  (.seq [6] (.reg [⟨(some 14), .mv (.t 7), none⟩,
    ⟨(some 15), .nilck (.t 14), none⟩,
    ⟨(some 16), .faddr 3 (.t 15), none⟩,
    ⟨(some 17), .load none (.t 16), none⟩,
    ⟨(some 18), .mv (.t 8), none⟩,
    ⟨(some 19), .bin .andNot (.t 17) (.t 18), none⟩,
    ⟨(some 20), .bin .eql (.t 19) (.c (.i .u64 0)), none⟩,
    ⟨(some 21), .mv (.t 20), none⟩,
    ⟨(some 22), .mv (.t 7), (some (21, true))⟩,
    ⟨(some 23), .nilck (.t 22), (some (21, true))⟩,
    ⟨(some 24), .faddr 4 (.t 23), (some (21, true))⟩,
    ⟨(some 25), .load none (.t 24), (some (21, true))⟩,
    ⟨(some 26), .mv (.t 8), (some (21, true))⟩,
    ⟨(some 27), .bin .and (.t 25) (.t 26), (some (21, true))⟩,
    ⟨(some 28), .bin .eql (.t 27) (.c (.i .u64 0)), (some (21, true))⟩,
    ⟨(some 29), .pick (.t 21) (.t 28) (.c (.b false)), none⟩,
    ⟨(some 30), .mv (.t 29), none⟩,
    ⟨(some 31), .mv (.t 0), (some (30, true))⟩,
    ⟨(some 32), .load (some 4) (.t 4), (some (30, true))⟩,
    ⟨(some 33), .call 391 [(.t 31), (.t 32)], (some (30, true))⟩,
    ⟨(some 34), .pick (.t 30) (.t 33) (.c (.b false)), none⟩,
    ⟨(some 6), .mv (.t 34), none⟩])
  .ret))))
theorem ree382 : Tryz.f382.body.bind (res Tryz.prog Tryz.f382.ntmps [] []) = some (erase ae382) := by kernel_rfl
def fs382 : FnS := .fn 35 ae382 [.t 6]
theorem fsok382 : FnOk Tryz.prog 382 fs382 := fun _ _ _ hn h => ctr_of_resC Tryz.func382 (by kernel_rfl) ree382 (by kernel_rfl) hn h
abbrev ae306 : ACode := (.seq [0, 1] (.reg [⟨(some 4), .mv (.c (.l [] true)), none⟩])
  (.seq [1, 5] (.reg [⟨(some 8), .mv (.t 0), none⟩,
    ⟨(some 9), .call 334 [(.t 8)], none⟩,
    ⟨(some 5), .mv (.t 9), none⟩])
  (.seq [5] (.seq [5, 10, 11, 12] (.reg [⟨(some 10), .mv (.t 1), none⟩,
    ⟨(some 11), .len (.t 10), none⟩,
    ⟨(some 12), .mv (.c (.i .i64 0)), none⟩])
  (.block 0 (.loop [5, 10, 11, 12] (.seq [5, 10, 11, 12, 13] (.reg [⟨(some 13), .bin .lss (.t 12) (.t 11), none⟩])
  (.seq [5, 10, 11, 12] (.cond (.t 13)
  .skip
  (.exit 0))
  (.seq [5, 10, 11, 12] (.block 1 (.seq [5, 7, 10, 11, 12] (.reg [⟨(some 14), .iaddr 7 none (.t 10) (.t 12), none⟩,
    ⟨(some 15), .load (some 7) (.t 14), none⟩,
    ⟨(some 7), .alloc [(.i .i64 0), (.i .i64 0), (.l [] true), (.i .i64 0), (.i .i64 0), (.l [] true), (.b false)], none⟩,
    ⟨none, .store 7 (.t 7) (.t 15), none⟩])
  (.seq [5, 7, 10, 11, 12, 19] (.reg [⟨(some 16), .mv (.t 5), none⟩,
    ⟨(some 17), .mkf (.func 336) [] [(.t 7)], none⟩,
    ⟨(some 18), .call 335 [(.t 16), (.t 17)], none⟩,
    ⟨(some 19), .not (.t 18), none⟩])
  (.cond (.t 19)
  (.reg [⟨(some 20), .mv (.t 5), none⟩,
    ⟨(some 21), .load (some 7) (.t 7), none⟩,
    ⟨(some 22), .bslice 7 1 [(.i .i64 0), (.i .i64 0), (.l [] true), (.i .i64 0), (.i .i64 0), (.l [] true), (.b false)] [(0, (.t 21))], none⟩,
    ⟨(some 23), .append 7 88 (.t 20) (.t 22), none⟩,
    ⟨(some 5), .mv (.t 23), none⟩])
  .skip))))
  (.reg [⟨(some 24), .bin .add (.t 12) (.c (.i .i64 1)), none⟩,
    ⟨(some 12), .mv (.t 24), none⟩])))))))
  (.seq [4] (.reg [⟨(some 25), .mv (.t 5), none⟩,
    ⟨(some 4), .mv (.t 25), none⟩])
  .ret))))
theorem ree306 : Tryz.f306.body.bind (res Tryz.prog Tryz.f306.ntmps [] []) = some (erase ae306) := by kernel_rfl
def fs306 : FnS := .fn 26 ae306 [.t 4]
theorem fsok306 : FnOk Tryz.prog 306 fs306 := fun _ _ _ hn h => ctr_of_resC Tryz.func306 (by kernel_rfl) ree306 (by kernel_rfl) hn h
abbrev ae391 : ACode := (.seq [2, 3] (.reg [⟨(some 2), .box (.t 0), none⟩,
    ⟨(some 3), .box (.t 1), none⟩,
    ⟨(some 4), .mv (.c (.b false)), none⟩])
  (.seq [4] (.reg [⟨(some 5), .load none (.t 2), none⟩,
    ⟨(some 6), .load (some 4) (.t 3), none⟩,
    ⟨(some 7), .call 361 [(.t 5), (.t 6)], none⟩,
    ⟨(some 8), .nilck (.t 7), none⟩,
    ⟨(some 9), .faddr 7 (.t 8), none⟩,
    ⟨(some 10), .load none (.t 9), none⟩,
    ⟨(some 11), .mkf (.func 394) [] [(.t 2), (.t 3)], none⟩,
    ⟨(some 12), .call 215 [(.t 10), (.t 11)], none⟩,
    ⟨(some 4), .mv (.t 12), none⟩])
  .ret))
theorem ree391 : Tryz.f391.body.bind (res Tryz.prog Tryz.f391.ntmps [] []) = some (erase ae391) := by kernel_rfl
def fs391 : FnS := .fn 13 ae391 [.t 4]
theorem fsok391 : FnOk Tryz.prog 391 fs391 := fun _ _ _ hn h => ctr_of_resC Tryz.func391 (by kernel_rfl) ree391 (by kernel_rfl) hn h
theorem recl334 : Tryz.f334.body.bind (res Tryz.prog Tryz.f334.ntmps [] []) = some (erase (cloneAC 7 88)) := by kernel_rfl
def fs334 : FnS := .prim (cloneP 7)
theorem fsok334 : FnOk Tryz.prog 334 fs334 := clone_fs (sz := 7) (b := 88) (fun _ _ _ hn h => ctr_of_resC Tryz.func334 (by kernel_rfl) recl334 (by kernel_rfl) hn h) (Nat.le_of_ble_eq_true rfl)
abbrev ae336 : ACode := (.seq [1, 2] (.reg [⟨(some 2), .box (.t 0), none⟩,
    ⟨(some 3), .mv (.c (.b false)), none⟩])
  (.seq [3] (.reg [⟨(some 4), .faddr 6 (.t 1), none⟩,
    ⟨(some 5), .load none (.t 4), none⟩,
    ⟨(some 6), .faddr 6 (.t 2), none⟩,
    ⟨(some 7), .load none (.t 6), none⟩,
    ⟨(some 8), .eqb false (.t 5) (.t 7), none⟩,
    ⟨(some 9), .mv (.t 8), none⟩,
    ⟨(some 10), .faddr 0 (.t 1), (some (9, true))⟩,
    ⟨(some 11), .load (some 6) (.t 10), (some (9, true))⟩,
    ⟨(some 12), .faddr 0 (.t 2), (some (9, true))⟩,
    ⟨(some 13), .load (some 6) (.t 12), (some (9, true))⟩,
    ⟨(some 14), .call 179 [(.t 11), (.t 13)], (some (9, true))⟩,
    ⟨(some 15), .pick (.t 9) (.t 14) (.c (.b false)), none⟩,
    ⟨(some 3), .mv (.t 15), none⟩])
  .ret))
theorem ree336 : Tryz.f336.body.bind (res Tryz.prog Tryz.f336.ntmps [] []) = some (erase ae336) := by kernel_rfl
def fs336 : FnS := .fn 16 ae336 [.t 3]
theorem fsok336 : FnOk Tryz.prog 336 fs336 := fun _ _ _ hn h => ctr_of_resC Tryz.func336 (by kernel_rfl) ree336 (by kernel_rfl) hn h
abbrev ae335 : ACode := (.seq [0, 1] (.reg [⟨(some 4), .mv (.c (.b false)), none⟩])
  (.seq [4] (.reg [⟨(some 5), .mv (.t 0), none⟩,
    ⟨(some 6), .mv (.t 1), none⟩,
    ⟨(some 7), .call 360 [(.t 5), (.t 6)], none⟩,
    ⟨(some 8), .bin .geq (.t 7) (.c (.i .i64 0)), none⟩,
    ⟨(some 4), .mv (.t 8), none⟩])
  .ret))
theorem ree335 : Tryz.f335.body.bind (res Tryz.prog Tryz.f335.ntmps [] []) = some (erase ae335) := by kernel_rfl
def fs335 : FnS := .fn 9 ae335 [.t 4]
theorem fsok335 : FnOk Tryz.prog 335 fs335 := fun _ _ _ hn h => ctr_of_resC Tryz.func335 (by kernel_rfl) ree335 (by kernel_rfl) hn h
abbrev ae394 : ACode := (.seq [0, 1, 2] (.reg [⟨(some 4), .mv (.c (.b false)), none⟩])
  (.seq [4] (.dreg [4] [⟨0, ⟨(some 5), .load none (.t 1), none⟩, [], []⟩,
    ⟨1, ⟨(some 6), .load (some 4) (.t 2), none⟩, [], []⟩,
    ⟨2, ⟨(some 7), .mv (.t 0), none⟩, [], []⟩,
    ⟨3, ⟨(some 8), .call 362 [(.t 6), (.t 7)], none⟩, [0], [⟨(some 5), .load none (.t 1), none⟩]⟩,
    ⟨4, ⟨(some 9), .call 361 [(.t 5), (.t 8)], none⟩, [], []⟩,
    ⟨5, ⟨(some 10), .nilck (.t 9), none⟩, [], []⟩,
    ⟨6, ⟨(some 11), .faddr 6 (.t 10), none⟩, [], []⟩,
    ⟨7, ⟨(some 12), .load none (.t 11), none⟩, [], []⟩,
    ⟨8, ⟨(some 13), .not (.t 12), none⟩, [], []⟩,
    ⟨9, ⟨(some 4), .mv (.t 13), none⟩, [], []⟩])
  .ret))
theorem ree394 : Tryz.f394.body.bind (res Tryz.prog Tryz.f394.ntmps [] []) = some (erase ae394) := by kernel_rfl
def fs394 : FnS := .fn 14 ae394 [.t 4]
theorem fsok394 : FnOk Tryz.prog 394 fs394 := fun _ _ _ hn h => ctr_of_resC Tryz.func394 (by kernel_rfl) ree394 (by kernel_rfl) hn h
abbrev ae179 : ACode := (.seq [2, 3] (.reg [⟨(some 2), .box (.t 0), none⟩,
    ⟨(some 3), .box (.t 1), none⟩,
    ⟨(some 4), .mv (.c (.b false)), none⟩])
  (.seq [4] (.reg [⟨(some 5), .faddr 0 (.t 2), none⟩,
    ⟨(some 6), .load none (.t 5), none⟩,
    ⟨(some 7), .faddr 0 (.t 3), none⟩,
    ⟨(some 8), .load none (.t 7), none⟩,
    ⟨(some 9), .bin .eql (.t 6) (.t 8), none⟩,
    ⟨(some 10), .mv (.t 9), none⟩,
    ⟨(some 11), .faddr 1 (.t 2), (some (10, true))⟩,
    ⟨(some 12), .load none (.t 11), (some (10, true))⟩,
    ⟨(some 13), .faddr 1 (.t 3), (some (10, true))⟩,
    ⟨(some 14), .load none (.t 13), (some (10, true))⟩,
    ⟨(some 15), .bin .eql (.t 12) (.t 14), (some (10, true))⟩,
    ⟨(some 16), .pick (.t 10) (.t 15) (.c (.b false)), none⟩,
    ⟨(some 17), .mv (.t 16), none⟩,
    ⟨(some 18), .faddr 3 (.t 2), (some (17, true))⟩,
    ⟨(some 19), .load none (.t 18), (some (17, true))⟩,
    ⟨(some 20), .faddr 3 (.t 3), (some (17, true))⟩,
    ⟨(some 21), .load none (.t 20), (some (17, true))⟩,
    ⟨(some 22), .bin .eql (.t 19) (.t 21), (some (17, true))⟩,
    ⟨(some 23), .pick (.t 17) (.t 22) (.c (.b false)), none⟩,
    ⟨(some 24), .mv (.t 23), none⟩,
    ⟨(some 25), .faddr 4 (.t 2), (some (24, true))⟩,
    ⟨(some 26), .load none (.t 25), (some (24, true))⟩,
    ⟨(some 27), .faddr 4 (.t 3), (some (24, true))⟩,
    ⟨(some 28), .load none (.t 27), (some (24, true))⟩,
    ⟨(some 29), .bin .eql (.t 26) (.t 28), (some (24, true))⟩,
    ⟨(some 30), .pick (.t 24) (.t 29) (.c (.b false)), none⟩,
    ⟨(some 31), .mv (.t 30), none⟩,
    ⟨(some 32), .faddr 2 (.t 2), (some (31, true))⟩,
    ⟨(some 33), .load none (.t 32), (some (31, true))⟩,
    ⟨(some 34), .faddr 2 (.t 3), (some (31, true))⟩,
    ⟨(some 35), .load none (.t 34), (some (31, true))⟩,
    ⟨(some 36), .call 16 [(.t 33), (.t 35)], (some (31, true))⟩,
    ⟨(some 37), .pick (.t 31) (.t 36) (.c (.b false)), none⟩,
    ⟨(some 38), .mv (.t 37), none⟩,
    ⟨(some 39), .faddr 5 (.t 2), (some (38, true))⟩,
    ⟨(some 40), .load none (.t 39), (some (38, true))⟩,
    ⟨(some 41), .faddr 5 (.t 3), (some (38, true))⟩,
    ⟨(some 42), .load none (.t 41), (some (38, true))⟩,
    ⟨(some 43), .call 222 [(.t 40), (.t 42), (.c (.f (.func 179) [] []))], (some (38, true))⟩,
    ⟨(some 44), .pick (.t 38) (.t 43) (.c (.b false)), none⟩,
    ⟨(some 4), .mv (.t 44), none⟩])
  .ret))
theorem ree179 : Tryz.f179.body.bind (res Tryz.prog Tryz.f179.ntmps [] []) = some (erase ae179) := by kernel_rfl
def fs179 : FnS := .fn 45 ae179 [.t 4]
theorem fsok179 : FnOk Tryz.prog 179 fs179 := fun _ _ _ hn h => ctr_of_resC Tryz.func179 (by kernel_rfl) ree179 (by kernel_rfl) hn h
abbrev ae360 : ACode := (.seq [0, 1] (.reg [⟨(some 4), .mv (.c (.i .i64 0)), none⟩])
  (.seq [] (.seq [0, 1, 7, 8] (.reg [⟨(some 6), .mv (.t 0), none⟩,
    ⟨(some 7), .len (.t 6), none⟩,
    ⟨(some 8), .mv (.c (.i .i64 0)), none⟩])
  (.block 0 (.loop [0, 1, 7, 8] (.seq [0, 1, 7, 8, 9] (.reg [⟨(some 9), .bin .lss (.t 8) (.t 7), none⟩])
  (.seq [0, 1, 7, 8] (.cond (.t 9)
  .skip
  (.exit 0))
  (.seq [0, 1, 7, 8] (.block 1 (.seq [0, 1, 5, 7, 8] (.reg [⟨(some 10), .mv (.t 8), none⟩,
    ⟨(some 5), .mv (.t 10), none⟩])
  (.seq [0, 1, 5, 7, 8, 16] (.reg [⟨(some 11), .mv (.t 1), none⟩,
    ⟨(some 12), .mv (.t 0), none⟩,
    ⟨(some 13), .mv (.t 5), none⟩,
    ⟨(some 14), .iaddr 7 none (.t 12) (.t 13), none⟩,
    ⟨(some 15), .load (some 7) (.t 14), none⟩,
    ⟨(some 16), .callv (.t 11) [(.t 15)], none⟩])
  (.cond (.t 16)
  (.seq [4] (.reg [⟨(some 17), .mv (.t 5), none⟩,
    ⟨(some 4), .mv (.t 17), none⟩])
  .ret)
  .skip))))
  (.reg [⟨(some 18), .bin .add (.t 8) (.c (.i .i64 1)), none⟩,
    ⟨(some 8), .mv (.t 18), none⟩])))))))
  (.seq [4] (.reg [⟨(some 4), .mv (.c (.i .i64 (-1))), none⟩])
  .ret)))
theorem ree360 : Tryz.f360.body.bind (res Tryz.prog Tryz.f360.ntmps [] []) = some (erase ae360) := by kernel_rfl
def fs360 : FnS := .fn 19 ae360 [.t 4]
theorem fsok360 : FnOk Tryz.prog 360 fs360 := fun _ _ _ hn h => ctr_of_resC Tryz.func360 (by kernel_rfl) ree360 (by kernel_rfl) hn h
abbrev ae222 : ACode := (.seq [0, 1, 2] (.reg [⟨(some 6), .mv (.c (.b false)), none⟩])
  (.seq [0, 1, 2] (.seq [0, 1, 2, 14] (.reg [⟨(some 10), .mv (.t 0), none⟩,
    ⟨(some 11), .len (.t 10), none⟩,
    ⟨(some 12), .mv (.t 1), none⟩,
    ⟨(some 13), .len (.t 12), none⟩,
    ⟨(some 14), .bin .neq (.t 11) (.t 13), none⟩])
  (.cond (.t 14)
  (.seq [6] (.reg [⟨(some 6), .mv (.c (.b false)), none⟩])
  .ret)
  .skip))
  (.seq [] (.seq [1, 2, 15, 16, 17] (.reg [⟨(some 15), .mv (.t 0), none⟩,
    ⟨(some 16), .len (.t 15), none⟩,
    ⟨(some 17), .mv (.c (.i .i64 0)), none⟩])
  (.block 0 (.loop [1, 2, 15, 16, 17] (.seq [1, 2, 15, 16, 17, 18] (.reg [⟨(some 18), .bin .lss (.t 17) (.t 16), none⟩])
  (.seq [1, 2, 15, 16, 17] (.cond (.t 18)
  .skip
  (.exit 0))
  (.seq [1, 2, 15, 16, 17] (.block 1 (.seq [1, 2, 7, 8, 15, 16, 17] (.reg [⟨(some 19), .mv (.t 17), none⟩,
    ⟨(some 20), .iaddr 6 none (.t 15) (.t 17), none⟩,
    ⟨(some 21), .load (some 6) (.t 20), none⟩,
    ⟨(some 8), .alloc [(.i .i64 0), (.i .i64 0), (.l [] true), (.i .i64 0), (.i .i64 0), (.l [] true)], none⟩,
    ⟨(some 7), .mv (.t 19), none⟩,
    ⟨none, .store 6 (.t 8) (.t 21), none⟩])
  (.seq [1, 2, 8, 9, 15, 16, 17] (.reg [⟨(some 22), .mv (.t 1), none⟩,
    ⟨(some 23), .mv (.t 7), none⟩,
    ⟨(some 24), .iaddr 6 none (.t 22) (.t 23), none⟩,
    ⟨(some 25), .load (some 6) (.t 24), none⟩,
    ⟨(some 9), .alloc [(.i .i64 0), (.i .i64 0), (.l [] true), (.i .i64 0), (.i .i64 0), (.l [] true)], none⟩,
    ⟨none, .store 6 (.t 9) (.t 25), none⟩])
  (.seq [1, 2, 15, 16, 17, 30] (.reg [⟨(some 26), .mv (.t 2), none⟩,
    ⟨(some 27), .load (some 6) (.t 8), none⟩,
    ⟨(some 28), .load (some 6) (.t 9), none⟩,
    ⟨(some 29), .callv (.t 26) [(.t 27), (.t 28)], none⟩,
    ⟨(some 30), .not (.t 29), none⟩])
  (.cond (.t 30)
  (.seq [6] (.reg [⟨(some 6), .mv (.c (.b false)), none⟩])
  .ret)
  .skip)))))
  (.reg [⟨(some 31), .bin .add (.t 17) (.c (.i .i64 1)), none⟩,
    ⟨(some 17), .mv (.t 31), none⟩])))))))
  (.seq [6] (.reg [⟨(some 6), .mv (.c (.b true)), none⟩])
  .ret))))
theorem ree222 : Tryz.f222.body.bind (res Tryz.prog Tryz.f222.ntmps [] []) = some (erase ae222) := by kernel_rfl
def fs222 : FnS := .fn 32 ae222 [.t 6]
theorem fsok222 : FnOk Tryz.prog 222 fs222 := fun _ _ _ hn h => ctr_of_resC Tryz.func222 (by kernel_rfl) ree222 (by kernel_rfl) hn h
end Go.Gl
