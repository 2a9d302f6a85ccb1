/-
  The code of functions of the program, resolved, for the evaluator (printed by wip/gen/mkclosed.py)
-/
import Derived.Test.YtfbhfdaljendcaaGreatEv7
import Derived.Test.YtfbhfdaljendcaaGreatProg
import Derived.KernelRfl
set_option linter.all false
set_option linter.unusedVariables false
set_option linter.unusedSimpArgs false
namespace Go.Gl
open Go.Proofs
abbrev ae102 : ACode := (.seq [1, 2, 4] (.reg [⟨(some 2), .box (.t 0), none⟩,
    ⟨(some 4), .alloc [(.l [] true), (.i .i64 0), (.l [] true), (.l [] true), (.l [] true), (.i .i64 0), (.i .i64 0), (.l [] true)], none⟩,
    ⟨(some 5), .mv (.c (.b false)), none⟩])
  (.seq [1, 2, 4] (.seq [1, 2, 4, 22] (.reg [⟨(some 9), .load (some 6) (.t 2), none⟩,
    ⟨(some 10), .call 94 [(.t 9)], none⟩,
    ⟨(some 11), .bin .neq (.t 10) (.c (.i .i64 0)), none⟩,
    ⟨(some 12), .mv (.t 11), none⟩,
    ⟨(some 13), .mv (.t 1), (some (12, false))⟩,
    ⟨(some 14), .bin .lss (.t 13) (.c (.i .i64 0)), (some (12, false))⟩,
    ⟨(some 15), .pick (.t 12) (.c (.b true)) (.t 14), none⟩,
    ⟨(some 16), .mv (.t 15), none⟩,
    ⟨(some 17), .mv (.t 1), (some (16, false))⟩,
    ⟨(some 18), .faddr 2 (.t 2), (some (16, false))⟩,
    ⟨(some 19), .load none (.t 18), (some (16, false))⟩,
    ⟨(some 20), .len (.t 19), (some (16, false))⟩,
    ⟨(some 21), .bin .geq (.t 17) (.t 20), (some (16, false))⟩,
    ⟨(some 22), .pick (.t 16) (.c (.b true)) (.t 21), none⟩])
  (.cond (.t 22)
  (.seq [4, 5] (.reg [⟨(some 23), .build [(.l [] true), (.i .i64 0), (.l [] true), (.l [] true), (.l [] true), (.i .i64 0), (.i .i64 0), (.l [] true)] [], none⟩,
    ⟨none, .store 8 (.t 4) (.t 23), none⟩,
    ⟨(some 5), .mv (.c (.b false)), none⟩])
  .ret)
  .skip))
  (.seq [1, 2, 4, 6] (.reg [⟨(some 24), .load (some 6) (.t 2), none⟩,
    ⟨(some 25), .mv (.t 1), none⟩,
    ⟨(some 26), .build [(.l [] true), (.i .i64 0), (.l [] true), (.l [] true), (.l [] true), (.i .i64 0), (.i .i64 0), (.l [] true)] [(0, 6, (.t 24)), (6, 1, (.t 25))], none⟩,
    ⟨(some 6), .alloc [(.l [] true), (.i .i64 0), (.l [] true), (.l [] true), (.l [] true), (.i .i64 0), (.i .i64 0), (.l [] true)], none⟩,
    ⟨none, .store 8 (.t 6) (.t 26), none⟩])
  (.seq [4, 6] (.seq [1, 4, 6, 28, 29, 30] (.reg [⟨(some 27), .faddr 3 (.t 2), none⟩,
    ⟨(some 28), .load none (.t 27), none⟩,
    ⟨(some 29), .len (.t 28), none⟩,
    ⟨(some 30), .mv (.c (.i .i64 0)), none⟩])
  (.block 0 (.loop [1, 4, 6, 28, 29, 30] (.seq [1, 4, 6, 28, 29, 30, 31] (.reg [⟨(some 31), .bin .lss (.t 30) (.t 29), none⟩])
  (.seq [1, 4, 6, 28, 29, 30] (.cond (.t 31)
  .skip
  (.exit 0))
  (.seq [1, 4, 6, 28, 29, 30] (.block 1 (.seq [1, 4, 6, 7, 8, 28, 29, 30] (.reg [⟨(some 32), .mv (.t 30), none⟩,
    ⟨(some 33), .iaddr 9 none (.t 28) (.t 30), none⟩,
    ⟨(some 34), .load (some 9) (.t 33), none⟩,
    ⟨(some 8), .alloc [(.i .i64 0), (.i .i64 0), (.i .i64 0), (.i .i64 0), (.l [] true), (.i .i64 0), (.i .i64 0), (.l [] true), (.i .i64 0)], none⟩,
    ⟨(some 7), .mv (.t 32), none⟩,
    ⟨none, .store 9 (.t 8) (.t 34), none⟩])
  (.seq [1, 4, 6, 7, 28, 29, 30, 38] (.reg [⟨(some 35), .faddr 1 (.t 8), none⟩,
    ⟨(some 36), .load none (.t 35), none⟩,
    ⟨(some 37), .mv (.t 1), none⟩,
    ⟨(some 38), .bin .eql (.t 36) (.t 37), none⟩])
  (.cond (.t 38)
  (.reg [⟨(some 39), .faddr 7 (.t 6), none⟩,
    ⟨(some 40), .load none (.t 39), none⟩,
    ⟨(some 41), .mv (.t 7), none⟩,
    ⟨(some 42), .bslice 1 1 [(.i .i64 0)] [(0, (.t 41))], none⟩,
    ⟨(some 43), .append 1 8 (.t 40) (.t 42), none⟩,
    ⟨(some 44), .faddr 7 (.t 6), none⟩,
    ⟨none, .store 1 (.t 44) (.t 43), none⟩])
  .skip))))
  (.reg [⟨(some 45), .bin .add (.t 30) (.c (.i .i64 1)), none⟩,
    ⟨(some 30), .mv (.t 45), none⟩])))))))
  (.seq [4, 5] (.reg [⟨(some 46), .load (some 8) (.t 6), none⟩,
    ⟨none, .store 8 (.t 4) (.t 46), none⟩,
    ⟨(some 5), .mv (.c (.b true)), none⟩])
  .ret)))))
theorem ree102 : Tryz.f102.body.bind (res Tryz.prog Tryz.f102.ntmps [] []) = some (erase ae102) := by kernel_rfl
def fs102 : FnS := .fn 47 ae102 [.c 4 (some 8), .t 5]
theorem fsok102 : FnOk Tryz.prog 102 fs102 := fun _ _ _ hn h => ctr_of_resC Tryz.func102 (by kernel_rfl) ree102 (by kernel_rfl) hn h
abbrev ae103 : ACode := (.seq [1] (.reg [⟨(some 1), .box (.t 0), none⟩,
    ⟨(some 2), .mv (.c (.i .i64 0)), none⟩])
  (.seq [] (.seq [6] (.reg [⟨(some 3), .faddr 7 (.t 1), none⟩,
    ⟨(some 4), .load none (.t 3), none⟩,
    ⟨(some 5), .len (.t 4), none⟩,
    ⟨(some 6), .bin .gtr (.t 5) (.c (.i .i64 8)), none⟩])
  (.cond (.t 6)
  (.seq [2] (.reg [⟨(some 2), .mv (.c (.i .i64 3)), none⟩])
  .ret)
  .skip))
  (.seq [2] (.reg [⟨(some 2), .mv (.c (.i .i64 0)), none⟩])
  .ret)))
theorem ree103 : Tryz.f103.body.bind (res Tryz.prog Tryz.f103.ntmps [] []) = some (erase ae103) := by kernel_rfl
def fs103 : FnS := .fn 7 ae103 [.t 2]
theorem fsok103 : FnOk Tryz.prog 103 fs103 := fun _ _ _ hn h => ctr_of_resC Tryz.func103 (by kernel_rfl) ree103 (by kernel_rfl) hn h
abbrev ae105 : ACode := (.seq [1] (.reg [⟨(some 1), .box (.t 0), none⟩,
    ⟨(some 2), .mv (.c .pn), none⟩])
  (.seq [3] (.reg [⟨(some 6), .faddr 0 (.t 1), none⟩,
    ⟨(some 7), .load (some 6) (.t 6), none⟩,
    ⟨(some 8), .call 64 [(.t 7)], none⟩,
    ⟨(some 5), .mv (.t 8), none⟩,
    ⟨(some 9), .extract 0 (.t 5), none⟩,
    ⟨(some 10), .extract 1 (.t 5), none⟩,
    ⟨(some 3), .alloc [(.l [] true), (.l [] true)], none⟩,
    ⟨none, .store 2 (.t 3) (.t 9), none⟩,
    ⟨(some 4), .mv (.t 10), none⟩])
  (.seq [2] (.reg [⟨(some 11), .load (some 2) (.t 3), none⟩,
    ⟨(some 12), .call 157 [(.t 11)], none⟩,
    ⟨(some 2), .mv (.t 12), none⟩])
  .ret)))
theorem ree105 : Tryz.f105.body.bind (res Tryz.prog Tryz.f105.ntmps [] []) = some (erase ae105) := by kernel_rfl
def fs105 : FnS := .fn 13 ae105 [.t 2]
theorem fsok105 : FnOk Tryz.prog 105 fs105 := fun _ _ _ hn h => ctr_of_resC Tryz.func105 (by kernel_rfl) ree105 (by kernel_rfl) hn h
abbrev ae107 : ACode := (.seq [0, 1, 2] (.reg [⟨(some 4), .mv (.c (.b false)), none⟩])
  (.seq [4] (.dreg [4] [⟨0, ⟨(some 5), .load none (.t 1), none⟩, [], []⟩,
    ⟨1, ⟨(some 6), .mv (.t 0), none⟩, [], []⟩,
    ⟨3, ⟨(some 8), .load none (.t 2), none⟩, [], []⟩,
    ⟨2, ⟨(some 7), .call 109 [(.t 5), (.t 6)], none⟩, [3], [⟨(some 8), .load none (.t 2), none⟩]⟩,
    ⟨4, ⟨(some 9), .build [.pn, .mn, (.l [] true)] [(0, 2, (.t 7)), (2, 1, (.t 8))], none⟩, [], []⟩,
    ⟨5, ⟨(some 10), .mkf (.func 110) [(.t 9)] [], none⟩, [], []⟩,
    ⟨6, ⟨(some 11), .call 108 [(.t 10)], none⟩, [], []⟩,
    ⟨7, ⟨(some 4), .mv (.t 11), none⟩, [], []⟩])
  .ret))
theorem ree107 : Tryz.f107.body.bind (res Tryz.prog Tryz.f107.ntmps [] []) = some (erase ae107) := by kernel_rfl
def fs107 : FnS := .fn 12 ae107 [.t 4]
theorem fsok107 : FnOk Tryz.prog 107 fs107 := fun _ _ _ hn h => ctr_of_resC Tryz.func107 (by kernel_rfl) ree107 (by kernel_rfl) hn h
abbrev ae106 : ACode := (.seq [2, 3] (.reg [⟨(some 2), .box (.t 0), none⟩,
    ⟨(some 3), .box (.t 1), none⟩,
    ⟨(some 4), .mv (.c .fnil), none⟩])
  (.seq [4] (.reg [⟨(some 5), .mkf (.func 158) [] [(.t 3), (.t 2)], none⟩,
    ⟨(some 4), .mv (.t 5), none⟩])
  .ret))
theorem ree106 : Tryz.f106.body.bind (res Tryz.prog Tryz.f106.ntmps [] []) = some (erase ae106) := by kernel_rfl
def fs106 : FnS := .fn 6 ae106 [.t 4]
theorem fsok106 : FnOk Tryz.prog 106 fs106 := fun _ _ _ hn h => ctr_of_resC Tryz.func106 (by kernel_rfl) ree106 (by kernel_rfl) hn h
abbrev ae111 : ACode := (.seq [0, 1] (.reg [⟨(some 3), .mv (.c (.b false)), none⟩])
  (.seq [3] (.reg [⟨(some 4), .load none (.t 1), none⟩,
    ⟨(some 5), .mv (.t 0), none⟩,
    ⟨(some 6), .call 109 [(.t 4), (.t 5)], none⟩,
    ⟨(some 7), .build [.pn, .mn] [(0, 2, (.t 6))], none⟩,
    ⟨(some 8), .mkf (.func 112) [(.t 7)] [], none⟩,
    ⟨(some 9), .call 108 [(.t 8)], none⟩,
    ⟨(some 3), .mv (.t 9), none⟩])
  .ret))
theorem ree111 : Tryz.f111.body.bind (res Tryz.prog Tryz.f111.ntmps [] []) = some (erase ae111) := by kernel_rfl
def fs111 : FnS := .fn 10 ae111 [.t 3]
theorem fsok111 : FnOk Tryz.prog 111 fs111 := fun _ _ _ hn h => ctr_of_resC Tryz.func111 (by kernel_rfl) ree111 (by kernel_rfl) hn h
abbrev ae54 : ACode := (.seq [1, 2] (.reg [⟨(some 2), .box (.t 0), none⟩,
    ⟨(some 4), .mv (.c (.b false)), none⟩])
  (.seq [] (.seq [1, 2, 7, 8, 9] (.reg [⟨(some 7), .mv (.t 1), none⟩,
    ⟨(some 8), .len (.t 7), none⟩,
    ⟨(some 9), .mv (.c (.i .i64 0)), none⟩])
  (.block 0 (.loop [1, 2, 7, 8, 9] (.seq [1, 2, 7, 8, 9, 10] (.reg [⟨(some 10), .bin .lss (.t 9) (.t 8), none⟩])
  (.seq [1, 2, 7, 8, 9] (.cond (.t 10)
  .skip
  (.exit 0))
  (.seq [1, 2, 7, 8, 9] (.block 1 (.seq [1, 2, 5, 6, 7, 8, 9] (.reg [⟨(some 11), .mv (.t 9), none⟩,
    ⟨(some 12), .iaddr 1 none (.t 7) (.t 9), none⟩,
    ⟨(some 13), .load none (.t 12), none⟩,
    ⟨(some 5), .mv (.t 11), none⟩,
    ⟨(some 6), .mv (.t 13), none⟩])
  (.seq [1, 2, 7, 8, 9, 31] (.reg [⟨(some 14), .faddr 7 (.t 2), none⟩,
    ⟨(some 15), .load none (.t 14), none⟩,
    ⟨(some 16), .mv (.t 6), none⟩,
    ⟨(some 17), .call 67 [(.t 15), (.t 16)], none⟩,
    ⟨(some 18), .not (.t 17), none⟩,
    ⟨(some 19), .mv (.t 18), none⟩,
    ⟨(some 20), .mv (.t 5), (some (19, false))⟩,
    ⟨(some 21), .bin .gtr (.t 20) (.c (.i .i64 0)), (some (19, false))⟩,
    ⟨(some 22), .mv (.t 21), (some (19, false))⟩,
    ⟨(some 23), .mv (.t 1), (some (22, true))⟩,
    ⟨(some 24), .mv (.t 5), (some (22, true))⟩,
    ⟨(some 25), .bin .sub (.t 24) (.c (.i .i64 1)), (some (22, true))⟩,
    ⟨(some 26), .iaddr 1 none (.t 23) (.t 25), (some (22, true))⟩,
    ⟨(some 27), .load none (.t 26), (some (22, true))⟩,
    ⟨(some 28), .mv (.t 6), (some (22, true))⟩,
    ⟨(some 29), .bin .geq (.t 27) (.t 28), (some (22, true))⟩,
    ⟨(some 30), .pick (.t 22) (.t 29) (.c (.b false)), (some (19, false))⟩,
    ⟨(some 31), .pick (.t 19) (.c (.b true)) (.t 30), none⟩])
  (.cond (.t 31)
  (.seq [4] (.reg [⟨(some 4), .mv (.c (.b false)), none⟩])
  .ret)
  .skip))))
  (.reg [⟨(some 32), .bin .add (.t 9) (.c (.i .i64 1)), none⟩,
    ⟨(some 9), .mv (.t 32), none⟩])))))))
  (.seq [4] (.reg [⟨(some 4), .mv (.c (.b true)), none⟩])
  .ret)))
theorem ree54 : Tryz.f54.body.bind (res Tryz.prog Tryz.f54.ntmps [] []) = some (erase ae54) := by kernel_rfl
def fs54 : FnS := .fn 33 ae54 [.t 4]
theorem fsok54 : FnOk Tryz.prog 54 fs54 := fun _ _ _ hn h => ctr_of_resC Tryz.func54 (by kernel_rfl) ree54 (by kernel_rfl) hn h
abbrev ae92 : ACode := (.seq [1, 2, 4] (.reg [⟨(some 2), .box (.t 0), none⟩,
    ⟨(some 4), .alloc [(.l [] true), (.b false), (.l [] true), (.l [] true), (.b false), (.l [] true)], none⟩,
    ⟨(some 5), .mv (.c (.i .i64 0)), none⟩])
  (.seq [1, 4, 6] (.reg [⟨(some 9), .load (some 6) (.t 2), none⟩,
    ⟨(some 10), .call 146 [(.t 9)], none⟩,
    ⟨(some 6), .mv (.t 10), none⟩])
  (.seq [1, 4, 6] (.seq [1, 4, 6, 14] (.reg [⟨(some 11), .mv (.t 6), none⟩,
    ⟨(some 12), .mv (.t 1), none⟩,
    ⟨(some 13), .call 147 [(.t 11), (.t 12), (.c (.b false))], none⟩,
    ⟨(some 14), .not (.t 13), none⟩])
  (.cond (.t 14)
  (.seq [4, 5] (.reg [⟨(some 15), .build [(.l [] true), (.b false), (.l [] true), (.l [] true), (.b false), (.l [] true)] [], none⟩,
    ⟨none, .store 6 (.t 4) (.t 15), none⟩,
    ⟨(some 5), .mv (.c (.i .i64 2)), none⟩])
  .ret)
  .skip))
  (.seq [4, 7, 8] (.reg [⟨(some 17), .mv (.t 6), none⟩,
    ⟨(some 18), .mv (.t 1), none⟩,
    ⟨(some 19), .call 148 [(.t 17), (.t 18)], none⟩,
    ⟨(some 16), .mv (.t 19), none⟩,
    ⟨(some 20), .extract 0 (.t 16), none⟩,
    ⟨(some 21), .extract 1 (.t 16), none⟩,
    ⟨(some 7), .alloc [(.l [] true), (.b false), (.l [] true), (.l [] true), (.b false), (.l [] true)], none⟩,
    ⟨none, .store 6 (.t 7) (.t 20), none⟩,
    ⟨(some 8), .mv (.t 21), none⟩])
  (.seq [4, 7] (.seq [4, 7, 23] (.reg [⟨(some 22), .mv (.t 8), none⟩,
    ⟨(some 23), .not (.t 22), none⟩])
  (.cond (.t 23)
  (.seq [4, 5] (.reg [⟨(some 24), .build [(.l [] true), (.b false), (.l [] true), (.l [] true), (.b false), (.l [] true)] [], none⟩,
    ⟨none, .store 6 (.t 4) (.t 24), none⟩,
    ⟨(some 5), .mv (.c (.i .i64 5)), none⟩])
  .ret)
  .skip))
  (.seq [4, 5] (.reg [⟨(some 25), .load (some 6) (.t 7), none⟩,
    ⟨none, .store 6 (.t 4) (.t 25), none⟩,
    ⟨(some 5), .mv (.c (.i .i64 0)), none⟩])
  .ret))))))
theorem ree92 : Tryz.f92.body.bind (res Tryz.prog Tryz.f92.ntmps [] []) = some (erase ae92) := by kernel_rfl
def fs92 : FnS := .fn 26 ae92 [.c 4 (some 6), .t 5]
theorem fsok92 : FnOk Tryz.prog 92 fs92 := fun _ _ _ hn h => ctr_of_resC Tryz.func92 (by kernel_rfl) ree92 (by kernel_rfl) hn h
abbrev ae113 : ACode := (.seq [0, 1, 2] (.reg [⟨(some 6), .mv (.c (.i .i64 0)), none⟩])
  (.seq [0, 1, 2, 7] (.reg [⟨(some 7), .mv (.c (.i .i64 1)), none⟩])
  (.seq [7] (.block 0 (.seq [7] (.block 3 (.seq [7] (.block 2 (.seq [7] (.block 1 (.seq [7] (.seq [1, 2, 7] (.seq [1, 2, 7, 8] (.reg [⟨(some 9), .mv (.t 0), none⟩,
    ⟨(some 8), .mv (.t 9), none⟩])
  (.cond (.t 8)
  (.exit 1)
  .skip))
  (.seq [2, 7] (.seq [2, 7, 10] (.reg [⟨(some 11), .mv (.t 1), none⟩,
    ⟨(some 10), .mv (.t 11), none⟩])
  (.cond (.t 10)
  (.exit 2)
  .skip))
  (.seq [7, 12] (.reg [⟨(some 13), .mv (.t 2), none⟩,
    ⟨(some 12), .mv (.t 13), none⟩])
  (.cond (.t 12)
  (.exit 3)
  .skip))))
  (.exit 0)))
  (.reg [⟨(some 14), .mv (.t 7), none⟩,
    ⟨(some 15), .bin .add (.t 14) (.c (.i .i64 1)), none⟩,
    ⟨(some 7), .mv (.t 15), none⟩])))
  (.reg [⟨(some 16), .mv (.t 7), none⟩,
    ⟨(some 17), .bin .add (.t 16) (.c (.i .i64 1)), none⟩,
    ⟨(some 7), .mv (.t 17), none⟩])))
  (.seq [7] (.reg [⟨(some 18), .mv (.t 7), none⟩,
    ⟨(some 19), .bin .add (.t 18) (.c (.i .i64 1)), none⟩,
    ⟨(some 7), .mv (.t 19), none⟩])
  (.exit 0))))
  (.seq [6] (.reg [⟨(some 20), .mv (.t 7), none⟩,
    ⟨(some 6), .mv (.t 20), none⟩])
  .ret))))
theorem ree113 : Tryz.f113.body.bind (res Tryz.prog Tryz.f113.ntmps [] []) = some (erase ae113) := by kernel_rfl
def fs113 : FnS := .fn 21 ae113 [.t 6]
theorem fsok113 : FnOk Tryz.prog 113 fs113 := fun _ _ _ hn h => ctr_of_resC Tryz.func113 (by kernel_rfl) ree113 (by kernel_rfl) hn h
abbrev ae114 : ACode := (.seq [0, 1] (.reg [⟨(some 4), .mv (.c (.b false)), none⟩])
  (.seq [4] (.reg [⟨(some 5), .mv (.t 0), none⟩,
    ⟨(some 6), .mv (.t 1), none⟩,
    ⟨(some 7), .bin .shr (.t 5) (.t 6), none⟩,
    ⟨(some 8), .bin .and (.t 7) (.c (.i .u64 1)), none⟩,
    ⟨(some 9), .bin .eql (.t 8) (.c (.i .u64 1)), none⟩,
    ⟨(some 4), .mv (.t 9), none⟩])
  .ret))
theorem ree114 : Tryz.f114.body.bind (res Tryz.prog Tryz.f114.ntmps [] []) = some (erase ae114) := by kernel_rfl
def fs114 : FnS := .fn 10 ae114 [.t 4]
theorem fsok114 : FnOk Tryz.prog 114 fs114 := fun _ _ _ hn h => ctr_of_resC Tryz.func114 (by kernel_rfl) ree114 (by kernel_rfl) hn h
abbrev ae115 : ACode := (.seq [0, 1] (.reg [⟨(some 4), .mv (.c (.i .u64 0)), none⟩,
    ⟨(some 5), .mv (.c (.i .u64 0)), none⟩])
  (.seq [0, 1] (.cond (.c (.b false))
  (.seq [6, 7] (.reg [⟨(some 11), .mv (.t 0), none⟩,
    ⟨(some 12), .conv .u32 (.t 11), none⟩,
    ⟨(some 13), .mv (.t 1), none⟩,
    ⟨(some 14), .conv .u32 (.t 13), none⟩,
    ⟨(some 15), .call 170 [(.t 12), (.t 14)], none⟩,
    ⟨(some 10), .mv (.t 15), none⟩,
    ⟨(some 16), .extract 0 (.t 10), none⟩,
    ⟨(some 17), .extract 1 (.t 10), none⟩,
    ⟨(some 6), .mv (.t 16), none⟩,
    ⟨(some 7), .mv (.t 17), none⟩])
  (.seq [4, 5] (.reg [⟨(some 18), .mv (.t 6), none⟩,
    ⟨(some 19), .conv .u64 (.t 18), none⟩,
    ⟨(some 20), .mv (.t 7), none⟩,
    ⟨(some 21), .conv .u64 (.t 20), none⟩,
    ⟨(some 4), .mv (.t 19), none⟩,
    ⟨(some 5), .mv (.t 21), none⟩])
  .ret))
  .skip)
  (.seq [8, 9] (.reg [⟨(some 23), .mv (.t 0), none⟩,
    ⟨(some 24), .mv (.t 1), none⟩,
    ⟨(some 25), .call 171 [(.t 23), (.t 24)], none⟩,
    ⟨(some 22), .mv (.t 25), none⟩,
    ⟨(some 26), .extract 0 (.t 22), none⟩,
    ⟨(some 27), .extract 1 (.t 22), none⟩,
    ⟨(some 8), .mv (.t 26), none⟩,
    ⟨(some 9), .mv (.t 27), none⟩])
  (.seq [4, 5] (.reg [⟨(some 28), .mv (.t 8), none⟩,
    ⟨(some 29), .mv (.t 9), none⟩,
    ⟨(some 4), .mv (.t 28), none⟩,
    ⟨(some 5), .mv (.t 29), none⟩])
  .ret))))
theorem ree115 : Tryz.f115.body.bind (res Tryz.prog Tryz.f115.ntmps [] []) = some (erase ae115) := by kernel_rfl
def fs115 : FnS := .fn 30 ae115 [.t 4, .t 5]
theorem fsok115 : FnOk Tryz.prog 115 fs115 := fun _ _ _ hn h => ctr_of_resC Tryz.func115 (by kernel_rfl) ree115 (by kernel_rfl) hn h
abbrev ae116 : ACode := (.seq [2, 3] (.reg [⟨(some 2), .box (.t 0), none⟩,
    ⟨(some 3), .box (.t 1), none⟩,
    ⟨(some 4), .mv (.c (.i .i64 0)), none⟩])
  (.seq [6] (.reg [⟨(some 8), .load (some 2) (.t 2), none⟩,
    ⟨(some 9), .load (some 6) (.t 3), none⟩,
    ⟨(some 10), .bslice 6 1 [(.i .i64 0), (.i .i64 0), (.l [] true), (.i .i64 0), (.i .i64 0), (.l [] true)] [(0, (.t 9))], none⟩,
    ⟨(some 11), .call 119 [(.t 8), (.t 10)], none⟩,
    ⟨(some 7), .mv (.t 11), none⟩,
    ⟨(some 12), .extract 0 (.t 7), none⟩,
    ⟨(some 13), .extract 1 (.t 7), none⟩,
    ⟨(some 5), .mv (.t 12), none⟩,
    ⟨(some 6), .mv (.t 13), none⟩])
  (.seq [4] (.reg [⟨(some 14), .mv (.t 6), none⟩,
    ⟨(some 15), .call 172 [(.t 14)], none⟩,
    ⟨(some 4), .mv (.t 15), none⟩])
  .ret)))
theorem ree116 : Tryz.f116.body.bind (res Tryz.prog Tryz.f116.ntmps [] []) = some (erase ae116) := by kernel_rfl
def fs116 : FnS := .fn 16 ae116 [.t 4]
theorem fsok116 : FnOk Tryz.prog 116 fs116 := fun _ _ _ hn h => ctr_of_resC Tryz.func116 (by kernel_rfl) ree116 (by kernel_rfl) hn h
abbrev ae117 : ACode := (.seq [1, 2] (.reg [⟨(some 1), .box (.t 0), none⟩,
    ⟨(some 2), .alloc [(.i .i64 0), (.i .i64 0), (.l [] true), (.i .i64 0), (.i .i64 0), (.l [] true)], none⟩])
  (.seq [1, 2, 3] (.reg [⟨(some 6), .load (some 6) (.t 1), none⟩,
    ⟨(some 3), .alloc [(.i .i64 0), (.i .i64 0), (.l [] true), (.i .i64 0), (.i .i64 0), (.l [] true)], none⟩,
    ⟨none, .store 6 (.t 3) (.t 6), none⟩])
  (.seq [1, 2, 3] (.reg [⟨(some 7), .faddr 2 (.t 1), none⟩,
    ⟨(some 8), .load none (.t 7), none⟩,
    ⟨(some 9), .call 149 [(.t 8)], none⟩,
    ⟨(some 10), .faddr 2 (.t 3), none⟩,
    ⟨none, .store 1 (.t 10) (.t 9), none⟩,
    ⟨(some 11), .faddr 5 (.t 3), none⟩,
    ⟨none, .store 1 (.t 11) (.c (.l [] true)), none⟩])
  (.seq [2, 3] (.seq [2, 3, 13, 14, 15] (.reg [⟨(some 12), .faddr 5 (.t 1), none⟩,
    ⟨(some 13), .load none (.t 12), none⟩,
    ⟨(some 14), .len (.t 13), none⟩,
    ⟨(some 15), .mv (.c (.i .i64 0)), none⟩])
  (.block 0 (.loop [2, 3, 13, 14, 15] (.seq [2, 3, 13, 14, 15, 16] (.reg [⟨(some 16), .bin .lss (.t 15) (.t 14), none⟩])
  (.seq [2, 3, 13, 14, 15] (.cond (.t 16)
  .skip
  (.exit 0))
  (.seq [2, 3, 13, 14, 15] (.block 1 (.seq [2, 3, 5, 13, 14, 15] (.reg [⟨(some 17), .iaddr 6 none (.t 13) (.t 15), none⟩,
    ⟨(some 18), .load (some 6) (.t 17), none⟩,
    ⟨(some 5), .alloc [(.i .i64 0), (.i .i64 0), (.l [] true), (.i .i64 0), (.i .i64 0), (.l [] true)], none⟩,
    ⟨none, .store 6 (.t 5) (.t 18), none⟩])
  (.dreg [2, 3, 13, 14, 15] [⟨0, ⟨(some 19), .faddr 5 (.t 3), none⟩, [], []⟩,
    ⟨1, ⟨(some 20), .load none (.t 19), none⟩, [], []⟩,
    ⟨2, ⟨(some 21), .load (some 6) (.t 5), none⟩, [], []⟩,
    ⟨3, ⟨(some 22), .call 117 [(.t 21)], none⟩, [1], [⟨(some 20), .load none (.t 19), none⟩]⟩,
    ⟨4, ⟨(some 23), .bslice 6 1 [(.i .i64 0), (.i .i64 0), (.l [] true), (.i .i64 0), (.i .i64 0), (.l [] true)] [(0, (.t 22))], none⟩, [], []⟩,
    ⟨5, ⟨(some 24), .append 6 80 (.t 20) (.t 23), none⟩, [], []⟩,
    ⟨6, ⟨(some 25), .faddr 5 (.t 3), none⟩, [], []⟩,
    ⟨7, ⟨none, .store 1 (.t 25) (.t 24), none⟩, [], []⟩])))
  (.reg [⟨(some 26), .bin .add (.t 15) (.c (.i .i64 1)), none⟩,
    ⟨(some 15), .mv (.t 26), none⟩])))))))
  (.seq [2] (.reg [⟨(some 27), .load (some 6) (.t 3), none⟩,
    ⟨none, .store 6 (.t 2) (.t 27), none⟩])
  .ret)))))
theorem ree117 : Tryz.f117.body.bind (res Tryz.prog Tryz.f117.ntmps [] []) = some (erase ae117) := by kernel_rfl
def fs117 : FnS := .fn 28 ae117 [.c 2 (some 6)]
theorem fsok117 : FnOk Tryz.prog 117 fs117 := fun _ _ _ hn h => ctr_of_resC Tryz.func117 (by kernel_rfl) ree117 (by kernel_rfl) hn h
abbrev ae94 : ACode := (.seq [1] (.reg [⟨(some 1), .box (.t 0), none⟩,
    ⟨(some 2), .mv (.c (.i .i64 0)), none⟩])
  (.seq [] (.seq [4] (.reg [⟨(some 6), .load (some 6) (.t 1), none⟩,
    ⟨(some 7), .call 151 [(.t 6)], none⟩,
    ⟨(some 5), .mv (.t 7), none⟩,
    ⟨(some 8), .extract 0 (.t 5), none⟩,
    ⟨(some 9), .extract 1 (.t 5), none⟩,
    ⟨(some 3), .mv (.t 8), none⟩,
    ⟨(some 4), .mv (.t 9), none⟩])
  (.seq [11] (.reg [⟨(some 10), .mv (.t 4), none⟩,
    ⟨(some 11), .not (.t 10), none⟩])
  (.cond (.t 11)
  (.seq [2] (.reg [⟨(some 2), .mv (.c (.i .i64 2)), none⟩])
  .ret)
  .skip)))
  (.seq [2] (.reg [⟨(some 2), .mv (.c (.i .i64 0)), none⟩])
  .ret)))
theorem ree94 : Tryz.f94.body.bind (res Tryz.prog Tryz.f94.ntmps [] []) = some (erase ae94) := by kernel_rfl
def fs94 : FnS := .fn 12 ae94 [.t 2]
theorem fsok94 : FnOk Tryz.prog 94 fs94 := fun _ _ _ hn h => ctr_of_resC Tryz.func94 (by kernel_rfl) ree94 (by kernel_rfl) hn h
abbrev ae118 : ACode := (.seq [1, 2] (.reg [⟨(some 1), .box (.t 0), none⟩,
    ⟨(some 2), .alloc [(.l [] true), (.l [] true)], none⟩])
  (.seq [1, 2, 3] (.reg [⟨(some 6), .load (some 6) (.t 1), none⟩,
    ⟨(some 7), .call 173 [(.t 6)], none⟩,
    ⟨(some 8), .build [(.l [] true), (.l [] true)] [(0, 1, (.t 7))], none⟩,
    ⟨(some 3), .alloc [(.l [] true), (.l [] true)], none⟩,
    ⟨none, .store 2 (.t 3) (.t 8), none⟩])
  (.seq [2, 3] (.seq [2, 3, 10, 11, 12] (.reg [⟨(some 9), .faddr 0 (.t 1), none⟩,
    ⟨(some 10), .load none (.t 9), none⟩,
    ⟨(some 11), .len (.t 10), none⟩,
    ⟨(some 12), .mv (.c (.i .i64 0)), none⟩])
  (.block 0 (.loop [2, 3, 10, 11, 12] (.seq [2, 3, 10, 11, 12, 13] (.reg [⟨(some 13), .bin .lss (.t 12) (.t 11), none⟩])
  (.seq [2, 3, 10, 11, 12] (.cond (.t 13)
  .skip
  (.exit 0))
  (.seq [2, 3, 10, 11, 12] (.block 1 (.seq [2, 3, 4, 5, 10, 11, 12] (.reg [⟨(some 14), .mv (.t 12), none⟩,
    ⟨(some 15), .iaddr 3 none (.t 10) (.t 12), none⟩,
    ⟨(some 16), .load (some 3) (.t 15), none⟩,
    ⟨(some 5), .alloc [(.l [] true), (.l [] true), (.l [] true)], none⟩,
    ⟨(some 4), .mv (.t 14), none⟩,
    ⟨none, .store 3 (.t 5) (.t 16), none⟩])
  (.seq [2, 3, 4, 10, 11, 12, 19, 20] (.reg [⟨(some 17), .faddr 1 (.t 5), none⟩,
    ⟨(some 18), .load none (.t 17), none⟩,
    ⟨(some 19), .len (.t 18), none⟩,
    ⟨(some 20), .mv (.c (.i .i64 0)), none⟩])
  (.block 2 (.loop [2, 3, 4, 10, 11, 12, 19, 20] (.seq [2, 3, 4, 10, 11, 12, 19, 20, 21] (.reg [⟨(some 21), .bin .lss (.t 20) (.t 19), none⟩])
  (.seq [2, 3, 4, 10, 11, 12, 19, 20] (.cond (.t 21)
  .skip
  (.exit 2))
  (.seq [2, 3, 4, 10, 11, 12, 19, 20] (.block 3 (.reg [⟨(some 22), .faddr 1 (.t 3), none⟩,
    ⟨(some 23), .load none (.t 22), none⟩,
    ⟨(some 24), .mv (.t 4), none⟩,
    ⟨(some 25), .bin .add (.t 24) (.c (.i .i64 3)), none⟩,
    ⟨(some 26), .bslice 1 1 [(.i .i64 0)] [(0, (.t 25))], none⟩,
    ⟨(some 27), .append 1 8 (.t 23) (.t 26), none⟩,
    ⟨(some 28), .faddr 1 (.t 3), none⟩,
    ⟨none, .store 1 (.t 28) (.t 27), none⟩]))
  (.reg [⟨(some 29), .bin .add (.t 20) (.c (.i .i64 1)), none⟩,
    ⟨(some 20), .mv (.t 29), none⟩])))))))))
  (.reg [⟨(some 30), .bin .add (.t 12) (.c (.i .i64 1)), none⟩,
    ⟨(some 12), .mv (.t 30), none⟩])))))))
  (.seq [2] (.reg [⟨(some 31), .load (some 2) (.t 3), none⟩,
    ⟨none, .store 2 (.t 2) (.t 31), none⟩])
  .ret))))
theorem ree118 : Tryz.f118.body.bind (res Tryz.prog Tryz.f118.ntmps [] []) = some (erase ae118) := by kernel_rfl
def fs118 : FnS := .fnz 32 ae118 [.c 2 (some 2)]
theorem fsok118 : FnOk Tryz.prog 118 fs118 := fun _ _ _ hn h => ctr_of_resC Tryz.func118 (by kernel_rfl) ree118 (by kernel_rfl) hn h
abbrev ae119 : ACode := (.seq [1, 2] (.reg [⟨(some 2), .box (.t 0), none⟩,
    ⟨(some 4), .mv (.c .pn), none⟩,
    ⟨(some 5), .mv (.c (.b false)), none⟩])
  (.seq [1, 6, 7] (.reg [⟨(some 9), .load (some 2) (.t 2), none⟩,
    ⟨(some 10), .call 174 [(.t 9)], none⟩,
    ⟨(some 8), .mv (.t 10), none⟩,
    ⟨(some 11), .extract 0 (.t 8), none⟩,
    ⟨(some 12), .extract 1 (.t 8), none⟩,
    ⟨(some 6), .mv (.t 11), none⟩,
    ⟨(some 7), .mv (.t 12), none⟩])
  (.seq [4, 5] (.reg [⟨(some 13), .mv (.t 6), none⟩,
    ⟨(some 14), .mv (.t 7), none⟩,
    ⟨(some 15), .mv (.t 14), none⟩,
    ⟨(some 16), .mv (.t 6), (some (15, true))⟩,
    ⟨(some 17), .mv (.t 1), (some (15, true))⟩,
    ⟨(some 18), .call 175 [(.t 16), (.t 17)], (some (15, true))⟩,
    ⟨(some 19), .pick (.t 15) (.t 18) (.c (.b false)), none⟩,
    ⟨(some 4), .mv (.t 13), none⟩,
    ⟨(some 5), .mv (.t 19), none⟩])
  .ret)))
theorem ree119 : Tryz.f119.body.bind (res Tryz.prog Tryz.f119.ntmps [] []) = some (erase ae119) := by kernel_rfl
def fs119 : FnS := .fn 20 ae119 [.t 4, .t 5]
theorem fsok119 : FnOk Tryz.prog 119 fs119 := fun _ _ _ hn h => ctr_of_resC Tryz.func119 (by kernel_rfl) ree119 (by kernel_rfl) hn h
abbrev ae120 : ACode := (.seq [2, 3, 4] (.reg [⟨(some 2), .box (.t 0), none⟩,
    ⟨(some 3), .box (.t 1), none⟩,
    ⟨(some 4), .alloc [(.i .i64 0), (.i .i64 0), (.l [] true), (.i .i64 0), (.i .i64 0), (.l [] true)], none⟩,
    ⟨(some 5), .mv (.c (.b false)), none⟩])
  (.seq [2, 3, 4, 6, 7] (.reg [⟨(some 11), .build [(.i .i64 0), (.i .i64 0), (.l [] true), (.i .i64 0), (.i .i64 0), (.l [] true)] [(0, 1, (.c (.i .i64 1)))], none⟩,
    ⟨(some 12), .build [(.i .i64 0), (.i .i64 0), (.l [] true), (.i .i64 0), (.i .i64 0), (.l [] true)] [(0, 1, (.c (.i .i64 1)))], none⟩,
    ⟨(some 13), .call 176 [(.t 12)], none⟩,
    ⟨(some 6), .alloc [(.i .i64 0), (.i .i64 0), (.l [] true), (.i .i64 0), (.i .i64 0), (.l [] true)], none⟩,
    ⟨(some 7), .alloc [(.i .i64 0), (.i .i64 0), (.l [] true), (.i .i64 0), (.i .i64 0), (.l [] true)], none⟩,
    ⟨none, .store 6 (.t 6) (.t 11), none⟩,
    ⟨none, .store 6 (.t 7) (.t 13), none⟩])
  (.seq [2, 3, 4, 6, 7, 8, 9] (.reg [⟨(some 14), .load (some 6) (.t 3), none⟩,
    ⟨(some 8), .alloc [(.i .i64 0), (.i .i64 0), (.l [] true), (.i .i64 0), (.i .i64 0), (.l [] true)], none⟩,
    ⟨(some 9), .alloc [(.i .i64 0)], none⟩,
    ⟨none, .store 6 (.t 8) (.t 14), none⟩,
    ⟨none, .store 1 (.t 9) (.c (.i .i64 (-1))), none⟩])
  (.seq [4, 8, 10] (.reg [⟨(some 15), .load (some 6) (.t 3), none⟩,
    ⟨(some 16), .mkf (.func 178) [] [(.t 9), (.t 6), (.t 7), (.t 3), (.t 2), (.t 8)], none⟩,
    ⟨(some 17), .call 177 [(.t 15), (.t 16)], none⟩,
    ⟨(some 10), .mv (.t 17), none⟩])
  (.seq [4, 5] (.reg [⟨(some 18), .load (some 6) (.t 8), none⟩,
    ⟨(some 19), .mv (.t 10), none⟩,
    ⟨none, .store 6 (.t 4) (.t 18), none⟩,
    ⟨(some 5), .mv (.t 19), none⟩])
  .ret)))))
theorem ree120 : Tryz.f120.body.bind (res Tryz.prog Tryz.f120.ntmps [] []) = some (erase ae120) := by kernel_rfl
def fs120 : FnS := .fn 20 ae120 [.c 4 (some 6), .t 5]
theorem fsok120 : FnOk Tryz.prog 120 fs120 := fun _ _ _ hn h => ctr_of_resC Tryz.func120 (by kernel_rfl) ree120 (by kernel_rfl) hn h
abbrev ae121 : ACode := (.seq [1, 2] (.reg [⟨(some 1), .box (.t 0), none⟩,
    ⟨(some 2), .alloc [(.i .i64 0), (.i .i64 0), (.l [] true), (.i .i64 0), (.i .i64 0), (.l [] true)], none⟩])
  (.seq [1, 2] (.reg [⟨(some 6), .faddr 2 (.t 1), none⟩,
    ⟨(some 7), .load none (.t 6), none⟩,
    ⟨(some 8), .call 149 [(.t 7)], none⟩,
    ⟨(some 9), .faddr 2 (.t 1), none⟩,
    ⟨none, .store 1 (.t 9) (.t 8), none⟩])
  (.seq [1, 2, 3] (.reg [⟨(some 10), .faddr 5 (.t 1), none⟩,
    ⟨(some 11), .load none (.t 10), none⟩,
    ⟨(some 3), .mv (.t 11), none⟩])
  (.seq [1, 2, 3] (.reg [⟨(some 12), .faddr 5 (.t 1), none⟩,
    ⟨none, .store 1 (.t 12) (.c (.l [] true)), none⟩])
  (.seq [1, 2] (.seq [1, 2, 13, 14, 15] (.reg [⟨(some 13), .mv (.t 3), none⟩,
    ⟨(some 14), .len (.t 13), none⟩,
    ⟨(some 15), .mv (.c (.i .i64 0)), none⟩])
  (.block 0 (.loop [1, 2, 13, 14, 15] (.seq [1, 2, 13, 14, 15, 16] (.reg [⟨(some 16), .bin .lss (.t 15) (.t 14), none⟩])
  (.seq [1, 2, 13, 14, 15] (.cond (.t 16)
  .skip
  (.exit 0))
  (.seq [1, 2, 13, 14, 15] (.block 1 (.seq [1, 2, 5, 13, 14, 15] (.reg [⟨(some 17), .iaddr 6 none (.t 13) (.t 15), none⟩,
    ⟨(some 18), .load (some 6) (.t 17), none⟩,
    ⟨(some 5), .alloc [(.i .i64 0), (.i .i64 0), (.l [] true), (.i .i64 0), (.i .i64 0), (.l [] true)], none⟩,
    ⟨none, .store 6 (.t 5) (.t 18), none⟩])
  (.dreg [1, 2, 13, 14, 15] [⟨0, ⟨(some 19), .faddr 5 (.t 1), none⟩, [], []⟩,
    ⟨1, ⟨(some 20), .load none (.t 19), none⟩, [], []⟩,
    ⟨2, ⟨(some 21), .load (some 6) (.t 5), none⟩, [], []⟩,
    ⟨3, ⟨(some 22), .call 121 [(.t 21)], none⟩, [1], [⟨(some 20), .load none (.t 19), none⟩]⟩,
    ⟨4, ⟨(some 23), .bslice 6 1 [(.i .i64 0), (.i .i64 0), (.l [] true), (.i .i64 0), (.i .i64 0), (.l [] true)] [(0, (.t 22))], none⟩, [], []⟩,
    ⟨5, ⟨(some 24), .append 6 80 (.t 20) (.t 23), none⟩, [], []⟩,
    ⟨6, ⟨(some 25), .faddr 5 (.t 1), none⟩, [], []⟩,
    ⟨7, ⟨none, .store 1 (.t 25) (.t 24), none⟩, [], []⟩])))
  (.reg [⟨(some 26), .bin .add (.t 15) (.c (.i .i64 1)), none⟩,
    ⟨(some 15), .mv (.t 26), none⟩])))))))
  (.seq [2] (.reg [⟨(some 27), .load (some 6) (.t 1), none⟩,
    ⟨none, .store 6 (.t 2) (.t 27), none⟩])
  .ret))))))
theorem ree121 : Tryz.f121.body.bind (res Tryz.prog Tryz.f121.ntmps [] []) = some (erase ae121) := by kernel_rfl
def fs121 : FnS := .fn 28 ae121 [.c 2 (some 6)]
theorem fsok121 : FnOk Tryz.prog 121 fs121 := fun _ _ _ hn h => ctr_of_resC Tryz.func121 (by kernel_rfl) ree121 (by kernel_rfl) hn h
abbrev ae122 : ACode := (.seq [0, 1] (.reg [⟨(some 4), .mv (.c (.i .i64 0)), none⟩])
  (.seq [] (.seq [0, 1, 7, 8] (.reg [⟨(some 6), .mv (.t 0), none⟩,
    ⟨(some 7), .len (.t 6), none⟩,
    ⟨(some 8), .mv (.c (.i .i64 0)), none⟩])
  (.block 0 (.loop [0, 1, 7, 8] (.seq [0, 1, 7, 8, 9] (.reg [⟨(some 9), .bin .lss (.t 8) (.t 7), none⟩])
  (.seq [0, 1, 7, 8] (.cond (.t 9)
  .skip
  (.exit 0))
  (.seq [0, 1, 7, 8] (.block 1 (.seq [0, 1, 5, 7, 8] (.reg [⟨(some 10), .mv (.t 8), none⟩,
    ⟨(some 5), .mv (.t 10), none⟩])
  (.seq [0, 1, 5, 7, 8, 16] (.reg [⟨(some 11), .mv (.t 1), none⟩,
    ⟨(some 12), .mv (.t 0), none⟩,
    ⟨(some 13), .mv (.t 5), none⟩,
    ⟨(some 14), .iaddr 1 none (.t 12) (.t 13), none⟩,
    ⟨(some 15), .load none (.t 14), none⟩,
    ⟨(some 16), .bin .eql (.t 11) (.t 15), none⟩])
  (.cond (.t 16)
  (.seq [4] (.reg [⟨(some 17), .mv (.t 5), none⟩,
    ⟨(some 4), .mv (.t 17), none⟩])
  .ret)
  .skip))))
  (.reg [⟨(some 18), .bin .add (.t 8) (.c (.i .i64 1)), none⟩,
    ⟨(some 8), .mv (.t 18), none⟩])))))))
  (.seq [4] (.reg [⟨(some 4), .mv (.c (.i .i64 (-1))), none⟩])
  .ret)))
theorem ree122 : Tryz.f122.body.bind (res Tryz.prog Tryz.f122.ntmps [] []) = some (erase ae122) := by kernel_rfl
def fs122 : FnS := .fn 19 ae122 [.t 4]
theorem fsok122 : FnOk Tryz.prog 122 fs122 := fun _ _ _ hn h => ctr_of_resC Tryz.func122 (by kernel_rfl) ree122 (by kernel_rfl) hn h
abbrev ae123 : ACode := (.seq [2, 3, 4] (.reg [⟨(some 2), .box (.t 0), none⟩,
    ⟨(some 3), .box (.t 1), none⟩,
    ⟨(some 4), .alloc [(.i .i64 0), (.i .i64 0), (.l [] true), (.i .i64 0), (.i .i64 0), (.l [] true)], none⟩])
  (.seq [4] (.reg [⟨(some 5), .load (some 6) (.t 2), none⟩,
    ⟨(some 6), .load (some 6) (.t 3), none⟩,
    ⟨(some 7), .bslice 6 2 [(.i .i64 0), (.i .i64 0), (.l [] true), (.i .i64 0), (.i .i64 0), (.l [] true)] [(0, (.t 5)), (1, (.t 6))], none⟩,
    ⟨(some 8), .build [(.i .i64 0), (.i .i64 0), (.l [] true), (.i .i64 0), (.i .i64 0), (.l [] true)] [(0, 1, (.c (.i .i64 7))), (5, 1, (.t 7))], none⟩,
    ⟨none, .store 6 (.t 4) (.t 8), none⟩])
  .ret))
theorem ree123 : Tryz.f123.body.bind (res Tryz.prog Tryz.f123.ntmps [] []) = some (erase ae123) := by kernel_rfl
def fs123 : FnS := .fn 9 ae123 [.c 4 (some 6)]
theorem fsok123 : FnOk Tryz.prog 123 fs123 := fun _ _ _ hn h => ctr_of_resC Tryz.func123 (by kernel_rfl) ree123 (by kernel_rfl) hn h
abbrev ae104 : ACode := (.seq [0, 1] (.reg [⟨(some 4), .mv (.c (.i .i64 0)), none⟩])
  (.seq [] (.seq [0, 1, 7, 8] (.reg [⟨(some 6), .mv (.t 0), none⟩,
    ⟨(some 7), .len (.t 6), none⟩,
    ⟨(some 8), .mv (.c (.i .i64 0)), none⟩])
  (.block 0 (.loop [0, 1, 7, 8] (.seq [0, 1, 7, 8, 9] (.reg [⟨(some 9), .bin .lss (.t 8) (.t 7), none⟩])
  (.seq [0, 1, 7, 8] (.cond (.t 9)
  .skip
  (.exit 0))
  (.seq [0, 1, 7, 8] (.block 1 (.seq [0, 1, 5, 7, 8] (.reg [⟨(some 10), .mv (.t 8), none⟩,
    ⟨(some 5), .mv (.t 10), none⟩])
  (.seq [0, 1, 5, 7, 8, 16] (.reg [⟨(some 11), .mv (.t 1), none⟩,
    ⟨(some 12), .mv (.t 0), none⟩,
    ⟨(some 13), .mv (.t 5), none⟩,
    ⟨(some 14), .iaddr 1 none (.t 12) (.t 13), none⟩,
    ⟨(some 15), .load none (.t 14), none⟩,
    ⟨(some 16), .callv (.t 11) [(.t 15)], none⟩])
  (.cond (.t 16)
  (.seq [4] (.reg [⟨(some 17), .mv (.t 5), none⟩,
    ⟨(some 4), .mv (.t 17), none⟩])
  .ret)
  .skip))))
  (.reg [⟨(some 18), .bin .add (.t 8) (.c (.i .i64 1)), none⟩,
    ⟨(some 8), .mv (.t 18), none⟩])))))))
  (.seq [4] (.reg [⟨(some 4), .mv (.c (.i .i64 (-1))), none⟩])
  .ret)))
theorem ree104 : Tryz.f104.body.bind (res Tryz.prog Tryz.f104.ntmps [] []) = some (erase ae104) := by kernel_rfl
def fs104 : FnS := .fn 19 ae104 [.t 4]
theorem fsok104 : FnOk Tryz.prog 104 fs104 := fun _ _ _ hn h => ctr_of_resC Tryz.func104 (by kernel_rfl) ree104 (by kernel_rfl) hn h
abbrev ae157 : ACode := (.seq [1] (.reg [⟨(some 1), .box (.t 0), none⟩,
    ⟨(some 2), .mv (.c .pn), none⟩])
  (.seq [1, 3] (.reg [⟨(some 10), .load (some 2) (.t 1), none⟩,
    ⟨(some 11), .build [(.l [] true), (.l [] true), (.l [] true)] [(0, 2, (.t 10))], none⟩,
    ⟨(some 12), .box (.t 11), none⟩,
    ⟨(some 3), .mv (.t 12), none⟩])
  (.seq [1, 3] (.seq [1, 3, 13] (.reg [⟨(some 13), .mv (.c (.i .i64 0)), none⟩])
  (.block 0 (.loop [1, 3, 13] (.seq [1, 3, 13, 14] (.reg [⟨(some 14), .bin .lss (.t 13) (.c (.i .i64 3)), none⟩])
  (.seq [1, 3, 13] (.cond (.t 14)
  .skip
  (.exit 0))
  (.seq [1, 3, 13] (.block 1 (.seq [1, 3, 4, 13] (.reg [⟨(some 15), .mv (.t 13), none⟩,
    ⟨(some 4), .mv (.t 15), none⟩])
  (.dreg [1, 3, 13] [⟨0, ⟨(some 16), .mv (.t 3), none⟩, [], []⟩,
    ⟨1, ⟨(some 17), .mv (.t 3), none⟩, [], []⟩,
    ⟨2, ⟨(some 18), .nilck (.t 17), none⟩, [], []⟩,
    ⟨3, ⟨(some 19), .faddr 2 (.t 18), none⟩, [], []⟩,
    ⟨4, ⟨(some 20), .load none (.t 19), none⟩, [], []⟩,
    ⟨5, ⟨(some 21), .mv (.t 4), none⟩, [], []⟩,
    ⟨6, ⟨(some 22), .call 164 [(.c (.i .u64 1)), (.t 21)], none⟩, [4], [⟨(some 20), .load none (.t 19), none⟩]⟩,
    ⟨7, ⟨(some 23), .bslice 1 1 [(.i .u64 0)] [(0, (.t 22))], none⟩, [], []⟩,
    ⟨8, ⟨(some 24), .append 1 8 (.t 20) (.t 23), none⟩, [], []⟩,
    ⟨9, ⟨(some 25), .nilck (.t 16), none⟩, [], []⟩,
    ⟨10, ⟨(some 26), .faddr 2 (.t 25), none⟩, [], []⟩,
    ⟨11, ⟨none, .store 1 (.t 26) (.t 24), none⟩, [], []⟩])))
  (.reg [⟨(some 27), .bin .add (.t 13) (.c (.i .i64 1)), none⟩,
    ⟨(some 13), .mv (.t 27), none⟩])))))))
  (.seq [3] (.seq [3, 29, 30, 31] (.reg [⟨(some 28), .faddr 0 (.t 1), none⟩,
    ⟨(some 29), .load none (.t 28), none⟩,
    ⟨(some 30), .len (.t 29), none⟩,
    ⟨(some 31), .mv (.c (.i .i64 0)), none⟩])
  (.block 2 (.loop [3, 29, 30, 31] (.seq [3, 29, 30, 31, 32] (.reg [⟨(some 32), .bin .lss (.t 31) (.t 30), none⟩])
  (.seq [3, 29, 30, 31] (.cond (.t 32)
  .skip
  (.exit 2))
  (.seq [3, 29, 30, 31] (.block 3 (.seq [3, 5, 6, 29, 30, 31] (.reg [⟨(some 33), .mv (.t 31), none⟩,
    ⟨(some 34), .iaddr 1 none (.t 29) (.t 31), none⟩,
    ⟨(some 35), .load none (.t 34), none⟩,
    ⟨(some 5), .mv (.t 33), none⟩,
    ⟨(some 6), .mv (.t 35), none⟩])
  (.seq [3, 6, 7, 29, 30, 31] (.reg [⟨(some 36), .mv (.t 5), none⟩,
    ⟨(some 37), .bin .add (.c (.i .i64 3)) (.t 36), none⟩,
    ⟨(some 38), .call 164 [(.c (.i .u64 1)), (.t 37)], none⟩,
    ⟨(some 7), .mv (.t 38), none⟩])
  (.seq [3, 7, 29, 30, 31] (.seq [3, 7, 29, 30, 31, 39, 40, 41] (.reg [⟨(some 39), .mv (.t 6), none⟩,
    ⟨(some 40), .len (.t 39), none⟩,
    ⟨(some 41), .mv (.c (.i .i64 0)), none⟩])
  (.block 4 (.loop [3, 7, 29, 30, 31, 39, 40, 41] (.seq [3, 7, 29, 30, 31, 39, 40, 41, 42] (.reg [⟨(some 42), .bin .lss (.t 41) (.t 40), none⟩])
  (.seq [3, 7, 29, 30, 31, 39, 40, 41] (.cond (.t 42)
  .skip
  (.exit 4))
  (.seq [3, 7, 29, 30, 31, 39, 40, 41] (.block 5 (.seq [3, 7, 9, 29, 30, 31, 39, 40, 41] (.reg [⟨(some 43), .iaddr 1 none (.t 39) (.t 41), none⟩,
    ⟨(some 44), .load none (.t 43), none⟩,
    ⟨(some 9), .mv (.t 44), none⟩])
  (.reg [⟨(some 45), .mv (.t 7), none⟩,
    ⟨(some 46), .mv (.t 3), none⟩,
    ⟨(some 47), .nilck (.t 46), none⟩,
    ⟨(some 48), .faddr 2 (.t 47), none⟩,
    ⟨(some 49), .load none (.t 48), none⟩,
    ⟨(some 50), .mv (.t 9), none⟩,
    ⟨(some 51), .iaddr 1 none (.t 49) (.t 50), none⟩,
    ⟨(some 52), .load none (.t 51), none⟩,
    ⟨(some 53), .bin .or (.t 45) (.t 52), none⟩,
    ⟨(some 7), .mv (.t 53), none⟩])))
  (.reg [⟨(some 54), .bin .add (.t 41) (.c (.i .i64 1)), none⟩,
    ⟨(some 41), .mv (.t 54), none⟩])))))))
  (.reg [⟨(some 55), .mv (.t 3), none⟩,
    ⟨(some 56), .mv (.t 3), none⟩,
    ⟨(some 57), .nilck (.t 56), none⟩,
    ⟨(some 58), .faddr 2 (.t 57), none⟩,
    ⟨(some 59), .load none (.t 58), none⟩,
    ⟨(some 60), .mv (.t 7), none⟩,
    ⟨(some 61), .bslice 1 1 [(.i .u64 0)] [(0, (.t 60))], none⟩,
    ⟨(some 62), .append 1 8 (.t 59) (.t 61), none⟩,
    ⟨(some 63), .nilck (.t 55), none⟩,
    ⟨(some 64), .faddr 2 (.t 63), none⟩,
    ⟨none, .store 1 (.t 64) (.t 62), none⟩])))))
  (.reg [⟨(some 65), .bin .add (.t 31) (.c (.i .i64 1)), none⟩,
    ⟨(some 31), .mv (.t 65), none⟩])))))))
  (.seq [2] (.reg [⟨(some 66), .mv (.t 3), none⟩,
    ⟨(some 2), .mv (.t 66), none⟩])
  .ret)))))
theorem ree157 : Tryz.f157.body.bind (res Tryz.prog Tryz.f157.ntmps [] []) = some (erase ae157) := by kernel_rfl
def fs157 : FnS := .fnz 67 ae157 [.t 2]
theorem fsok157 : FnOk Tryz.prog 157 fs157 := fun _ _ _ hn h => ctr_of_resC Tryz.func157 (by kernel_rfl) ree157 (by kernel_rfl) hn h
abbrev ae109 : ACode := (.seq [0, 1, 4] (.reg [⟨(some 4), .alloc [.pn, .mn], none⟩])
  (.seq [1, 4, 5] (.reg [⟨(some 12), .mv (.t 0), none⟩,
    ⟨(some 13), .mkmap, none⟩,
    ⟨(some 14), .build [.pn, .mn] [(0, 1, (.t 12)), (1, 1, (.t 13))], none⟩,
    ⟨(some 5), .alloc [.pn, .mn], none⟩,
    ⟨none, .store 2 (.t 5) (.t 14), none⟩])
  (.seq [4, 5] (.seq [4, 5, 15, 16, 17] (.reg [⟨(some 15), .mv (.t 1), none⟩,
    ⟨(some 16), .len (.t 15), none⟩,
    ⟨(some 17), .mv (.c (.i .i64 0)), none⟩])
  (.block 0 (.loop [4, 5, 15, 16, 17] (.seq [4, 5, 15, 16, 17, 18] (.reg [⟨(some 18), .bin .lss (.t 17) (.t 16), none⟩])
  (.seq [4, 5, 15, 16, 17] (.cond (.t 18)
  .skip
  (.exit 0))
  (.seq [4, 5, 15, 16, 17] (.block 1 (.seq [4, 5, 7, 15, 16, 17] (.reg [⟨(some 19), .iaddr 7 none (.t 15) (.t 17), none⟩,
    ⟨(some 20), .load (some 7) (.t 19), none⟩,
    ⟨(some 7), .alloc [(.i .i64 0), (.i .i64 0), (.l [] true), (.i .i64 0), (.i .i64 0), (.l [] true), (.b false)], none⟩,
    ⟨none, .store 7 (.t 7) (.t 20), none⟩])
  (.seq [4, 5, 7, 8, 15, 16, 17] (.reg [⟨(some 21), .faddr 0 (.t 7), none⟩,
    ⟨(some 22), .faddr 1 (.t 21), none⟩,
    ⟨(some 23), .load none (.t 22), none⟩,
    ⟨(some 24), .build [(.i .i64 0), (.i .i64 0), (.i .i64 0), (.i .i64 0)] [(0, 1, (.t 23))], none⟩,
    ⟨(some 8), .alloc [(.i .i64 0), (.i .i64 0), (.i .i64 0), (.i .i64 0)], none⟩,
    ⟨none, .store 4 (.t 8) (.t 24), none⟩])
  (.seq [4, 5, 7, 8, 9, 15, 16, 17] (.reg [⟨(some 25), .load (some 2) (.t 5), none⟩,
    ⟨(some 26), .load (some 4) (.t 8), none⟩,
    ⟨(some 27), .call 165 [(.t 25), (.t 26)], none⟩,
    ⟨(some 9), .mv (.t 27), none⟩])
  (.seq [4, 5, 7, 8, 9, 15, 16, 17] (.reg [⟨(some 28), .mv (.t 9), none⟩,
    ⟨(some 29), .mv (.t 9), none⟩,
    ⟨(some 30), .nilck (.t 29), none⟩,
    ⟨(some 31), .faddr 6 (.t 30), none⟩,
    ⟨(some 32), .load none (.t 31), none⟩,
    ⟨(some 33), .mv (.t 32), none⟩,
    ⟨(some 34), .faddr 6 (.t 7), (some (33, false))⟩,
    ⟨(some 35), .load none (.t 34), (some (33, false))⟩,
    ⟨(some 36), .not (.t 35), (some (33, false))⟩,
    ⟨(some 37), .pick (.t 33) (.c (.b true)) (.t 36), none⟩,
    ⟨(some 38), .nilck (.t 28), none⟩,
    ⟨(some 39), .faddr 6 (.t 38), none⟩,
    ⟨none, .store 1 (.t 39) (.t 37), none⟩])
  (.seq [4, 5, 7, 9, 15, 16, 17] (.seq [4, 5, 7, 8, 9, 15, 16, 17, 42, 43, 44] (.reg [⟨(some 40), .faddr 0 (.t 7), none⟩,
    ⟨(some 41), .faddr 2 (.t 40), none⟩,
    ⟨(some 42), .load none (.t 41), none⟩,
    ⟨(some 43), .len (.t 42), none⟩,
    ⟨(some 44), .mv (.c (.i .i64 0)), none⟩])
  (.block 2 (.loop [4, 5, 7, 8, 9, 15, 16, 17, 42, 43, 44] (.seq [4, 5, 7, 8, 9, 15, 16, 17, 42, 43, 44, 45] (.reg [⟨(some 45), .bin .lss (.t 44) (.t 43), none⟩])
  (.seq [4, 5, 7, 8, 9, 15, 16, 17, 42, 43, 44] (.cond (.t 45)
  .skip
  (.exit 2))
  (.seq [4, 5, 7, 8, 9, 15, 16, 17, 42, 43, 44] (.block 3 (.seq [4, 5, 7, 8, 9, 11, 15, 16, 17, 42, 43, 44] (.reg [⟨(some 46), .iaddr 1 none (.t 42) (.t 44), none⟩,
    ⟨(some 47), .load none (.t 46), none⟩,
    ⟨(some 11), .mv (.t 47), none⟩])
  (.seq [4, 5, 7, 8, 11, 15, 16, 17, 42, 43, 44] (.seq [4, 5, 7, 8, 9, 11, 15, 16, 17, 42, 43, 44, 54] (.reg [⟨(some 48), .mv (.t 9), none⟩,
    ⟨(some 49), .nilck (.t 48), none⟩,
    ⟨(some 50), .faddr 7 (.t 49), none⟩,
    ⟨(some 51), .load none (.t 50), none⟩,
    ⟨(some 52), .mv (.t 11), none⟩,
    ⟨(some 53), .call 67 [(.t 51), (.t 52)], none⟩,
    ⟨(some 54), .not (.t 53), none⟩])
  (.cond (.t 54)
  (.reg [⟨(some 55), .mv (.t 9), none⟩,
    ⟨(some 56), .mv (.t 9), none⟩,
    ⟨(some 57), .nilck (.t 56), none⟩,
    ⟨(some 58), .faddr 7 (.t 57), none⟩,
    ⟨(some 59), .load none (.t 58), none⟩,
    ⟨(some 60), .mv (.t 11), none⟩,
    ⟨(some 61), .bslice 1 1 [(.i .i64 0)] [(0, (.t 60))], none⟩,
    ⟨(some 62), .append 1 8 (.t 59) (.t 61), none⟩,
    ⟨(some 63), .nilck (.t 55), none⟩,
    ⟨(some 64), .faddr 7 (.t 63), none⟩,
    ⟨none, .store 1 (.t 64) (.t 62), none⟩])
  .skip))
  (.seq [4, 5, 7, 8, 15, 16, 17, 42, 43, 44] (.reg [⟨(some 65), .load (some 4) (.t 8), none⟩,
    ⟨(some 66), .mv (.t 11), none⟩,
    ⟨(some 67), .call 166 [(.t 65), (.t 66)], none⟩,
    ⟨none, .store 4 (.t 8) (.t 67), none⟩])
  (.seq [4, 5, 7, 8, 9, 15, 16, 17, 42, 43, 44] (.reg [⟨(some 68), .load (some 2) (.t 5), none⟩,
    ⟨(some 69), .load (some 4) (.t 8), none⟩,
    ⟨(some 70), .call 165 [(.t 68), (.t 69)], none⟩,
    ⟨(some 9), .mv (.t 70), none⟩])
  (.reg [⟨(some 71), .mv (.t 9), none⟩,
    ⟨(some 72), .mv (.t 9), none⟩,
    ⟨(some 73), .nilck (.t 72), none⟩,
    ⟨(some 74), .faddr 6 (.t 73), none⟩,
    ⟨(some 75), .load none (.t 74), none⟩,
    ⟨(some 76), .mv (.t 75), none⟩,
    ⟨(some 77), .faddr 6 (.t 7), (some (76, false))⟩,
    ⟨(some 78), .load none (.t 77), (some (76, false))⟩,
    ⟨(some 79), .not (.t 78), (some (76, false))⟩,
    ⟨(some 80), .pick (.t 76) (.c (.b true)) (.t 79), none⟩,
    ⟨(some 81), .nilck (.t 71), none⟩,
    ⟨(some 82), .faddr 6 (.t 81), none⟩,
    ⟨none, .store 1 (.t 82) (.t 80), none⟩]))))))
  (.reg [⟨(some 83), .bin .add (.t 44) (.c (.i .i64 1)), none⟩,
    ⟨(some 44), .mv (.t 83), none⟩])))))))
  (.reg [⟨(some 84), .mv (.t 9), none⟩,
    ⟨(some 85), .load (some 7) (.t 7), none⟩,
    ⟨(some 86), .call 167 [(.t 84), (.t 85)], none⟩])))))))
  (.reg [⟨(some 87), .bin .add (.t 17) (.c (.i .i64 1)), none⟩,
    ⟨(some 17), .mv (.t 87), none⟩])))))))
  (.seq [4] (.reg [⟨(some 88), .load (some 2) (.t 5), none⟩,
    ⟨none, .store 2 (.t 4) (.t 88), none⟩])
  .ret))))
theorem ree109 : Tryz.f109.body.bind (res Tryz.prog Tryz.f109.ntmps [] []) = some (erase ae109) := by kernel_rfl
def fs109 : FnS := .fn 89 ae109 [.c 4 (some 2)]
theorem fsok109 : FnOk Tryz.prog 109 fs109 := fun _ _ _ hn h => ctr_of_resC Tryz.func109 (by kernel_rfl) ree109 (by kernel_rfl) hn h
abbrev ae110 : ACode := (.seq [2, 3] (.reg [⟨(some 2), .box (.t 0), none⟩,
    ⟨(some 3), .box (.t 1), none⟩,
    ⟨(some 4), .mv (.c (.b false)), none⟩])
  (.seq [] (.seq [2, 3, 5] (.reg [⟨(some 5), .mv (.c (.i .i64 1)), none⟩])
  (.block 0 (.loop [2, 3, 5] (.seq [2, 3, 5] (.seq [2, 3, 5, 14] (.reg [⟨(some 6), .mv (.t 5), none⟩,
    ⟨(some 7), .faddr 0 (.t 2), none⟩,
    ⟨(some 8), .faddr 0 (.t 7), none⟩,
    ⟨(some 9), .load none (.t 8), none⟩,
    ⟨(some 10), .nilck (.t 9), none⟩,
    ⟨(some 11), .faddr 2 (.t 10), none⟩,
    ⟨(some 12), .load none (.t 11), none⟩,
    ⟨(some 13), .len (.t 12), none⟩,
    ⟨(some 14), .bin .lss (.t 6) (.t 13), none⟩])
  (.cond (.t 14)
  .skip
  (.exit 0)))
  (.seq [2, 3, 5] (.block 1 (.seq [2, 3, 5] (.seq [2, 3, 5, 37] (.reg [⟨(some 17), .faddr 1 (.t 3), none⟩,
    ⟨(some 18), .load none (.t 17), none⟩,
    ⟨(some 19), .bin .eql (.t 18) (.c (.i .i64 0)), none⟩,
    ⟨(some 20), .mv (.t 19), none⟩,
    ⟨(some 21), .faddr 0 (.t 3), (some (20, true))⟩,
    ⟨(some 22), .load none (.t 21), (some (20, true))⟩,
    ⟨(some 23), .faddr 2 (.t 2), (some (20, true))⟩,
    ⟨(some 24), .load none (.t 23), (some (20, true))⟩,
    ⟨(some 25), .len (.t 24), (some (20, true))⟩,
    ⟨(some 26), .bin .lss (.t 22) (.t 25), (some (20, true))⟩,
    ⟨(some 27), .pick (.t 20) (.t 26) (.c (.b false)), none⟩,
    ⟨(some 28), .mv (.t 27), none⟩,
    ⟨(some 29), .faddr 2 (.t 2), (some (28, true))⟩,
    ⟨(some 30), .load none (.t 29), (some (28, true))⟩,
    ⟨(some 31), .faddr 0 (.t 3), (some (28, true))⟩,
    ⟨(some 32), .load none (.t 31), (some (28, true))⟩,
    ⟨(some 33), .iaddr 1 none (.t 30) (.t 32), (some (28, true))⟩,
    ⟨(some 34), .load none (.t 33), (some (28, true))⟩,
    ⟨(some 35), .mv (.t 5), (some (28, true))⟩,
    ⟨(some 36), .bin .neq (.t 34) (.t 35), (some (28, true))⟩,
    ⟨(some 37), .pick (.t 28) (.t 36) (.c (.b false)), none⟩])
  (.cond (.t 37)
  (.exit 1)
  .skip))
  (.seq [2, 3, 5, 67] (.dreg [2, 3, 5, 67] [⟨0, ⟨(some 38), .mv (.t 5), none⟩, [], []⟩,
    ⟨1, ⟨(some 39), .bin .lss (.t 38) (.c (.i .i64 3)), none⟩, [], []⟩,
    ⟨2, ⟨(some 40), .mv (.t 39), none⟩, [], []⟩,
    ⟨3, ⟨(some 41), .faddr 0 (.t 2), (some (40, true))⟩, [], []⟩,
    ⟨4, ⟨(some 42), .load (some 2) (.t 41), (some (40, true))⟩, [], []⟩,
    ⟨5, ⟨(some 43), .load (some 4) (.t 3), (some (40, true))⟩, [], []⟩,
    ⟨6, ⟨(some 44), .mv (.t 5), (some (40, true))⟩, [], []⟩,
    ⟨7, ⟨(some 45), .call 168 [(.t 42), (.t 43), (.t 44)], (some (40, true))⟩, [], []⟩,
    ⟨8, ⟨(some 46), .pick (.t 40) (.t 45) (.c (.b false)), none⟩, [], []⟩,
    ⟨9, ⟨(some 47), .mv (.t 46), none⟩, [], []⟩,
    ⟨10, ⟨(some 48), .mv (.t 5), (some (47, false))⟩, [], []⟩,
    ⟨11, ⟨(some 49), .bin .geq (.t 48) (.c (.i .i64 3)), (some (47, false))⟩, [], []⟩,
    ⟨12, ⟨(some 50), .mv (.t 49), (some (47, false))⟩, [], []⟩,
    ⟨13, ⟨(some 51), .faddr 0 (.t 2), (some (50, true))⟩, [], []⟩,
    ⟨14, ⟨(some 52), .load (some 2) (.t 51), (some (50, true))⟩, [], []⟩,
    ⟨15, ⟨(some 53), .load (some 4) (.t 3), (some (50, true))⟩, [], []⟩,
    ⟨16, ⟨(some 54), .faddr 0 (.t 2), (some (50, true))⟩, [], []⟩,
    ⟨17, ⟨(some 55), .faddr 0 (.t 54), (some (50, true))⟩, [], []⟩,
    ⟨18, ⟨(some 56), .load none (.t 55), (some (50, true))⟩, [], []⟩,
    ⟨19, ⟨(some 57), .nilck (.t 56), (some (50, true))⟩, [], []⟩,
    ⟨20, ⟨(some 58), .faddr 2 (.t 57), (some (50, true))⟩, [], []⟩,
    ⟨21, ⟨(some 59), .load none (.t 58), (some (50, true))⟩, [], []⟩,
    ⟨22, ⟨(some 60), .mv (.t 5), (some (50, true))⟩, [], []⟩,
    ⟨23, ⟨(some 61), .iaddr 1 none (.t 59) (.t 60), (some (50, true))⟩, [], []⟩,
    ⟨24, ⟨(some 62), .load none (.t 61), (some (50, true))⟩, [], []⟩,
    ⟨25, ⟨(some 63), .load (some 3) (.t 2), (some (50, true))⟩, [], []⟩,
    ⟨26, ⟨(some 64), .mkf (.func 110) [(.t 63)] [], (some (50, true))⟩, [], []⟩,
    ⟨27, ⟨(some 65), .call 169 [(.t 52), (.t 53), (.t 62), (.t 64)], (some (50, true))⟩, [], []⟩,
    ⟨28, ⟨(some 66), .pick (.t 50) (.t 65) (.c (.b false)), (some (47, false))⟩, [], []⟩,
    ⟨29, ⟨(some 67), .pick (.t 47) (.c (.b true)) (.t 66), none⟩, [], []⟩])
  (.cond (.t 67)
  (.seq [4] (.reg [⟨(some 4), .mv (.c (.b true)), none⟩])
  .ret)
  .skip))))
  (.reg [⟨(some 15), .mv (.t 5), none⟩,
    ⟨(some 16), .bin .add (.t 15) (.c (.i .i64 1)), none⟩,
    ⟨(some 5), .mv (.t 16), none⟩]))))))
  (.seq [4] (.reg [⟨(some 4), .mv (.c (.b false)), none⟩])
  .ret)))
theorem ree110 : Tryz.f110.body.bind (res Tryz.prog Tryz.f110.ntmps [] []) = some (erase ae110) := by kernel_rfl
def fs110 : FnS := .fn 68 ae110 [.t 4]
theorem fsok110 : FnOk Tryz.prog 110 fs110 := fun _ _ _ hn h => ctr_of_resC Tryz.func110 (by kernel_rfl) ree110 (by kernel_rfl) hn h
abbrev ae108 : ACode := (.seq [0] (.reg [⟨(some 2), .mv (.c (.b false)), none⟩])
  (.seq [] (.seq [0, 4] (.reg [⟨(some 4), .mv (.c (.i .i64 0)), none⟩])
  (.block 0 (.loop [0, 4] (.seq [0, 4, 5] (.reg [⟨(some 5), .bin .lss (.t 4) (.c (.i .i64 3)), none⟩])
  (.seq [0, 4] (.cond (.t 5)
  .skip
  (.exit 0))
  (.seq [0, 4] (.block 1 (.seq [0, 3, 4] (.reg [⟨(some 6), .mv (.t 4), none⟩,
    ⟨(some 3), .mv (.t 6), none⟩])
  (.seq [0, 4, 11] (.reg [⟨(some 7), .mv (.t 0), none⟩,
    ⟨(some 8), .mv (.t 3), none⟩,
    ⟨(some 9), .build [(.i .i64 0), (.i .i64 0), (.i .i64 0), (.i .i64 0)] [(0, 1, (.t 8))], none⟩,
    ⟨(some 10), .callv (.t 7) [(.t 9)], none⟩,
    ⟨(some 11), .not (.t 10), none⟩])
  (.cond (.t 11)
  (.seq [2] (.reg [⟨(some 2), .mv (.c (.b false)), none⟩])
  .ret)
  .skip))))
  (.reg [⟨(some 12), .bin .add (.t 4) (.c (.i .i64 1)), none⟩,
    ⟨(some 4), .mv (.t 12), none⟩])))))))
  (.seq [2] (.reg [⟨(some 2), .mv (.c (.b true)), none⟩])
  .ret)))
theorem ree108 : Tryz.f108.body.bind (res Tryz.prog Tryz.f108.ntmps [] []) = some (erase ae108) := by kernel_rfl
def fs108 : FnS := .fn 13 ae108 [.t 2]
theorem fsok108 : FnOk Tryz.prog 108 fs108 := fun _ _ _ hn h => ctr_of_resC Tryz.func108 (by kernel_rfl) ree108 (by kernel_rfl) hn h
abbrev ae158 : ACode := (.seq [1, 2, 3] (.reg [⟨(some 3), .box (.t 0), none⟩])
  (.seq [2, 3, 4] (.reg [⟨(some 6), .mkf (.func 159) [] [(.t 1), (.t 2)], none⟩,
    ⟨(some 4), .alloc [.fnil], none⟩,
    ⟨none, .store 1 (.t 4) (.t 6), none⟩])
  (.seq [2, 3, 4, 5] (.reg [⟨(some 5), .alloc [.fnil], none⟩])
  (.seq [5] (.reg [⟨(some 7), .mkf (.func 163) [] [(.t 4), (.t 2), (.t 3), (.t 5)], none⟩,
    ⟨none, .store 1 (.t 5) (.t 7), none⟩])
  (.reg [⟨(some 8), .load none (.t 5), none⟩,
    ⟨(some 9), .callv (.t 8) [(.c (.i .u64 0)), (.c (.i .i64 0))], none⟩])))))
theorem ree158 : Tryz.f158.body.bind (res Tryz.prog Tryz.f158.ntmps [] []) = some (erase ae158) := by kernel_rfl
def fs158 : FnS := .fn 10 ae158 []
theorem fsok158 : FnOk Tryz.prog 158 fs158 := fun _ _ _ hn h => ctr_of_resC Tryz.func158 (by kernel_rfl) ree158 (by kernel_rfl) hn h
abbrev ae112 : ACode := (.seq [2, 3] (.reg [⟨(some 2), .box (.t 0), none⟩,
    ⟨(some 3), .box (.t 1), none⟩,
    ⟨(some 4), .mv (.c (.b false)), none⟩])
  (.seq [2, 3] (.seq [2, 3, 19] (.reg [⟨(some 10), .faddr 0 (.t 2), none⟩,
    ⟨(some 11), .load (some 2) (.t 10), none⟩,
    ⟨(some 12), .load (some 4) (.t 3), none⟩,
    ⟨(some 13), .call 168 [(.t 11), (.t 12), (.c (.i .i64 1))], none⟩,
    ⟨(some 14), .mv (.t 13), none⟩,
    ⟨(some 15), .faddr 0 (.t 2), (some (14, false))⟩,
    ⟨(some 16), .load (some 2) (.t 15), (some (14, false))⟩,
    ⟨(some 17), .load (some 4) (.t 3), (some (14, false))⟩,
    ⟨(some 18), .call 168 [(.t 16), (.t 17), (.c (.i .i64 2))], (some (14, false))⟩,
    ⟨(some 19), .pick (.t 14) (.c (.b true)) (.t 18), none⟩])
  (.cond (.t 19)
  (.seq [4] (.reg [⟨(some 4), .mv (.c (.b true)), none⟩])
  .ret)
  .skip))
  (.seq [2, 3, 5] (.reg [⟨(some 20), .faddr 0 (.t 2), none⟩,
    ⟨(some 21), .load (some 2) (.t 20), none⟩,
    ⟨(some 22), .load (some 4) (.t 3), none⟩,
    ⟨(some 23), .call 165 [(.t 21), (.t 22)], none⟩,
    ⟨(some 5), .mv (.t 23), none⟩])
  (.seq [2, 3, 5, 6] (.reg [⟨(some 24), .mv (.t 5), none⟩,
    ⟨(some 25), .nilck (.t 24), none⟩,
    ⟨(some 26), .faddr 0 (.t 25), none⟩,
    ⟨(some 27), .load none (.t 26), none⟩,
    ⟨(some 28), .call 164 [(.t 27), (.c (.i .i64 0))], none⟩,
    ⟨(some 6), .mv (.t 28), none⟩])
  (.seq [2, 3, 6] (.seq [2, 3, 6, 32, 33, 34] (.reg [⟨(some 29), .mv (.t 5), none⟩,
    ⟨(some 30), .nilck (.t 29), none⟩,
    ⟨(some 31), .faddr 7 (.t 30), none⟩,
    ⟨(some 32), .load none (.t 31), none⟩,
    ⟨(some 33), .len (.t 32), none⟩,
    ⟨(some 34), .mv (.c (.i .i64 0)), none⟩])
  (.block 0 (.loop [2, 3, 6, 32, 33, 34] (.seq [2, 3, 6, 32, 33, 34, 35] (.reg [⟨(some 35), .bin .lss (.t 34) (.t 33), none⟩])
  (.seq [2, 3, 6, 32, 33, 34] (.cond (.t 35)
  .skip
  (.exit 0))
  (.seq [2, 3, 6, 32, 33, 34] (.block 1 (.seq [2, 3, 6, 8, 32, 33, 34] (.reg [⟨(some 36), .iaddr 1 none (.t 32) (.t 34), none⟩,
    ⟨(some 37), .load none (.t 36), none⟩,
    ⟨(some 8), .mv (.t 37), none⟩])
  (.seq [2, 3, 6, 8, 32, 33, 34, 46] (.dreg [2, 3, 6, 8, 32, 33, 34, 46] [⟨0, ⟨(some 38), .faddr 0 (.t 2), none⟩, [], []⟩,
    ⟨1, ⟨(some 39), .load (some 2) (.t 38), none⟩, [], []⟩,
    ⟨2, ⟨(some 40), .load (some 4) (.t 3), none⟩, [], []⟩,
    ⟨3, ⟨(some 41), .mv (.t 8), none⟩, [], []⟩,
    ⟨4, ⟨(some 42), .call 166 [(.t 40), (.t 41)], none⟩, [1], [⟨(some 39), .load (some 2) (.t 38), none⟩]⟩,
    ⟨5, ⟨(some 43), .call 165 [(.t 39), (.t 42)], none⟩, [], []⟩,
    ⟨6, ⟨(some 44), .nilck (.t 43), none⟩, [], []⟩,
    ⟨7, ⟨(some 45), .faddr 6 (.t 44), none⟩, [], []⟩,
    ⟨8, ⟨(some 46), .load none (.t 45), none⟩, [], []⟩])
  (.cond (.t 46)
  (.reg [⟨(some 47), .mv (.t 6), none⟩,
    ⟨(some 48), .faddr 0 (.t 2), none⟩,
    ⟨(some 49), .faddr 0 (.t 48), none⟩,
    ⟨(some 50), .load none (.t 49), none⟩,
    ⟨(some 51), .nilck (.t 50), none⟩,
    ⟨(some 52), .faddr 0 (.t 51), none⟩,
    ⟨(some 53), .faddr 1 (.t 52), none⟩,
    ⟨(some 54), .load none (.t 53), none⟩,
    ⟨(some 55), .mv (.t 8), none⟩,
    ⟨(some 56), .iaddr 1 none (.t 54) (.t 55), none⟩,
    ⟨(some 57), .load none (.t 56), none⟩,
    ⟨(some 58), .call 164 [(.t 47), (.t 57)], none⟩,
    ⟨(some 6), .mv (.t 58), none⟩])
  .skip))))
  (.reg [⟨(some 59), .bin .add (.t 34) (.c (.i .i64 1)), none⟩,
    ⟨(some 34), .mv (.t 59), none⟩])))))))
  (.seq [2, 3, 6] (.seq [2, 3, 6, 65] (.reg [⟨(some 60), .mv (.t 6), none⟩,
    ⟨(some 61), .call 114 [(.t 60), (.c (.i .i64 1))], none⟩,
    ⟨(some 62), .mv (.t 61), none⟩,
    ⟨(some 63), .mv (.t 6), (some (62, false))⟩,
    ⟨(some 64), .call 114 [(.t 63), (.c (.i .i64 2))], (some (62, false))⟩,
    ⟨(some 65), .pick (.t 62) (.c (.b true)) (.t 64), none⟩])
  (.cond (.t 65)
  (.seq [4] (.reg [⟨(some 4), .mv (.c (.b false)), none⟩])
  .ret)
  .skip))
  (.seq [2, 3, 6] (.seq [2, 3, 6, 72, 73] (.reg [⟨(some 66), .faddr 0 (.t 2), none⟩,
    ⟨(some 67), .faddr 0 (.t 66), none⟩,
    ⟨(some 68), .load none (.t 67), none⟩,
    ⟨(some 69), .nilck (.t 68), none⟩,
    ⟨(some 70), .faddr 2 (.t 69), none⟩,
    ⟨(some 71), .load none (.t 70), none⟩,
    ⟨(some 72), .len (.t 71), none⟩,
    ⟨(some 73), .mv (.c (.i .i64 0)), none⟩])
  (.block 2 (.loop [2, 3, 6, 72, 73] (.seq [2, 3, 6, 72, 73, 74] (.reg [⟨(some 74), .bin .lss (.t 73) (.t 72), none⟩])
  (.seq [2, 3, 6, 72, 73] (.cond (.t 74)
  .skip
  (.exit 2))
  (.seq [2, 3, 6, 72, 73] (.block 3 (.seq [2, 3, 6, 9, 72, 73] (.reg [⟨(some 75), .mv (.t 73), none⟩,
    ⟨(some 9), .mv (.t 75), none⟩])
  (.seq [2, 3, 6, 9, 72, 73, 82] (.reg [⟨(some 76), .mv (.t 9), none⟩,
    ⟨(some 77), .bin .geq (.t 76) (.c (.i .i64 3)), none⟩,
    ⟨(some 78), .mv (.t 77), none⟩,
    ⟨(some 79), .mv (.t 6), (some (78, true))⟩,
    ⟨(some 80), .mv (.t 9), (some (78, true))⟩,
    ⟨(some 81), .call 114 [(.t 79), (.t 80)], (some (78, true))⟩,
    ⟨(some 82), .pick (.t 78) (.t 81) (.c (.b false)), none⟩])
  (.cond (.t 82)
  (.reg [⟨(some 83), .mv (.t 6), none⟩,
    ⟨(some 84), .faddr 0 (.t 2), none⟩,
    ⟨(some 85), .faddr 0 (.t 84), none⟩,
    ⟨(some 86), .load none (.t 85), none⟩,
    ⟨(some 87), .nilck (.t 86), none⟩,
    ⟨(some 88), .faddr 2 (.t 87), none⟩,
    ⟨(some 89), .load none (.t 88), none⟩,
    ⟨(some 90), .mv (.t 9), none⟩,
    ⟨(some 91), .iaddr 1 none (.t 89) (.t 90), none⟩,
    ⟨(some 92), .load none (.t 91), none⟩,
    ⟨(some 93), .bin .or (.t 83) (.t 92), none⟩,
    ⟨(some 6), .mv (.t 93), none⟩])
  .skip))))
  (.reg [⟨(some 94), .bin .add (.t 73) (.c (.i .i64 1)), none⟩,
    ⟨(some 73), .mv (.t 94), none⟩])))))))
  (.seq [4] (.reg [⟨(some 95), .faddr 0 (.t 2), none⟩,
    ⟨(some 96), .load (some 2) (.t 95), none⟩,
    ⟨(some 97), .load (some 4) (.t 3), none⟩,
    ⟨(some 98), .mv (.t 6), none⟩,
    ⟨(some 99), .load (some 2) (.t 2), none⟩,
    ⟨(some 100), .mkf (.func 112) [(.t 99)] [], none⟩,
    ⟨(some 101), .call 169 [(.t 96), (.t 97), (.t 98), (.t 100)], none⟩,
    ⟨(some 4), .mv (.t 101), none⟩])
  .ret))))))))
theorem ree112 : Tryz.f112.body.bind (res Tryz.prog Tryz.f112.ntmps [] []) = some (erase ae112) := by kernel_rfl
def fs112 : FnS := .fn 102 ae112 [.t 4]
theorem fsok112 : FnOk Tryz.prog 112 fs112 := fun _ _ _ hn h => ctr_of_resC Tryz.func112 (by kernel_rfl) ree112 (by kernel_rfl) hn h
abbrev ae146 : ACode := (.seq [1] (.reg [⟨(some 1), .box (.t 0), none⟩,
    ⟨(some 2), .mv (.c .pn), none⟩])
  (.seq [1, 3, 4] (.reg [⟨(some 6), .load (some 6) (.t 1), none⟩,
    ⟨(some 7), .call 64 [(.t 6)], none⟩,
    ⟨(some 5), .mv (.t 7), none⟩,
    ⟨(some 8), .extract 0 (.t 5), none⟩,
    ⟨(some 9), .extract 1 (.t 5), none⟩,
    ⟨(some 3), .alloc [(.l [] true), (.l [] true)], none⟩,
    ⟨none, .store 2 (.t 3) (.t 8), none⟩,
    ⟨(some 4), .mv (.t 9), none⟩])
  (.seq [1, 3] (.seq [1, 3, 11] (.reg [⟨(some 10), .mv (.t 4), none⟩,
    ⟨(some 11), .bin .neq (.t 10) (.c (.i .i64 0)), none⟩])
  (.cond (.t 11)
  (.seq [2] (.reg [⟨(some 2), .mv (.c .pn), none⟩])
  .ret)
  .skip))
  (.seq [2] (.reg [⟨(some 12), .load (some 6) (.t 1), none⟩,
    ⟨(some 13), .load (some 2) (.t 3), none⟩,
    ⟨(some 14), .mkmap, none⟩,
    ⟨(some 15), .build [(.l [] true), (.i .i64 0), (.l [] true), (.l [] true), (.l [] true), (.i .i64 0), (.l [] true), (.l [] true), .mn] [(0, 6, (.t 12)), (6, 2, (.t 13)), (8, 1, (.t 14))], none⟩,
    ⟨(some 16), .box (.t 15), none⟩,
    ⟨(some 2), .mv (.t 16), none⟩])
  .ret))))
theorem ree146 : Tryz.f146.body.bind (res Tryz.prog Tryz.f146.ntmps [] []) = some (erase ae146) := by kernel_rfl
def fs146 : FnS := .fn 17 ae146 [.t 2]
theorem fsok146 : FnOk Tryz.prog 146 fs146 := fun _ _ _ hn h => ctr_of_resC Tryz.func146 (by kernel_rfl) ree146 (by kernel_rfl) hn h
abbrev ae147 : ACode := (.seq [0, 1, 2] (.reg [⟨(some 6), .mv (.c (.b false)), none⟩])
  (.seq [0, 1, 2] (.seq [0, 1, 2, 13] (.reg [⟨(some 10), .mv (.t 0), none⟩,
    ⟨(some 11), .mv (.t 1), none⟩,
    ⟨(some 12), .call 190 [(.t 10), (.t 11)], none⟩,
    ⟨(some 13), .not (.t 12), none⟩])
  (.cond (.t 13)
  (.seq [6] (.reg [⟨(some 6), .mv (.c (.b false)), none⟩])
  .ret)
  .skip))
  (.seq [0, 1, 2, 7] (.reg [⟨(some 14), .mkmap, none⟩,
    ⟨(some 7), .mv (.t 14), none⟩])
  (.seq [] (.seq [0, 1, 2, 7, 15, 16, 17] (.reg [⟨(some 15), .mv (.t 1), none⟩,
    ⟨(some 16), .len (.t 15), none⟩,
    ⟨(some 17), .mv (.c (.i .i64 0)), none⟩])
  (.block 0 (.loop [0, 1, 2, 7, 15, 16, 17] (.seq [0, 1, 2, 7, 15, 16, 17, 18] (.reg [⟨(some 18), .bin .lss (.t 17) (.t 16), none⟩])
  (.seq [0, 1, 2, 7, 15, 16, 17] (.cond (.t 18)
  .skip
  (.exit 0))
  (.seq [0, 1, 2, 7, 15, 16, 17] (.block 1 (.seq [0, 1, 2, 7, 9, 15, 16, 17] (.reg [⟨(some 19), .iaddr 1 none (.t 15) (.t 17), none⟩,
    ⟨(some 20), .load none (.t 19), none⟩,
    ⟨(some 9), .mv (.t 20), none⟩])
  (.seq [0, 1, 2, 7, 9, 15, 16, 17] (.seq [0, 1, 2, 7, 9, 15, 16, 17, 58] (.dreg [0, 1, 2, 7, 9, 15, 16, 17, 58] [⟨0, ⟨(some 21), .mv (.t 7), none⟩, [], []⟩,
    ⟨1, ⟨(some 22), .mv (.t 9), none⟩, [], []⟩,
    ⟨2, ⟨(some 23), .lookup (.i .i64) (.b false) false (.t 21) (.t 22), none⟩, [], []⟩,
    ⟨3, ⟨(some 24), .mv (.t 23), none⟩, [], []⟩,
    ⟨4, ⟨(some 25), .mv (.t 0), (some (24, false))⟩, [], []⟩,
    ⟨5, ⟨(some 26), .nilck (.t 25), (some (24, false))⟩, [], []⟩,
    ⟨6, ⟨(some 27), .faddr 0 (.t 26), (some (24, false))⟩, [], []⟩,
    ⟨7, ⟨(some 28), .faddr 3 (.t 27), (some (24, false))⟩, [], []⟩,
    ⟨8, ⟨(some 29), .load none (.t 28), (some (24, false))⟩, [], []⟩,
    ⟨9, ⟨(some 30), .mv (.t 9), (some (24, false))⟩, [], []⟩,
    ⟨10, ⟨(some 31), .iaddr 9 none (.t 29) (.t 30), (some (24, false))⟩, [], []⟩,
    ⟨11, ⟨(some 32), .faddr 1 (.t 31), (some (24, false))⟩, [], []⟩,
    ⟨12, ⟨(some 33), .load none (.t 32), (some (24, false))⟩, [], []⟩,
    ⟨13, ⟨(some 34), .mv (.t 0), (some (24, false))⟩, [], []⟩,
    ⟨14, ⟨(some 35), .nilck (.t 34), (some (24, false))⟩, [], []⟩,
    ⟨15, ⟨(some 36), .faddr 0 (.t 35), (some (24, false))⟩, [], []⟩,
    ⟨16, ⟨(some 37), .faddr 3 (.t 36), (some (24, false))⟩, [], []⟩,
    ⟨17, ⟨(some 38), .load none (.t 37), (some (24, false))⟩, [], []⟩,
    ⟨18, ⟨(some 39), .mv (.t 1), (some (24, false))⟩, [], []⟩,
    ⟨19, ⟨(some 40), .iaddr 1 none (.t 39) (.c (.i .i64 0)), (some (24, false))⟩, [], []⟩,
    ⟨20, ⟨(some 41), .load none (.t 40), (some (24, false))⟩, [], []⟩,
    ⟨21, ⟨(some 42), .iaddr 9 none (.t 38) (.t 41), (some (24, false))⟩, [], []⟩,
    ⟨22, ⟨(some 43), .faddr 1 (.t 42), (some (24, false))⟩, [], []⟩,
    ⟨23, ⟨(some 44), .load none (.t 43), (some (24, false))⟩, [], []⟩,
    ⟨24, ⟨(some 45), .bin .neq (.t 33) (.t 44), (some (24, false))⟩, [], []⟩,
    ⟨25, ⟨(some 46), .pick (.t 24) (.c (.b true)) (.t 45), none⟩, [], []⟩,
    ⟨26, ⟨(some 47), .mv (.t 46), none⟩, [], []⟩,
    ⟨27, ⟨(some 48), .mv (.t 2), (some (47, false))⟩, [], []⟩,
    ⟨28, ⟨(some 49), .mv (.t 48), (some (47, false))⟩, [], []⟩,
    ⟨29, ⟨(some 50), .mv (.t 0), (some (49, true))⟩, [], []⟩,
    ⟨30, ⟨(some 51), .mv (.t 9), (some (49, true))⟩, [], []⟩,
    ⟨31, ⟨(some 52), .mv (.t 1), (some (49, true))⟩, [], []⟩,
    ⟨32, ⟨(some 53), .iaddr 1 none (.t 52) (.c (.i .i64 0)), (some (49, true))⟩, [], []⟩,
    ⟨33, ⟨(some 54), .load none (.t 53), (some (49, true))⟩, [], []⟩,
    ⟨34, ⟨(some 55), .call 191 [(.t 50), (.t 51), (.t 54)], (some (49, true))⟩, [], []⟩,
    ⟨35, ⟨(some 56), .not (.t 55), (some (49, true))⟩, [], []⟩,
    ⟨36, ⟨(some 57), .pick (.t 49) (.t 56) (.c (.b false)), (some (47, false))⟩, [], []⟩,
    ⟨37, ⟨(some 58), .pick (.t 47) (.c (.b true)) (.t 57), none⟩, [], []⟩])
  (.cond (.t 58)
  (.seq [6] (.reg [⟨(some 6), .mv (.c (.b false)), none⟩])
  .ret)
  .skip))
  (.reg [⟨(some 59), .mv (.t 7), none⟩,
    ⟨(some 60), .mv (.t 9), none⟩,
    ⟨none, .mapset (.i .i64) (.t 59) (.t 60) (.c (.b true)), none⟩]))))
  (.reg [⟨(some 61), .bin .add (.t 17) (.c (.i .i64 1)), none⟩,
    ⟨(some 17), .mv (.t 61), none⟩])))))))
  (.seq [6] (.reg [⟨(some 6), .mv (.c (.b true)), none⟩])
  .ret)))))
theorem ree147 : Tryz.f147.body.bind (res Tryz.prog Tryz.f147.ntmps [] []) = some (erase ae147) := by kernel_rfl
def fs147 : FnS := .fn 62 ae147 [.t 6]
theorem fsok147 : FnOk Tryz.prog 147 fs147 := fun _ _ _ hn h => ctr_of_resC Tryz.func147 (by kernel_rfl) ree147 (by kernel_rfl) hn h
abbrev ae148 : ACode := (.seq [0, 1, 4] (.reg [⟨(some 4), .alloc [(.l [] true), (.b false), (.l [] true), (.l [] true), (.b false), (.l [] true)], none⟩,
    ⟨(some 5), .mv (.c (.b false)), none⟩])
  (.seq [0, 1, 4, 6] (.reg [⟨(some 6), .alloc [(.l [] true), (.l [] true), (.l [] true), (.l [] true), (.l [] true)], none⟩])
  (.seq [0, 4, 6] (.seq [0, 4, 6, 11, 12, 13] (.reg [⟨(some 11), .mv (.t 1), none⟩,
    ⟨(some 12), .len (.t 11), none⟩,
    ⟨(some 13), .mv (.c (.i .i64 0)), none⟩])
  (.block 0 (.loop [0, 4, 6, 11, 12, 13] (.seq [0, 4, 6, 11, 12, 13, 14] (.reg [⟨(some 14), .bin .lss (.t 13) (.t 12), none⟩])
  (.seq [0, 4, 6, 11, 12, 13] (.cond (.t 14)
  .skip
  (.exit 0))
  (.seq [0, 4, 6, 11, 12, 13] (.block 1 (.seq [0, 4, 6, 8, 11, 12, 13] (.reg [⟨(some 15), .iaddr 1 none (.t 11) (.t 13), none⟩,
    ⟨(some 16), .load none (.t 15), none⟩,
    ⟨(some 8), .mv (.t 16), none⟩])
  (.seq [0, 4, 6, 8, 9, 11, 12, 13] (.reg [⟨(some 17), .mv (.t 0), none⟩,
    ⟨(some 18), .nilck (.t 17), none⟩,
    ⟨(some 19), .faddr 0 (.t 18), none⟩,
    ⟨(some 20), .faddr 3 (.t 19), none⟩,
    ⟨(some 21), .load none (.t 20), none⟩,
    ⟨(some 22), .mv (.t 8), none⟩,
    ⟨(some 23), .iaddr 9 none (.t 21) (.t 22), none⟩,
    ⟨(some 24), .faddr 0 (.t 23), none⟩,
    ⟨(some 25), .load none (.t 24), none⟩,
    ⟨(some 9), .mv (.t 25), none⟩])
  (.reg [⟨(some 26), .mv (.t 9), none⟩,
    ⟨(some 27), .mv (.t 9), none⟩,
    ⟨(some 28), .iaddr 1 (some 5) (.t 6) (.t 27), none⟩,
    ⟨(some 29), .load none (.t 28), none⟩,
    ⟨(some 30), .mv (.t 8), none⟩,
    ⟨(some 31), .bslice 1 1 [(.i .i64 0)] [(0, (.t 30))], none⟩,
    ⟨(some 32), .append 1 8 (.t 29) (.t 31), none⟩,
    ⟨(some 33), .iaddr 1 (some 5) (.t 6) (.t 26), none⟩,
    ⟨none, .store 1 (.t 33) (.t 32), none⟩]))))
  (.reg [⟨(some 34), .bin .add (.t 13) (.c (.i .i64 1)), none⟩,
    ⟨(some 13), .mv (.t 34), none⟩])))))))
  (.seq [0, 4, 6, 10] (.reg [⟨(some 10), .alloc [(.l [] true), (.b false), (.l [] true), (.l [] true), (.b false), (.l [] true)], none⟩])
  (.seq [0, 4, 6, 10] (.seq [0, 4, 6, 10, 38] (.reg [⟨(some 35), .iaddr 1 (some 5) (.t 6) (.c (.i .i64 1)), none⟩,
    ⟨(some 36), .load none (.t 35), none⟩,
    ⟨(some 37), .len (.t 36), none⟩,
    ⟨(some 38), .bin .eql (.t 37) (.c (.i .i64 0)), none⟩])
  (.cond (.t 38)
  (.seq [4, 5] (.reg [⟨(some 39), .load (some 6) (.t 10), none⟩,
    ⟨none, .store 6 (.t 4) (.t 39), none⟩,
    ⟨(some 5), .mv (.c (.b false)), none⟩])
  .ret)
  .skip))
  (.seq [0, 4, 6, 10] (.reg [⟨(some 41), .mv (.t 0), none⟩,
    ⟨(some 42), .iaddr 1 (some 5) (.t 6) (.c (.i .i64 4)), none⟩,
    ⟨(some 43), .load none (.t 42), none⟩,
    ⟨(some 44), .call 192 [(.t 41), (.t 43)], none⟩,
    ⟨(some 40), .mv (.t 44), none⟩,
    ⟨(some 45), .extract 0 (.t 40), none⟩,
    ⟨(some 46), .extract 1 (.t 40), none⟩,
    ⟨(some 47), .faddr 0 (.t 10), none⟩,
    ⟨none, .store 1 (.t 47) (.t 45), none⟩,
    ⟨(some 48), .faddr 1 (.t 10), none⟩,
    ⟨none, .store 1 (.t 48) (.t 46), none⟩])
  (.seq [0, 4, 6, 10] (.reg [⟨(some 49), .mv (.t 0), none⟩,
    ⟨(some 50), .iaddr 1 (some 5) (.t 6) (.c (.i .i64 2)), none⟩,
    ⟨(some 51), .load none (.t 50), none⟩,
    ⟨(some 52), .call 193 [(.t 49), (.t 51)], none⟩,
    ⟨(some 53), .faddr 2 (.t 10), none⟩,
    ⟨none, .store 1 (.t 53) (.t 52), none⟩])
  (.seq [0, 4, 6, 10] (.reg [⟨(some 55), .mv (.t 0), none⟩,
    ⟨(some 56), .iaddr 1 (some 5) (.t 6) (.c (.i .i64 1)), none⟩,
    ⟨(some 57), .load none (.t 56), none⟩,
    ⟨(some 58), .call 192 [(.t 55), (.t 57)], none⟩,
    ⟨(some 54), .mv (.t 58), none⟩,
    ⟨(some 59), .extract 0 (.t 54), none⟩,
    ⟨(some 60), .extract 1 (.t 54), none⟩,
    ⟨(some 61), .faddr 3 (.t 10), none⟩,
    ⟨none, .store 1 (.t 61) (.t 59), none⟩,
    ⟨(some 62), .faddr 4 (.t 10), none⟩,
    ⟨none, .store 1 (.t 62) (.t 60), none⟩])
  (.seq [4, 10] (.reg [⟨(some 63), .mv (.t 0), none⟩,
    ⟨(some 64), .iaddr 1 (some 5) (.t 6) (.c (.i .i64 3)), none⟩,
    ⟨(some 65), .load none (.t 64), none⟩,
    ⟨(some 66), .call 193 [(.t 63), (.t 65)], none⟩,
    ⟨(some 67), .faddr 5 (.t 10), none⟩,
    ⟨none, .store 1 (.t 67) (.t 66), none⟩])
  (.seq [4, 10] (.reg [⟨(some 68), .faddr 5 (.t 10), none⟩,
    ⟨(some 69), .load none (.t 68), none⟩,
    ⟨(some 70), .call 150 [(.t 69)], none⟩])
  (.seq [4, 5] (.reg [⟨(some 71), .load (some 6) (.t 10), none⟩,
    ⟨none, .store 6 (.t 4) (.t 71), none⟩,
    ⟨(some 5), .mv (.c (.b true)), none⟩])
  .ret)))))))))))
theorem ree148 : Tryz.f148.body.bind (res Tryz.prog Tryz.f148.ntmps [] []) = some (erase ae148) := by kernel_rfl
def fs148 : FnS := .fn 72 ae148 [.c 4 (some 6), .t 5]
theorem fsok148 : FnOk Tryz.prog 148 fs148 := fun _ _ _ hn h => ctr_of_resC Tryz.func148 (by kernel_rfl) ree148 (by kernel_rfl) hn h
abbrev ae170 : ACode := (.seq [0, 1] (.reg [⟨(some 4), .mv (.c (.i .u32 0)), none⟩,
    ⟨(some 5), .mv (.c (.i .u32 0)), none⟩])
  (.seq [6] (.reg [⟨(some 7), .mv (.t 0), none⟩,
    ⟨(some 8), .conv .u64 (.t 7), none⟩,
    ⟨(some 9), .mv (.t 1), none⟩,
    ⟨(some 10), .conv .u64 (.t 9), none⟩,
    ⟨(some 11), .bin .mul (.t 8) (.t 10), none⟩,
    ⟨(some 6), .mv (.t 11), none⟩])
  (.seq [4, 5] (.reg [⟨(some 12), .mv (.t 6), none⟩,
    ⟨(some 13), .bin .shr (.t 12) (.c (.i .u64 32)), none⟩,
    ⟨(some 14), .conv .u32 (.t 13), none⟩,
    ⟨(some 15), .mv (.t 6), none⟩,
    ⟨(some 16), .conv .u32 (.t 15), none⟩,
    ⟨(some 4), .mv (.t 14), none⟩,
    ⟨(some 5), .mv (.t 16), none⟩])
  .ret)))
theorem ree170 : Tryz.f170.body.bind (res Tryz.prog Tryz.f170.ntmps [] []) = some (erase ae170) := by kernel_rfl
def fs170 : FnS := .fn 17 ae170 [.t 4, .t 5]
theorem fsok170 : FnOk Tryz.prog 170 fs170 := fun _ _ _ hn h => ctr_of_resC Tryz.func170 (by kernel_rfl) ree170 (by kernel_rfl) hn h
abbrev ae171 : ACode := (.seq [0, 1] (.reg [⟨(some 4), .mv (.c (.i .u64 0)), none⟩,
    ⟨(some 5), .mv (.c (.i .u64 0)), none⟩])
  (.seq [0, 1, 6] (.reg [⟨(some 14), .mv (.t 0), none⟩,
    ⟨(some 15), .bin .and (.t 14) (.c (.i .u64 4294967295)), none⟩,
    ⟨(some 6), .mv (.t 15), none⟩])
  (.seq [0, 1, 6, 7] (.reg [⟨(some 16), .mv (.t 0), none⟩,
    ⟨(some 17), .bin .shr (.t 16) (.c (.i .u64 32)), none⟩,
    ⟨(some 7), .mv (.t 17), none⟩])
  (.seq [0, 1, 6, 7, 8] (.reg [⟨(some 18), .mv (.t 1), none⟩,
    ⟨(some 19), .bin .and (.t 18) (.c (.i .u64 4294967295)), none⟩,
    ⟨(some 8), .mv (.t 19), none⟩])
  (.seq [0, 1, 6, 7, 8, 9] (.reg [⟨(some 20), .mv (.t 1), none⟩,
    ⟨(some 21), .bin .shr (.t 20) (.c (.i .u64 32)), none⟩,
    ⟨(some 9), .mv (.t 21), none⟩])
  (.seq [0, 1, 6, 7, 8, 9, 10] (.reg [⟨(some 22), .mv (.t 6), none⟩,
    ⟨(some 23), .mv (.t 8), none⟩,
    ⟨(some 24), .bin .mul (.t 22) (.t 23), none⟩,
    ⟨(some 10), .mv (.t 24), none⟩])
  (.seq [0, 1, 6, 7, 9, 11] (.reg [⟨(some 25), .mv (.t 7), none⟩,
    ⟨(some 26), .mv (.t 8), none⟩,
    ⟨(some 27), .bin .mul (.t 25) (.t 26), none⟩,
    ⟨(some 28), .mv (.t 10), none⟩,
    ⟨(some 29), .bin .shr (.t 28) (.c (.i .u64 32)), none⟩,
    ⟨(some 30), .bin .add (.t 27) (.t 29), none⟩,
    ⟨(some 11), .mv (.t 30), none⟩])
  (.seq [0, 1, 6, 7, 9, 11, 12] (.reg [⟨(some 31), .mv (.t 11), none⟩,
    ⟨(some 32), .bin .and (.t 31) (.c (.i .u64 4294967295)), none⟩,
    ⟨(some 12), .mv (.t 32), none⟩])
  (.seq [0, 1, 6, 7, 9, 12, 13] (.reg [⟨(some 33), .mv (.t 11), none⟩,
    ⟨(some 34), .bin .shr (.t 33) (.c (.i .u64 32)), none⟩,
    ⟨(some 13), .mv (.t 34), none⟩])
  (.seq [0, 1, 7, 9, 12, 13] (.reg [⟨(some 35), .mv (.t 12), none⟩,
    ⟨(some 36), .mv (.t 6), none⟩,
    ⟨(some 37), .mv (.t 9), none⟩,
    ⟨(some 38), .bin .mul (.t 36) (.t 37), none⟩,
    ⟨(some 39), .bin .add (.t 35) (.t 38), none⟩,
    ⟨(some 12), .mv (.t 39), none⟩])
  (.seq [0, 1, 4] (.reg [⟨(some 40), .mv (.t 7), none⟩,
    ⟨(some 41), .mv (.t 9), none⟩,
    ⟨(some 42), .bin .mul (.t 40) (.t 41), none⟩,
    ⟨(some 43), .mv (.t 13), none⟩,
    ⟨(some 44), .bin .add (.t 42) (.t 43), none⟩,
    ⟨(some 45), .mv (.t 12), none⟩,
    ⟨(some 46), .bin .shr (.t 45) (.c (.i .u64 32)), none⟩,
    ⟨(some 47), .bin .add (.t 44) (.t 46), none⟩,
    ⟨(some 4), .mv (.t 47), none⟩])
  (.seq [4, 5] (.reg [⟨(some 48), .mv (.t 0), none⟩,
    ⟨(some 49), .mv (.t 1), none⟩,
    ⟨(some 50), .bin .mul (.t 48) (.t 49), none⟩,
    ⟨(some 5), .mv (.t 50), none⟩])
  .ret))))))))))))
theorem ree171 : Tryz.f171.body.bind (res Tryz.prog Tryz.f171.ntmps [] []) = some (erase ae171) := by kernel_rfl
def fs171 : FnS := .fn 51 ae171 [.t 4, .t 5]
theorem fsok171 : FnOk Tryz.prog 171 fs171 := fun _ _ _ hn h => ctr_of_resC Tryz.func171 (by kernel_rfl) ree171 (by kernel_rfl) hn h
abbrev ae172 : ACode := (.seq [0] (.reg [⟨(some 2), .mv (.c (.i .i64 0)), none⟩])
  (.seq [] (.seq [4] (.reg [⟨(some 3), .mv (.t 0), none⟩,
    ⟨(some 4), .not (.t 3), none⟩])
  (.cond (.t 4)
  (.seq [2] (.reg [⟨(some 2), .mv (.c (.i .i64 2)), none⟩])
  .ret)
  .skip))
  (.seq [2] (.reg [⟨(some 2), .mv (.c (.i .i64 0)), none⟩])
  .ret)))
theorem ree172 : Tryz.f172.body.bind (res Tryz.prog Tryz.f172.ntmps [] []) = some (erase ae172) := by kernel_rfl
def fs172 : FnS := .fn 5 ae172 [.t 2]
theorem fsok172 : FnOk Tryz.prog 172 fs172 := fun _ _ _ hn h => ctr_of_resC Tryz.func172 (by kernel_rfl) ree172 (by kernel_rfl) hn h
theorem recl149 : Tryz.f149.body.bind (res Tryz.prog Tryz.f149.ntmps [] []) = some (erase (cloneAC 1 8)) := by kernel_rfl
def fs149 : FnS := .prim (cloneP 1)
theorem fsok149 : FnOk Tryz.prog 149 fs149 := clone_fs (sz := 1) (b := 8) (fun _ _ _ hn h => ctr_of_resC Tryz.func149 (by kernel_rfl) recl149 (by kernel_rfl) hn h) (Nat.le_of_ble_eq_true rfl)
abbrev ae151 : ACode := (.seq [1] (.reg [⟨(some 1), .box (.t 0), none⟩,
    ⟨(some 2), .mv (.c (.l [] true)), none⟩,
    ⟨(some 3), .mv (.c (.b false)), none⟩])
  (.seq [1, 4] (.reg [⟨(some 4), .alloc [(.l [] true)], none⟩])
  (.seq [4, 5] (.reg [⟨(some 6), .mkf (.func 195) [] [(.t 1), (.t 4)], none⟩,
    ⟨(some 7), .call 194 [(.t 6)], none⟩,
    ⟨(some 5), .mv (.t 7), none⟩])
  (.seq [2, 3] (.reg [⟨(some 8), .load none (.t 4), none⟩,
    ⟨(some 9), .mv (.t 5), none⟩,
    ⟨(some 2), .mv (.t 8), none⟩,
    ⟨(some 3), .mv (.t 9), none⟩])
  .ret))))
theorem ree151 : Tryz.f151.body.bind (res Tryz.prog Tryz.f151.ntmps [] []) = some (erase ae151) := by kernel_rfl
def fs151 : FnS := .fn 10 ae151 [.t 2, .t 3]
theorem fsok151 : FnOk Tryz.prog 151 fs151 := fun _ _ _ hn h => ctr_of_resC Tryz.func151 (by kernel_rfl) ree151 (by kernel_rfl) hn h
abbrev ae173 : ACode := (.seq [1] (.reg [⟨(some 1), .box (.t 0), none⟩,
    ⟨(some 2), .mv (.c (.l [] true)), none⟩])
  (.seq [2] (.reg [⟨(some 3), .faddr 0 (.t 1), none⟩,
    ⟨(some 4), .load none (.t 3), none⟩,
    ⟨(some 5), .call 212 [(.t 4), (.c (.f (.func 213) [] []))], none⟩,
    ⟨(some 2), .mv (.t 5), none⟩])
  .ret))
theorem ree173 : Tryz.f173.body.bind (res Tryz.prog Tryz.f173.ntmps [] []) = some (erase ae173) := by kernel_rfl
def fs173 : FnS := .fnz 6 ae173 [.t 2]
theorem fsok173 : FnOk Tryz.prog 173 fs173 := fun _ _ _ hn h => ctr_of_resC Tryz.func173 (by kernel_rfl) ree173 (by kernel_rfl) hn h
abbrev ae174 : ACode := (.seq [1] (.reg [⟨(some 1), .box (.t 0), none⟩,
    ⟨(some 2), .mv (.c .pn), none⟩,
    ⟨(some 3), .mv (.c (.b false)), none⟩])
  (.seq [1] (.seq [1, 20] (.reg [⟨(some 11), .faddr 0 (.t 1), none⟩,
    ⟨(some 12), .load none (.t 11), none⟩,
    ⟨(some 13), .len (.t 12), none⟩,
    ⟨(some 14), .bin .gtr (.t 13) (.c (.i .i64 60)), none⟩,
    ⟨(some 15), .mv (.t 14), none⟩,
    ⟨(some 16), .faddr 1 (.t 1), (some (15, false))⟩,
    ⟨(some 17), .load none (.t 16), (some (15, false))⟩,
    ⟨(some 18), .len (.t 17), (some (15, false))⟩,
    ⟨(some 19), .bin .gtr (.t 18) (.c (.i .i64 40)), (some (15, false))⟩,
    ⟨(some 20), .pick (.t 15) (.c (.b true)) (.t 19), none⟩])
  (.cond (.t 20)
  (.seq [2, 3] (.reg [⟨(some 2), .mv (.c .pn), none⟩,
    ⟨(some 3), .mv (.c (.b false)), none⟩])
  .ret)
  .skip))
  (.seq [1, 4] (.reg [⟨(some 21), .load (some 2) (.t 1), none⟩,
    ⟨(some 22), .build [(.l [] true), (.l [] true), (.i .u64 0), (.i .u64 0), (.i .u64 0), (.i .u64 0), (.i .u64 0), (.i .u64 0), (.i .u64 0), (.i .u64 0), (.i .u64 0), (.i .u64 0), (.i .u64 0), (.i .u64 0), (.i .u64 0), (.i .u64 0), (.i .u64 0), (.i .u64 0), (.i .u64 0), (.i .u64 0), (.i .u64 0), (.i .u64 0), (.i .u64 0), (.i .u64 0), (.i .u64 0), (.i .u64 0), (.i .u64 0), (.i .u64 0), (.i .u64 0), (.i .u64 0), (.i .u64 0), (.i .u64 0), (.i .u64 0), (.i .u64 0), (.i .u64 0), (.i .u64 0), (.i .u64 0), (.i .u64 0), (.i .u64 0), (.i .u64 0), (.i .u64 0), (.i .u64 0), (.i .u64 0), (.i .u64 0), (.i .u64 0), (.i .u64 0), (.i .u64 0), (.i .u64 0), (.i .u64 0), (.i .u64 0), (.i .u64 0), (.i .u64 0), (.i .u64 0), (.i .u64 0), (.i .u64 0), (.i .u64 0), (.i .u64 0), (.i .u64 0), (.i .u64 0), (.i .u64 0), (.i .u64 0), (.i .u64 0), (.i .u64 0), (.i .u64 0), (.i .u64 0)] [(0, 2, (.t 21))], none⟩,
    ⟨(some 23), .box (.t 22), none⟩,
    ⟨(some 4), .mv (.t 23), none⟩])
  (.seq [1, 4] (.seq [1, 4, 24] (.reg [⟨(some 24), .mv (.c (.i .i64 0)), none⟩])
  (.block 0 (.loop [1, 4, 24] (.seq [1, 4, 24, 25] (.reg [⟨(some 25), .bin .lss (.t 24) (.c (.i .i64 3)), none⟩])
  (.seq [1, 4, 24] (.cond (.t 25)
  .skip
  (.exit 0))
  (.seq [1, 4, 24] (.block 1 (.seq [1, 4, 5, 24] (.reg [⟨(some 26), .mv (.t 24), none⟩,
    ⟨(some 5), .mv (.t 26), none⟩])
  (.dreg [1, 4, 24] [⟨0, ⟨(some 27), .mv (.t 4), none⟩, [], []⟩,
    ⟨1, ⟨(some 28), .mv (.t 5), none⟩, [], []⟩,
    ⟨2, ⟨(some 29), .mv (.t 5), none⟩, [], []⟩,
    ⟨4, ⟨(some 31), .nilck (.t 27), none⟩, [], []⟩,
    ⟨5, ⟨(some 32), .faddr 2 (.t 31), none⟩, [], []⟩,
    ⟨3, ⟨(some 30), .call 214 [(.c (.i .u64 1)), (.t 29)], none⟩, [], []⟩,
    ⟨6, ⟨(some 33), .iaddr 1 (some 63) (.t 32) (.t 28), none⟩, [], []⟩,
    ⟨7, ⟨none, .store 1 (.t 33) (.t 30), none⟩, [], []⟩])))
  (.reg [⟨(some 34), .bin .add (.t 24) (.c (.i .i64 1)), none⟩,
    ⟨(some 24), .mv (.t 34), none⟩])))))))
  (.seq [1, 4] (.seq [1, 4, 36, 37, 38] (.reg [⟨(some 35), .faddr 0 (.t 1), none⟩,
    ⟨(some 36), .load none (.t 35), none⟩,
    ⟨(some 37), .len (.t 36), none⟩,
    ⟨(some 38), .mv (.c (.i .i64 0)), none⟩])
  (.block 2 (.loop [1, 4, 36, 37, 38] (.seq [1, 4, 36, 37, 38, 39] (.reg [⟨(some 39), .bin .lss (.t 38) (.t 37), none⟩])
  (.seq [1, 4, 36, 37, 38] (.cond (.t 39)
  .skip
  (.exit 2))
  (.seq [1, 4, 36, 37, 38] (.block 3 (.seq [1, 4, 6, 7, 36, 37, 38] (.reg [⟨(some 40), .mv (.t 38), none⟩,
    ⟨(some 41), .iaddr 1 none (.t 36) (.t 38), none⟩,
    ⟨(some 42), .load none (.t 41), none⟩,
    ⟨(some 6), .mv (.t 40), none⟩,
    ⟨(some 7), .mv (.t 42), none⟩])
  (.seq [1, 4, 6, 7, 8, 36, 37, 38] (.reg [⟨(some 43), .mv (.t 6), none⟩,
    ⟨(some 44), .bin .add (.c (.i .i64 3)) (.t 43), none⟩,
    ⟨(some 45), .call 214 [(.c (.i .u64 1)), (.t 44)], none⟩,
    ⟨(some 8), .mv (.t 45), none⟩])
  (.seq [1, 4, 6, 8, 36, 37, 38] (.seq [1, 4, 6, 7, 8, 36, 37, 38, 46, 47, 48] (.reg [⟨(some 46), .mv (.t 7), none⟩,
    ⟨(some 47), .len (.t 46), none⟩,
    ⟨(some 48), .mv (.c (.i .i64 0)), none⟩])
  (.block 4 (.loop [1, 4, 6, 7, 8, 36, 37, 38, 46, 47, 48] (.seq [1, 4, 6, 7, 8, 36, 37, 38, 46, 47, 48, 49] (.reg [⟨(some 49), .bin .lss (.t 48) (.t 47), none⟩])
  (.seq [1, 4, 6, 7, 8, 36, 37, 38, 46, 47, 48] (.cond (.t 49)
  .skip
  (.exit 4))
  (.seq [1, 4, 6, 7, 8, 36, 37, 38, 46, 47, 48] (.block 5 (.seq [1, 4, 6, 7, 8, 9, 10, 36, 37, 38, 46, 47, 48] (.reg [⟨(some 50), .mv (.t 48), none⟩,
    ⟨(some 51), .iaddr 1 none (.t 46) (.t 48), none⟩,
    ⟨(some 52), .load none (.t 51), none⟩,
    ⟨(some 9), .mv (.t 50), none⟩,
    ⟨(some 10), .mv (.t 52), none⟩])
  (.seq [1, 4, 6, 7, 8, 10, 36, 37, 38, 46, 47, 48] (.seq [1, 4, 6, 7, 8, 10, 36, 37, 38, 46, 47, 48, 67] (.reg [⟨(some 53), .mv (.t 10), none⟩,
    ⟨(some 54), .bin .lss (.t 53) (.c (.i .i64 3)), none⟩,
    ⟨(some 55), .mv (.t 54), none⟩,
    ⟨(some 56), .mv (.t 10), (some (55, false))⟩,
    ⟨(some 57), .mv (.t 6), (some (55, false))⟩,
    ⟨(some 58), .bin .add (.c (.i .i64 3)) (.t 57), (some (55, false))⟩,
    ⟨(some 59), .bin .geq (.t 56) (.t 58), (some (55, false))⟩,
    ⟨(some 60), .pick (.t 55) (.c (.b true)) (.t 59), none⟩,
    ⟨(some 61), .mv (.t 60), none⟩,
    ⟨(some 62), .mv (.t 7), (some (61, false))⟩,
    ⟨(some 63), .mv (.t 9), (some (61, false))⟩,
    ⟨(some 64), .slice 1 (.t 62) none (some (.t 63)) none, (some (61, false))⟩,
    ⟨(some 65), .mv (.t 10), (some (61, false))⟩,
    ⟨(some 66), .call 67 [(.t 64), (.t 65)], (some (61, false))⟩,
    ⟨(some 67), .pick (.t 61) (.c (.b true)) (.t 66), none⟩])
  (.cond (.t 67)
  (.seq [2, 3] (.reg [⟨(some 2), .mv (.c .pn), none⟩,
    ⟨(some 3), .mv (.c (.b false)), none⟩])
  .ret)
  .skip))
  (.reg [⟨(some 68), .mv (.t 8), none⟩,
    ⟨(some 69), .mv (.t 4), none⟩,
    ⟨(some 70), .mv (.t 10), none⟩,
    ⟨(some 71), .nilck (.t 69), none⟩,
    ⟨(some 72), .faddr 2 (.t 71), none⟩,
    ⟨(some 73), .iaddr 1 (some 63) (.t 72) (.t 70), none⟩,
    ⟨(some 74), .load none (.t 73), none⟩,
    ⟨(some 75), .bin .or (.t 68) (.t 74), none⟩,
    ⟨(some 8), .mv (.t 75), none⟩]))))
  (.reg [⟨(some 76), .bin .add (.t 48) (.c (.i .i64 1)), none⟩,
    ⟨(some 48), .mv (.t 76), none⟩])))))))
  (.reg [⟨(some 77), .mv (.t 4), none⟩,
    ⟨(some 78), .mv (.t 6), none⟩,
    ⟨(some 79), .bin .add (.c (.i .i64 3)) (.t 78), none⟩,
    ⟨(some 80), .mv (.t 8), none⟩,
    ⟨(some 81), .nilck (.t 77), none⟩,
    ⟨(some 82), .faddr 2 (.t 81), none⟩,
    ⟨(some 83), .iaddr 1 (some 63) (.t 82) (.t 79), none⟩,
    ⟨none, .store 1 (.t 83) (.t 80), none⟩])))))
  (.reg [⟨(some 84), .bin .add (.t 38) (.c (.i .i64 1)), none⟩,
    ⟨(some 38), .mv (.t 84), none⟩])))))))
  (.seq [2, 3] (.reg [⟨(some 85), .mv (.t 4), none⟩,
    ⟨(some 86), .faddr 1 (.t 1), none⟩,
    ⟨(some 87), .load none (.t 86), none⟩,
    ⟨(some 88), .mv (.t 4), none⟩,
    ⟨(some 89), .mkf (.func 216) [(.t 88)] [], none⟩,
    ⟨(some 90), .call 215 [(.t 87), (.t 89)], none⟩,
    ⟨(some 2), .mv (.t 85), none⟩,
    ⟨(some 3), .mv (.t 90), none⟩])
  .ret))))))
theorem ree174 : Tryz.f174.body.bind (res Tryz.prog Tryz.f174.ntmps [] []) = some (erase ae174) := by kernel_rfl
def fs174 : FnS := .fnz 91 ae174 [.t 2, .t 3]
theorem fsok174 : FnOk Tryz.prog 174 fs174 := fun _ _ _ hn h => ctr_of_resC Tryz.func174 (by kernel_rfl) ree174 (by kernel_rfl) hn h
abbrev ae175 : ACode := (.seq [1, 2] (.reg [⟨(some 2), .box (.t 0), none⟩,
    ⟨(some 4), .mv (.c (.b false)), none⟩])
  (.seq [4] (.reg [⟨(some 5), .mv (.t 1), none⟩,
    ⟨(some 6), .mkf (.func 218) [] [(.t 2)], none⟩,
    ⟨(some 7), .call 217 [(.t 5), (.t 6)], none⟩,
    ⟨(some 4), .mv (.t 7), none⟩])
  .ret))
theorem ree175 : Tryz.f175.body.bind (res Tryz.prog Tryz.f175.ntmps [] []) = some (erase ae175) := by kernel_rfl
def fs175 : FnS := .fn 8 ae175 [.t 4]
theorem fsok175 : FnOk Tryz.prog 175 fs175 := fun _ _ _ hn h => ctr_of_resC Tryz.func175 (by kernel_rfl) ree175 (by kernel_rfl) hn h
abbrev ae176 : ACode := (.seq [1, 2] (.reg [⟨(some 1), .box (.t 0), none⟩,
    ⟨(some 2), .alloc [(.i .i64 0), (.i .i64 0), (.l [] true), (.i .i64 0), (.i .i64 0), (.l [] true)], none⟩])
  (.seq [2] (.reg [⟨(some 3), .load (some 6) (.t 1), none⟩,
    ⟨(some 4), .bslice 6 1 [(.i .i64 0), (.i .i64 0), (.l [] true), (.i .i64 0), (.i .i64 0), (.l [] true)] [(0, (.t 3))], none⟩,
    ⟨(some 5), .build [(.i .i64 0), (.i .i64 0), (.l [] true), (.i .i64 0), (.i .i64 0), (.l [] true)] [(0, 1, (.c (.i .i64 5))), (5, 1, (.t 4))], none⟩,
    ⟨none, .store 6 (.t 2) (.t 5), none⟩])
  .ret))
theorem ree176 : Tryz.f176.body.bind (res Tryz.prog Tryz.f176.ntmps [] []) = some (erase ae176) := by kernel_rfl
def fs176 : FnS := .fn 6 ae176 [.c 2 (some 6)]
theorem fsok176 : FnOk Tryz.prog 176 fs176 := fun _ _ _ hn h => ctr_of_resC Tryz.func176 (by kernel_rfl) ree176 (by kernel_rfl) hn h
abbrev ae178 : ACode := (.seq [1, 2, 3, 4, 5, 6, 7] (.reg [⟨(some 7), .box (.t 0), none⟩,
    ⟨(some 8), .mv (.c (.b false)), none⟩])
  (.seq [1, 2, 3, 4, 5, 6, 7] (.reg [⟨(some 14), .load none (.t 1), none⟩,
    ⟨(some 15), .bin .add (.t 14) (.c (.i .i64 1)), none⟩,
    ⟨none, .store 1 (.t 1) (.t 15), none⟩])
  (.seq [1, 2, 3, 4, 5, 6, 7, 9] (.reg [⟨(some 9), .mv (.c (.l [] true)), none⟩])
  (.seq [1, 4, 5, 6, 7, 9] (.seq [1, 2, 3, 4, 5, 6, 7, 9, 18] (.reg [⟨(some 16), .faddr 0 (.t 7), none⟩,
    ⟨(some 17), .load none (.t 16), none⟩,
    ⟨(some 18), .bin .neq (.t 17) (.c (.i .i64 1)), none⟩])
  (.cond (.t 18)
  (.seq [1, 3, 4, 5, 6, 7, 9] (.reg [⟨(some 19), .mv (.t 9), none⟩,
    ⟨(some 20), .load (some 6) (.t 2), none⟩,
    ⟨(some 21), .bslice 6 1 [(.i .i64 0), (.i .i64 0), (.l [] true), (.i .i64 0), (.i .i64 0), (.l [] true)] [(0, (.t 20))], none⟩,
    ⟨(some 22), .append 6 80 (.t 19) (.t 21), none⟩,
    ⟨(some 9), .mv (.t 22), none⟩])
  (.seq [1, 3, 4, 5, 6, 7, 9, 26] (.reg [⟨(some 23), .load (some 6) (.t 7), none⟩,
    ⟨(some 24), .load (some 6) (.t 3), none⟩,
    ⟨(some 25), .call 179 [(.t 23), (.t 24)], none⟩,
    ⟨(some 26), .not (.t 25), none⟩])
  (.cond (.t 26)
  (.reg [⟨(some 27), .mv (.t 9), none⟩,
    ⟨(some 28), .load (some 6) (.t 3), none⟩,
    ⟨(some 29), .bslice 6 1 [(.i .i64 0), (.i .i64 0), (.l [] true), (.i .i64 0), (.i .i64 0), (.l [] true)] [(0, (.t 28))], none⟩,
    ⟨(some 30), .append 6 80 (.t 27) (.t 29), none⟩,
    ⟨(some 9), .mv (.t 30), none⟩])
  .skip)))
  .skip))
  (.seq [] (.seq [1, 4, 5, 6, 34, 35, 36] (.reg [⟨(some 31), .mv (.t 9), none⟩,
    ⟨(some 32), .faddr 5 (.t 7), none⟩,
    ⟨(some 33), .load none (.t 32), none⟩,
    ⟨(some 34), .append 6 80 (.t 31) (.t 33), none⟩,
    ⟨(some 35), .len (.t 34), none⟩,
    ⟨(some 36), .mv (.c (.i .i64 0)), none⟩])
  (.block 0 (.loop [1, 4, 5, 6, 34, 35, 36] (.seq [1, 4, 5, 6, 34, 35, 36, 37] (.reg [⟨(some 37), .bin .lss (.t 36) (.t 35), none⟩])
  (.seq [1, 4, 5, 6, 34, 35, 36] (.cond (.t 37)
  .skip
  (.exit 0))
  (.seq [1, 4, 5, 6, 34, 35, 36] (.block 1 (.seq [1, 4, 5, 6, 11, 34, 35, 36] (.reg [⟨(some 38), .iaddr 6 none (.t 34) (.t 36), none⟩,
    ⟨(some 39), .load (some 6) (.t 38), none⟩,
    ⟨(some 11), .alloc [(.i .i64 0), (.i .i64 0), (.l [] true), (.i .i64 0), (.i .i64 0), (.l [] true)], none⟩,
    ⟨none, .store 6 (.t 11) (.t 39), none⟩])
  (.seq [1, 4, 5, 6, 12, 34, 35, 36] (.reg [⟨(some 41), .load (some 6) (.t 4), none⟩,
    ⟨(some 42), .load none (.t 1), none⟩,
    ⟨(some 43), .load (some 6) (.t 11), none⟩,
    ⟨(some 44), .call 180 [(.t 41), (.t 42), (.t 43)], none⟩,
    ⟨(some 40), .mv (.t 44), none⟩,
    ⟨(some 45), .extract 0 (.t 40), none⟩,
    ⟨(some 46), .extract 1 (.t 40), none⟩,
    ⟨(some 12), .alloc [(.i .i64 0), (.i .i64 0), (.l [] true), (.i .i64 0), (.i .i64 0), (.l [] true)], none⟩,
    ⟨none, .store 6 (.t 12) (.t 45), none⟩,
    ⟨(some 13), .mv (.t 46), none⟩])
  (.seq [1, 4, 5, 6, 12, 34, 35, 36, 56] (.reg [⟨(some 47), .load none (.t 5), none⟩,
    ⟨(some 48), .load (some 6) (.t 4), none⟩,
    ⟨(some 49), .load (some 6) (.t 12), none⟩,
    ⟨(some 50), .call 181 [(.t 47), (.t 48), (.t 49)], none⟩,
    ⟨(some 51), .mv (.t 50), none⟩,
    ⟨(some 52), .load none (.t 5), (some (51, true))⟩,
    ⟨(some 53), .load (some 6) (.t 12), (some (51, true))⟩,
    ⟨(some 54), .load (some 6) (.t 4), (some (51, true))⟩,
    ⟨(some 55), .call 181 [(.t 52), (.t 53), (.t 54)], (some (51, true))⟩,
    ⟨(some 56), .pick (.t 51) (.t 55) (.c (.b false)), none⟩])
  (.cond (.t 56)
  (.seq [] (.reg [⟨(some 57), .load (some 6) (.t 12), none⟩,
    ⟨none, .store 6 (.t 6) (.t 57), none⟩])
  (.seq [8] (.reg [⟨(some 8), .mv (.c (.b true)), none⟩])
  .ret))
  .skip)))))
  (.reg [⟨(some 58), .bin .add (.t 36) (.c (.i .i64 1)), none⟩,
    ⟨(some 36), .mv (.t 58), none⟩])))))))
  (.seq [8] (.reg [⟨(some 8), .mv (.c (.b false)), none⟩])
  .ret))))))
theorem ree178 : Tryz.f178.body.bind (res Tryz.prog Tryz.f178.ntmps [] []) = some (erase ae178) := by kernel_rfl
def fs178 : FnS := .fn 59 ae178 [.t 8]
theorem fsok178 : FnOk Tryz.prog 178 fs178 := fun _ _ _ hn h => ctr_of_resC Tryz.func178 (by kernel_rfl) ree178 (by kernel_rfl) hn h
abbrev ae177 : ACode := (.seq [2, 3] (.reg [⟨(some 2), .box (.t 0), none⟩,
    ⟨(some 3), .box (.t 1), none⟩,
    ⟨(some 4), .mv (.c (.b false)), none⟩])
  (.seq [4] (.reg [⟨(some 5), .load none (.t 3), none⟩,
    ⟨(some 6), .load (some 6) (.t 2), none⟩,
    ⟨(some 7), .callv (.t 5) [(.t 6)], none⟩,
    ⟨(some 8), .mv (.t 7), none⟩,
    ⟨(some 9), .faddr 5 (.t 2), (some (8, false))⟩,
    ⟨(some 10), .load none (.t 9), (some (8, false))⟩,
    ⟨(some 11), .mkf (.func 221) [] [(.t 3)], (some (8, false))⟩,
    ⟨(some 12), .call 220 [(.t 10), (.t 11)], (some (8, false))⟩,
    ⟨(some 13), .pick (.t 8) (.c (.b true)) (.t 12), none⟩,
    ⟨(some 4), .mv (.t 13), none⟩])
  .ret))
theorem ree177 : Tryz.f177.body.bind (res Tryz.prog Tryz.f177.ntmps [] []) = some (erase ae177) := by kernel_rfl
def fs177 : FnS := .fn 14 ae177 [.t 4]
theorem fsok177 : FnOk Tryz.prog 177 fs177 := fun _ _ _ hn h => ctr_of_resC Tryz.func177 (by kernel_rfl) ree177 (by kernel_rfl) hn h
abbrev ae164 : ACode := (.seq [0, 1] (.reg [⟨(some 4), .mv (.c (.i .u64 0)), none⟩])
  (.seq [4] (.reg [⟨(some 5), .mv (.t 0), none⟩,
    ⟨(some 6), .mv (.t 1), none⟩,
    ⟨(some 7), .bin .shl (.c (.i .u64 1)) (.t 6), none⟩,
    ⟨(some 8), .bin .or (.t 5) (.t 7), none⟩,
    ⟨(some 4), .mv (.t 8), none⟩])
  .ret))
theorem ree164 : Tryz.f164.body.bind (res Tryz.prog Tryz.f164.ntmps [] []) = some (erase ae164) := by kernel_rfl
def fs164 : FnS := .fn 9 ae164 [.t 4]
theorem fsok164 : FnOk Tryz.prog 164 fs164 := fun _ _ _ hn h => ctr_of_resC Tryz.func164 (by kernel_rfl) ree164 (by kernel_rfl) hn h
abbrev ae165 : ACode := (.seq [2, 3] (.reg [⟨(some 2), .box (.t 0), none⟩,
    ⟨(some 3), .box (.t 1), none⟩,
    ⟨(some 4), .mv (.c .pn), none⟩])
  (.seq [2, 3, 5, 6] (.reg [⟨(some 8), .faddr 1 (.t 2), none⟩,
    ⟨(some 9), .load none (.t 8), none⟩,
    ⟨(some 10), .load (some 4) (.t 3), none⟩,
    ⟨(some 11), .lookup (.a [.i64, .i64, .i64, .i64]) .pn true (.t 9) (.t 10), none⟩,
    ⟨(some 7), .mv (.t 11), none⟩,
    ⟨(some 12), .extract 0 (.t 7), none⟩,
    ⟨(some 13), .extract 1 (.t 7), none⟩,
    ⟨(some 5), .mv (.t 12), none⟩,
    ⟨(some 6), .mv (.t 13), none⟩])
  (.seq [5] (.seq [2, 3, 5, 15] (.reg [⟨(some 14), .mv (.t 6), none⟩,
    ⟨(some 15), .not (.t 14), none⟩])
  (.cond (.t 15)
  (.seq [2, 3, 5] (.reg [⟨(some 16), .build [(.i .u64 0), (.i .u64 0), (.i .i64 0), (.i .i64 0), (.l [] true), (.b false), (.b false), (.l [] true)] [(2, 1, (.c (.i .i64 (-1000000000)))), (3, 1, (.c (.i .i64 1000000000)))], none⟩,
    ⟨(some 17), .box (.t 16), none⟩,
    ⟨(some 5), .mv (.t 17), none⟩])
  (.reg [⟨(some 18), .faddr 1 (.t 2), none⟩,
    ⟨(some 19), .load none (.t 18), none⟩,
    ⟨(some 20), .load (some 4) (.t 3), none⟩,
    ⟨(some 21), .mv (.t 5), none⟩,
    ⟨none, .mapset (.a [.i64, .i64, .i64, .i64]) (.t 19) (.t 20) (.t 21), none⟩]))
  .skip))
  (.seq [4] (.reg [⟨(some 22), .mv (.t 5), none⟩,
    ⟨(some 4), .mv (.t 22), none⟩])
  .ret))))
theorem ree165 : Tryz.f165.body.bind (res Tryz.prog Tryz.f165.ntmps [] []) = some (erase ae165) := by kernel_rfl
def fs165 : FnS := .fn 23 ae165 [.t 4]
theorem fsok165 : FnOk Tryz.prog 165 fs165 := fun _ _ _ hn h => ctr_of_resC Tryz.func165 (by kernel_rfl) ree165 (by kernel_rfl) hn h
abbrev ae166 : ACode := (.seq [1, 2, 4] (.reg [⟨(some 2), .box (.t 0), none⟩,
    ⟨(some 4), .alloc [(.i .i64 0), (.i .i64 0), (.i .i64 0), (.i .i64 0)], none⟩])
  (.seq [2, 4] (.seq [1, 2, 4, 7] (.reg [⟨(some 5), .faddr 1 (.t 2), none⟩,
    ⟨(some 6), .load none (.t 5), none⟩,
    ⟨(some 7), .bin .eql (.t 6) (.c (.i .i64 0)), none⟩])
  (.cond (.t 7)
  (.reg [⟨(some 8), .mv (.t 1), none⟩,
    ⟨(some 9), .faddr 2 (.t 2), none⟩,
    ⟨none, .store 1 (.t 9) (.t 8), none⟩])
  (.reg [⟨(some 10), .mv (.t 1), none⟩,
    ⟨(some 11), .faddr 3 (.t 2), none⟩,
    ⟨none, .store 1 (.t 11) (.t 10), none⟩])))
  (.seq [2, 4] (.reg [⟨(some 12), .faddr 1 (.t 2), none⟩,
    ⟨(some 13), .load none (.t 12), none⟩,
    ⟨(some 14), .bin .add (.t 13) (.c (.i .i64 1)), none⟩,
    ⟨(some 15), .faddr 1 (.t 2), none⟩,
    ⟨none, .store 1 (.t 15) (.t 14), none⟩])
  (.seq [4] (.reg [⟨(some 16), .load (some 4) (.t 2), none⟩,
    ⟨none, .store 4 (.t 4) (.t 16), none⟩])
  .ret))))
theorem ree166 : Tryz.f166.body.bind (res Tryz.prog Tryz.f166.ntmps [] []) = some (erase ae166) := by kernel_rfl
def fs166 : FnS := .fn 17 ae166 [.c 4 (some 4)]
theorem fsok166 : FnOk Tryz.prog 166 fs166 := fun _ _ _ hn h => ctr_of_resC Tryz.func166 (by kernel_rfl) ree166 (by kernel_rfl) hn h
abbrev ae167 : ACode := (.seq [0, 3] (.reg [⟨(some 3), .box (.t 1), none⟩])
  (.seq [0, 3, 4] (.reg [⟨(some 5), .faddr 0 (.t 3), none⟩,
    ⟨(some 6), .faddr 4 (.t 5), none⟩,
    ⟨(some 7), .load none (.t 6), none⟩,
    ⟨(some 4), .mv (.t 7), none⟩])
  (.block 0 (.seq [0, 3, 4, 29] (.reg [⟨(some 30), .faddr 0 (.t 3), none⟩,
    ⟨(some 31), .faddr 0 (.t 30), none⟩,
    ⟨(some 32), .load none (.t 31), none⟩,
    ⟨(some 33), .bin .eql (.t 32) (.c (.i .i64 2)), none⟩,
    ⟨(some 34), .mv (.t 33), none⟩,
    ⟨(some 35), .faddr 6 (.t 3), (some (34, true))⟩,
    ⟨(some 36), .load none (.t 35), (some (34, true))⟩,
    ⟨(some 37), .pick (.t 34) (.t 36) (.c (.b false)), none⟩,
    ⟨(some 29), .mv (.t 37), none⟩])
  (.cond (.t 29)
  (.dreg [] [⟨0, ⟨(some 38), .mv (.t 0), none⟩, [], []⟩,
    ⟨1, ⟨(some 39), .mv (.t 0), none⟩, [], []⟩,
    ⟨2, ⟨(some 40), .nilck (.t 39), none⟩, [], []⟩,
    ⟨3, ⟨(some 41), .faddr 1 (.t 40), none⟩, [], []⟩,
    ⟨4, ⟨(some 42), .load none (.t 41), none⟩, [], []⟩,
    ⟨5, ⟨(some 43), .faddr 0 (.t 3), none⟩, [], []⟩,
    ⟨6, ⟨(some 44), .faddr 3 (.t 43), none⟩, [], []⟩,
    ⟨7, ⟨(some 45), .load none (.t 44), none⟩, [], []⟩,
    ⟨8, ⟨(some 46), .call 164 [(.t 42), (.t 45)], none⟩, [], []⟩,
    ⟨9, ⟨(some 47), .nilck (.t 38), none⟩, [], []⟩,
    ⟨10, ⟨(some 48), .faddr 1 (.t 47), none⟩, [], []⟩,
    ⟨11, ⟨none, .store 1 (.t 48) (.t 46), none⟩, [], []⟩])
  (.seq [0, 3, 4, 49] (.reg [⟨(some 50), .faddr 0 (.t 3), none⟩,
    ⟨(some 51), .faddr 0 (.t 50), none⟩,
    ⟨(some 52), .load none (.t 51), none⟩,
    ⟨(some 53), .bin .eql (.t 52) (.c (.i .i64 2)), none⟩,
    ⟨(some 49), .mv (.t 53), none⟩])
  (.cond (.t 49)
  (.dreg [] [⟨0, ⟨(some 54), .mv (.t 0), none⟩, [], []⟩,
    ⟨1, ⟨(some 55), .mv (.t 0), none⟩, [], []⟩,
    ⟨2, ⟨(some 56), .nilck (.t 55), none⟩, [], []⟩,
    ⟨3, ⟨(some 57), .faddr 0 (.t 56), none⟩, [], []⟩,
    ⟨4, ⟨(some 58), .load none (.t 57), none⟩, [], []⟩,
    ⟨5, ⟨(some 59), .faddr 0 (.t 3), none⟩, [], []⟩,
    ⟨6, ⟨(some 60), .faddr 3 (.t 59), none⟩, [], []⟩,
    ⟨7, ⟨(some 61), .load none (.t 60), none⟩, [], []⟩,
    ⟨8, ⟨(some 62), .call 164 [(.t 58), (.t 61)], none⟩, [], []⟩,
    ⟨9, ⟨(some 63), .nilck (.t 54), none⟩, [], []⟩,
    ⟨10, ⟨(some 64), .faddr 0 (.t 63), none⟩, [], []⟩,
    ⟨11, ⟨none, .store 1 (.t 64) (.t 62), none⟩, [], []⟩])
  (.seq [0, 3, 4, 65] (.reg [⟨(some 66), .faddr 0 (.t 3), none⟩,
    ⟨(some 67), .faddr 0 (.t 66), none⟩,
    ⟨(some 68), .load none (.t 67), none⟩,
    ⟨(some 69), .bin .eql (.t 68) (.c (.i .i64 4)), none⟩,
    ⟨(some 70), .mv (.t 69), none⟩,
    ⟨(some 71), .faddr 6 (.t 3), (some (70, true))⟩,
    ⟨(some 72), .load none (.t 71), (some (70, true))⟩,
    ⟨(some 73), .pick (.t 70) (.t 72) (.c (.b false)), none⟩,
    ⟨(some 65), .mv (.t 73), none⟩])
  (.cond (.t 65)
  (.reg [⟨(some 74), .mv (.t 0), none⟩,
    ⟨(some 75), .mv (.t 0), none⟩,
    ⟨(some 76), .nilck (.t 75), none⟩,
    ⟨(some 77), .faddr 4 (.t 76), none⟩,
    ⟨(some 78), .load none (.t 77), none⟩,
    ⟨(some 79), .mv (.t 4), none⟩,
    ⟨(some 80), .bslice 1 1 [(.i .i64 0)] [(0, (.t 79))], none⟩,
    ⟨(some 81), .append 1 8 (.t 78) (.t 80), none⟩,
    ⟨(some 82), .nilck (.t 74), none⟩,
    ⟨(some 83), .faddr 4 (.t 82), none⟩,
    ⟨none, .store 1 (.t 83) (.t 81), none⟩])
  (.seq [0, 3, 4, 84] (.reg [⟨(some 85), .faddr 6 (.t 3), none⟩,
    ⟨(some 86), .load none (.t 85), none⟩,
    ⟨(some 84), .mv (.t 86), none⟩])
  (.cond (.t 84)
  (.reg [⟨(some 87), .mv (.t 0), none⟩,
    ⟨(some 88), .mv (.t 0), none⟩,
    ⟨(some 89), .nilck (.t 88), none⟩,
    ⟨(some 90), .faddr 2 (.t 89), none⟩,
    ⟨(some 91), .load none (.t 90), none⟩,
    ⟨(some 92), .mv (.t 4), none⟩,
    ⟨(some 93), .mmax (.t 91) (.t 92), none⟩,
    ⟨(some 94), .nilck (.t 87), none⟩,
    ⟨(some 95), .faddr 2 (.t 94), none⟩,
    ⟨none, .store 1 (.t 95) (.t 93), none⟩])
  (.seq [0, 4, 96] (.reg [⟨(some 97), .faddr 0 (.t 3), none⟩,
    ⟨(some 98), .faddr 0 (.t 97), none⟩,
    ⟨(some 99), .load none (.t 98), none⟩,
    ⟨(some 100), .bin .eql (.t 99) (.c (.i .i64 3)), none⟩,
    ⟨(some 96), .mv (.t 100), none⟩])
  (.cond (.t 96)
  (.reg [⟨(some 101), .mv (.t 0), none⟩,
    ⟨(some 102), .mv (.t 0), none⟩,
    ⟨(some 103), .mv (.t 0), none⟩,
    ⟨(some 104), .nilck (.t 103), none⟩,
    ⟨(some 105), .faddr 3 (.t 104), none⟩,
    ⟨(some 106), .load none (.t 105), none⟩,
    ⟨(some 107), .mv (.t 4), none⟩,
    ⟨(some 108), .bin .sub (.t 107) (.c (.i .i64 1)), none⟩,
    ⟨(some 109), .mmin (.t 106) (.t 108), none⟩,
    ⟨(some 110), .nilck (.t 101), none⟩,
    ⟨(some 111), .faddr 3 (.t 110), none⟩,
    ⟨none, .store 1 (.t 111) (.t 109), none⟩,
    ⟨(some 112), .nilck (.t 102), none⟩,
    ⟨(some 113), .faddr 5 (.t 112), none⟩,
    ⟨none, .store 1 (.t 113) (.c (.b true)), none⟩])
  (.dreg [] [⟨0, ⟨(some 8), .mv (.t 0), none⟩, [], []⟩,
    ⟨1, ⟨(some 9), .mv (.t 0), none⟩, [], []⟩,
    ⟨2, ⟨(some 10), .mv (.t 0), none⟩, [], []⟩,
    ⟨3, ⟨(some 11), .mv (.t 0), none⟩, [], []⟩,
    ⟨4, ⟨(some 12), .nilck (.t 11), none⟩, [], []⟩,
    ⟨5, ⟨(some 13), .faddr 2 (.t 12), none⟩, [], []⟩,
    ⟨6, ⟨(some 14), .load none (.t 13), none⟩, [], []⟩,
    ⟨7, ⟨(some 15), .mv (.t 4), none⟩, [], []⟩,
    ⟨8, ⟨(some 16), .mmax (.t 14) (.t 15), none⟩, [], []⟩,
    ⟨9, ⟨(some 17), .mv (.t 0), none⟩, [], []⟩,
    ⟨10, ⟨(some 18), .nilck (.t 17), none⟩, [], []⟩,
    ⟨11, ⟨(some 19), .faddr 3 (.t 18), none⟩, [], []⟩,
    ⟨12, ⟨(some 20), .load none (.t 19), none⟩, [], []⟩,
    ⟨13, ⟨(some 21), .mv (.t 4), none⟩, [], []⟩,
    ⟨14, ⟨(some 22), .mmin (.t 20) (.t 21), none⟩, [], []⟩,
    ⟨15, ⟨(some 23), .nilck (.t 8), none⟩, [], []⟩,
    ⟨16, ⟨(some 24), .faddr 2 (.t 23), none⟩, [], []⟩,
    ⟨17, ⟨none, .store 1 (.t 24) (.t 16), none⟩, [], []⟩,
    ⟨18, ⟨(some 25), .nilck (.t 9), none⟩, [], []⟩,
    ⟨19, ⟨(some 26), .faddr 3 (.t 25), none⟩, [], []⟩,
    ⟨20, ⟨none, .store 1 (.t 26) (.t 22), none⟩, [], []⟩,
    ⟨21, ⟨(some 27), .nilck (.t 10), none⟩, [], []⟩,
    ⟨22, ⟨(some 28), .faddr 5 (.t 27), none⟩, [], []⟩,
    ⟨23, ⟨none, .store 1 (.t 28) (.c (.b true)), none⟩, [], []⟩]))))))))))))))
theorem ree167 : Tryz.f167.body.bind (res Tryz.prog Tryz.f167.ntmps [] []) = some (erase ae167) := by kernel_rfl
def fs167 : FnS := .fn 114 ae167 []
theorem fsok167 : FnOk Tryz.prog 167 fs167 := fun _ _ _ hn h => ctr_of_resC Tryz.func167 (by kernel_rfl) ree167 (by kernel_rfl) hn h
end Go.Gl
