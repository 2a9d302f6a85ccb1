/-
 The code of functions of the program, resolved, for the evaluator (printed by wip/gen/mkclosed.py)
-/
import Derived.Test.YtfbhfdaljendcaaGreatEv7
import Derived.Test.YtfbhfdaljendcaaGreatProg
import Derived.KernelRfl
set_option linter.all false
set_option linter.unusedVariables false
set_option linter.unusedSimpArgs false
namespace Go.Gl
abbrev q2 (n : Nat) (x : AOp) : AOper := ⟨some n, x, none⟩
open Go.Proofs
abbrev ae147 : ACode := (.seq [0, 1, 2] (.reg [q2 6 (.mv (.c (.b false)))])
 (.seq [0, 1, 2] (.seq [0, 1, 2, 13] (.reg [q2 10 (.mv (.t 0)),
 q2 11 (.mv (.t 1)),
 q2 12 (.call 190 [(.t 10), (.t 11)]),
 q2 13 (.not (.t 12))])
 (.cond (.t 13)
 (.seq [6] (.reg [q2 6 (.mv (.c (.b false)))])
 .ret)
 .skip))
 (.seq [0, 1, 2, 7] (.reg [q2 14 (.mkmap),
 q2 7 (.mv (.t 14))])
 (.seq [] (.seq [0, 1, 2, 7, 15, 16, 17] (.reg [q2 15 (.mv (.t 1)),
 q2 16 (.len (.t 15)),
 q2 17 (.mv (.c (.i .i64 0)))])
 (.block 0 (.loop [0, 1, 2, 7, 15, 16, 17] (.seq [0, 1, 2, 7, 15, 16, 17, 18] (.reg [q2 18 (.bin .lss (.t 17) (.t 16))])
 (.seq [0, 1, 2, 7, 15, 16, 17] (.cond (.t 18)
 .skip
 (.exit 0))
 (.seq [0, 1, 2, 7, 15, 16, 17] (.block 1 (.seq [0, 1, 2, 7, 9, 15, 16, 17] (.reg [q2 19 (.iaddr 1 none (.t 15) (.t 17)),
 q2 20 (.load none (.t 19)),
 q2 9 (.mv (.t 20))])
 (.seq [0, 1, 2, 7, 9, 15, 16, 17] (.seq [0, 1, 2, 7, 9, 15, 16, 17, 58] (.dreg [0, 1, 2, 7, 9, 15, 16, 17, 58] [⟨0, q2 21 (.mv (.t 7)), [], []⟩,
 ⟨1, q2 22 (.mv (.t 9)), [], []⟩,
 ⟨2, q2 23 (.lookup (.i .i64) (.b false) false (.t 21) (.t 22)), [], []⟩,
 ⟨3, q2 24 (.mv (.t 23)), [], []⟩,
 ⟨4, ⟨(some 25), .mv (.t 0), (some (24, false))⟩, [], []⟩,
 ⟨5, ⟨(some 26), .nilck (.t 25), (some (24, false))⟩, [], []⟩,
 ⟨6, ⟨(some 27), .faddr 0 (.t 26), (some (24, false))⟩, [], []⟩,
 ⟨7, ⟨(some 28), .faddr 3 (.t 27), (some (24, false))⟩, [], []⟩,
 ⟨8, ⟨(some 29), .load none (.t 28), (some (24, false))⟩, [], []⟩,
 ⟨9, ⟨(some 30), .mv (.t 9), (some (24, false))⟩, [], []⟩,
 ⟨10, ⟨(some 31), .iaddr 9 none (.t 29) (.t 30), (some (24, false))⟩, [], []⟩,
 ⟨11, ⟨(some 32), .faddr 1 (.t 31), (some (24, false))⟩, [], []⟩,
 ⟨12, ⟨(some 33), .load none (.t 32), (some (24, false))⟩, [], []⟩,
 ⟨13, ⟨(some 34), .mv (.t 0), (some (24, false))⟩, [], []⟩,
 ⟨14, ⟨(some 35), .nilck (.t 34), (some (24, false))⟩, [], []⟩,
 ⟨15, ⟨(some 36), .faddr 0 (.t 35), (some (24, false))⟩, [], []⟩,
 ⟨16, ⟨(some 37), .faddr 3 (.t 36), (some (24, false))⟩, [], []⟩,
 ⟨17, ⟨(some 38), .load none (.t 37), (some (24, false))⟩, [], []⟩,
 ⟨18, ⟨(some 39), .mv (.t 1), (some (24, false))⟩, [], []⟩,
 ⟨19, ⟨(some 40), .iaddr 1 none (.t 39) (.c (.i .i64 0)), (some (24, false))⟩, [], []⟩,
 ⟨20, ⟨(some 41), .load none (.t 40), (some (24, false))⟩, [], []⟩,
 ⟨21, ⟨(some 42), .iaddr 9 none (.t 38) (.t 41), (some (24, false))⟩, [], []⟩,
 ⟨22, ⟨(some 43), .faddr 1 (.t 42), (some (24, false))⟩, [], []⟩,
 ⟨23, ⟨(some 44), .load none (.t 43), (some (24, false))⟩, [], []⟩,
 ⟨24, ⟨(some 45), .bin .neq (.t 33) (.t 44), (some (24, false))⟩, [], []⟩,
 ⟨25, q2 46 (.pick (.t 24) (.c (.b true)) (.t 45)), [], []⟩,
 ⟨26, q2 47 (.mv (.t 46)), [], []⟩,
 ⟨27, ⟨(some 48), .mv (.t 2), (some (47, false))⟩, [], []⟩,
 ⟨28, ⟨(some 49), .mv (.t 48), (some (47, false))⟩, [], []⟩,
 ⟨29, ⟨(some 50), .mv (.t 0), (some (49, true))⟩, [], []⟩,
 ⟨30, ⟨(some 51), .mv (.t 9), (some (49, true))⟩, [], []⟩,
 ⟨31, ⟨(some 52), .mv (.t 1), (some (49, true))⟩, [], []⟩,
 ⟨32, ⟨(some 53), .iaddr 1 none (.t 52) (.c (.i .i64 0)), (some (49, true))⟩, [], []⟩,
 ⟨33, ⟨(some 54), .load none (.t 53), (some (49, true))⟩, [], []⟩,
 ⟨34, ⟨(some 55), .call 191 [(.t 50), (.t 51), (.t 54)], (some (49, true))⟩, [], []⟩,
 ⟨35, ⟨(some 56), .not (.t 55), (some (49, true))⟩, [], []⟩,
 ⟨36, ⟨(some 57), .pick (.t 49) (.t 56) (.c (.b false)), (some (47, false))⟩, [], []⟩,
 ⟨37, q2 58 (.pick (.t 47) (.c (.b true)) (.t 57)), [], []⟩])
 (.cond (.t 58)
 (.seq [6] (.reg [q2 6 (.mv (.c (.b false)))])
 .ret)
 .skip))
 (.reg [q2 59 (.mv (.t 7)),
 q2 60 (.mv (.t 9)),
 ⟨none, .mapset (.i .i64) (.t 59) (.t 60) (.c (.b true)), none⟩]))))
 (.reg [q2 61 (.bin .add (.t 17) (.c (.i .i64 1))),
 q2 17 (.mv (.t 61))])))))))
 (.seq [6] (.reg [q2 6 (.mv (.c (.b true)))])
 .ret)))))
theorem ree147 : Tryz.f147.body.bind (res Tryz.prog Tryz.f147.ntmps [] []) = some (erase ae147) := by kernel_rfl
def fs147 : FnS := .fn 62 ae147 [.t 6]
theorem fsok147 : FnOk Tryz.prog 147 fs147 := fun _ _ _ hn h => ctr_of_resC Tryz.func147 (by kernel_rfl) ree147 (by kernel_rfl) hn h
abbrev ae148 : ACode := (.seq [0, 1, 4] (.reg [q2 4 (.alloc [(.l [] true), (.b false), (.l [] true), (.l [] true), (.b false), (.l [] true)]),
 q2 5 (.mv (.c (.b false)))])
 (.seq [0, 1, 4, 6] (.reg [q2 6 (.alloc [(.l [] true), (.l [] true), (.l [] true), (.l [] true), (.l [] true)])])
 (.seq [0, 4, 6] (.seq [0, 4, 6, 11, 12, 13] (.reg [q2 11 (.mv (.t 1)),
 q2 12 (.len (.t 11)),
 q2 13 (.mv (.c (.i .i64 0)))])
 (.block 0 (.loop [0, 4, 6, 11, 12, 13] (.seq [0, 4, 6, 11, 12, 13, 14] (.reg [q2 14 (.bin .lss (.t 13) (.t 12))])
 (.seq [0, 4, 6, 11, 12, 13] (.cond (.t 14)
 .skip
 (.exit 0))
 (.seq [0, 4, 6, 11, 12, 13] (.block 1 (.seq [0, 4, 6, 8, 11, 12, 13] (.reg [q2 15 (.iaddr 1 none (.t 11) (.t 13)),
 q2 16 (.load none (.t 15)),
 q2 8 (.mv (.t 16))])
 (.seq [0, 4, 6, 8, 9, 11, 12, 13] (.reg [q2 17 (.mv (.t 0)),
 q2 18 (.nilck (.t 17)),
 q2 19 (.faddr 0 (.t 18)),
 q2 20 (.faddr 3 (.t 19)),
 q2 21 (.load none (.t 20)),
 q2 22 (.mv (.t 8)),
 q2 23 (.iaddr 9 none (.t 21) (.t 22)),
 q2 24 (.faddr 0 (.t 23)),
 q2 25 (.load none (.t 24)),
 q2 9 (.mv (.t 25))])
 (.reg [q2 26 (.mv (.t 9)),
 q2 27 (.mv (.t 9)),
 q2 28 (.iaddr 1 (some 5) (.t 6) (.t 27)),
 q2 29 (.load none (.t 28)),
 q2 30 (.mv (.t 8)),
 q2 31 (.bslice 1 1 [(.i .i64 0)] [(0, (.t 30))]),
 q2 32 (.append 1 8 (.t 29) (.t 31)),
 q2 33 (.iaddr 1 (some 5) (.t 6) (.t 26)),
 ⟨none, .store 1 (.t 33) (.t 32), none⟩]))))
 (.reg [q2 34 (.bin .add (.t 13) (.c (.i .i64 1))),
 q2 13 (.mv (.t 34))])))))))
 (.seq [0, 4, 6, 10] (.reg [q2 10 (.alloc [(.l [] true), (.b false), (.l [] true), (.l [] true), (.b false), (.l [] true)])])
 (.seq [0, 4, 6, 10] (.seq [0, 4, 6, 10, 38] (.reg [q2 35 (.iaddr 1 (some 5) (.t 6) (.c (.i .i64 1))),
 q2 36 (.load none (.t 35)),
 q2 37 (.len (.t 36)),
 q2 38 (.bin .eql (.t 37) (.c (.i .i64 0)))])
 (.cond (.t 38)
 (.seq [4, 5] (.reg [q2 39 (.load (some 6) (.t 10)),
 ⟨none, .store 6 (.t 4) (.t 39), none⟩,
 q2 5 (.mv (.c (.b false)))])
 .ret)
 .skip))
 (.seq [0, 4, 6, 10] (.reg [q2 41 (.mv (.t 0)),
 q2 42 (.iaddr 1 (some 5) (.t 6) (.c (.i .i64 4))),
 q2 43 (.load none (.t 42)),
 q2 44 (.call 192 [(.t 41), (.t 43)]),
 q2 40 (.mv (.t 44)),
 q2 45 (.extract 0 (.t 40)),
 q2 46 (.extract 1 (.t 40)),
 q2 47 (.faddr 0 (.t 10)),
 ⟨none, .store 1 (.t 47) (.t 45), none⟩,
 q2 48 (.faddr 1 (.t 10)),
 ⟨none, .store 1 (.t 48) (.t 46), none⟩])
 (.seq [0, 4, 6, 10] (.reg [q2 49 (.mv (.t 0)),
 q2 50 (.iaddr 1 (some 5) (.t 6) (.c (.i .i64 2))),
 q2 51 (.load none (.t 50)),
 q2 52 (.call 193 [(.t 49), (.t 51)]),
 q2 53 (.faddr 2 (.t 10)),
 ⟨none, .store 1 (.t 53) (.t 52), none⟩])
 (.seq [0, 4, 6, 10] (.reg [q2 55 (.mv (.t 0)),
 q2 56 (.iaddr 1 (some 5) (.t 6) (.c (.i .i64 1))),
 q2 57 (.load none (.t 56)),
 q2 58 (.call 192 [(.t 55), (.t 57)]),
 q2 54 (.mv (.t 58)),
 q2 59 (.extract 0 (.t 54)),
 q2 60 (.extract 1 (.t 54)),
 q2 61 (.faddr 3 (.t 10)),
 ⟨none, .store 1 (.t 61) (.t 59), none⟩,
 q2 62 (.faddr 4 (.t 10)),
 ⟨none, .store 1 (.t 62) (.t 60), none⟩])
 (.seq [4, 10] (.reg [q2 63 (.mv (.t 0)),
 q2 64 (.iaddr 1 (some 5) (.t 6) (.c (.i .i64 3))),
 q2 65 (.load none (.t 64)),
 q2 66 (.call 193 [(.t 63), (.t 65)]),
 q2 67 (.faddr 5 (.t 10)),
 ⟨none, .store 1 (.t 67) (.t 66), none⟩])
 (.seq [4, 10] (.reg [q2 68 (.faddr 5 (.t 10)),
 q2 69 (.load none (.t 68)),
 q2 70 (.call 150 [(.t 69)])])
 (.seq [4, 5] (.reg [q2 71 (.load (some 6) (.t 10)),
 ⟨none, .store 6 (.t 4) (.t 71), none⟩,
 q2 5 (.mv (.c (.b true)))])
 .ret)))))))))))
theorem ree148 : Tryz.f148.body.bind (res Tryz.prog Tryz.f148.ntmps [] []) = some (erase ae148) := by kernel_rfl
def fs148 : FnS := .fn 72 ae148 [.c 4 (some 6), .t 5]
theorem fsok148 : FnOk Tryz.prog 148 fs148 := fun _ _ _ hn h => ctr_of_resC Tryz.func148 (by kernel_rfl) ree148 (by kernel_rfl) hn h
theorem recl149 : Tryz.f149.body.bind (res Tryz.prog Tryz.f149.ntmps [] []) = some (erase (cloneAC 1 8)) := by kernel_rfl
def fs149 : FnS := .prim (cloneP 1)
theorem fsok149 : FnOk Tryz.prog 149 fs149 := clone_fs (sz := 1) (b := 8) (fun _ _ _ hn h => ctr_of_resC Tryz.func149 (by kernel_rfl) recl149 (by kernel_rfl) hn h) (Nat.le_of_ble_eq_true rfl)
abbrev ae150 : ACode := (.seq [0, 2, 3] (.reg [q2 4 (.mv (.t 0)),
 q2 5 (.len (.t 4)),
 q2 6 (.bin .sub (.t 5) (.c (.i .i64 1))),
 q2 2 (.mv (.c (.i .i64 0))),
 q2 3 (.mv (.t 6))])
 (.block 0 (.loop [0, 2, 3] (.seq [0, 2, 3] (.seq [0, 2, 3, 9] (.reg [q2 7 (.mv (.t 2)),
 q2 8 (.mv (.t 3)),
 q2 9 (.bin .lss (.t 7) (.t 8))])
 (.cond (.t 9)
 .skip
 (.exit 0)))
 (.seq [0, 2, 3] (.block 1 (.dreg [0, 2, 3] [⟨0, q2 14 (.mv (.t 0)), [], []⟩,
 ⟨1, q2 15 (.mv (.t 2)), [], []⟩,
 ⟨2, q2 16 (.mv (.t 0)), [], []⟩,
 ⟨3, q2 17 (.mv (.t 3)), [], []⟩,
 ⟨4, q2 18 (.mv (.t 0)), [], []⟩,
 ⟨5, q2 19 (.mv (.t 3)), [], []⟩,
 ⟨6, q2 20 (.iaddr 1 none (.t 18) (.t 19)), [], []⟩,
 ⟨7, q2 21 (.load none (.t 20)), [], []⟩,
 ⟨8, q2 22 (.mv (.t 0)), [], []⟩,
 ⟨9, q2 23 (.mv (.t 2)), [], []⟩,
 ⟨10, q2 24 (.iaddr 1 none (.t 22) (.t 23)), [], []⟩,
 ⟨11, q2 25 (.load none (.t 24)), [], []⟩,
 ⟨12, q2 26 (.iaddr 1 none (.t 14) (.t 15)), [], []⟩,
 ⟨13, ⟨none, .store 1 (.t 26) (.t 21), none⟩, [], []⟩,
 ⟨14, q2 27 (.iaddr 1 none (.t 16) (.t 17)), [], []⟩,
 ⟨15, ⟨none, .store 1 (.t 27) (.t 25), none⟩, [], []⟩]))
 (.reg [q2 10 (.mv (.t 2)),
 q2 11 (.bin .add (.t 10) (.c (.i .i64 1))),
 q2 12 (.mv (.t 3)),
 q2 13 (.bin .sub (.t 12) (.c (.i .i64 1))),
 q2 2 (.mv (.t 11)),
 q2 3 (.mv (.t 13))]))))))
theorem ree150 : Tryz.f150.body.bind (res Tryz.prog Tryz.f150.ntmps [] []) = some (erase ae150) := by kernel_rfl
def fs150 : FnS := .fn 28 ae150 []
theorem fsok150 : FnOk Tryz.prog 150 fs150 := fun _ _ _ hn h => ctr_of_resC Tryz.func150 (by kernel_rfl) ree150 (by kernel_rfl) hn h
abbrev ae81 : ACode := (.seq [0, 3] (.reg [q2 3 (.box (.t 1)),
 q2 4 (.mv (.c (.b false)))])
 (.seq [4] (.reg [q2 5 (.mv (.t 0)),
 q2 6 (.bin .eql (.t 5) (.c (.i .i64 1))),
 q2 7 (.mv (.t 6)),
 ⟨(some 8), .mv (.t 0), (some (7, false))⟩,
 ⟨(some 9), .bin .eql (.t 8) (.c (.i .i64 5)), (some (7, false))⟩,
 ⟨(some 10), .mv (.t 9), (some (7, false))⟩,
 ⟨(some 11), .load (some 2) (.t 3), (some (10, true))⟩,
 ⟨(some 12), .call 124 [(.t 11)], (some (10, true))⟩,
 ⟨(some 13), .bin .eql (.t 12) (.c (.i .i64 0)), (some (10, true))⟩,
 ⟨(some 14), .pick (.t 10) (.t 13) (.c (.b false)), (some (7, false))⟩,
 q2 15 (.pick (.t 7) (.c (.b true)) (.t 14)),
 q2 16 (.mv (.t 15)),
 ⟨(some 17), .mv (.t 0), (some (16, false))⟩,
 ⟨(some 18), .bin .eql (.t 17) (.c (.i .i64 6)), (some (16, false))⟩,
 ⟨(some 19), .mv (.t 18), (some (16, false))⟩,
 ⟨(some 20), .load (some 2) (.t 3), (some (19, true))⟩,
 ⟨(some 21), .call 124 [(.t 20)], (some (19, true))⟩,
 ⟨(some 22), .bin .neq (.t 21) (.c (.i .i64 0)), (some (19, true))⟩,
 ⟨(some 23), .pick (.t 19) (.t 22) (.c (.b false)), (some (16, false))⟩,
 q2 24 (.pick (.t 16) (.c (.b true)) (.t 23)),
 q2 4 (.mv (.t 24))])
 .ret))
theorem ree81 : Tryz.f81.body.bind (res Tryz.prog Tryz.f81.ntmps [] []) = some (erase ae81) := by kernel_rfl
def fs81 : FnS := .fn 25 ae81 [.t 4]
theorem fsok81 : FnOk Tryz.prog 81 fs81 := fun _ _ _ hn h => ctr_of_resC Tryz.func81 (by kernel_rfl) ree81 (by kernel_rfl) hn h
abbrev ae124 : ACode := (.seq [1] (.reg [q2 1 (.box (.t 0)),
 q2 2 (.mv (.c (.i .i64 0)))])
 (.seq [] (.seq [1, 5] (.reg [q2 3 (.faddr 0 (.t 1)),
 q2 4 (.load none (.t 3)),
 q2 5 (.bin .eql (.t 4) (.c (.i .i64 1)))])
 (.cond (.t 5)
 (.seq [2] (.reg [q2 6 (.faddr 1 (.t 1)),
 q2 7 (.load none (.t 6)),
 q2 2 (.mv (.t 7))])
 .ret)
 .skip))
 (.seq [2] (.reg [q2 2 (.mv (.c (.i .i64 0)))])
 .ret)))
theorem ree124 : Tryz.f124.body.bind (res Tryz.prog Tryz.f124.ntmps [] []) = some (erase ae124) := by kernel_rfl
def fs124 : FnS := .fn 8 ae124 [.t 2]
theorem fsok124 : FnOk Tryz.prog 124 fs124 := fun _ _ _ hn h => ctr_of_resC Tryz.func124 (by kernel_rfl) ree124 (by kernel_rfl) hn h
abbrev ae126 : ACode := (.seq [0, 2] (.reg [q2 2 (.alloc [(.i .i64 0), (.i .i64 0)])])
 (.seq [2] (.reg [q2 3 (.mv (.t 0)),
 q2 4 (.mmax (.t 3) (.c (.i .i64 (-1000000000)))),
 q2 5 (.mmin (.t 4) (.c (.i .i64 1000000000))),
 q2 6 (.build [(.i .i64 0), (.i .i64 0)] [(0, 1, (.c (.i .i64 1))), (1, 1, (.t 5))]),
 ⟨none, .store 2 (.t 2) (.t 6), none⟩])
 .ret))
theorem ree126 : Tryz.f126.body.bind (res Tryz.prog Tryz.f126.ntmps [] []) = some (erase ae126) := by kernel_rfl
def fs126 : FnS := .fn 7 ae126 [.c 2 (some 2)]
theorem fsok126 : FnOk Tryz.prog 126 fs126 := fun _ _ _ hn h => ctr_of_resC Tryz.func126 (by kernel_rfl) ree126 (by kernel_rfl) hn h
abbrev ae125 : ACode := (.seq [0, 1] (.reg [q2 4 (.mv (.c (.i .i64 0)))])
 (.seq [4] (.reg [q2 5 (.mv (.t 0)),
 q2 6 (.mv (.t 1)),
 q2 7 (.bin .add (.t 5) (.t 6)),
 q2 8 (.call 126 [(.t 7)]),
 q2 9 (.field none 1 (.t 8)),
 q2 4 (.mv (.t 9))])
 .ret))
theorem ree125 : Tryz.f125.body.bind (res Tryz.prog Tryz.f125.ntmps [] []) = some (erase ae125) := by kernel_rfl
def fs125 : FnS := .fn 10 ae125 [.t 4]
theorem fsok125 : FnOk Tryz.prog 125 fs125 := fun _ _ _ hn h => ctr_of_resC Tryz.func125 (by kernel_rfl) ree125 (by kernel_rfl) hn h
abbrev ae127 : ACode := (.seq [0, 1] (.reg [q2 4 (.mv (.c (.i .i64 0)))])
 (.seq [4] (.reg [q2 5 (.mv (.t 0)),
 q2 6 (.mv (.t 1)),
 q2 7 (.mmin (.t 5) (.t 6)),
 q2 4 (.mv (.t 7))])
 .ret))
theorem ree127 : Tryz.f127.body.bind (res Tryz.prog Tryz.f127.ntmps [] []) = some (erase ae127) := by kernel_rfl
def fs127 : FnS := .fn 8 ae127 [.t 4]
theorem fsok127 : FnOk Tryz.prog 127 fs127 := fun _ _ _ hn h => ctr_of_resC Tryz.func127 (by kernel_rfl) ree127 (by kernel_rfl) hn h
abbrev ae128 : ACode := (.seq [0, 1] (.reg [q2 4 (.mv (.c (.i .i64 0)))])
 (.seq [4] (.reg [q2 5 (.mv (.t 0)),
 q2 6 (.mv (.t 1)),
 q2 7 (.mmax (.t 5) (.t 6)),
 q2 4 (.mv (.t 7))])
 .ret))
theorem ree128 : Tryz.f128.body.bind (res Tryz.prog Tryz.f128.ntmps [] []) = some (erase ae128) := by kernel_rfl
def fs128 : FnS := .fn 8 ae128 [.t 4]
theorem fsok128 : FnOk Tryz.prog 128 fs128 := fun _ _ _ hn h => ctr_of_resC Tryz.func128 (by kernel_rfl) ree128 (by kernel_rfl) hn h
abbrev ae78 : ACode := (.seq [1] (.reg [q2 1 (.box (.t 0)),
 q2 2 (.mv (.c (.b false)))])
 (.seq [1] (.seq [1, 4] (.reg [q2 3 (.faddr 0 (.t 1)),
 q2 4 (.load none (.t 3))])
 (.block 0 (.seq [1, 4, 5] (.reg [q2 6 (.bin .eql (.t 4) (.c (.i .i64 1))),
 q2 5 (.mv (.t 6))])
 (.cond (.t 5)
 (.seq [2] (.reg [q2 7 (.faddr 1 (.t 1)),
 q2 8 (.load none (.t 7)),
 q2 9 (.bin .geq (.t 8) (.c (.i .i64 (-1000000000)))),
 q2 10 (.mv (.t 9)),
 ⟨(some 11), .faddr 1 (.t 1), (some (10, true))⟩,
 ⟨(some 12), .load none (.t 11), (some (10, true))⟩,
 ⟨(some 13), .bin .leq (.t 12) (.c (.i .i64 1000000000)), (some (10, true))⟩,
 q2 14 (.pick (.t 10) (.t 13) (.c (.b false))),
 q2 2 (.mv (.t 14))])
 .ret)
 (.seq [1, 15] (.reg [q2 16 (.bin .eql (.t 4) (.c (.i .i64 2))),
 q2 15 (.mv (.t 16))])
 (.cond (.t 15)
 (.seq [2] (.reg [q2 17 (.faddr 1 (.t 1)),
 q2 18 (.load none (.t 17)),
 q2 19 (.bin .eql (.t 18) (.c (.i .i64 0))),
 q2 2 (.mv (.t 19))])
 .ret)
 .skip))))))
 (.seq [2] (.reg [q2 20 (.faddr 0 (.t 1)),
 q2 21 (.load none (.t 20)),
 q2 22 (.bin .eql (.t 21) (.c (.i .i64 3))),
 q2 23 (.mv (.t 22)),
 ⟨(some 24), .faddr 1 (.t 1), (some (23, true))⟩,
 ⟨(some 25), .load none (.t 24), (some (23, true))⟩,
 ⟨(some 26), .bin .geq (.t 25) (.c (.i .i64 0)), (some (23, true))⟩,
 q2 27 (.pick (.t 23) (.t 26) (.c (.b false))),
 q2 28 (.mv (.t 27)),
 ⟨(some 29), .faddr 1 (.t 1), (some (28, true))⟩,
 ⟨(some 30), .load none (.t 29), (some (28, true))⟩,
 ⟨(some 31), .bin .lss (.t 30) (.c (.i .i64 40)), (some (28, true))⟩,
 q2 32 (.pick (.t 28) (.t 31) (.c (.b false))),
 q2 2 (.mv (.t 32))])
 .ret)))
theorem ree78 : Tryz.f78.body.bind (res Tryz.prog Tryz.f78.ntmps [] []) = some (erase ae78) := by kernel_rfl
def fs78 : FnS := .fn 33 ae78 [.t 2]
theorem fsok78 : FnOk Tryz.prog 78 fs78 := fun _ _ _ hn h => ctr_of_resC Tryz.func78 (by kernel_rfl) ree78 (by kernel_rfl) hn h
abbrev ae195 : ACode := (.seq [0, 1] (.reg [q2 8 (.load (some 6) (.t 0)),
 q2 9 (.call 196 [(.t 8)])])
 (.seq [0, 1] (.reg [q2 10 (.faddr 2 (.t 0)),
 q2 11 (.load none (.t 10)),
 q2 12 (.len (.t 11)),
 q2 13 (.bin .leq (.t 12) (.c (.i .i64 8))),
 q2 14 (.mv (.t 13)),
 ⟨(some 15), .faddr 3 (.t 0), (some (14, true))⟩,
 ⟨(some 16), .load none (.t 15), (some (14, true))⟩,
 ⟨(some 17), .len (.t 16), (some (14, true))⟩,
 ⟨(some 18), .bin .leq (.t 17) (.c (.i .i64 16)), (some (14, true))⟩,
 q2 19 (.pick (.t 14) (.t 18) (.c (.b false))),
 q2 20 (.mv (.t 19)),
 ⟨(some 21), .faddr 4 (.t 0), (some (20, true))⟩,
 ⟨(some 22), .load none (.t 21), (some (20, true))⟩,
 ⟨(some 23), .len (.t 22), (some (20, true))⟩,
 ⟨(some 24), .bin .geq (.t 23) (.c (.i .i64 1)), (some (20, true))⟩,
 q2 25 (.pick (.t 20) (.t 24) (.c (.b false))),
 q2 26 (.mv (.t 25)),
 ⟨(some 27), .faddr 4 (.t 0), (some (26, true))⟩,
 ⟨(some 28), .load none (.t 27), (some (26, true))⟩,
 ⟨(some 29), .len (.t 28), (some (26, true))⟩,
 ⟨(some 30), .bin .leq (.t 29) (.c (.i .i64 120)), (some (26, true))⟩,
 q2 31 (.pick (.t 26) (.t 30) (.c (.b false))),
 q2 32 (.call 197 [(.t 31)])])
 (.seq [0, 1] (.seq [0, 1, 34, 35, 36] (.reg [q2 33 (.faddr 2 (.t 0)),
 q2 34 (.load none (.t 33)),
 q2 35 (.len (.t 34)),
 q2 36 (.mv (.c (.i .i64 0)))])
 (.block 0 (.loop [0, 1, 34, 35, 36] (.seq [0, 1, 34, 35, 36, 37] (.reg [q2 37 (.bin .lss (.t 36) (.t 35))])
 (.seq [0, 1, 34, 35, 36] (.cond (.t 37)
 .skip
 (.exit 0))
 (.seq [0, 1, 34, 35, 36] (.block 1 (.seq [0, 1, 3, 34, 35, 36] (.reg [q2 38 (.iaddr 1 none (.t 34) (.t 36)),
 q2 39 (.load none (.t 38)),
 q2 3 (.mv (.t 39))])
 (.reg [q2 40 (.mv (.t 3)),
 q2 41 (.bin .geq (.t 40) (.c (.i .i64 1))),
 q2 42 (.mv (.t 41)),
 ⟨(some 43), .mv (.t 3), (some (42, true))⟩,
 ⟨(some 44), .bin .leq (.t 43) (.c (.i .i64 3)), (some (42, true))⟩,
 q2 45 (.pick (.t 42) (.t 44) (.c (.b false))),
 q2 46 (.call 197 [(.t 45)])])))
 (.reg [q2 47 (.bin .add (.t 36) (.c (.i .i64 1))),
 q2 36 (.mv (.t 47))])))))))
 (.seq [0, 1] (.reg [q2 48 (.bslice 1 1 [(.i .i64 0)] [(0, (.c (.i .i64 (-1))))]),
 q2 49 (.faddr 4 (.t 0)),
 q2 50 (.load none (.t 49)),
 q2 51 (.len (.t 50)),
 q2 52 (.call 60 [(.t 48), (.t 51)]),
 ⟨none, .store 1 (.t 1) (.t 52), none⟩])
 (.seq [0, 1, 4] (.reg [q2 53 (.mkf (.func 198) [] [(.t 0), (.t 1)]),
 q2 4 (.mv (.t 53))])
 (.seq [0, 1, 4, 5] (.reg [q2 54 (.load (some 6) (.t 0)),
 q2 55 (.call 118 [(.t 54)]),
 q2 5 (.alloc [(.l [] true), (.l [] true)]),
 ⟨none, .store 2 (.t 5) (.t 55), none⟩])
 (.seq [0, 1, 4] (.seq [0, 1, 4, 5, 57, 58, 59] (.reg [q2 56 (.faddr 3 (.t 0)),
 q2 57 (.load none (.t 56)),
 q2 58 (.len (.t 57)),
 q2 59 (.mv (.c (.i .i64 0)))])
 (.block 2 (.loop [0, 1, 4, 5, 57, 58, 59] (.seq [0, 1, 4, 5, 57, 58, 59, 60] (.reg [q2 60 (.bin .lss (.t 59) (.t 58))])
 (.seq [0, 1, 4, 5, 57, 58, 59] (.cond (.t 60)
 .skip
 (.exit 2))
 (.seq [0, 1, 4, 5, 57, 58, 59] (.block 3 (.seq [0, 1, 4, 5, 7, 57, 58, 59] (.reg [q2 61 (.iaddr 9 none (.t 57) (.t 59)),
 q2 62 (.load (some 9) (.t 61)),
 q2 7 (.alloc [(.i .i64 0), (.i .i64 0), (.i .i64 0), (.i .i64 0), (.l [] true), (.i .i64 0), (.i .i64 0), (.l [] true), (.i .i64 0)]),
 ⟨none, .store 9 (.t 7) (.t 62), none⟩])
 (.seq [0, 1, 4, 5, 7, 57, 58, 59] (.reg [q2 63 (.faddr 0 (.t 7)),
 q2 64 (.load none (.t 63)),
 q2 65 (.bin .geq (.t 64) (.c (.i .i64 1))),
 q2 66 (.mv (.t 65)),
 ⟨(some 67), .faddr 0 (.t 7), (some (66, true))⟩,
 ⟨(some 68), .load none (.t 67), (some (66, true))⟩,
 ⟨(some 69), .bin .leq (.t 68) (.c (.i .i64 4)), (some (66, true))⟩,
 q2 70 (.pick (.t 66) (.t 69) (.c (.b false))),
 q2 71 (.mv (.t 70)),
 ⟨(some 72), .faddr 1 (.t 7), (some (71, true))⟩,
 ⟨(some 73), .load none (.t 72), (some (71, true))⟩,
 ⟨(some 74), .bin .geq (.t 73) (.c (.i .i64 0)), (some (71, true))⟩,
 q2 75 (.pick (.t 71) (.t 74) (.c (.b false))),
 q2 76 (.mv (.t 75)),
 ⟨(some 77), .faddr 1 (.t 7), (some (76, true))⟩,
 ⟨(some 78), .load none (.t 77), (some (76, true))⟩,
 ⟨(some 79), .faddr 2 (.t 0), (some (76, true))⟩,
 ⟨(some 80), .load none (.t 79), (some (76, true))⟩,
 ⟨(some 81), .len (.t 80), (some (76, true))⟩,
 ⟨(some 82), .bin .lss (.t 78) (.t 81), (some (76, true))⟩,
 q2 83 (.pick (.t 76) (.t 82) (.c (.b false))),
 q2 84 (.call 197 [(.t 83)])])
 (.seq [0, 1, 4, 5, 7, 57, 58, 59] (.dreg [0, 1, 4, 5, 7, 57, 58, 59] [⟨0, q2 85 (.load (some 2) (.t 5)), [], []⟩,
 ⟨1, q2 86 (.faddr 2 (.t 7)), [], []⟩,
 ⟨2, q2 87 (.load (some 6) (.t 86)), [], []⟩,
 ⟨3, q2 88 (.call 116 [(.t 85), (.t 87)]), [], []⟩,
 ⟨4, q2 89 (.bin .eql (.t 88) (.c (.i .i64 0))), [], []⟩,
 ⟨5, q2 90 (.mv (.t 89)), [], []⟩,
 ⟨6, ⟨(some 91), .faddr 2 (.t 7), (some (90, true))⟩, [], []⟩,
 ⟨7, ⟨(some 92), .load (some 6) (.t 91), (some (90, true))⟩, [], []⟩,
 ⟨9, ⟨(some 94), .faddr 2 (.t 0), (some (90, true))⟩, [], []⟩,
 ⟨10, ⟨(some 95), .load none (.t 94), (some (90, true))⟩, [], []⟩,
 ⟨11, ⟨(some 96), .faddr 1 (.t 7), (some (90, true))⟩, [], []⟩,
 ⟨12, ⟨(some 97), .load none (.t 96), (some (90, true))⟩, [], []⟩,
 ⟨13, ⟨(some 98), .iaddr 1 none (.t 95) (.t 97), (some (90, true))⟩, [], []⟩,
 ⟨14, ⟨(some 99), .load none (.t 98), (some (90, true))⟩, [], []⟩,
 ⟨8, ⟨(some 93), .call 202 [(.t 92)], (some (90, true))⟩, [14, 12, 10], [⟨(some 99), .load none (.t 98), (some (90, true))⟩, ⟨(some 97), .load none (.t 96), (some (90, true))⟩, ⟨(some 95), .load none (.t 94), (some (90, true))⟩]⟩,
 ⟨15, ⟨(some 100), .bin .leq (.t 93) (.t 99), (some (90, true))⟩, [], []⟩,
 ⟨16, q2 101 (.pick (.t 90) (.t 100) (.c (.b false))), [], []⟩,
 ⟨17, q2 102 (.call 197 [(.t 101)]), [], []⟩])
 (.dreg [0, 1, 4, 5, 57, 58, 59] [⟨0, q2 103 (.mv (.t 4)), [], []⟩,
 ⟨1, q2 104 (.faddr 8 (.t 7)), [], []⟩,
 ⟨2, q2 105 (.load none (.t 104)), [], []⟩,
 ⟨3, q2 106 (.faddr 2 (.t 0)), [], []⟩,
 ⟨4, q2 107 (.load none (.t 106)), [], []⟩,
 ⟨5, q2 108 (.faddr 1 (.t 7)), [], []⟩,
 ⟨6, q2 109 (.load none (.t 108)), [], []⟩,
 ⟨7, q2 110 (.iaddr 1 none (.t 107) (.t 109)), [], []⟩,
 ⟨8, q2 111 (.load none (.t 110)), [], []⟩,
 ⟨9, q2 112 (.faddr 0 (.t 7)), [], []⟩,
 ⟨10, q2 113 (.load none (.t 112)), [], []⟩,
 ⟨11, q2 114 (.bin .eql (.t 113) (.c (.i .i64 1))), [], []⟩,
 ⟨12, q2 115 (.mv (.t 114)), [], []⟩,
 ⟨13, ⟨(some 116), .faddr 0 (.t 7), (some (115, false))⟩, [], []⟩,
 ⟨14, ⟨(some 117), .load none (.t 116), (some (115, false))⟩, [], []⟩,
 ⟨15, ⟨(some 118), .bin .eql (.t 117) (.c (.i .i64 4)), (some (115, false))⟩, [], []⟩,
 ⟨16, q2 119 (.pick (.t 115) (.c (.b true)) (.t 118)), [], []⟩,
 ⟨17, q2 120 (.callv (.t 103) [(.t 105), (.t 111), (.t 119)]), [], []⟩])))))
 (.reg [q2 121 (.bin .add (.t 59) (.c (.i .i64 1))),
 q2 59 (.mv (.t 121))])))))))
 (.seq [1] (.reg [q2 122 (.mv (.t 4)),
 q2 123 (.faddr 5 (.t 0)),
 q2 124 (.load none (.t 123)),
 q2 125 (.callv (.t 122) [(.t 124), (.c (.i .i64 0)), (.c (.b false))])])
 (.reg [q2 126 (.load none (.t 1)),
 q2 127 (.call 67 [(.t 126), (.c (.i .i64 (-1)))]),
 q2 128 (.not (.t 127)),
 q2 129 (.call 197 [(.t 128)])])))))))))
theorem ree195 : Tryz.f195.body.bind (res Tryz.prog Tryz.f195.ntmps [] []) = some (erase ae195) := by kernel_rfl
def fs195 : FnS := .fn 130 ae195 []
theorem fsok195 : FnOk Tryz.prog 195 fs195 := fun _ _ _ hn h => ctr_of_resC Tryz.func195 (by kernel_rfl) ree195 (by kernel_rfl) hn h
abbrev acAe194 : ACode := (.reg [q2 2 (.alloc [(.b false)])])
def ose194 : List AOper := [q2 3 (.mkf (.func 246) [] [(.t 2)])]
abbrev acCe194 : ACode := (.seq [2] (.reg [q2 4 (.mv (.t 0)),
 q2 5 (.callv (.t 4) [])])
 (.seq [2] (.reg [⟨none, .store 1 (.t 2) (.c (.b true)), none⟩])
 .ret))
theorem rese194 : Tryz.f194.body.bind (resDfr Tryz.prog Tryz.f194.ntmps [] []) = some (erase acAe194, ose194, (.t 3), erase acCe194) := by kernel_rfl
def fs194 : FnS := .dfr 6 acAe194 ose194 (.t 3) acCe194 [.c 2 none] [0, 2] [0, 2]
theorem fsok194 : FnOk Tryz.prog 194 fs194 := fun _ _ _ hn h => ctr_of_dfr Tryz.func194 (by kernel_rfl) rese194 (by kernel_rfl) hn h
abbrev ae155 : ACode := (.seq [0, 1, 2] (.reg [q2 5 (.mv (.c (.b false)))])
 (.seq [5] (.reg [q2 6 (.mv (.t 0)),
 q2 7 (.bin .eql (.t 6) (.c (.i .i64 (-1)))),
 q2 8 (.mv (.t 7)),
 ⟨(some 9), .mv (.t 0), (some (8, false))⟩,
 ⟨(some 10), .bin .geq (.t 9) (.c (.i .i64 0)), (some (8, false))⟩,
 ⟨(some 11), .mv (.t 10), (some (8, false))⟩,
 ⟨(some 12), .mv (.t 0), (some (11, true))⟩,
 ⟨(some 13), .faddr 2 (.t 2), (some (11, true))⟩,
 ⟨(some 14), .load none (.t 13), (some (11, true))⟩,
 ⟨(some 15), .len (.t 14), (some (11, true))⟩,
 ⟨(some 16), .bin .lss (.t 12) (.t 15), (some (11, true))⟩,
 ⟨(some 17), .pick (.t 11) (.t 16) (.c (.b false)), (some (8, false))⟩,
 ⟨(some 18), .mv (.t 17), (some (8, false))⟩,
 ⟨(some 19), .faddr 2 (.t 2), (some (18, true))⟩,
 ⟨(some 20), .load none (.t 19), (some (18, true))⟩,
 ⟨(some 21), .mv (.t 0), (some (18, true))⟩,
 ⟨(some 22), .iaddr 1 none (.t 20) (.t 21), (some (18, true))⟩,
 ⟨(some 23), .load none (.t 22), (some (18, true))⟩,
 ⟨(some 24), .mv (.t 1), (some (18, true))⟩,
 ⟨(some 25), .bin .eql (.t 23) (.t 24), (some (18, true))⟩,
 ⟨(some 26), .pick (.t 18) (.t 25) (.c (.b false)), (some (8, false))⟩,
 q2 27 (.pick (.t 8) (.c (.b true)) (.t 26)),
 q2 5 (.mv (.t 27))])
 .ret))
theorem ree155 : Tryz.f155.body.bind (res Tryz.prog Tryz.f155.ntmps [] []) = some (erase ae155) := by kernel_rfl
def fs155 : FnS := .fn 28 ae155 [.t 5]
theorem fsok155 : FnOk Tryz.prog 155 fs155 := fun _ _ _ hn h => ctr_of_resC Tryz.func155 (by kernel_rfl) ree155 (by kernel_rfl) hn h
abbrev ae156 : ACode := (.seq [0, 1] (.reg [q2 3 (.mv (.c (.b false)))])
 (.seq [3] (.reg [q2 4 (.mv (.t 0)),
 q2 5 (.bin .lss (.t 4) (.c (.i .i64 (-1)))),
 q2 6 (.mv (.t 5)),
 ⟨(some 7), .mv (.t 0), (some (6, false))⟩,
 ⟨(some 8), .faddr 1 (.t 1), (some (6, false))⟩,
 ⟨(some 9), .load none (.t 8), (some (6, false))⟩,
 ⟨(some 10), .len (.t 9), (some (6, false))⟩,
 ⟨(some 11), .bin .geq (.t 7) (.t 10), (some (6, false))⟩,
 q2 12 (.pick (.t 6) (.c (.b true)) (.t 11)),
 q2 3 (.mv (.t 12))])
 .ret))
theorem ree156 : Tryz.f156.body.bind (res Tryz.prog Tryz.f156.ntmps [] []) = some (erase ae156) := by kernel_rfl
def fs156 : FnS := .fn 13 ae156 [.t 3]
theorem fsok156 : FnOk Tryz.prog 156 fs156 := fun _ _ _ hn h => ctr_of_resC Tryz.func156 (by kernel_rfl) ree156 (by kernel_rfl) hn h
abbrev ae46 : ACode := (.seq [0, 1] (.reg [q2 4 (.mv (.c (.b false)))])
 (.seq [4] (.reg [q2 5 (.mv (.t 0)),
 q2 6 (.mv (.t 1)),
 q2 7 (.call 104 [(.t 5), (.t 6)]),
 q2 8 (.bin .geq (.t 7) (.c (.i .i64 0))),
 q2 4 (.mv (.t 8))])
 .ret))
theorem ree46 : Tryz.f46.body.bind (res Tryz.prog Tryz.f46.ntmps [] []) = some (erase ae46) := by kernel_rfl
def fs46 : FnS := .fn 9 ae46 [.t 4]
theorem fsok46 : FnOk Tryz.prog 46 fs46 := fun _ _ _ hn h => ctr_of_resC Tryz.func46 (by kernel_rfl) ree46 (by kernel_rfl) hn h
abbrev ae182 : ACode := (.seq [0, 2, 4, 6] (.reg [q2 4 (.box (.t 1)),
 q2 6 (.alloc [(.i .i64 0), (.i .i64 0)])])
 (.seq [6] (.dreg [6] [⟨0, q2 7 (.mv (.t 0)), [], []⟩,
 ⟨1, q2 8 (.faddr 0 (.t 4)), [], []⟩,
 ⟨2, q2 9 (.faddr 2 (.t 8)), [], []⟩,
 ⟨3, q2 10 (.load none (.t 9)), [], []⟩,
 ⟨4, q2 11 (.mv (.t 2)), [], []⟩,
 ⟨5, q2 12 (.iaddr 1 none (.t 10) (.t 11)), [], []⟩,
 ⟨6, q2 13 (.load none (.t 12)), [], []⟩,
 ⟨7, q2 14 (.faddr 3 (.t 4)), [], []⟩,
 ⟨8, q2 15 (.load none (.t 14)), [], []⟩,
 ⟨9, q2 16 (.faddr 4 (.t 4)), [], []⟩,
 ⟨10, q2 17 (.load none (.t 16)), [], []⟩,
 ⟨11, q2 18 (.call 90 [(.t 7), (.t 13), (.t 15), (.t 17)]), [], []⟩,
 ⟨12, ⟨none, .store 2 (.t 6) (.t 18), none⟩, [], []⟩])
 .ret))
theorem ree182 : Tryz.f182.body.bind (res Tryz.prog Tryz.f182.ntmps [] []) = some (erase ae182) := by kernel_rfl
def fs182 : FnS := .fn 19 ae182 [.c 6 (some 2)]
theorem fsok182 : FnOk Tryz.prog 182 fs182 := fun _ _ _ hn h => ctr_of_resC Tryz.func182 (by kernel_rfl) ree182 (by kernel_rfl) hn h
abbrev ae183 : ACode := (.seq [0, 2, 4] (.reg [q2 4 (.box (.t 1)),
 q2 6 (.mv (.c (.i .i64 0)))])
 (.seq [0] (.seq [0, 2, 4, 12] (.reg [q2 10 (.faddr 0 (.t 4)),
 q2 11 (.load none (.t 10)),
 q2 12 (.bin .eql (.t 11) (.c (.i .i64 3)))])
 (.cond (.t 12)
 (.seq [0, 2, 7] (.dreg [0, 2, 7] [⟨0, q2 14 (.mv (.t 0)), [], []⟩,
 ⟨1, q2 15 (.nilck (.t 14)), [], []⟩,
 ⟨2, q2 16 (.faddr 6 (.t 15)), [], []⟩,
 ⟨3, q2 17 (.load (some 6) (.t 16)), [], []⟩,
 ⟨4, q2 18 (.mv (.t 0)), [], []⟩,
 ⟨5, q2 19 (.nilck (.t 18)), [], []⟩,
 ⟨6, q2 20 (.faddr 0 (.t 19)), [], []⟩,
 ⟨7, q2 21 (.faddr 4 (.t 20)), [], []⟩,
 ⟨8, q2 22 (.load none (.t 21)), [], []⟩,
 ⟨9, q2 23 (.faddr 1 (.t 4)), [], []⟩,
 ⟨10, q2 24 (.load none (.t 23)), [], []⟩,
 ⟨11, q2 25 (.iaddr 2 none (.t 22) (.t 24)), [], []⟩,
 ⟨12, q2 26 (.faddr 0 (.t 25)), [], []⟩,
 ⟨13, q2 27 (.load none (.t 26)), [], []⟩,
 ⟨14, q2 28 (.call 226 [(.t 17), (.t 27)]), [], []⟩,
 ⟨15, q2 13 (.mv (.t 28)), [], []⟩,
 ⟨16, q2 29 (.extract 0 (.t 13)), [], []⟩,
 ⟨17, q2 30 (.extract 1 (.t 13)), [], []⟩,
 ⟨18, q2 7 (.mv (.t 29)), [], []⟩,
 ⟨19, q2 8 (.mv (.t 30)), [], []⟩])
 (.seq [0, 9] (.reg [q2 31 (.mv (.t 7)),
 q2 32 (.mv (.t 2)),
 q2 33 (.call 122 [(.t 31), (.t 32)]),
 q2 9 (.mv (.t 33))])
 (.seq [0, 9, 35] (.reg [q2 34 (.mv (.t 9)),
 q2 35 (.bin .geq (.t 34) (.c (.i .i64 0)))])
 (.cond (.t 35)
 (.seq [6] (.reg [q2 36 (.mv (.t 9)),
 q2 6 (.mv (.t 36))])
 .ret)
 .skip))))
 .skip))
 (.seq [] (.reg [q2 37 (.mv (.t 0)),
 q2 38 (.call 145 [(.t 37), (.c (.i .i64 5))])])
 (.seq [6] (.reg [q2 6 (.mv (.c (.i .i64 0)))])
 .ret))))
theorem ree183 : Tryz.f183.body.bind (res Tryz.prog Tryz.f183.ntmps [] []) = some (erase ae183) := by kernel_rfl
def fs183 : FnS := .fn 39 ae183 [.t 6]
theorem fsok183 : FnOk Tryz.prog 183 fs183 := fun _ _ _ hn h => ctr_of_resC Tryz.func183 (by kernel_rfl) ree183 (by kernel_rfl) hn h
abbrev ae184 : ACode := (.seq [0, 3, 4] (.reg [q2 3 (.box (.t 1)),
 q2 4 (.alloc [(.i .i64 0), (.i .i64 0), (.i .i64 0), (.i .i64 0)]),
 q2 5 (.mv (.c (.b false)))])
 (.seq [0, 4, 6] (.dreg [0, 4, 6] [⟨0, q2 7 (.mv (.t 0)), [], []⟩,
 ⟨1, q2 8 (.nilck (.t 7)), [], []⟩,
 ⟨2, q2 9 (.faddr 12 (.t 8)), [], []⟩,
 ⟨3, q2 10 (.load (some 3) (.t 9)), [], []⟩,
 ⟨4, q2 11 (.mv (.t 0)), [], []⟩,
 ⟨5, q2 12 (.nilck (.t 11)), [], []⟩,
 ⟨6, q2 13 (.faddr 0 (.t 12)), [], []⟩,
 ⟨7, q2 14 (.faddr 4 (.t 13)), [], []⟩,
 ⟨8, q2 15 (.load none (.t 14)), [], []⟩,
 ⟨9, q2 16 (.faddr 1 (.t 3)), [], []⟩,
 ⟨10, q2 17 (.load none (.t 16)), [], []⟩,
 ⟨11, q2 18 (.iaddr 2 none (.t 15) (.t 17)), [], []⟩,
 ⟨12, q2 19 (.faddr 0 (.t 18)), [], []⟩,
 ⟨13, q2 20 (.load none (.t 19)), [], []⟩,
 ⟨14, q2 21 (.mv (.t 0)), [], []⟩,
 ⟨15, q2 22 (.nilck (.t 21)), [], []⟩,
 ⟨16, q2 23 (.faddr 15 (.t 22)), [], []⟩,
 ⟨17, q2 24 (.load none (.t 23)), [], []⟩,
 ⟨18, q2 25 (.call 97 [(.t 10), (.t 20), (.t 24)]), [], []⟩,
 ⟨19, q2 6 (.mv (.t 25)), [], []⟩])
 (.seq [0, 4, 6] (.seq [0, 4, 6, 27] (.reg [q2 26 (.mv (.t 6)),
 q2 27 (.bin .lss (.t 26) (.c (.i .i64 0)))])
 (.cond (.t 27)
 (.seq [4, 5] (.reg [q2 28 (.build [(.i .i64 0), (.i .i64 0), (.i .i64 0), (.i .i64 0)] []),
 ⟨none, .store 4 (.t 4) (.t 28), none⟩,
 q2 5 (.mv (.c (.b false)))])
 .ret)
 .skip))
 (.seq [4, 5] (.reg [q2 29 (.mv (.t 0)),
 q2 30 (.nilck (.t 29)),
 q2 31 (.faddr 12 (.t 30)),
 q2 32 (.faddr 1 (.t 31)),
 q2 33 (.load none (.t 32)),
 q2 34 (.mv (.t 6)),
 q2 35 (.iaddr 4 none (.t 33) (.t 34)),
 q2 36 (.load (some 4) (.t 35)),
 ⟨none, .store 4 (.t 4) (.t 36), none⟩,
 q2 5 (.mv (.c (.b true)))])
 .ret))))
theorem ree184 : Tryz.f184.body.bind (res Tryz.prog Tryz.f184.ntmps [] []) = some (erase ae184) := by kernel_rfl
def fs184 : FnS := .fn 37 ae184 [.c 4 (some 4), .t 5]
theorem fsok184 : FnOk Tryz.prog 184 fs184 := fun _ _ _ hn h => ctr_of_resC Tryz.func184 (by kernel_rfl) ree184 (by kernel_rfl) hn h
abbrev acAe185 : ACode := (.seq [1, 2, 3, 6] (.reg [q2 3 (.box (.t 0)),
 q2 6 (.alloc [(.i .i64 0), (.i .i64 0)])])
 (.reg [q2 7 (.load none (.t 3)),
 q2 8 (.nilck (.t 7)),
 q2 9 (.faddr 15 (.t 8)),
 q2 10 (.load none (.t 9)),
 q2 11 (.bin .add (.t 10) (.c (.i .i64 1))),
 q2 12 (.nilck (.t 7)),
 q2 13 (.faddr 15 (.t 12)),
 ⟨none, .store 1 (.t 13) (.t 11), none⟩]))
def ose185 : List AOper := [q2 14 (.mkf (.func 227) [] [(.t 3)])]
abbrev acCe185 : ACode := (.seq [6] (.reg [q2 15 (.load none (.t 3)),
 q2 16 (.mv (.t 1)),
 q2 17 (.mv (.t 2)),
 q2 18 (.call 186 [(.t 15), (.t 16), (.t 17)]),
 ⟨none, .store 2 (.t 6) (.t 18), none⟩])
 .ret)
theorem rese185 : Tryz.f185.body.bind (resDfr Tryz.prog Tryz.f185.ntmps [] []) = some (erase acAe185, ose185, (.t 14), erase acCe185) := by kernel_rfl
def fs185 : FnS := .dfr 19 acAe185 ose185 (.t 14) acCe185 [.c 6 (some 2)] [1, 2, 3, 6] [1, 2, 3, 6]
theorem fsok185 : FnOk Tryz.prog 185 fs185 := fun _ _ _ hn h => ctr_of_dfr Tryz.func185 (by kernel_rfl) rese185 (by kernel_rfl) hn h
abbrev ae186 : ACode := (.seq [3, 4, 5, 6] (.reg [q2 3 (.box (.t 0)),
 q2 4 (.box (.t 1)),
 q2 5 (.box (.t 2)),
 q2 6 (.alloc [(.i .i64 0), (.i .i64 0)])])
 (.seq [3, 4, 5, 6, 7] (.dreg [3, 4, 5, 6, 7] [⟨0, q2 12 (.load none (.t 3)), [], []⟩,
 ⟨1, q2 13 (.nilck (.t 12)), [], []⟩,
 ⟨2, q2 14 (.faddr 6 (.t 13)), [], []⟩,
 ⟨3, q2 15 (.load (some 6) (.t 14)), [], []⟩,
 ⟨4, q2 16 (.load none (.t 3)), [], []⟩,
 ⟨5, q2 17 (.nilck (.t 16)), [], []⟩,
 ⟨6, q2 18 (.faddr 0 (.t 17)), [], []⟩,
 ⟨7, q2 19 (.faddr 4 (.t 18)), [], []⟩,
 ⟨8, q2 20 (.load none (.t 19)), [], []⟩,
 ⟨9, q2 21 (.load none (.t 4)), [], []⟩,
 ⟨10, q2 22 (.load none (.t 5)), [], []⟩,
 ⟨11, q2 23 (.call 228 [(.t 15), (.t 20), (.t 21), (.t 22)]), [], []⟩,
 ⟨12, q2 11 (.mv (.t 23)), [], []⟩,
 ⟨13, q2 24 (.extract 0 (.t 11)), [], []⟩,
 ⟨14, q2 25 (.extract 1 (.t 11)), [], []⟩,
 ⟨15, q2 7 (.mv (.t 24)), [], []⟩,
 ⟨16, q2 8 (.mv (.t 25)), [], []⟩])
 (.seq [3, 4, 5, 6, 7, 9] (.reg [q2 26 (.build [(.l [] true), (.b false), (.l [] true), (.l [] true), (.b false), (.l [] true), (.b false)] [(6, 1, (.c (.b true)))]),
 q2 9 (.alloc [(.l [] true), (.b false), (.l [] true), (.l [] true), (.b false), (.l [] true), (.b false)]),
 ⟨none, .store 7 (.t 9) (.t 26), none⟩])
 (.seq [3, 4, 5, 6, 9] (.seq [3, 4, 5, 6, 7, 9, 29] (.reg [q2 27 (.mv (.t 7)),
 q2 28 (.len (.t 27)),
 q2 29 (.bin .gtr (.t 28) (.c (.i .i64 0)))])
 (.cond (.t 29)
 (.reg [q2 30 (.load none (.t 3)),
 q2 31 (.mv (.t 7)),
 q2 32 (.call 229 [(.t 30), (.t 31)]),
 ⟨none, .store 7 (.t 9) (.t 32), none⟩])
 .skip))
 (.seq [3, 4, 5, 6, 9] (.block 0 (.seq [3, 4, 5, 6, 9, 33] (.reg [q2 34 (.faddr 6 (.t 9)),
 q2 35 (.load none (.t 34)),
 q2 33 (.mv (.t 35))])
 (.cond (.t 33)
 (.reg [q2 36 (.load none (.t 3)),
 q2 37 (.call 145 [(.t 36), (.c (.i .i64 2))])])
 (.seq [3, 4, 5, 6, 9, 38] (.reg [q2 39 (.faddr 0 (.t 9)),
 q2 40 (.faddr 0 (.t 39)),
 q2 41 (.load none (.t 40)),
 q2 42 (.len (.t 41)),
 q2 43 (.bin .eql (.t 42) (.c (.i .i64 0))),
 q2 44 (.mv (.t 43)),
 ⟨(some 45), .faddr 0 (.t 9), (some (44, true))⟩,
 ⟨(some 46), .faddr 1 (.t 45), (some (44, true))⟩,
 ⟨(some 47), .load none (.t 46), (some (44, true))⟩,
 q2 48 (.pick (.t 44) (.t 47) (.c (.b false))),
 q2 38 (.mv (.t 48))])
 (.cond (.t 38)
 (.reg [q2 49 (.load none (.t 3)),
 q2 50 (.call 145 [(.t 49), (.c (.i .i64 3))])])
 .skip)))))
 (.seq [3, 5, 6, 9, 10] (.reg [q2 51 (.mkf (.func 230) [] [(.t 3), (.t 4), (.t 9), (.t 5)]),
 q2 10 (.mv (.t 51))])
 (.seq [3, 5, 6, 9, 10] (.seq [3, 5, 6, 9, 10, 56] (.reg [q2 52 (.faddr 0 (.t 9)),
 q2 53 (.faddr 0 (.t 52)),
 q2 54 (.load none (.t 53)),
 q2 55 (.len (.t 54)),
 q2 56 (.bin .eql (.t 55) (.c (.i .i64 0)))])
 (.cond (.t 56)
 (.seq [6] (.reg [q2 57 (.mv (.t 10)),
 q2 58 (.callv (.t 57) []),
 ⟨none, .store 2 (.t 6) (.t 58), none⟩])
 .ret)
 .skip))
 (.seq [6] (.reg [q2 59 (.load none (.t 3)),
 q2 60 (.faddr 0 (.t 9)),
 q2 61 (.faddr 0 (.t 60)),
 q2 62 (.load none (.t 61)),
 q2 63 (.faddr 0 (.t 9)),
 q2 64 (.faddr 1 (.t 63)),
 q2 65 (.load none (.t 64)),
 q2 66 (.load none (.t 5)),
 q2 67 (.mv (.t 10)),
 q2 68 (.call 232 [(.t 59), (.t 62), (.t 65), (.t 66), (.t 67)]),
 ⟨none, .store 2 (.t 6) (.t 68), none⟩])
 .ret))))))))
theorem ree186 : Tryz.f186.body.bind (res Tryz.prog Tryz.f186.ntmps [] []) = some (erase ae186) := by kernel_rfl
def fs186 : FnS := .fn 69 ae186 [.c 6 (some 2)]
theorem fsok186 : FnOk Tryz.prog 186 fs186 := fun _ _ _ hn h => ctr_of_resC Tryz.func186 (by kernel_rfl) ree186 (by kernel_rfl) hn h
abbrev ae145 : ACode := (.seq [0, 1, 4] (.reg [q2 4 (.alloc [(.i .i64 0), (.i .i64 0)])])
 (.seq [4] (.reg [q2 5 (.mv (.t 0)),
 q2 6 (.mv (.t 1)),
 q2 7 (.nilck (.t 5)),
 q2 8 (.faddr 0 (.t 7)),
 q2 9 (.faddr 0 (.t 8)),
 ⟨none, .store 1 (.t 9) (.t 6), none⟩])
 (.reg [q2 10 (.build [] []),
 q2 11 (.mkifc 216 (.t 10)),
 ⟨none, .panic (.t 11), none⟩])))
theorem ree145 : Tryz.f145.body.bind (res Tryz.prog Tryz.f145.ntmps [] []) = some (erase ae145) := by kernel_rfl
def fs145 : FnS := .fn 12 ae145 [.c 4 (some 2)]
theorem fsok145 : FnOk Tryz.prog 145 fs145 := fun _ _ _ hn h => ctr_of_resC Tryz.func145 (by kernel_rfl) ree145 (by kernel_rfl) hn h
abbrev ae187 : ACode := (.seq [1, 2, 4] (.reg [q2 2 (.box (.t 0)),
 q2 4 (.alloc [(.i .i64 0), (.l [] true)]),
 q2 5 (.mv (.c (.i .i64 0)))])
 (.seq [1, 2, 4] (.seq [1, 2, 4, 7] (.reg [q2 9 (.load (some 6) (.t 2)),
 q2 10 (.mv (.t 1)),
 q2 11 (.call 226 [(.t 9), (.t 10)]),
 q2 8 (.mv (.t 11)),
 q2 12 (.extract 0 (.t 8)),
 q2 13 (.extract 1 (.t 8)),
 q2 6 (.mv (.t 12)),
 q2 7 (.mv (.t 13))])
 (.seq [1, 2, 4, 15] (.reg [q2 14 (.mv (.t 7)),
 q2 15 (.bin .neq (.t 14) (.c (.i .i64 0)))])
 (.cond (.t 15)
 (.seq [4, 5] (.reg [q2 16 (.build [(.i .i64 0), (.l [] true)] []),
 ⟨none, .store 2 (.t 4) (.t 16), none⟩,
 q2 5 (.mv (.c (.i .i64 2)))])
 .ret)
 .skip)))
 (.seq [4, 5] (.reg [q2 17 (.load (some 6) (.t 2)),
 q2 18 (.call 233 [(.t 17)]),
 q2 19 (.mv (.t 1)),
 q2 20 (.call 234 [(.t 18), (.t 19)]),
 ⟨none, .store 2 (.t 4) (.t 20), none⟩,
 q2 5 (.mv (.c (.i .i64 0)))])
 .ret)))
theorem ree187 : Tryz.f187.body.bind (res Tryz.prog Tryz.f187.ntmps [] []) = some (erase ae187) := by kernel_rfl
def fs187 : FnS := .fn 21 ae187 [.c 4 (some 2), .t 5]
theorem fsok187 : FnOk Tryz.prog 187 fs187 := fun _ _ _ hn h => ctr_of_resC Tryz.func187 (by kernel_rfl) ree187 (by kernel_rfl) hn h
abbrev ae188 : ACode := (.seq [1, 2, 3, 4] (.reg [q2 4 (.box (.t 0)),
 q2 8 (.mv (.c (.l [] true))),
 q2 9 (.mv (.c (.i .i64 0)))])
 (.seq [1, 2, 3, 4] (.seq [1, 2, 3, 4, 11] (.reg [q2 14 (.load (some 6) (.t 4)),
 q2 15 (.mv (.t 3)),
 q2 16 (.call 226 [(.t 14), (.t 15)]),
 q2 13 (.mv (.t 16)),
 q2 17 (.extract 0 (.t 13)),
 q2 18 (.extract 1 (.t 13)),
 q2 10 (.mv (.t 17)),
 q2 11 (.mv (.t 18))])
 (.seq [1, 2, 3, 4, 36] (.reg [q2 19 (.mv (.t 11)),
 q2 20 (.bin .neq (.t 19) (.c (.i .i64 0))),
 q2 21 (.mv (.t 20)),
 ⟨(some 22), .load (some 6) (.t 4), (some (21, false))⟩,
 ⟨(some 23), .mv (.t 1), (some (21, false))⟩,
 ⟨(some 24), .call 235 [(.t 22), (.t 23)], (some (21, false))⟩,
 ⟨(some 25), .bin .neq (.t 24) (.c (.i .i64 0)), (some (21, false))⟩,
 q2 26 (.pick (.t 21) (.c (.b true)) (.t 25)),
 q2 27 (.mv (.t 26)),
 ⟨(some 28), .mv (.t 2), (some (27, false))⟩,
 ⟨(some 29), .bin .lss (.t 28) (.c (.i .i64 0)), (some (27, false))⟩,
 q2 30 (.pick (.t 27) (.c (.b true)) (.t 29)),
 q2 31 (.mv (.t 30)),
 ⟨(some 32), .mv (.t 2), (some (31, false))⟩,
 ⟨(some 33), .mv (.t 1), (some (31, false))⟩,
 ⟨(some 34), .len (.t 33), (some (31, false))⟩,
 ⟨(some 35), .bin .geq (.t 32) (.t 34), (some (31, false))⟩,
 q2 36 (.pick (.t 31) (.c (.b true)) (.t 35))])
 (.cond (.t 36)
 (.seq [8, 9] (.reg [q2 8 (.mv (.c (.l [] true))),
 q2 9 (.mv (.c (.i .i64 2)))])
 .ret)
 .skip)))
 (.seq [2, 3, 4, 12] (.reg [q2 37 (.mv (.t 1)),
 q2 38 (.call 236 [(.t 37)]),
 q2 12 (.mv (.t 38))])
 (.seq [12] (.dreg [12] [⟨0, q2 39 (.mv (.t 12)), [], []⟩,
 ⟨1, q2 40 (.mv (.t 2)), [], []⟩,
 ⟨2, q2 41 (.load (some 6) (.t 4)), [], []⟩,
 ⟨4, q2 43 (.mv (.t 12)), [], []⟩,
 ⟨5, q2 44 (.mv (.t 2)), [], []⟩,
 ⟨6, q2 45 (.iaddr 2 none (.t 43) (.t 44)), [], []⟩,
 ⟨7, q2 46 (.load (some 2) (.t 45)), [], []⟩,
 ⟨8, q2 47 (.mv (.t 3)), [], []⟩,
 ⟨3, q2 42 (.call 233 [(.t 41)]), [7], [q2 46 (.load (some 2) (.t 45))]⟩,
 ⟨9, q2 48 (.call 237 [(.t 42), (.t 46), (.t 47)]), [], []⟩,
 ⟨10, q2 49 (.iaddr 2 none (.t 39) (.t 40)), [], []⟩,
 ⟨11, ⟨none, .store 2 (.t 49) (.t 48), none⟩, [], []⟩])
 (.seq [8, 9] (.reg [q2 50 (.mv (.t 12)),
 q2 8 (.mv (.t 50)),
 q2 9 (.mv (.c (.i .i64 0)))])
 .ret)))))
theorem ree188 : Tryz.f188.body.bind (res Tryz.prog Tryz.f188.ntmps [] []) = some (erase ae188) := by kernel_rfl
def fs188 : FnS := .fn 51 ae188 [.t 8, .t 9]
theorem fsok188 : FnOk Tryz.prog 188 fs188 := fun _ _ _ hn h => ctr_of_resC Tryz.func188 (by kernel_rfl) ree188 (by kernel_rfl) hn h
abbrev ae189 : ACode := (.seq [0] (.reg [q2 2 (.mv (.c (.l [] true)))])
 (.seq [2] (.reg [q2 3 (.mv (.t 0)),
 q2 4 (.mv (.t 0)),
 q2 5 (.len (.t 4)),
 q2 6 (.mv (.t 0)),
 q2 7 (.len (.t 6)),
 q2 8 (.slice 2 (.t 3) none (some (.t 5)) (some (.t 7))),
 q2 2 (.mv (.t 8))])
 .ret))
theorem ree189 : Tryz.f189.body.bind (res Tryz.prog Tryz.f189.ntmps [] []) = some (erase ae189) := by kernel_rfl
def fs189 : FnS := .fn 9 ae189 [.t 2]
theorem fsok189 : FnOk Tryz.prog 189 fs189 := fun _ _ _ hn h => ctr_of_resC Tryz.func189 (by kernel_rfl) ree189 (by kernel_rfl) hn h
abbrev ae64 : ACode := (.seq [1, 2] (.reg [q2 1 (.box (.t 0)),
 q2 2 (.alloc [(.l [] true), (.l [] true)]),
 q2 3 (.mv (.c (.i .i64 0)))])
 (.seq [1, 2] (.seq [1, 2, 6] (.reg [q2 4 (.load (some 6) (.t 1)),
 q2 5 (.call 94 [(.t 4)]),
 q2 6 (.bin .neq (.t 5) (.c (.i .i64 0)))])
 (.cond (.t 6)
 (.seq [2, 3] (.reg [q2 7 (.build [(.l [] true), (.l [] true)] []),
 ⟨none, .store 2 (.t 2) (.t 7), none⟩,
 q2 3 (.mv (.c (.i .i64 2)))])
 .ret)
 .skip))
 (.seq [2, 3] (.reg [q2 8 (.load (some 6) (.t 1)),
 q2 9 (.call 118 [(.t 8)]),
 ⟨none, .store 2 (.t 2) (.t 9), none⟩,
 q2 3 (.mv (.c (.i .i64 0)))])
 .ret)))
theorem ree64 : Tryz.f64.body.bind (res Tryz.prog Tryz.f64.ntmps [] []) = some (erase ae64) := by kernel_rfl
def fs64 : FnS := .fn 10 ae64 [.c 2 (some 2), .t 3]
theorem fsok64 : FnOk Tryz.prog 64 fs64 := fun _ _ _ hn h => ctr_of_resC Tryz.func64 (by kernel_rfl) ree64 (by kernel_rfl) hn h
abbrev ae190 : ACode := (.seq [1, 2] (.reg [q2 2 (.box (.t 0)),
 q2 4 (.mv (.c (.b false)))])
 (.seq [4] (.reg [q2 5 (.load none (.t 2)),
 q2 6 (.eqn 0 true (.t 5)),
 q2 7 (.mv (.t 6)),
 ⟨(some 8), .mv (.t 1), (some (7, true))⟩,
 ⟨(some 9), .mkf (.func 238) [] [(.t 2)], (some (7, true))⟩,
 ⟨(some 10), .call 46 [(.t 8), (.t 9)], (some (7, true))⟩,
 ⟨(some 11), .not (.t 10), (some (7, true))⟩,
 q2 12 (.pick (.t 7) (.t 11) (.c (.b false))),
 q2 4 (.mv (.t 12))])
 .ret))
theorem ree190 : Tryz.f190.body.bind (res Tryz.prog Tryz.f190.ntmps [] []) = some (erase ae190) := by kernel_rfl
def fs190 : FnS := .fn 13 ae190 [.t 4]
theorem fsok190 : FnOk Tryz.prog 190 fs190 := fun _ _ _ hn h => ctr_of_resC Tryz.func190 (by kernel_rfl) ree190 (by kernel_rfl) hn h
abbrev ae191 : ACode := (.seq [0, 1, 2] (.reg [q2 6 (.mv (.c (.b false)))])
 (.seq [7, 8] (.dreg [7, 8] [⟨0, q2 9 (.mv (.t 0)), [], []⟩,
 ⟨1, q2 10 (.nilck (.t 9)), [], []⟩,
 ⟨2, q2 11 (.faddr 0 (.t 10)), [], []⟩,
 ⟨3, q2 12 (.faddr 3 (.t 11)), [], []⟩,
 ⟨4, q2 13 (.load none (.t 12)), [], []⟩,
 ⟨5, q2 14 (.mv (.t 1)), [], []⟩,
 ⟨6, q2 15 (.iaddr 9 none (.t 13) (.t 14)), [], []⟩,
 ⟨7, q2 16 (.load (some 9) (.t 15)), [], []⟩,
 ⟨8, q2 17 (.mv (.t 0)), [], []⟩,
 ⟨9, q2 18 (.nilck (.t 17)), [], []⟩,
 ⟨10, q2 19 (.faddr 0 (.t 18)), [], []⟩,
 ⟨11, q2 20 (.faddr 3 (.t 19)), [], []⟩,
 ⟨12, q2 21 (.load none (.t 20)), [], []⟩,
 ⟨13, q2 22 (.mv (.t 2)), [], []⟩,
 ⟨14, q2 23 (.iaddr 9 none (.t 21) (.t 22)), [], []⟩,
 ⟨15, q2 24 (.load (some 9) (.t 23)), [], []⟩,
 ⟨16, q2 7 (.alloc [(.i .i64 0), (.i .i64 0), (.i .i64 0), (.i .i64 0), (.l [] true), (.i .i64 0), (.i .i64 0), (.l [] true), (.i .i64 0)]), [], []⟩,
 ⟨17, q2 8 (.alloc [(.i .i64 0), (.i .i64 0), (.i .i64 0), (.i .i64 0), (.l [] true), (.i .i64 0), (.i .i64 0), (.l [] true), (.i .i64 0)]), [], []⟩,
 ⟨18, ⟨none, .store 9 (.t 7) (.t 16), none⟩, [15, 12], [q2 24 (.load (some 9) (.t 23)), q2 21 (.load none (.t 20))]⟩,
 ⟨19, ⟨none, .store 9 (.t 8) (.t 24), none⟩, [], []⟩])
 (.seq [6] (.reg [q2 25 (.faddr 1 (.t 7)),
 q2 26 (.load none (.t 25)),
 q2 27 (.faddr 1 (.t 8)),
 q2 28 (.load none (.t 27)),
 q2 29 (.bin .eql (.t 26) (.t 28)),
 q2 30 (.mv (.t 29)),
 ⟨(some 31), .faddr 0 (.t 7), (some (30, true))⟩,
 ⟨(some 32), .load none (.t 31), (some (30, true))⟩,
 ⟨(some 33), .faddr 0 (.t 8), (some (30, true))⟩,
 ⟨(some 34), .load none (.t 33), (some (30, true))⟩,
 ⟨(some 35), .bin .eql (.t 32) (.t 34), (some (30, true))⟩,
 q2 36 (.pick (.t 30) (.t 35) (.c (.b false))),
 q2 6 (.mv (.t 36))])
 .ret)))
theorem ree191 : Tryz.f191.body.bind (res Tryz.prog Tryz.f191.ntmps [] []) = some (erase ae191) := by kernel_rfl
def fs191 : FnS := .fn 37 ae191 [.t 6]
theorem fsok191 : FnOk Tryz.prog 191 fs191 := fun _ _ _ hn h => ctr_of_resC Tryz.func191 (by kernel_rfl) ree191 (by kernel_rfl) hn h
abbrev ae192 : ACode := (.seq [0, 1] (.reg [q2 4 (.mv (.c (.l [] true))),
 q2 5 (.mv (.c (.b false)))])
 (.scope (.seq [0, 1, 6] (.reg [q2 6 (.mv (.c (.l [] true)))])
 (.seq [0, 1, 6] .skip
 (.seq [6] (.block 0 (.loop [0, 1, 6] (.seq [0, 1, 6] (.seq [0, 1, 6, 13] (.reg [q2 11 (.mv (.t 1)),
 q2 12 (.len (.t 11)),
 q2 13 (.bin .gtr (.t 12) (.c (.i .i64 0)))])
 (.cond (.t 13)
 .skip
 (.exit 0)))
 (.block 1 (.scope (.seq [0, 1, 6] .skip
 (.seq [6] (.seq [0, 1, 6, 14, 15, 16] (.reg [q2 14 (.mv (.t 1)),
 q2 15 (.len (.t 14)),
 q2 16 (.mv (.c (.i .i64 0)))])
 (.block 2 (.loop [0, 1, 6, 14, 15, 16] (.seq [0, 1, 6, 14, 15, 16, 17] (.reg [q2 17 (.bin .lss (.t 16) (.t 15))])
 (.seq [0, 1, 6, 14, 15, 16] (.cond (.t 17)
 .skip
 (.exit 2))
 (.seq [0, 1, 6, 14, 15, 16] (.block 3 (.seq [0, 1, 6, 8, 14, 15, 16] (.reg [q2 18 (.iaddr 1 none (.t 14) (.t 16)),
 q2 19 (.load none (.t 18)),
 q2 8 (.mv (.t 19))])
 (.seq [0, 1, 6, 8] (.seq [0, 1, 6, 8, 14, 15, 16, 20, 21, 22] (.reg [q2 20 (.mv (.t 1)),
 q2 21 (.len (.t 20)),
 q2 22 (.mv (.c (.i .i64 0)))])
 (.block 4 (.loop [0, 1, 6, 8, 14, 15, 16, 20, 21, 22] (.seq [0, 1, 6, 8, 14, 15, 16, 20, 21, 22, 23] (.reg [q2 23 (.bin .lss (.t 22) (.t 21))])
 (.seq [0, 1, 6, 8, 14, 15, 16, 20, 21, 22] (.cond (.t 23)
 .skip
 (.exit 4))
 (.seq [0, 1, 6, 8, 14, 15, 16, 20, 21, 22] (.block 5 (.seq [0, 1, 6, 8, 10, 14, 15, 16, 20, 21, 22] (.reg [q2 24 (.iaddr 1 none (.t 20) (.t 22)),
 q2 25 (.load none (.t 24)),
 q2 10 (.mv (.t 25))])
 (.seq [0, 1, 6, 8, 14, 15, 16, 20, 21, 22, 35] (.reg [q2 26 (.mv (.t 8)),
 q2 27 (.mv (.t 10)),
 q2 28 (.bin .neq (.t 26) (.t 27)),
 q2 29 (.mv (.t 28)),
 ⟨(some 30), .mv (.t 0), (some (29, true))⟩,
 ⟨(some 31), .mv (.t 8), (some (29, true))⟩,
 ⟨(some 32), .mv (.t 10), (some (29, true))⟩,
 ⟨(some 33), .call 239 [(.t 30), (.t 31), (.t 32)], (some (29, true))⟩,
 ⟨(some 34), .not (.t 33), (some (29, true))⟩,
 q2 35 (.pick (.t 29) (.t 34) (.c (.b false)))])
 (.cond (.t 35)
 (.exit 3)
 .skip))))
 (.reg [q2 36 (.bin .add (.t 22) (.c (.i .i64 1))),
 q2 22 (.mv (.t 36))])))))))
 (.seq [0, 1, 6, 8] (.reg [q2 37 (.mv (.t 6)),
 q2 38 (.mv (.t 8)),
 q2 39 (.bslice 1 1 [(.i .i64 0)] [(0, (.t 38))]),
 q2 40 (.append 1 8 (.t 37) (.t 39)),
 q2 6 (.mv (.t 40))])
 (.seq [0, 1, 6] (.reg [q2 41 (.mv (.t 1)),
 q2 42 (.mv (.t 8)),
 q2 43 (.call 240 [(.t 41), (.t 42)]),
 q2 1 (.mv (.t 43))])
 (.exit 1))))))
 (.reg [q2 44 (.bin .add (.t 16) (.c (.i .i64 1))),
 q2 16 (.mv (.t 44))])))))))
 (.seq [4, 5] (.reg [q2 45 (.mv (.t 6)),
 q2 46 (.call 241 [(.t 45)]),
 q2 4 (.mv (.t 46)),
 q2 5 (.mv (.c (.b true)))])
 .ret))))))))
 (.seq [4, 5] (.reg [q2 47 (.mv (.t 6)),
 q2 48 (.call 241 [(.t 47)]),
 q2 4 (.mv (.t 48)),
 q2 5 (.mv (.c (.b false)))])
 .ret))))))
theorem ree192 : Tryz.f192.body.bind (res Tryz.prog Tryz.f192.ntmps [] []) = some (erase ae192) := by kernel_rfl
def fs192 : FnS := .fn 49 ae192 [.t 4, .t 5]
theorem fsok192 : FnOk Tryz.prog 192 fs192 := fun _ _ _ hn h => ctr_of_resC Tryz.func192 (by kernel_rfl) ree192 (by kernel_rfl) hn h
abbrev ae193 : ACode := (.seq [2, 3] (.reg [q2 2 (.box (.t 0)),
 q2 3 (.box (.t 1)),
 q2 4 (.mv (.c (.l [] true)))])
 (.seq [2, 3] (.reg [q2 8 (.load none (.t 3)),
 q2 9 (.call 243 [(.t 8)]),
 q2 10 (.call 242 [(.t 9)]),
 ⟨none, .store 1 (.t 3) (.t 10), none⟩])
 (.seq [2, 3, 5] (.reg [q2 5 (.mv (.c (.l [] true)))])
 (.seq [5] (.block 0 (.loop [2, 3, 5] (.seq [2, 3, 5] (.seq [2, 3, 5, 13] (.reg [q2 11 (.load none (.t 3)),
 q2 12 (.len (.t 11)),
 q2 13 (.bin .gtr (.t 12) (.c (.i .i64 0)))])
 (.cond (.t 13)
 .skip
 (.exit 0)))
 (.block 1 (.seq [2, 3, 5, 6] (.reg [q2 14 (.load none (.t 3)),
 q2 15 (.mkf (.func 244) [] [(.t 3), (.t 2)]),
 q2 16 (.call 104 [(.t 14), (.t 15)]),
 q2 6 (.mv (.t 16))])
 (.seq [2, 3, 5, 7] (.reg [q2 17 (.load none (.t 3)),
 q2 18 (.mv (.t 6)),
 q2 19 (.iaddr 1 none (.t 17) (.t 18)),
 q2 20 (.load none (.t 19)),
 q2 7 (.mv (.t 20))])
 (.seq [2, 3, 5, 7] (.reg [q2 21 (.mv (.t 5)),
 q2 22 (.mv (.t 7)),
 q2 23 (.bslice 1 1 [(.i .i64 0)] [(0, (.t 22))]),
 q2 24 (.append 1 8 (.t 21) (.t 23)),
 q2 5 (.mv (.t 24))])
 (.reg [q2 25 (.load none (.t 3)),
 q2 26 (.mv (.t 7)),
 q2 27 (.call 240 [(.t 25), (.t 26)]),
 ⟨none, .store 1 (.t 3) (.t 27), none⟩]))))))))
 (.seq [4] (.reg [q2 28 (.mv (.t 5)),
 q2 29 (.call 241 [(.t 28)]),
 q2 4 (.mv (.t 29))])
 .ret)))))
theorem ree193 : Tryz.f193.body.bind (res Tryz.prog Tryz.f193.ntmps [] []) = some (erase ae193) := by kernel_rfl
def fs193 : FnS := .fn 30 ae193 [.t 4]
theorem fsok193 : FnOk Tryz.prog 193 fs193 := fun _ _ _ hn h => ctr_of_resC Tryz.func193 (by kernel_rfl) ree193 (by kernel_rfl) hn h
abbrev ae196 : ACode := (.seq [1] (.reg [q2 1 (.box (.t 0))])
 (.seq [1] (.reg [q2 16 (.faddr 0 (.t 1)),
 q2 17 (.load none (.t 16)),
 q2 18 (.len (.t 17)),
 q2 19 (.bin .leq (.t 18) (.c (.i .i64 10))),
 q2 20 (.call 197 [(.t 19)])])
 (.seq [1, 2] (.reg [q2 2 (.mv (.c (.i .i64 0)))])
 (.seq [1, 2] (.seq [1, 2, 22, 23, 24] (.reg [q2 21 (.faddr 0 (.t 1)),
 q2 22 (.load none (.t 21)),
 q2 23 (.len (.t 22)),
 q2 24 (.mv (.c (.i .i64 0)))])
 (.block 0 (.loop [1, 2, 22, 23, 24] (.seq [1, 2, 22, 23, 24, 25] (.reg [q2 25 (.bin .lss (.t 24) (.t 23))])
 (.seq [1, 2, 22, 23, 24] (.cond (.t 25)
 .skip
 (.exit 0))
 (.seq [1, 2, 22, 23, 24] (.block 1 (.seq [1, 2, 4, 22, 23, 24] (.reg [q2 26 (.iaddr 3 none (.t 22) (.t 24)),
 q2 27 (.load (some 3) (.t 26)),
 q2 4 (.alloc [(.l [] true), (.l [] true), (.l [] true)]),
 ⟨none, .store 3 (.t 4) (.t 27), none⟩])
 (.seq [1, 2, 4, 22, 23, 24] (.reg [q2 28 (.faddr 1 (.t 4)),
 q2 29 (.load none (.t 28)),
 q2 30 (.len (.t 29)),
 q2 31 (.bin .leq (.t 30) (.c (.i .i64 4))),
 q2 32 (.call 197 [(.t 31)])])
 (.seq [1, 2, 22, 23, 24, 34, 35, 36] (.reg [q2 33 (.faddr 1 (.t 4)),
 q2 34 (.load none (.t 33)),
 q2 35 (.len (.t 34)),
 q2 36 (.mv (.c (.i .i64 0)))])
 (.block 2 (.loop [1, 2, 22, 23, 24, 34, 35, 36] (.seq [1, 2, 22, 23, 24, 34, 35, 36, 37] (.reg [q2 37 (.bin .lss (.t 36) (.t 35))])
 (.seq [1, 2, 22, 23, 24, 34, 35, 36] (.cond (.t 37)
 .skip
 (.exit 2))
 (.seq [1, 2, 22, 23, 24, 34, 35, 36] (.block 3 (.seq [1, 2, 6, 22, 23, 24, 34, 35, 36] (.reg [q2 38 (.iaddr 1 none (.t 34) (.t 36)),
 q2 39 (.load none (.t 38)),
 q2 6 (.mv (.t 39))])
 (.seq [1, 2, 22, 23, 24, 34, 35, 36] (.reg [q2 40 (.mv (.t 6)),
 q2 41 (.mv (.t 2)),
 q2 42 (.bin .eql (.t 40) (.t 41)),
 q2 43 (.call 197 [(.t 42)])])
 (.reg [q2 44 (.mv (.t 2)),
 q2 45 (.bin .add (.t 44) (.c (.i .i64 1))),
 q2 2 (.mv (.t 45))]))))
 (.reg [q2 46 (.bin .add (.t 36) (.c (.i .i64 1))),
 q2 36 (.mv (.t 46))]))))))))))
 (.reg [q2 47 (.bin .add (.t 24) (.c (.i .i64 1))),
 q2 24 (.mv (.t 47))])))))))
 (.seq [1, 2, 7] (.reg [q2 48 (.load (some 6) (.t 1)),
 q2 49 (.call 173 [(.t 48)]),
 q2 7 (.mv (.t 49))])
 (.seq [1, 7] (.reg [q2 50 (.mv (.t 2)),
 q2 51 (.faddr 1 (.t 1)),
 q2 52 (.load none (.t 51)),
 q2 53 (.bin .eql (.t 50) (.t 52)),
 q2 54 (.mv (.t 53)),
 ⟨(some 55), .mv (.t 7), (some (54, true))⟩,
 ⟨(some 56), .call 247 [(.t 55)], (some (54, true))⟩,
 ⟨(some 57), .bin .eql (.t 56) (.c (.i .i64 0)), (some (54, true))⟩,
 q2 58 (.pick (.t 54) (.t 57) (.c (.b false))),
 q2 59 (.call 197 [(.t 58)])])
 (.seq [1, 7, 61, 62, 63] (.reg [q2 60 (.faddr 0 (.t 1)),
 q2 61 (.load none (.t 60)),
 q2 62 (.len (.t 61)),
 q2 63 (.mv (.c (.i .i64 0)))])
 (.block 4 (.loop [1, 7, 61, 62, 63] (.seq [1, 7, 61, 62, 63, 64] (.reg [q2 64 (.bin .lss (.t 63) (.t 62))])
 (.seq [1, 7, 61, 62, 63] (.cond (.t 64)
 .skip
 (.exit 4))
 (.seq [1, 7, 61, 62, 63] (.block 5 (.seq [1, 7, 8, 9, 61, 62, 63] (.reg [q2 65 (.mv (.t 63)),
 q2 66 (.iaddr 3 none (.t 61) (.t 63)),
 q2 67 (.load (some 3) (.t 66)),
 q2 9 (.alloc [(.l [] true), (.l [] true), (.l [] true)]),
 q2 8 (.mv (.t 65)),
 ⟨none, .store 3 (.t 9) (.t 67), none⟩])
 (.seq [1, 7, 8, 9, 11, 61, 62, 63] (.reg [q2 69 (.mv (.t 7)),
 q2 70 (.mv (.t 8)),
 q2 71 (.bin .add (.t 70) (.c (.i .i64 3))),
 q2 72 (.call 248 [(.t 69), (.t 71)]),
 q2 68 (.mv (.t 72)),
 q2 73 (.extract 0 (.t 68)),
 q2 74 (.extract 1 (.t 68)),
 q2 10 (.mv (.t 73)),
 q2 11 (.mv (.t 74))])
 (.seq [1, 7, 8, 9, 61, 62, 63] (.reg [q2 75 (.mv (.t 11)),
 q2 76 (.bin .eql (.t 75) (.c (.i .i64 0))),
 q2 77 (.call 197 [(.t 76)])])
 (.seq [1, 7, 9, 12, 13, 61, 62, 63] (.reg [q2 78 (.load (some 6) (.t 1)),
 q2 79 (.mv (.t 8)),
 q2 80 (.bin .add (.t 79) (.c (.i .i64 3))),
 q2 81 (.call 249 [(.t 78), (.t 80)]),
 q2 82 (.mkmap),
 q2 12 (.mv (.t 81)),
 q2 13 (.mv (.t 82))])
 (.seq [1, 7, 12, 13, 61, 62, 63, 84, 85, 86] (.reg [q2 83 (.faddr 2 (.t 9)),
 q2 84 (.load none (.t 83)),
 q2 85 (.len (.t 84)),
 q2 86 (.mv (.c (.i .i64 0)))])
 (.block 6 (.loop [1, 7, 12, 13, 61, 62, 63, 84, 85, 86] (.seq [1, 7, 12, 13, 61, 62, 63, 84, 85, 86, 87] (.reg [q2 87 (.bin .lss (.t 86) (.t 85))])
 (.seq [1, 7, 12, 13, 61, 62, 63, 84, 85, 86] (.cond (.t 87)
 .skip
 (.exit 6))
 (.seq [1, 7, 12, 13, 61, 62, 63, 84, 85, 86] (.block 7 (.seq [1, 7, 12, 13, 15, 61, 62, 63, 84, 85, 86] (.reg [q2 88 (.iaddr 2 none (.t 84) (.t 86)),
 q2 89 (.load (some 2) (.t 88)),
 q2 15 (.alloc [(.i .i64 0), (.i .i64 0)]),
 ⟨none, .store 2 (.t 15) (.t 89), none⟩])
 (.seq [1, 7, 12, 13, 15, 61, 62, 63, 84, 85, 86] (.reg [q2 90 (.mv (.t 12)),
 q2 91 (.faddr 0 (.t 15)),
 q2 92 (.load none (.t 91)),
 q2 93 (.call 67 [(.t 90), (.t 92)]),
 q2 94 (.mv (.t 93)),
 ⟨(some 95), .mv (.t 13), (some (94, true))⟩,
 ⟨(some 96), .faddr 0 (.t 15), (some (94, true))⟩,
 ⟨(some 97), .load none (.t 96), (some (94, true))⟩,
 ⟨(some 98), .lookup (.i .i64) (.b false) false (.t 95) (.t 97), (some (94, true))⟩,
 ⟨(some 99), .not (.t 98), (some (94, true))⟩,
 q2 100 (.pick (.t 94) (.t 99) (.c (.b false))),
 q2 101 (.mv (.t 100)),
 ⟨(some 102), .faddr 1 (.t 15), (some (101, true))⟩,
 ⟨(some 103), .load none (.t 102), (some (101, true))⟩,
 ⟨(some 104), .call 250 [(.t 103)], (some (101, true))⟩,
 q2 105 (.pick (.t 101) (.t 104) (.c (.b false))),
 q2 106 (.call 197 [(.t 105)])])
 (.reg [q2 107 (.mv (.t 13)),
 q2 108 (.faddr 0 (.t 15)),
 q2 109 (.load none (.t 108)),
 ⟨none, .mapset (.i .i64) (.t 107) (.t 109) (.c (.b true)), none⟩]))))
 (.reg [q2 110 (.bin .add (.t 86) (.c (.i .i64 1))),
 q2 86 (.mv (.t 110))]))))))))))))
 (.reg [q2 111 (.bin .add (.t 63) (.c (.i .i64 1))),
 q2 63 (.mv (.t 111))])))))))))))))
theorem ree196 : Tryz.f196.body.bind (res Tryz.prog Tryz.f196.ntmps [] []) = some (erase ae196) := by kernel_rfl
def fs196 : FnS := .fn 112 ae196 []
theorem fsok196 : FnOk Tryz.prog 196 fs196 := fun _ _ _ hn h => ctr_of_resC Tryz.func196 (by kernel_rfl) ree196 (by kernel_rfl) hn h
abbrev ae197 : ACode := (.seq [3] (.reg [q2 2 (.mv (.t 0)),
 q2 3 (.not (.t 2))])
 (.cond (.t 3)
 (.reg [q2 4 (.build [] []),
 q2 5 (.mkifc 334 (.t 4)),
 ⟨none, .panic (.t 5), none⟩])
 .skip))
theorem ree197 : Tryz.f197.body.bind (res Tryz.prog Tryz.f197.ntmps [] []) = some (erase ae197) := by kernel_rfl
def fs197 : FnS := .fn 6 ae197 []
theorem fsok197 : FnOk Tryz.prog 197 fs197 := fun _ _ _ hn h => ctr_of_resC Tryz.func197 (by kernel_rfl) ree197 (by kernel_rfl) hn h
abbrev ae60 : ACode := (.seq [0, 1] (.reg [q2 4 (.mv (.c (.l [] true)))])
 (.seq [0, 1] (.seq [0, 1, 10] (.reg [q2 9 (.mv (.t 1)),
 q2 10 (.bin .lss (.t 9) (.c (.i .i64 0)))])
 (.cond (.t 10)
 (.reg [⟨(some 11), .mkifc 9 (.c (.s ⟨#[99, 97, 110, 110, 111, 116, 32, 98, 101, 32, 110, 101, 103, 97, 116, 105, 118, 101]⟩)), none⟩,
 ⟨none, .panic (.t 11), none⟩])
 .skip))
 (.seq [0, 5, 6] (.reg [q2 13 (.mv (.t 0)),
 q2 14 (.len (.t 13)),
 q2 15 (.conv .u64 (.t 14)),
 q2 16 (.mv (.t 1)),
 q2 17 (.conv .u64 (.t 16)),
 q2 18 (.call 115 [(.t 15), (.t 17)]),
 q2 12 (.mv (.t 18)),
 q2 19 (.extract 0 (.t 12)),
 q2 20 (.extract 1 (.t 12)),
 q2 5 (.mv (.t 19)),
 q2 6 (.mv (.t 20))])
 (.seq [0, 6] (.seq [0, 6, 26] (.reg [q2 21 (.mv (.t 5)),
 q2 22 (.bin .gtr (.t 21) (.c (.i .u64 0))),
 q2 23 (.mv (.t 22)),
 ⟨(some 24), .mv (.t 6), (some (23, false))⟩,
 ⟨(some 25), .bin .gtr (.t 24) (.c (.i .u64 9223372036854775807)), (some (23, false))⟩,
 q2 26 (.pick (.t 23) (.c (.b true)) (.t 25))])
 (.cond (.t 26)
 (.reg [⟨(some 27), .mkifc 9 (.c (.s ⟨#[116, 104, 101, 32, 114, 101, 115, 117, 108, 116, 32, 111, 102, 32, 40, 108, 101, 110, 40, 120, 41, 32, 42, 32, 99, 111, 117, 110, 116, 41, 32, 111, 118, 101, 114, 102, 108, 111, 119, 115]⟩)), none⟩,
 ⟨none, .panic (.t 27), none⟩])
 .skip))
 (.seq [0, 7] (.reg [q2 28 (.mv (.t 6)),
 q2 29 (.conv .i64 (.t 28)),
 q2 30 (.mkslice 1 8 [(.i .i64 0)] (.t 29) (.t 29)),
 q2 7 (.mv (.t 30))])
 (.seq [7, 8] (.reg [q2 31 (.mv (.t 7)),
 q2 32 (.mv (.t 0)),
 q2 33 (.copy 1 (.t 31) (.t 32)),
 q2 8 (.mv (.t 33))])
 (.seq [7] (.block 0 (.loop [7, 8] (.seq [7, 8] (.seq [7, 8, 37] (.reg [q2 34 (.mv (.t 8)),
 q2 35 (.mv (.t 7)),
 q2 36 (.len (.t 35)),
 q2 37 (.bin .lss (.t 34) (.t 36))])
 (.cond (.t 37)
 .skip
 (.exit 0)))
 (.block 1 (.dreg [7, 8] [⟨0, q2 38 (.mv (.t 8)), [], []⟩,
 ⟨1, q2 39 (.mv (.t 7)), [], []⟩,
 ⟨2, q2 40 (.mv (.t 8)), [], []⟩,
 ⟨3, q2 41 (.slice 1 (.t 39) (some (.t 40)) none none), [], []⟩,
 ⟨4, q2 42 (.mv (.t 7)), [], []⟩,
 ⟨5, q2 43 (.mv (.t 8)), [], []⟩,
 ⟨6, q2 44 (.slice 1 (.t 42) none (some (.t 43)) none), [], []⟩,
 ⟨7, q2 45 (.copy 1 (.t 41) (.t 44)), [], []⟩,
 ⟨8, q2 46 (.bin .add (.t 38) (.t 45)), [], []⟩,
 ⟨9, q2 8 (.mv (.t 46)), [], []⟩])))))
 (.seq [4] (.reg [q2 47 (.mv (.t 7)),
 q2 4 (.mv (.t 47))])
 .ret))))))))
theorem ree60 : Tryz.f60.body.bind (res Tryz.prog Tryz.f60.ntmps [] []) = some (erase ae60) := by kernel_rfl
def fs60 : FnS := .fn 48 ae60 [.t 4]
theorem fsok60 : FnOk Tryz.prog 60 fs60 := fun _ _ _ hn h => ctr_of_resC Tryz.func60 (by kernel_rfl) ree60 (by kernel_rfl) hn h
abbrev ae198 : ACode := (.seq [0, 1, 3, 4, 7] (.reg [q2 7 (.box (.t 2))])
 (.seq [3, 4, 7, 17] (.reg [q2 13 (.load (some 6) (.t 3)),
 q2 14 (.mv (.t 0)),
 q2 15 (.mv (.t 1)),
 q2 16 (.build [(.i .i64 0), (.i .i64 0)] [(0, 1, (.t 15)), (1, 1, (.c (.i .i64 1)))]),
 q2 17 (.call 199 [(.t 13), (.t 14), (.t 16)])])
 (.block 0 (.rangef [3, 4, 7] (.t 17) [18, 19]
 (.seq [3, 4, 7, 8, 19] (.reg [q2 8 (.mv (.t 18))])
 (.reg [q2 9 (.alloc [(.i .i64 0), (.i .i64 0)]),
 ⟨none, .store 2 (.t 9) (.t 19), none⟩]))
 (.block 1 (.seq [3, 4, 7, 8, 9] (.reg [q2 20 (.mv (.t 8)),
 q2 21 (.bin .geq (.t 20) (.c (.i .i64 0))),
 q2 22 (.mv (.t 21)),
 ⟨(some 23), .mv (.t 8), (some (22, true))⟩,
 ⟨(some 24), .faddr 4 (.t 3), (some (22, true))⟩,
 ⟨(some 25), .load none (.t 24), (some (22, true))⟩,
 ⟨(some 26), .len (.t 25), (some (22, true))⟩,
 ⟨(some 27), .bin .lss (.t 23) (.t 26), (some (22, true))⟩,
 q2 28 (.pick (.t 22) (.t 27) (.c (.b false))),
 q2 29 (.mv (.t 28)),
 ⟨(some 30), .load none (.t 4), (some (29, true))⟩,
 ⟨(some 31), .mv (.t 8), (some (29, true))⟩,
 ⟨(some 32), .iaddr 1 none (.t 30) (.t 31), (some (29, true))⟩,
 ⟨(some 33), .load none (.t 32), (some (29, true))⟩,
 ⟨(some 34), .bin .lss (.t 33) (.c (.i .i64 0)), (some (29, true))⟩,
 q2 35 (.pick (.t 29) (.t 34) (.c (.b false))),
 q2 36 (.mv (.t 35)),
 ⟨(some 37), .faddr 1 (.t 9), (some (36, true))⟩,
 ⟨(some 38), .load none (.t 37), (some (36, true))⟩,
 ⟨(some 39), .bin .leq (.t 38) (.c (.i .i64 12)), (some (36, true))⟩,
 q2 40 (.pick (.t 36) (.t 39) (.c (.b false))),
 q2 41 (.call 197 [(.t 40)])])
 (.seq [3, 7, 8, 9] (.reg [q2 42 (.load none (.t 4)),
 q2 43 (.mv (.t 8)),
 q2 44 (.faddr 0 (.t 9)),
 q2 45 (.load none (.t 44)),
 q2 46 (.iaddr 1 none (.t 42) (.t 43)),
 ⟨none, .store 1 (.t 46) (.t 45), none⟩])
 (.seq [3, 7, 9, 10] (.reg [q2 47 (.faddr 4 (.t 3)),
 q2 48 (.load none (.t 47)),
 q2 49 (.mv (.t 8)),
 q2 50 (.iaddr 3 none (.t 48) (.t 49)),
 q2 51 (.load (some 3) (.t 50)),
 q2 10 (.alloc [(.i .i64 0), (.i .i64 0), (.l [] true)]),
 ⟨none, .store 3 (.t 10) (.t 51), none⟩])
 (.seq [3, 10] (.reg [q2 52 (.load (some 6) (.t 3)),
 q2 53 (.load (some 3) (.t 10)),
 q2 54 (.faddr 0 (.t 9)),
 q2 55 (.load none (.t 54)),
 q2 56 (.call 200 [(.t 52), (.t 53), (.t 55)]),
 q2 57 (.mv (.t 56)),
 ⟨(some 58), .load none (.t 7), (some (57, true))⟩,
 ⟨(some 59), .mv (.t 58), (some (57, true))⟩,
 ⟨(some 60), .faddr 0 (.t 10), (some (59, false))⟩,
 ⟨(some 61), .load none (.t 60), (some (59, false))⟩,
 ⟨(some 62), .bin .neq (.t 61) (.c (.i .i64 18)), (some (59, false))⟩,
 ⟨(some 63), .pick (.t 59) (.c (.b true)) (.t 62), (some (57, true))⟩,
 q2 64 (.pick (.t 57) (.t 63) (.c (.b false))),
 q2 65 (.call 197 [(.t 64)])])
 (.seq [3, 10, 68] (.reg [q2 66 (.faddr 0 (.t 10)),
 q2 67 (.load none (.t 66)),
 q2 68 (.call 201 [(.t 67)])])
 (.block 2 (.seq [3, 10, 68, 76] (.reg [q2 70 (.tas 295 (.i .i64 0) true (.t 68)),
 q2 71 (.extract 1 (.t 70)),
 q2 72 (.extract 0 (.t 70)),
 q2 73 (.tas 296 (.a []) true (.t 68)),
 q2 74 (.extract 1 (.t 73)),
 q2 75 (.extract 0 (.t 73)),
 q2 76 (.pick (.t 71) (.c (.b true)) (.t 74))])
 (.cond (.t 76)
 (.seq [3, 10, 11] (.reg [q2 11 (.mv (.t 68))])
 (.dreg [] [⟨0, q2 77 (.faddr 2 (.t 10)), [], []⟩,
 ⟨1, q2 78 (.load none (.t 77)), [], []⟩,
 ⟨2, q2 79 (.len (.t 78)), [], []⟩,
 ⟨3, q2 80 (.mv (.t 11)), [], []⟩,
 ⟨4, q2 81 (.load (some 6) (.t 3)), [], []⟩,
 ⟨5, q2 82 (.load (some 3) (.t 10)), [], []⟩,
 ⟨6, q2 83 (.inv [(295, 411), (296, 412)] (.t 80) [(.t 81), (.t 82)]), [1], [q2 78 (.load none (.t 77))]⟩,
 ⟨7, q2 84 (.bin .eql (.t 79) (.t 83)), [], []⟩,
 ⟨8, q2 85 (.call 197 [(.t 84)]), [], []⟩]))
 (.seq [] (.reg [q2 12 (.mv (.t 68))])
 (.reg [q2 69 (.call 197 [(.c (.b false))])])))))))))))))))
theorem ree198 : Tryz.f198.body.bind (res Tryz.prog Tryz.f198.ntmps [] []) = some (erase ae198) := by kernel_rfl
def fs198 : FnS := .fn 86 ae198 []
theorem fsok198 : FnOk Tryz.prog 198 fs198 := fun _ _ _ hn h => ctr_of_resC Tryz.func198 (by kernel_rfl) ree198 (by kernel_rfl) hn h
abbrev ae118 : ACode := (.seq [1, 2] (.reg [q2 1 (.box (.t 0)),
 q2 2 (.alloc [(.l [] true), (.l [] true)])])
 (.seq [1, 2, 3] (.reg [q2 6 (.load (some 6) (.t 1)),
 q2 7 (.call 173 [(.t 6)]),
 q2 8 (.build [(.l [] true), (.l [] true)] [(0, 1, (.t 7))]),
 q2 3 (.alloc [(.l [] true), (.l [] true)]),
 ⟨none, .store 2 (.t 3) (.t 8), none⟩])
 (.seq [2, 3] (.seq [2, 3, 10, 11, 12] (.reg [q2 9 (.faddr 0 (.t 1)),
 q2 10 (.load none (.t 9)),
 q2 11 (.len (.t 10)),
 q2 12 (.mv (.c (.i .i64 0)))])
 (.block 0 (.loop [2, 3, 10, 11, 12] (.seq [2, 3, 10, 11, 12, 13] (.reg [q2 13 (.bin .lss (.t 12) (.t 11))])
 (.seq [2, 3, 10, 11, 12] (.cond (.t 13)
 .skip
 (.exit 0))
 (.seq [2, 3, 10, 11, 12] (.block 1 (.seq [2, 3, 4, 5, 10, 11, 12] (.reg [q2 14 (.mv (.t 12)),
 q2 15 (.iaddr 3 none (.t 10) (.t 12)),
 q2 16 (.load (some 3) (.t 15)),
 q2 5 (.alloc [(.l [] true), (.l [] true), (.l [] true)]),
 q2 4 (.mv (.t 14)),
 ⟨none, .store 3 (.t 5) (.t 16), none⟩])
 (.seq [2, 3, 4, 10, 11, 12, 19, 20] (.reg [q2 17 (.faddr 1 (.t 5)),
 q2 18 (.load none (.t 17)),
 q2 19 (.len (.t 18)),
 q2 20 (.mv (.c (.i .i64 0)))])
 (.block 2 (.loop [2, 3, 4, 10, 11, 12, 19, 20] (.seq [2, 3, 4, 10, 11, 12, 19, 20, 21] (.reg [q2 21 (.bin .lss (.t 20) (.t 19))])
 (.seq [2, 3, 4, 10, 11, 12, 19, 20] (.cond (.t 21)
 .skip
 (.exit 2))
 (.seq [2, 3, 4, 10, 11, 12, 19, 20] (.block 3 (.reg [q2 22 (.faddr 1 (.t 3)),
 q2 23 (.load none (.t 22)),
 q2 24 (.mv (.t 4)),
 q2 25 (.bin .add (.t 24) (.c (.i .i64 3))),
 q2 26 (.bslice 1 1 [(.i .i64 0)] [(0, (.t 25))]),
 q2 27 (.append 1 8 (.t 23) (.t 26)),
 q2 28 (.faddr 1 (.t 3)),
 ⟨none, .store 1 (.t 28) (.t 27), none⟩]))
 (.reg [q2 29 (.bin .add (.t 20) (.c (.i .i64 1))),
 q2 20 (.mv (.t 29))])))))))))
 (.reg [q2 30 (.bin .add (.t 12) (.c (.i .i64 1))),
 q2 12 (.mv (.t 30))])))))))
 (.seq [2] (.reg [q2 31 (.load (some 2) (.t 3)),
 ⟨none, .store 2 (.t 2) (.t 31), none⟩])
 .ret))))
theorem ree118 : Tryz.f118.body.bind (res Tryz.prog Tryz.f118.ntmps [] []) = some (erase ae118) := by kernel_rfl
def fs118 : FnS := .fnz 32 ae118 [.c 2 (some 2)]
theorem fsok118 : FnOk Tryz.prog 118 fs118 := fun _ _ _ hn h => ctr_of_resC Tryz.func118 (by kernel_rfl) ree118 (by kernel_rfl) hn h
abbrev ae116 : ACode := (.seq [2, 3] (.reg [q2 2 (.box (.t 0)),
 q2 3 (.box (.t 1)),
 q2 4 (.mv (.c (.i .i64 0)))])
 (.seq [6] (.reg [q2 8 (.load (some 2) (.t 2)),
 q2 9 (.load (some 6) (.t 3)),
 q2 10 (.bslice 6 1 [(.i .i64 0), (.i .i64 0), (.l [] true), (.i .i64 0), (.i .i64 0), (.l [] true)] [(0, (.t 9))]),
 q2 11 (.call 119 [(.t 8), (.t 10)]),
 q2 7 (.mv (.t 11)),
 q2 12 (.extract 0 (.t 7)),
 q2 13 (.extract 1 (.t 7)),
 q2 5 (.mv (.t 12)),
 q2 6 (.mv (.t 13))])
 (.seq [4] (.reg [q2 14 (.mv (.t 6)),
 q2 15 (.call 172 [(.t 14)]),
 q2 4 (.mv (.t 15))])
 .ret)))
theorem ree116 : Tryz.f116.body.bind (res Tryz.prog Tryz.f116.ntmps [] []) = some (erase ae116) := by kernel_rfl
def fs116 : FnS := .fn 16 ae116 [.t 4]
theorem fsok116 : FnOk Tryz.prog 116 fs116 := fun _ _ _ hn h => ctr_of_resC Tryz.func116 (by kernel_rfl) ree116 (by kernel_rfl) hn h
abbrev ae202 : ACode := (.seq [1] (.reg [q2 1 (.box (.t 0)),
 q2 2 (.mv (.c (.i .i64 0)))])
 (.seq [1, 3] (.reg [q2 3 (.mv (.c (.i .i64 0)))])
 (.seq [1, 3] (.seq [1, 3, 18] (.reg [q2 6 (.faddr 0 (.t 1)),
 q2 7 (.load none (.t 6)),
 q2 8 (.bin .eql (.t 7) (.c (.i .i64 2))),
 q2 9 (.mv (.t 8)),
 ⟨(some 10), .faddr 0 (.t 1), (some (9, false))⟩,
 ⟨(some 11), .load none (.t 10), (some (9, false))⟩,
 ⟨(some 12), .bin .eql (.t 11) (.c (.i .i64 3)), (some (9, false))⟩,
 q2 13 (.pick (.t 9) (.c (.b true)) (.t 12)),
 q2 14 (.mv (.t 13)),
 ⟨(some 15), .faddr 0 (.t 1), (some (14, false))⟩,
 ⟨(some 16), .load none (.t 15), (some (14, false))⟩,
 ⟨(some 17), .bin .eql (.t 16) (.c (.i .i64 4)), (some (14, false))⟩,
 q2 18 (.pick (.t 14) (.c (.b true)) (.t 17))])
 (.cond (.t 18)
 (.reg [q2 19 (.faddr 1 (.t 1)),
 q2 20 (.load none (.t 19)),
 q2 21 (.bin .add (.t 20) (.c (.i .i64 1))),
 q2 3 (.mv (.t 21))])
 .skip))
 (.seq [3] (.seq [3, 23, 24, 25] (.reg [q2 22 (.faddr 5 (.t 1)),
 q2 23 (.load none (.t 22)),
 q2 24 (.len (.t 23)),
 q2 25 (.mv (.c (.i .i64 0)))])
 (.block 0 (.loop [3, 23, 24, 25] (.seq [3, 23, 24, 25, 26] (.reg [q2 26 (.bin .lss (.t 25) (.t 24))])
 (.seq [3, 23, 24, 25] (.cond (.t 26)
 .skip
 (.exit 0))
 (.seq [3, 23, 24, 25] (.block 1 (.seq [3, 5, 23, 24, 25] (.reg [q2 27 (.iaddr 6 none (.t 23) (.t 25)),
 q2 28 (.load (some 6) (.t 27)),
 q2 5 (.alloc [(.i .i64 0), (.i .i64 0), (.l [] true), (.i .i64 0), (.i .i64 0), (.l [] true)]),
 ⟨none, .store 6 (.t 5) (.t 28), none⟩])
 (.reg [q2 29 (.mv (.t 3)),
 q2 30 (.load (some 6) (.t 5)),
 q2 31 (.call 202 [(.t 30)]),
 q2 32 (.mmax (.t 29) (.t 31)),
 q2 3 (.mv (.t 32))])))
 (.reg [q2 33 (.bin .add (.t 25) (.c (.i .i64 1))),
 q2 25 (.mv (.t 33))])))))))
 (.seq [2] (.reg [q2 34 (.mv (.t 3)),
 q2 2 (.mv (.t 34))])
 .ret)))))
theorem ree202 : Tryz.f202.body.bind (res Tryz.prog Tryz.f202.ntmps [] []) = some (erase ae202) := by kernel_rfl
def fs202 : FnS := .fn 35 ae202 [.t 2]
theorem fsok202 : FnOk Tryz.prog 202 fs202 := fun _ _ _ hn h => ctr_of_resC Tryz.func202 (by kernel_rfl) ree202 (by kernel_rfl) hn h
abbrev ae67 : ACode := (.seq [0, 1] (.reg [q2 4 (.mv (.c (.b false)))])
 (.seq [4] (.reg [q2 5 (.mv (.t 0)),
 q2 6 (.mv (.t 1)),
 q2 7 (.call 122 [(.t 5), (.t 6)]),
 q2 8 (.bin .geq (.t 7) (.c (.i .i64 0))),
 q2 4 (.mv (.t 8))])
 .ret))
theorem ree67 : Tryz.f67.body.bind (res Tryz.prog Tryz.f67.ntmps [] []) = some (erase ae67) := by kernel_rfl
def fs67 : FnS := .fn 9 ae67 [.t 4]
theorem fsok67 : FnOk Tryz.prog 67 fs67 := fun _ _ _ hn h => ctr_of_resC Tryz.func67 (by kernel_rfl) ree67 (by kernel_rfl) hn h
def ose246 : List AOper := [q2 1 (.mv (.t 4))]
abbrev acCe246 : ACode := (.seq [0, 1, 6] (.reg [q2 5 (.mv (.t 1)),
 q2 6 (.eqn 2 true (.t 5))])
 (.cond (.t 6)
 (.seq [0] (.seq [0, 1, 3] (.reg [q2 8 (.mv (.t 1)),
 q2 9 (.tas 334 (.a []) true (.t 8)),
 q2 7 (.mv (.t 9)),
 q2 10 (.extract 0 (.t 7)),
 q2 11 (.extract 1 (.t 7)),
 q2 2 (.alloc []),
 ⟨none, .store 0 (.t 2) (.t 10), none⟩,
 q2 3 (.mv (.t 11))])
 (.seq [0, 1, 13] (.reg [q2 12 (.mv (.t 3)),
 q2 13 (.not (.t 12))])
 (.cond (.t 13)
 (.reg [q2 14 (.mv (.t 1)),
 ⟨none, .panic (.t 14), none⟩])
 .skip)))
 (.reg [⟨none, .store 1 (.t 0) (.c (.b false)), none⟩]))
 .skip))
theorem rese246 : Tryz.f246.body.bind (resRec Tryz.prog Tryz.f246.ntmps [] []) = some (4, ose246, erase acCe246) := by kernel_rfl
def fs246 : FnS := .rcv 15 4 ose246 acCe246 [0, 1]
theorem fsok246 : FnOk Tryz.prog 246 fs246 := fun _ _ _ _ hn h => ctrD_of_T Tryz.func246 (by kernel_rfl) rese246 rfl hn h
abbrev ae104 : ACode := (.seq [0, 1] (.reg [q2 4 (.mv (.c (.i .i64 0)))])
 (.seq [] (.seq [0, 1, 7, 8] (.reg [q2 6 (.mv (.t 0)),
 q2 7 (.len (.t 6)),
 q2 8 (.mv (.c (.i .i64 0)))])
 (.block 0 (.loop [0, 1, 7, 8] (.seq [0, 1, 7, 8, 9] (.reg [q2 9 (.bin .lss (.t 8) (.t 7))])
 (.seq [0, 1, 7, 8] (.cond (.t 9)
 .skip
 (.exit 0))
 (.seq [0, 1, 7, 8] (.block 1 (.seq [0, 1, 5, 7, 8] (.reg [q2 10 (.mv (.t 8)),
 q2 5 (.mv (.t 10))])
 (.seq [0, 1, 5, 7, 8, 16] (.reg [q2 11 (.mv (.t 1)),
 q2 12 (.mv (.t 0)),
 q2 13 (.mv (.t 5)),
 q2 14 (.iaddr 1 none (.t 12) (.t 13)),
 q2 15 (.load none (.t 14)),
 q2 16 (.callv (.t 11) [(.t 15)])])
 (.cond (.t 16)
 (.seq [4] (.reg [q2 17 (.mv (.t 5)),
 q2 4 (.mv (.t 17))])
 .ret)
 .skip))))
 (.reg [q2 18 (.bin .add (.t 8) (.c (.i .i64 1))),
 q2 8 (.mv (.t 18))])))))))
 (.seq [4] (.reg [q2 4 (.mv (.c (.i .i64 (-1))))])
 .ret)))
theorem ree104 : Tryz.f104.body.bind (res Tryz.prog Tryz.f104.ntmps [] []) = some (erase ae104) := by kernel_rfl
def fs104 : FnS := .fn 19 ae104 [.t 4]
theorem fsok104 : FnOk Tryz.prog 104 fs104 := fun _ _ _ hn h => ctr_of_resC Tryz.func104 (by kernel_rfl) ree104 (by kernel_rfl) hn h
abbrev ae226 : ACode := (.seq [1, 2] (.reg [q2 2 (.box (.t 0)),
 q2 4 (.mv (.c (.l [] true))),
 q2 5 (.mv (.c (.i .i64 0)))])
 (.seq [1, 2] (.seq [1, 2, 9] (.reg [q2 6 (.load (some 6) (.t 2)),
 q2 7 (.mv (.t 1)),
 q2 8 (.call 275 [(.t 6), (.t 7)]),
 q2 9 (.not (.t 8))])
 (.cond (.t 9)
 (.seq [4, 5] (.reg [q2 4 (.mv (.c (.l [] true))),
 q2 5 (.mv (.c (.i .i64 2)))])
 .ret)
 .skip))
 (.seq [4, 5] (.reg [q2 10 (.load (some 6) (.t 2)),
 q2 11 (.mv (.t 1)),
 q2 12 (.call 249 [(.t 10), (.t 11)]),
 q2 4 (.mv (.t 12)),
 q2 5 (.mv (.c (.i .i64 0)))])
 .ret)))
theorem ree226 : Tryz.f226.body.bind (res Tryz.prog Tryz.f226.ntmps [] []) = some (erase ae226) := by kernel_rfl
def fs226 : FnS := .fn 13 ae226 [.t 4, .t 5]
theorem fsok226 : FnOk Tryz.prog 226 fs226 := fun _ _ _ hn h => ctr_of_resC Tryz.func226 (by kernel_rfl) ree226 (by kernel_rfl) hn h
abbrev ae122 : ACode := (.seq [0, 1] (.reg [q2 4 (.mv (.c (.i .i64 0)))])
 (.seq [] (.seq [0, 1, 7, 8] (.reg [q2 6 (.mv (.t 0)),
 q2 7 (.len (.t 6)),
 q2 8 (.mv (.c (.i .i64 0)))])
 (.block 0 (.loop [0, 1, 7, 8] (.seq [0, 1, 7, 8, 9] (.reg [q2 9 (.bin .lss (.t 8) (.t 7))])
 (.seq [0, 1, 7, 8] (.cond (.t 9)
 .skip
 (.exit 0))
 (.seq [0, 1, 7, 8] (.block 1 (.seq [0, 1, 5, 7, 8] (.reg [q2 10 (.mv (.t 8)),
 q2 5 (.mv (.t 10))])
 (.seq [0, 1, 5, 7, 8, 16] (.reg [q2 11 (.mv (.t 1)),
 q2 12 (.mv (.t 0)),
 q2 13 (.mv (.t 5)),
 q2 14 (.iaddr 1 none (.t 12) (.t 13)),
 q2 15 (.load none (.t 14)),
 q2 16 (.bin .eql (.t 11) (.t 15))])
 (.cond (.t 16)
 (.seq [4] (.reg [q2 17 (.mv (.t 5)),
 q2 4 (.mv (.t 17))])
 .ret)
 .skip))))
 (.reg [q2 18 (.bin .add (.t 8) (.c (.i .i64 1))),
 q2 8 (.mv (.t 18))])))))))
 (.seq [4] (.reg [q2 4 (.mv (.c (.i .i64 (-1))))])
 .ret)))
theorem ree122 : Tryz.f122.body.bind (res Tryz.prog Tryz.f122.ntmps [] []) = some (erase ae122) := by kernel_rfl
def fs122 : FnS := .fn 19 ae122 [.t 4]
theorem fsok122 : FnOk Tryz.prog 122 fs122 := fun _ _ _ hn h => ctr_of_resC Tryz.func122 (by kernel_rfl) ree122 (by kernel_rfl) hn h
abbrev ae97 : ACode := (.seq [1, 2, 3] (.reg [q2 3 (.box (.t 0)),
 q2 6 (.mv (.c (.i .i64 0)))])
 (.seq [2, 3, 7] (.reg [q2 8 (.faddr 2 (.t 3)),
 q2 9 (.load none (.t 8)),
 q2 10 (.mv (.t 1)),
 q2 11 (.bin .sub (.t 10) (.c (.i .i64 3))),
 q2 12 (.iaddr 1 none (.t 9) (.t 11)),
 q2 13 (.load none (.t 12)),
 q2 7 (.mv (.t 13))])
 (.seq [7] (.block 0 (.loop [2, 3, 7] (.seq [2, 3, 7] (.seq [2, 3, 7, 19] (.reg [q2 14 (.mv (.t 2)),
 q2 15 (.bin .gtr (.t 14) (.c (.i .i64 0))),
 q2 16 (.mv (.t 15)),
 ⟨(some 17), .mv (.t 7), (some (16, true))⟩,
 ⟨(some 18), .bin .geq (.t 17) (.c (.i .i64 0)), (some (16, true))⟩,
 q2 19 (.pick (.t 16) (.t 18) (.c (.b false)))])
 (.cond (.t 19)
 .skip
 (.exit 0)))
 (.seq [2, 3, 7] (.block 1 (.reg [q2 22 (.faddr 1 (.t 3)),
 q2 23 (.load none (.t 22)),
 q2 24 (.mv (.t 7)),
 q2 25 (.iaddr 4 none (.t 23) (.t 24)),
 q2 26 (.faddr 0 (.t 25)),
 q2 27 (.load none (.t 26)),
 q2 7 (.mv (.t 27))]))
 (.reg [q2 20 (.mv (.t 2)),
 q2 21 (.bin .sub (.t 20) (.c (.i .i64 1))),
 q2 2 (.mv (.t 21))])))))
 (.seq [6] (.reg [q2 28 (.mv (.t 7)),
 q2 6 (.mv (.t 28))])
 .ret))))
theorem ree97 : Tryz.f97.body.bind (res Tryz.prog Tryz.f97.ntmps [] []) = some (erase ae97) := by kernel_rfl
def fs97 : FnS := .fn 29 ae97 [.t 6]
theorem fsok97 : FnOk Tryz.prog 97 fs97 := fun _ _ _ hn h => ctr_of_resC Tryz.func97 (by kernel_rfl) ree97 (by kernel_rfl) hn h
abbrev ae227 : ACode := (.reg [q2 1 (.load none (.t 0)),
 q2 2 (.nilck (.t 1)),
 q2 3 (.faddr 15 (.t 2)),
 q2 4 (.load none (.t 3)),
 q2 5 (.bin .sub (.t 4) (.c (.i .i64 1))),
 q2 6 (.nilck (.t 1)),
 q2 7 (.faddr 15 (.t 6)),
 ⟨none, .store 1 (.t 7) (.t 5), none⟩])
theorem ree227 : Tryz.f227.body.bind (res Tryz.prog Tryz.f227.ntmps [] []) = some (erase ae227) := by kernel_rfl
def fs227 : FnS := .pld 8 ae227
theorem fsok227 : FnOk Tryz.prog 227 fs227 := fun _ _ _ hn h => ctrD_plain Tryz.func227 (by kernel_rfl) ree227 rfl hn h
abbrev ae228 : ACode := (.seq [1, 2, 3, 4] (.reg [q2 4 (.box (.t 0)),
 q2 8 (.mv (.c (.l [] true))),
 q2 9 (.mv (.c (.i .i64 0)))])
 (.seq [1, 2, 3, 10] (.reg [q2 11 (.load (some 6) (.t 4)),
 q2 12 (.call 146 [(.t 11)]),
 q2 10 (.mv (.t 12))])
 (.seq [1, 2, 3, 10] (.seq [1, 2, 3, 10, 18] (.reg [q2 13 (.mv (.t 10)),
 q2 14 (.mv (.t 1)),
 q2 15 (.mv (.t 2)),
 q2 16 (.mv (.t 3)),
 q2 17 (.call 276 [(.t 13), (.t 14), (.t 15), (.t 16)]),
 q2 18 (.not (.t 17))])
 (.cond (.t 18)
 (.seq [8, 9] (.reg [q2 8 (.mv (.c (.l [] true))),
 q2 9 (.mv (.c (.i .i64 2)))])
 .ret)
 .skip))
 (.seq [8, 9] (.reg [q2 19 (.mv (.t 10)),
 q2 20 (.mv (.t 1)),
 q2 21 (.mv (.t 2)),
 q2 22 (.mv (.t 3)),
 q2 23 (.call 277 [(.t 19), (.t 20), (.t 21), (.t 22)]),
 q2 8 (.mv (.t 23)),
 q2 9 (.mv (.c (.i .i64 0)))])
 .ret))))
theorem ree228 : Tryz.f228.body.bind (res Tryz.prog Tryz.f228.ntmps [] []) = some (erase ae228) := by kernel_rfl
def fs228 : FnS := .fn 24 ae228 [.t 8, .t 9]
theorem fsok228 : FnOk Tryz.prog 228 fs228 := fun _ _ _ hn h => ctr_of_resC Tryz.func228 (by kernel_rfl) ree228 (by kernel_rfl) hn h
abbrev ae229 : ACode := (.seq [0, 1, 4] (.reg [q2 4 (.alloc [(.l [] true), (.b false), (.l [] true), (.l [] true), (.b false), (.l [] true), (.b false)])])
 (.seq [0, 1, 4, 5] (.reg [q2 5 (.mv (.c (.l [] true)))])
 (.seq [0, 1, 4, 5] (.seq [0, 1, 4, 5, 12, 13, 14] (.reg [q2 12 (.mv (.t 1)),
 q2 13 (.len (.t 12)),
 q2 14 (.mv (.c (.i .i64 0)))])
 (.block 0 (.loop [0, 1, 4, 5, 12, 13, 14] (.seq [0, 1, 4, 5, 12, 13, 14, 15] (.reg [q2 15 (.bin .lss (.t 14) (.t 13))])
 (.seq [0, 1, 4, 5, 12, 13, 14] (.cond (.t 15)
 .skip
 (.exit 0))
 (.seq [0, 1, 4, 5, 12, 13, 14] (.block 1 (.seq [0, 1, 4, 5, 7, 12, 13, 14] (.reg [q2 16 (.iaddr 1 none (.t 12) (.t 14)),
 q2 17 (.load none (.t 16)),
 q2 7 (.mv (.t 17))])
 (.reg [q2 18 (.mv (.t 5)),
 q2 19 (.mv (.t 7)),
 q2 20 (.conv .u8 (.t 19)),
 q2 21 (.bslice 1 1 [(.i .u8 0)] [(0, (.t 20))]),
 q2 22 (.append 1 1 (.t 18) (.t 21)),
 q2 5 (.mv (.t 22))])))
 (.reg [q2 23 (.bin .add (.t 14) (.c (.i .i64 1))),
 q2 14 (.mv (.t 23))])))))))
 (.seq [0, 1, 4, 5, 8, 9] (.dreg [0, 1, 4, 5, 8, 9] [⟨0, q2 25 (.mv (.t 0)), [], []⟩,
 ⟨1, q2 26 (.nilck (.t 25)), [], []⟩,
 ⟨2, q2 27 (.faddr 16 (.t 26)), [], []⟩,
 ⟨3, q2 28 (.load none (.t 27)), [], []⟩,
 ⟨4, q2 29 (.mv (.t 5)), [], []⟩,
 ⟨5, q2 30 (.str (.t 29)), [], []⟩,
 ⟨6, q2 31 (.lookup .s (.a [(.l [] true), (.b false), (.l [] true), (.l [] true), (.b false), (.l [] true), (.b false)]) true (.t 28) (.t 30)), [], []⟩,
 ⟨7, q2 24 (.mv (.t 31)), [], []⟩,
 ⟨8, q2 32 (.extract 0 (.t 24)), [], []⟩,
 ⟨9, q2 33 (.extract 1 (.t 24)), [], []⟩,
 ⟨10, q2 8 (.alloc [(.l [] true), (.b false), (.l [] true), (.l [] true), (.b false), (.l [] true), (.b false)]), [], []⟩,
 ⟨11, ⟨none, .store 7 (.t 8) (.t 32), none⟩, [], []⟩,
 ⟨12, q2 9 (.mv (.t 33)), [], []⟩])
 (.seq [4, 8] (.seq [0, 1, 4, 5, 8, 35] (.reg [q2 34 (.mv (.t 9)),
 q2 35 (.not (.t 34))])
 (.cond (.t 35)
 (.seq [0, 4, 5, 8, 10, 11] (.reg [q2 37 (.mv (.t 0)),
 q2 38 (.nilck (.t 37)),
 q2 39 (.faddr 6 (.t 38)),
 q2 40 (.load (some 6) (.t 39)),
 q2 41 (.mv (.t 1)),
 q2 42 (.call 92 [(.t 40), (.t 41)]),
 q2 36 (.mv (.t 42)),
 q2 43 (.extract 0 (.t 36)),
 q2 44 (.extract 1 (.t 36)),
 q2 10 (.alloc [(.l [] true), (.b false), (.l [] true), (.l [] true), (.b false), (.l [] true)]),
 ⟨none, .store 6 (.t 10) (.t 43), none⟩,
 q2 11 (.mv (.t 44))])
 (.seq [0, 4, 5, 8] (.reg [q2 45 (.load (some 6) (.t 10)),
 q2 46 (.mv (.t 11)),
 q2 47 (.bin .neq (.t 46) (.c (.i .i64 0))),
 q2 48 (.build [(.l [] true), (.b false), (.l [] true), (.l [] true), (.b false), (.l [] true), (.b false)] [(0, 6, (.t 45)), (6, 1, (.t 47))]),
 ⟨none, .store 7 (.t 8) (.t 48), none⟩])
 (.dreg [4, 8] [⟨0, q2 49 (.mv (.t 0)), [], []⟩,
 ⟨1, q2 50 (.nilck (.t 49)), [], []⟩,
 ⟨2, q2 51 (.faddr 16 (.t 50)), [], []⟩,
 ⟨3, q2 52 (.load none (.t 51)), [], []⟩,
 ⟨4, q2 53 (.mv (.t 5)), [], []⟩,
 ⟨5, q2 54 (.str (.t 53)), [], []⟩,
 ⟨6, q2 55 (.load (some 7) (.t 8)), [], []⟩,
 ⟨7, ⟨none, .mapset .s (.t 52) (.t 54) (.t 55), none⟩, [], []⟩])))
 .skip))
 (.seq [4] (.reg [q2 56 (.load (some 7) (.t 8)),
 ⟨none, .store 7 (.t 4) (.t 56), none⟩])
 .ret))))))
theorem ree229 : Tryz.f229.body.bind (res Tryz.prog Tryz.f229.ntmps [] []) = some (erase ae229) := by kernel_rfl
def fs229 : FnS := .fn 57 ae229 [.c 4 (some 7)]
theorem fsok229 : FnOk Tryz.prog 229 fs229 := fun _ _ _ hn h => ctr_of_resC Tryz.func229 (by kernel_rfl) ree229 (by kernel_rfl) hn h
abbrev ae230 : ACode := (.seq [0, 1, 2, 3, 4] (.reg [q2 4 (.alloc [(.i .i64 0), (.i .i64 0)])])
 (.seq [4] (.reg [q2 5 (.load none (.t 0)),
 q2 6 (.load none (.t 1)),
 q2 7 (.load (some 7) (.t 2)),
 q2 8 (.load none (.t 3)),
 q2 9 (.call 231 [(.t 5), (.t 6), (.t 7), (.t 8)]),
 ⟨none, .store 2 (.t 4) (.t 9), none⟩])
 .ret))
theorem ree230 : Tryz.f230.body.bind (res Tryz.prog Tryz.f230.ntmps [] []) = some (erase ae230) := by kernel_rfl
def fs230 : FnS := .fn 10 ae230 [.c 4 (some 2)]
theorem fsok230 : FnOk Tryz.prog 230 fs230 := fun _ _ _ hn h => ctr_of_resC Tryz.func230 (by kernel_rfl) ree230 (by kernel_rfl) hn h
abbrev ae232 : ACode := (.seq [5, 6, 7, 8, 9, 10] (.reg [q2 5 (.box (.t 0)),
 q2 6 (.box (.t 1)),
 q2 7 (.box (.t 2)),
 q2 8 (.box (.t 3)),
 q2 9 (.box (.t 4)),
 q2 10 (.alloc [(.i .i64 0), (.i .i64 0)])])
 (.seq [10] (.dreg [10] [⟨0, q2 11 (.load none (.t 5)), [], []⟩,
 ⟨1, q2 12 (.load none (.t 6)), [], []⟩,
 ⟨2, q2 13 (.iaddr 1 none (.t 12) (.c (.i .i64 0))), [], []⟩,
 ⟨3, q2 14 (.load none (.t 13)), [], []⟩,
 ⟨4, q2 15 (.load none (.t 8)), [], []⟩,
 ⟨5, q2 16 (.mkf (.func 279) [] [(.t 6), (.t 5), (.t 7), (.t 8), (.t 9)]), [], []⟩,
 ⟨6, q2 17 (.call 278 [(.t 11), (.t 14), (.t 15), (.t 16)]), [], []⟩,
 ⟨7, ⟨none, .store 2 (.t 10) (.t 17), none⟩, [], []⟩])
 .ret))
theorem ree232 : Tryz.f232.body.bind (res Tryz.prog Tryz.f232.ntmps [] []) = some (erase ae232) := by kernel_rfl
def fs232 : FnS := .fn 18 ae232 [.c 10 (some 2)]
theorem fsok232 : FnOk Tryz.prog 232 fs232 := fun _ _ _ hn h => ctr_of_resC Tryz.func232 (by kernel_rfl) ree232 (by kernel_rfl) hn h
end Go.Gl
