/-
 The code of functions of the program, resolved, for the evaluator (printed by wip/gen/mkclosed.py)
-/
import Derived.Test.YtfbhfdaljendcaaGreatEv7
import Derived.Test.YtfbhfdaljendcaaGreatProg
import Derived.KernelRfl
set_option linter.all false
set_option linter.unusedVariables false
set_option linter.unusedSimpArgs false
namespace Go.Gl
abbrev q4 (n : Nat) (x : AOp) : AOper := ⟨some n, x, none⟩
open Go.Proofs
abbrev ae175 : ACode := (.seq [1, 2] (.reg [q4 2 (.box (.t 0)),
 q4 4 (.mv (.c (.b false)))])
 (.seq [4] (.reg [q4 5 (.mv (.t 1)),
 q4 6 (.mkf (.func 218) [] [(.t 2)]),
 q4 7 (.call 217 [(.t 5), (.t 6)]),
 q4 4 (.mv (.t 7))])
 .ret))
theorem ree175 : Tryz.f175.body.bind (res Tryz.prog Tryz.f175.ntmps [] []) = some (erase ae175) := by kernel_rfl
def fs175 : FnS := .fn 8 ae175 [.t 4]
theorem fsok175 : FnOk Tryz.prog 175 fs175 := fun _ _ _ hn h => ctr_of_resC Tryz.func175 (by kernel_rfl) ree175 (by kernel_rfl) hn h
abbrev ae310 : ACode := (.seq [0, 1] (.reg [q4 4 (.mv (.c (.b false)))])
 (.seq [4] (.reg [q4 5 (.mv (.t 0)),
 q4 6 (.eqn 0 true (.t 5)),
 q4 7 (.mv (.t 6)),
 ⟨(some 8), .mv (.t 1), (some (7, true))⟩,
 ⟨(some 9), .bin .geq (.t 8) (.c (.i .i64 0)), (some (7, true))⟩,
 q4 10 (.pick (.t 7) (.t 9) (.c (.b false))),
 q4 11 (.mv (.t 10)),
 ⟨(some 12), .mv (.t 1), (some (11, true))⟩,
 ⟨(some 13), .mv (.t 0), (some (11, true))⟩,
 ⟨(some 14), .nilck (.t 13), (some (11, true))⟩,
 ⟨(some 15), .faddr 0 (.t 14), (some (11, true))⟩,
 ⟨(some 16), .faddr 2 (.t 15), (some (11, true))⟩,
 ⟨(some 17), .load none (.t 16), (some (11, true))⟩,
 ⟨(some 18), .len (.t 17), (some (11, true))⟩,
 ⟨(some 19), .bin .lss (.t 12) (.t 18), (some (11, true))⟩,
 q4 20 (.pick (.t 11) (.t 19) (.c (.b false))),
 q4 4 (.mv (.t 20))])
 .ret))
theorem ree310 : Tryz.f310.body.bind (res Tryz.prog Tryz.f310.ntmps [] []) = some (erase ae310) := by kernel_rfl
def fs310 : FnS := .fn 21 ae310 [.t 4]
theorem fsok310 : FnOk Tryz.prog 310 fs310 := fun _ _ _ hn h => ctr_of_resC Tryz.func310 (by kernel_rfl) ree310 (by kernel_rfl) hn h
abbrev ae312 : ACode := (.seq [1, 2] (.reg [q4 2 (.box (.t 0)),
 q4 3 (.mv (.c (.b false)))])
 (.seq [3] (.reg [q4 4 (.load (some 2) (.t 2)),
 q4 5 (.load none (.t 1)),
 q4 6 (.len (.t 5)),
 q4 7 (.call 313 [(.t 4), (.t 6)]),
 q4 3 (.mv (.t 7))])
 .ret))
theorem ree312 : Tryz.f312.body.bind (res Tryz.prog Tryz.f312.ntmps [] []) = some (erase ae312) := by kernel_rfl
def fs312 : FnS := .fn 8 ae312 [.t 3]
theorem fsok312 : FnOk Tryz.prog 312 fs312 := fun _ _ _ hn h => ctr_of_resC Tryz.func312 (by kernel_rfl) ree312 (by kernel_rfl) hn h
abbrev ae311 : ACode := (.seq [0, 1] (.reg [q4 4 (.mv (.c (.l [] true)))])
 (.seq [0, 1, 5] (.reg [q4 5 (.mv (.c (.l [] true)))])
 (.seq [5] (.seq [1, 5, 8, 9, 10] (.reg [q4 8 (.mv (.t 0)),
 q4 9 (.len (.t 8)),
 q4 10 (.mv (.c (.i .i64 0)))])
 (.block 0 (.loop [1, 5, 8, 9, 10] (.seq [1, 5, 8, 9, 10, 11] (.reg [q4 11 (.bin .lss (.t 10) (.t 9))])
 (.seq [1, 5, 8, 9, 10] (.cond (.t 11)
 .skip
 (.exit 0))
 (.seq [1, 5, 8, 9, 10] (.block 1 (.seq [1, 5, 7, 8, 9, 10] (.reg [q4 12 (.iaddr 2 none (.t 8) (.t 10)),
 q4 13 (.load (some 2) (.t 12)),
 q4 7 (.alloc [(.i .i64 0), (.i .i64 0)]),
 ⟨none, .store 2 (.t 7) (.t 13), none⟩])
 (.seq [1, 5, 7, 8, 9, 10, 16] (.reg [q4 14 (.mv (.t 1)),
 q4 15 (.load (some 2) (.t 7)),
 q4 16 (.callv (.t 14) [(.t 15)])])
 (.cond (.t 16)
 (.reg [q4 17 (.mv (.t 5)),
 q4 18 (.load (some 2) (.t 7)),
 q4 19 (.bslice 2 1 [(.i .i64 0), (.i .i64 0)] [(0, (.t 18))]),
 q4 20 (.append 2 16 (.t 17) (.t 19)),
 q4 5 (.mv (.t 20))])
 .skip))))
 (.reg [q4 21 (.bin .add (.t 10) (.c (.i .i64 1))),
 q4 10 (.mv (.t 21))])))))))
 (.seq [4] (.reg [q4 22 (.mv (.t 5)),
 q4 23 (.call 189 [(.t 22)]),
 q4 4 (.mv (.t 23))])
 .ret))))
theorem ree311 : Tryz.f311.body.bind (res Tryz.prog Tryz.f311.ntmps [] []) = some (erase ae311) := by kernel_rfl
def fs311 : FnS := .fn 24 ae311 [.t 4]
theorem fsok311 : FnOk Tryz.prog 311 fs311 := fun _ _ _ hn h => ctr_of_resC Tryz.func311 (by kernel_rfl) ree311 (by kernel_rfl) hn h
abbrev ae314 : ACode := (.seq [2, 3, 4, 5] (.reg [q4 4 (.box (.t 0)),
 q4 5 (.box (.t 1)),
 q4 8 (.mv (.c (.b false))),
 q4 9 (.mv (.c (.i .i64 0)))])
 (.seq [2, 3, 5, 10, 11] (.reg [q4 13 (.load (some 2) (.t 4)),
 q4 14 (.load (some 6) (.t 5)),
 q4 15 (.bslice 6 1 [(.i .i64 0), (.i .i64 0), (.l [] true), (.i .i64 0), (.i .i64 0), (.l [] true)] [(0, (.t 14))]),
 q4 16 (.call 119 [(.t 13), (.t 15)]),
 q4 12 (.mv (.t 16)),
 q4 17 (.extract 0 (.t 12)),
 q4 18 (.extract 1 (.t 12)),
 q4 10 (.mv (.t 17)),
 q4 11 (.mv (.t 18))])
 (.seq [2, 3, 5, 10] (.seq [2, 3, 5, 10, 34] (.reg [q4 19 (.mv (.t 11)),
 q4 20 (.not (.t 19)),
 q4 21 (.mv (.t 20)),
 ⟨(some 22), .mv (.t 10), (some (21, false))⟩,
 ⟨(some 23), .mv (.t 2), (some (21, false))⟩,
 ⟨(some 24), .mv (.t 3), (some (21, false))⟩,
 ⟨(some 25), .call 339 [(.t 22), (.t 23), (.t 24)], (some (21, false))⟩,
 ⟨(some 26), .not (.t 25), (some (21, false))⟩,
 q4 27 (.pick (.t 21) (.c (.b true)) (.t 26)),
 q4 28 (.mv (.t 27)),
 ⟨(some 29), .load (some 6) (.t 5), (some (28, false))⟩,
 ⟨(some 30), .call 340 [(.t 29)], (some (28, false))⟩,
 ⟨(some 31), .mv (.t 3), (some (28, false))⟩,
 ⟨(some 32), .len (.t 31), (some (28, false))⟩,
 ⟨(some 33), .bin .gtr (.t 30) (.t 32), (some (28, false))⟩,
 q4 34 (.pick (.t 28) (.c (.b true)) (.t 33))])
 (.cond (.t 34)
 (.seq [8, 9] (.reg [q4 8 (.mv (.c (.b false))),
 q4 9 (.mv (.c (.i .i64 2)))])
 .ret)
 .skip))
 (.seq [8, 9] (.reg [q4 35 (.mv (.t 10)),
 q4 36 (.load (some 6) (.t 5)),
 q4 37 (.mv (.t 2)),
 q4 38 (.mv (.t 3)),
 q4 39 (.call 341 [(.t 35), (.t 36), (.t 37), (.t 38)]),
 q4 8 (.mv (.t 39)),
 q4 9 (.mv (.c (.i .i64 0)))])
 .ret))))
theorem ree314 : Tryz.f314.body.bind (res Tryz.prog Tryz.f314.ntmps [] []) = some (erase ae314) := by kernel_rfl
def fs314 : FnS := .fn 40 ae314 [.t 8, .t 9]
theorem fsok314 : FnOk Tryz.prog 314 fs314 := fun _ _ _ hn h => ctr_of_resC Tryz.func314 (by kernel_rfl) ree314 (by kernel_rfl) hn h
abbrev ae315 : ACode := (.seq [2, 3] (.reg [q4 2 (.box (.t 0)),
 q4 3 (.box (.t 1)),
 q4 4 (.mv (.c .fnil))])
 (.seq [4] (.reg [q4 5 (.mkf (.func 342) [] [(.t 2), (.t 3)]),
 q4 4 (.mv (.t 5))])
 .ret))
theorem ree315 : Tryz.f315.body.bind (res Tryz.prog Tryz.f315.ntmps [] []) = some (erase ae315) := by kernel_rfl
def fs315 : FnS := .fn 6 ae315 [.t 4]
theorem fsok315 : FnOk Tryz.prog 315 fs315 := fun _ _ _ hn h => ctr_of_resC Tryz.func315 (by kernel_rfl) ree315 (by kernel_rfl) hn h
abbrev ae316 : ACode := (.seq [0, 1, 2, 3] (.reg [q4 5 (.mv (.c (.b false)))])
 (.seq [6, 7] (.dreg [6, 7] [⟨0, q4 9 (.load none (.t 1)), [], []⟩,
 ⟨1, q4 10 (.nilck (.t 9)), [], []⟩,
 ⟨2, q4 11 (.faddr 6 (.t 10)), [], []⟩,
 ⟨3, q4 12 (.load (some 2) (.t 11)), [], []⟩,
 ⟨4, q4 13 (.load none (.t 1)), [], []⟩,
 ⟨5, q4 14 (.nilck (.t 13)), [], []⟩,
 ⟨6, q4 15 (.faddr 0 (.t 14)), [], []⟩,
 ⟨7, q4 16 (.faddr 3 (.t 15)), [], []⟩,
 ⟨8, q4 17 (.load none (.t 16)), [], []⟩,
 ⟨9, q4 18 (.mv (.t 0)), [], []⟩,
 ⟨10, q4 19 (.iaddr 9 none (.t 17) (.t 18)), [], []⟩,
 ⟨11, q4 20 (.faddr 2 (.t 19)), [], []⟩,
 ⟨12, q4 21 (.load (some 6) (.t 20)), [], []⟩,
 ⟨13, q4 22 (.load none (.t 2)), [], []⟩,
 ⟨14, q4 23 (.load none (.t 3)), [], []⟩,
 ⟨15, q4 24 (.call 314 [(.t 12), (.t 21), (.t 22), (.t 23)]), [], []⟩,
 ⟨16, q4 8 (.mv (.t 24)), [], []⟩,
 ⟨17, q4 25 (.extract 0 (.t 8)), [], []⟩,
 ⟨18, q4 26 (.extract 1 (.t 8)), [], []⟩,
 ⟨19, q4 6 (.mv (.t 25)), [], []⟩,
 ⟨20, q4 7 (.mv (.t 26)), [], []⟩])
 (.seq [5] (.reg [q4 27 (.mv (.t 6)),
 q4 28 (.mv (.t 27)),
 ⟨(some 29), .mv (.t 7), (some (28, true))⟩,
 ⟨(some 30), .bin .eql (.t 29) (.c (.i .i64 0)), (some (28, true))⟩,
 q4 31 (.pick (.t 28) (.t 30) (.c (.b false))),
 q4 5 (.mv (.t 31))])
 .ret)))
theorem ree316 : Tryz.f316.body.bind (res Tryz.prog Tryz.f316.ntmps [] []) = some (erase ae316) := by kernel_rfl
def fs316 : FnS := .fn 32 ae316 [.t 5]
theorem fsok316 : FnOk Tryz.prog 316 fs316 := fun _ _ _ hn h => ctr_of_resC Tryz.func316 (by kernel_rfl) ree316 (by kernel_rfl) hn h
abbrev ae317 : ACode := (.seq [1] (.reg [q4 1 (.box (.t 0)),
 q4 2 (.mv (.c .fnil))])
 (.seq [2] (.reg [q4 3 (.mkf (.func 343) [] [(.t 1)]),
 q4 2 (.mv (.t 3))])
 .ret))
theorem ree317 : Tryz.f317.body.bind (res Tryz.prog Tryz.f317.ntmps [] []) = some (erase ae317) := by kernel_rfl
def fs317 : FnS := .fn 4 ae317 [.t 2]
theorem fsok317 : FnOk Tryz.prog 317 fs317 := fun _ _ _ hn h => ctr_of_resC Tryz.func317 (by kernel_rfl) ree317 (by kernel_rfl) hn h
abbrev ae318 : ACode := (.seq [0] (.reg [q4 2 (.mv (.c (.l [] true)))])
 (.seq [2] (.reg [q4 3 (.mv (.t 0)),
 q4 4 (.mv (.t 0)),
 q4 5 (.len (.t 4)),
 q4 6 (.mv (.t 0)),
 q4 7 (.len (.t 6)),
 q4 8 (.slice 2 (.t 3) none (some (.t 5)) (some (.t 7))),
 q4 2 (.mv (.t 8))])
 .ret))
theorem ree318 : Tryz.f318.body.bind (res Tryz.prog Tryz.f318.ntmps [] []) = some (erase ae318) := by kernel_rfl
def fs318 : FnS := .fn 9 ae318 [.t 2]
theorem fsok318 : FnOk Tryz.prog 318 fs318 := fun _ _ _ hn h => ctr_of_resC Tryz.func318 (by kernel_rfl) ree318 (by kernel_rfl) hn h
abbrev ae319 : ACode := (.seq [0, 1] (.reg [q4 4 (.mv (.c (.l [] true)))])
 (.seq [0, 1, 5] (.reg [q4 5 (.mv (.c (.l [] true)))])
 (.seq [5] (.seq [1, 5, 8, 9, 10] (.reg [q4 8 (.mv (.t 0)),
 q4 9 (.len (.t 8)),
 q4 10 (.mv (.c (.i .i64 0)))])
 (.block 0 (.loop [1, 5, 8, 9, 10] (.seq [1, 5, 8, 9, 10, 11] (.reg [q4 11 (.bin .lss (.t 10) (.t 9))])
 (.seq [1, 5, 8, 9, 10] (.cond (.t 11)
 .skip
 (.exit 0))
 (.seq [1, 5, 8, 9, 10] (.block 1 (.seq [1, 5, 7, 8, 9, 10] (.reg [q4 12 (.iaddr 2 none (.t 8) (.t 10)),
 q4 13 (.load (some 2) (.t 12)),
 q4 7 (.alloc [(.i .i64 0), (.i .i64 0)]),
 ⟨none, .store 2 (.t 7) (.t 13), none⟩])
 (.reg [q4 14 (.mv (.t 5)),
 q4 15 (.mv (.t 1)),
 q4 16 (.load (some 2) (.t 7)),
 q4 17 (.callv (.t 15) [(.t 16)]),
 q4 18 (.bslice 2 1 [(.i .i64 0), (.i .i64 0)] [(0, (.t 17))]),
 q4 19 (.append 2 16 (.t 14) (.t 18)),
 q4 5 (.mv (.t 19))])))
 (.reg [q4 20 (.bin .add (.t 10) (.c (.i .i64 1))),
 q4 10 (.mv (.t 20))])))))))
 (.seq [4] (.reg [q4 21 (.mv (.t 5)),
 q4 22 (.call 189 [(.t 21)]),
 q4 4 (.mv (.t 22))])
 .ret))))
theorem ree319 : Tryz.f319.body.bind (res Tryz.prog Tryz.f319.ntmps [] []) = some (erase ae319) := by kernel_rfl
def fs319 : FnS := .fn 23 ae319 [.t 4]
theorem fsok319 : FnOk Tryz.prog 319 fs319 := fun _ _ _ hn h => ctr_of_resC Tryz.func319 (by kernel_rfl) ree319 (by kernel_rfl) hn h
abbrev ae320 : ACode := (.seq [1, 2] (.reg [q4 1 (.box (.t 0)),
 q4 2 (.alloc [(.i .i64 0), (.i .i64 0)])])
 (.seq [2] (.reg [q4 3 (.load (some 2) (.t 1)),
 ⟨none, .store 2 (.t 2) (.t 3), none⟩])
 .ret))
theorem ree320 : Tryz.f320.body.bind (res Tryz.prog Tryz.f320.ntmps [] []) = some (erase ae320) := by kernel_rfl
def fs320 : FnS := .fn 4 ae320 [.c 2 (some 2)]
theorem fsok320 : FnOk Tryz.prog 320 fs320 := fun _ _ _ hn h => ctr_of_resC Tryz.func320 (by kernel_rfl) ree320 (by kernel_rfl) hn h
abbrev ae321 : ACode := (.seq [1, 2] (.reg [q4 2 (.box (.t 0)),
 q4 3 (.mv (.c (.b false)))])
 (.seq [3] (.reg [q4 4 (.load (some 2) (.t 2)),
 q4 5 (.load none (.t 1)),
 q4 6 (.call 322 [(.t 4), (.t 5)]),
 q4 7 (.not (.t 6)),
 q4 3 (.mv (.t 7))])
 .ret))
theorem ree321 : Tryz.f321.body.bind (res Tryz.prog Tryz.f321.ntmps [] []) = some (erase ae321) := by kernel_rfl
def fs321 : FnS := .fn 8 ae321 [.t 3]
theorem fsok321 : FnOk Tryz.prog 321 fs321 := fun _ _ _ hn h => ctr_of_resC Tryz.func321 (by kernel_rfl) ree321 (by kernel_rfl) hn h
abbrev ae323 : ACode := (.seq [0] (.reg [q4 2 (.mv (.c (.l [] true)))])
 (.seq [2] (.reg [q4 3 (.mv (.t 0)),
 q4 4 (.mv (.t 0)),
 q4 5 (.len (.t 4)),
 q4 6 (.mv (.t 0)),
 q4 7 (.len (.t 6)),
 q4 8 (.slice 2 (.t 3) none (some (.t 5)) (some (.t 7))),
 q4 2 (.mv (.t 8))])
 .ret))
theorem ree323 : Tryz.f323.body.bind (res Tryz.prog Tryz.f323.ntmps [] []) = some (erase ae323) := by kernel_rfl
def fs323 : FnS := .fn 9 ae323 [.t 2]
theorem fsok323 : FnOk Tryz.prog 323 fs323 := fun _ _ _ hn h => ctr_of_resC Tryz.func323 (by kernel_rfl) ree323 (by kernel_rfl) hn h
abbrev ae324 : ACode := (.seq [3, 4, 5] (.reg [q4 3 (.box (.t 0)),
 q4 4 (.box (.t 1)),
 q4 5 (.box (.t 2)),
 q4 6 (.mv (.c (.b false))),
 q4 7 (.mv (.c (.i .i64 0)))])
 (.seq [4, 5, 8, 9] (.reg [q4 11 (.load (some 2) (.t 3)),
 q4 12 (.load (some 6) (.t 4)),
 q4 13 (.load (some 6) (.t 5)),
 q4 14 (.bslice 6 2 [(.i .i64 0), (.i .i64 0), (.l [] true), (.i .i64 0), (.i .i64 0), (.l [] true)] [(0, (.t 12)), (1, (.t 13))]),
 q4 15 (.call 119 [(.t 11), (.t 14)]),
 q4 10 (.mv (.t 15)),
 q4 16 (.extract 0 (.t 10)),
 q4 17 (.extract 1 (.t 10)),
 q4 8 (.mv (.t 16)),
 q4 9 (.mv (.t 17))])
 (.seq [4, 5, 8] (.seq [4, 5, 8, 19] (.reg [q4 18 (.mv (.t 9)),
 q4 19 (.not (.t 18))])
 (.cond (.t 19)
 (.seq [6, 7] (.reg [q4 6 (.mv (.c (.b false))),
 q4 7 (.mv (.c (.i .i64 2)))])
 .ret)
 .skip))
 (.seq [6, 7] (.reg [q4 20 (.mv (.t 8)),
 q4 21 (.load (some 6) (.t 4)),
 q4 22 (.load (some 6) (.t 5)),
 q4 23 (.call 181 [(.t 20), (.t 21), (.t 22)]),
 q4 6 (.mv (.t 23)),
 q4 7 (.mv (.c (.i .i64 0)))])
 .ret))))
theorem ree324 : Tryz.f324.body.bind (res Tryz.prog Tryz.f324.ntmps [] []) = some (erase ae324) := by kernel_rfl
def fs324 : FnS := .fn 24 ae324 [.t 6, .t 7]
theorem fsok324 : FnOk Tryz.prog 324 fs324 := fun _ _ _ hn h => ctr_of_resC Tryz.func324 (by kernel_rfl) ree324 (by kernel_rfl) hn h
abbrev ae325 : ACode := (.seq [1, 2] (.reg [q4 2 (.box (.t 0)),
 q4 4 (.mv (.c (.l [] true)))])
 (.seq [2] (.seq [2, 6] (.reg [q4 6 (.mv (.t 1))])
 (.block 0 (.rangef [2] (.t 6) [7]
 (.reg [q4 5 (.mv (.t 7))])
 (.block 1 (.reg [q4 8 (.load none (.t 2)),
 q4 9 (.mv (.t 5)),
 q4 10 (.bslice 1 1 [(.i .i64 0)] [(0, (.t 9))]),
 q4 11 (.append 1 8 (.t 8) (.t 10)),
 ⟨none, .store 1 (.t 2) (.t 11), none⟩])))))
 (.seq [4] (.reg [q4 12 (.load none (.t 2)),
 q4 4 (.mv (.t 12))])
 .ret)))
theorem ree325 : Tryz.f325.body.bind (res Tryz.prog Tryz.f325.ntmps [] []) = some (erase ae325) := by kernel_rfl
def fs325 : FnS := .fn 13 ae325 [.t 4]
theorem fsok325 : FnOk Tryz.prog 325 fs325 := fun _ _ _ hn h => ctr_of_resC Tryz.func325 (by kernel_rfl) ree325 (by kernel_rfl) hn h
abbrev ae327 : ACode := (.seq [0] (.reg [q4 2 (.mv (.c (.i .i64 0)))])
 (.seq [0] (.cond (.c (.b false))
 (.seq [2] (.reg [q4 3 (.mv (.t 0)),
 q4 4 (.conv .u32 (.t 3)),
 q4 5 (.call 353 [(.t 4)]),
 q4 2 (.mv (.t 5))])
 .ret)
 .skip)
 (.seq [2] (.reg [q4 6 (.mv (.t 0)),
 q4 7 (.call 354 [(.t 6)]),
 q4 2 (.mv (.t 7))])
 .ret)))
theorem ree327 : Tryz.f327.body.bind (res Tryz.prog Tryz.f327.ntmps [] []) = some (erase ae327) := by kernel_rfl
def fs327 : FnS := .fn 8 ae327 [.t 2]
theorem fsok327 : FnOk Tryz.prog 327 fs327 := fun _ _ _ hn h => ctr_of_resC Tryz.func327 (by kernel_rfl) ree327 (by kernel_rfl) hn h
abbrev ae326 : ACode := (.seq [0, 1, 2, 3, 8] (.reg [q4 8 (.mv (.c (.b true)))])
 (.seq [0, 1, 2, 3, 8, 9] (.reg [q4 9 (.mv (.c (.b true)))])
 (.block 0 (.loop [0, 1, 2, 3, 8, 9] (.block 1 (.seq [0, 1, 2, 3, 8, 9, 10] (.reg [q4 19 (.mv (.t 2)),
 q4 20 (.mv (.t 1)),
 q4 21 (.bin .sub (.t 19) (.t 20)),
 q4 10 (.mv (.t 21))])
 (.seq [0, 1, 2, 3, 8, 9, 10] (.seq [0, 1, 2, 3, 8, 9, 10, 23] (.reg [q4 22 (.mv (.t 10)),
 q4 23 (.bin .leq (.t 22) (.c (.i .i64 12)))])
 (.cond (.t 23)
 (.seq [] (.reg [q4 24 (.mv (.t 0)),
 q4 25 (.mv (.t 1)),
 q4 26 (.mv (.t 2)),
 q4 27 (.call 344 [(.t 24), (.t 25), (.t 26)])])
 .ret)
 .skip))
 (.seq [0, 1, 2, 3, 8, 9, 10] (.seq [0, 1, 2, 3, 8, 9, 10, 29] (.reg [q4 28 (.mv (.t 3)),
 q4 29 (.bin .eql (.t 28) (.c (.i .i64 0)))])
 (.cond (.t 29)
 (.seq [] (.reg [q4 30 (.mv (.t 0)),
 q4 31 (.mv (.t 1)),
 q4 32 (.mv (.t 2)),
 q4 33 (.call 345 [(.t 30), (.t 31), (.t 32)])])
 .ret)
 .skip))
 (.seq [0, 1, 2, 3, 8, 9, 10] (.seq [0, 1, 2, 3, 8, 9, 10, 35] (.reg [q4 34 (.mv (.t 8)),
 q4 35 (.not (.t 34))])
 (.cond (.t 35)
 (.seq [0, 1, 2, 3, 8, 9, 10] (.reg [q4 36 (.mv (.t 0)),
 q4 37 (.mv (.t 1)),
 q4 38 (.mv (.t 2)),
 q4 39 (.call 346 [(.t 36), (.t 37), (.t 38)])])
 (.reg [q4 40 (.mv (.t 3)),
 q4 41 (.bin .sub (.t 40) (.c (.i .i64 1))),
 q4 3 (.mv (.t 41))]))
 .skip))
 (.seq [0, 1, 2, 3, 8, 9, 10, 11, 12] (.reg [q4 43 (.mv (.t 0)),
 q4 44 (.mv (.t 1)),
 q4 45 (.mv (.t 2)),
 q4 46 (.call 347 [(.t 43), (.t 44), (.t 45)]),
 q4 42 (.mv (.t 46)),
 q4 47 (.extract 0 (.t 42)),
 q4 48 (.extract 1 (.t 42)),
 q4 11 (.mv (.t 47)),
 q4 12 (.mv (.t 48))])
 (.seq [0, 1, 2, 3, 8, 9, 10, 11, 12] (.seq [0, 1, 2, 3, 8, 9, 10, 11, 12, 50] (.reg [q4 49 (.mv (.t 12)),
 q4 50 (.bin .eql (.t 49) (.c (.i .i64 2)))])
 (.cond (.t 50)
 (.seq [0, 1, 2, 3, 8, 9, 10, 11] (.reg [q4 51 (.mv (.t 0)),
 q4 52 (.mv (.t 1)),
 q4 53 (.mv (.t 2)),
 q4 54 (.call 348 [(.t 51), (.t 52), (.t 53)])])
 (.seq [0, 1, 2, 3, 8, 9, 10, 11] (.reg [q4 55 (.mv (.t 2)),
 q4 56 (.bin .sub (.t 55) (.c (.i .i64 1))),
 q4 57 (.mv (.t 11)),
 q4 58 (.mv (.t 1)),
 q4 59 (.bin .sub (.t 57) (.t 58)),
 q4 60 (.bin .sub (.t 56) (.t 59)),
 q4 11 (.mv (.t 60))])
 (.reg [q4 12 (.mv (.c (.i .i64 1)))])))
 .skip))
 (.seq [0, 1, 2, 3, 8, 9, 10, 11] (.seq [0, 1, 2, 3, 8, 9, 10, 11, 68] (.reg [q4 61 (.mv (.t 8)),
 q4 62 (.mv (.t 61)),
 ⟨(some 63), .mv (.t 9), (some (62, true))⟩,
 q4 64 (.pick (.t 62) (.t 63) (.c (.b false))),
 q4 65 (.mv (.t 64)),
 ⟨(some 66), .mv (.t 12), (some (65, true))⟩,
 ⟨(some 67), .bin .eql (.t 66) (.c (.i .i64 1)), (some (65, true))⟩,
 q4 68 (.pick (.t 65) (.t 67) (.c (.b false)))])
 (.cond (.t 68)
 (.seq [0, 1, 2, 3, 8, 9, 10, 11, 72] (.reg [q4 69 (.mv (.t 0)),
 q4 70 (.mv (.t 1)),
 q4 71 (.mv (.t 2)),
 q4 72 (.call 349 [(.t 69), (.t 70), (.t 71)])])
 (.cond (.t 72)
 .ret
 .skip))
 .skip))
 (.seq [0, 1, 2, 3, 10, 11] (.seq [0, 1, 2, 3, 8, 9, 10, 11, 87] (.dreg [0, 1, 2, 3, 8, 9, 10, 11, 87] [⟨0, q4 73 (.mv (.t 1)), [], []⟩,
 ⟨1, q4 74 (.bin .gtr (.t 73) (.c (.i .i64 0))), [], []⟩,
 ⟨2, q4 75 (.mv (.t 74)), [], []⟩,
 ⟨3, ⟨(some 76), .mv (.t 0), (some (75, true))⟩, [], []⟩,
 ⟨4, ⟨(some 77), .mv (.t 1), (some (75, true))⟩, [], []⟩,
 ⟨5, ⟨(some 78), .bin .sub (.t 77) (.c (.i .i64 1)), (some (75, true))⟩, [], []⟩,
 ⟨6, ⟨(some 79), .iaddr 1 none (.t 76) (.t 78), (some (75, true))⟩, [], []⟩,
 ⟨7, ⟨(some 80), .load none (.t 79), (some (75, true))⟩, [], []⟩,
 ⟨8, ⟨(some 81), .mv (.t 0), (some (75, true))⟩, [], []⟩,
 ⟨9, ⟨(some 82), .mv (.t 11), (some (75, true))⟩, [], []⟩,
 ⟨10, ⟨(some 83), .iaddr 1 none (.t 81) (.t 82), (some (75, true))⟩, [], []⟩,
 ⟨11, ⟨(some 84), .load none (.t 83), (some (75, true))⟩, [], []⟩,
 ⟨12, ⟨(some 85), .call 350 [(.t 80), (.t 84)], (some (75, true))⟩, [], []⟩,
 ⟨13, ⟨(some 86), .not (.t 85), (some (75, true))⟩, [], []⟩,
 ⟨14, q4 87 (.pick (.t 75) (.t 86) (.c (.b false))), [], []⟩])
 (.cond (.t 87)
 (.seq [0, 2, 3, 8, 9, 13] (.reg [q4 88 (.mv (.t 0)),
 q4 89 (.mv (.t 1)),
 q4 90 (.mv (.t 2)),
 q4 91 (.mv (.t 11)),
 q4 92 (.call 351 [(.t 88), (.t 89), (.t 90), (.t 91)]),
 q4 13 (.mv (.t 92))])
 (.seq [0, 1, 2, 3, 8, 9] (.reg [q4 93 (.mv (.t 13)),
 q4 1 (.mv (.t 93))])
 (.exit 1)))
 .skip))
 (.seq [0, 1, 2, 3, 10, 14, 15] (.reg [q4 95 (.mv (.t 0)),
 q4 96 (.mv (.t 1)),
 q4 97 (.mv (.t 2)),
 q4 98 (.mv (.t 11)),
 q4 99 (.call 352 [(.t 95), (.t 96), (.t 97), (.t 98)]),
 q4 94 (.mv (.t 99)),
 q4 100 (.extract 0 (.t 94)),
 q4 101 (.extract 1 (.t 94)),
 q4 14 (.mv (.t 100)),
 q4 15 (.mv (.t 101))])
 (.seq [0, 1, 2, 3, 9, 10, 14] (.reg [q4 102 (.mv (.t 15)),
 q4 9 (.mv (.t 102))])
 (.seq [0, 1, 2, 3, 9, 10, 14, 16, 17] (.reg [q4 103 (.mv (.t 14)),
 q4 104 (.mv (.t 1)),
 q4 105 (.bin .sub (.t 103) (.t 104)),
 q4 106 (.mv (.t 2)),
 q4 107 (.mv (.t 14)),
 q4 108 (.bin .sub (.t 106) (.t 107)),
 q4 16 (.mv (.t 105)),
 q4 17 (.mv (.t 108))])
 (.seq [0, 1, 2, 3, 9, 14, 16, 17, 18] (.reg [q4 109 (.mv (.t 10)),
 q4 110 (.bin .quo (.t 109) (.c (.i .i64 8))),
 q4 18 (.mv (.t 110))])
 (.seq [0, 1, 2, 3, 9, 14, 16, 17, 18, 113] (.reg [q4 111 (.mv (.t 16)),
 q4 112 (.mv (.t 17)),
 q4 113 (.bin .lss (.t 111) (.t 112))])
 (.cond (.t 113)
 (.seq [0, 1, 2, 3, 8, 9, 14] (.reg [q4 114 (.mv (.t 16)),
 q4 115 (.mv (.t 18)),
 q4 116 (.bin .geq (.t 114) (.t 115)),
 q4 8 (.mv (.t 116))])
 (.seq [0, 2, 3, 8, 9, 14] (.reg [q4 117 (.mv (.t 0)),
 q4 118 (.mv (.t 1)),
 q4 119 (.mv (.t 14)),
 q4 120 (.mv (.t 3)),
 q4 121 (.call 326 [(.t 117), (.t 118), (.t 119), (.t 120)])])
 (.reg [q4 122 (.mv (.t 14)),
 q4 123 (.bin .add (.t 122) (.c (.i .i64 1))),
 q4 1 (.mv (.t 123))])))
 (.seq [0, 1, 2, 3, 8, 9, 14] (.reg [q4 124 (.mv (.t 17)),
 q4 125 (.mv (.t 18)),
 q4 126 (.bin .geq (.t 124) (.t 125)),
 q4 8 (.mv (.t 126))])
 (.seq [0, 1, 3, 8, 9, 14] (.reg [q4 127 (.mv (.t 0)),
 q4 128 (.mv (.t 14)),
 q4 129 (.bin .add (.t 128) (.c (.i .i64 1))),
 q4 130 (.mv (.t 2)),
 q4 131 (.mv (.t 3)),
 q4 132 (.call 326 [(.t 127), (.t 129), (.t 130), (.t 131)])])
 (.reg [q4 133 (.mv (.t 14)),
 q4 2 (.mv (.t 133))]))))))))))))))))))))))
theorem ree326 : Tryz.f326.body.bind (res Tryz.prog Tryz.f326.ntmps [] []) = some (erase ae326) := by kernel_rfl
def fs326 : FnS := .fn 134 ae326 []
theorem fsok326 : FnOk Tryz.prog 326 fs326 := fun _ _ _ hn h => ctr_of_resC Tryz.func326 (by kernel_rfl) ree326 (by kernel_rfl) hn h
abbrev ae264 : ACode := (.seq [0] (.reg [q4 2 (.mv (.c (.l [] true)))])
 (.seq [2] (.reg [q4 3 (.mv (.t 0)),
 q4 4 (.mv (.t 0)),
 q4 5 (.len (.t 4)),
 q4 6 (.mv (.t 0)),
 q4 7 (.len (.t 6)),
 q4 8 (.slice 1 (.t 3) none (some (.t 5)) (some (.t 7))),
 q4 2 (.mv (.t 8))])
 .ret))
theorem ree264 : Tryz.f264.body.bind (res Tryz.prog Tryz.f264.ntmps [] []) = some (erase ae264) := by kernel_rfl
def fs264 : FnS := .fn 9 ae264 [.t 2]
theorem fsok264 : FnOk Tryz.prog 264 fs264 := fun _ _ _ hn h => ctr_of_resC Tryz.func264 (by kernel_rfl) ree264 (by kernel_rfl) hn h
abbrev ae328 : ACode := (.seq [1, 2, 4] (.reg [q4 2 (.box (.t 0)),
 q4 4 (.alloc [(.i .u64 0)])])
 (.seq [2, 4] (.dreg [2, 4] [⟨0, q4 5 (.iaddr 1 (some 1) (.t 2) (.c (.i .i64 0))), [], []⟩,
 ⟨1, q4 6 (.load none (.t 5)), [], []⟩,
 ⟨2, q4 7 (.mv (.t 1)), [], []⟩,
 ⟨3, q4 8 (.bin .shl (.c (.i .u64 1)) (.t 7)), [], []⟩,
 ⟨4, q4 9 (.bin .or (.t 6) (.t 8)), [], []⟩,
 ⟨5, q4 10 (.iaddr 1 (some 1) (.t 2) (.c (.i .i64 0))), [], []⟩,
 ⟨6, ⟨none, .store 1 (.t 10) (.t 9), none⟩, [], []⟩])
 (.seq [4] (.reg [q4 11 (.load (some 1) (.t 2)),
 ⟨none, .store 1 (.t 4) (.t 11), none⟩])
 .ret)))
theorem ree328 : Tryz.f328.body.bind (res Tryz.prog Tryz.f328.ntmps [] []) = some (erase ae328) := by kernel_rfl
def fs328 : FnS := .fn 12 ae328 [.c 4 (some 1)]
theorem fsok328 : FnOk Tryz.prog 328 fs328 := fun _ _ _ hn h => ctr_of_resC Tryz.func328 (by kernel_rfl) ree328 (by kernel_rfl) hn h
abbrev ae329 : ACode := (.seq [2, 3, 4] (.reg [q4 2 (.box (.t 0)),
 q4 3 (.box (.t 1)),
 q4 4 (.alloc [(.i .u64 0)])])
 (.seq [2, 4] (.reg [q4 5 (.iaddr 1 (some 1) (.t 2) (.c (.i .i64 0))),
 q4 6 (.load none (.t 5)),
 q4 7 (.iaddr 1 (some 1) (.t 3) (.c (.i .i64 0))),
 q4 8 (.load none (.t 7)),
 q4 9 (.bin .or (.t 6) (.t 8)),
 q4 10 (.iaddr 1 (some 1) (.t 2) (.c (.i .i64 0))),
 ⟨none, .store 1 (.t 10) (.t 9), none⟩])
 (.seq [4] (.reg [q4 11 (.load (some 1) (.t 2)),
 ⟨none, .store 1 (.t 4) (.t 11), none⟩])
 .ret)))
theorem ree329 : Tryz.f329.body.bind (res Tryz.prog Tryz.f329.ntmps [] []) = some (erase ae329) := by kernel_rfl
def fs329 : FnS := .fn 12 ae329 [.c 4 (some 1)]
theorem fsok329 : FnOk Tryz.prog 329 fs329 := fun _ _ _ hn h => ctr_of_resC Tryz.func329 (by kernel_rfl) ree329 (by kernel_rfl) hn h
abbrev ae330 : ACode := (.seq [0, 1] (.seq [0, 1, 9] (.reg [q4 8 (.mv (.t 1)),
 q4 9 (.bin .eql (.t 8) (.c (.i .i64 0)))])
 (.cond (.t 9)
 (.seq [] (.reg [q4 10 (.mv (.t 0)),
 q4 11 (.nilck (.t 10)),
 q4 12 (.faddr 2 (.t 11)),
 q4 13 (.load none (.t 12)),
 q4 14 (.bslice 1 1 [(.i .i64 0)] [(0, (.c (.i .i64 0)))]),
 ⟨none, .mapset (.i .i64) (.t 13) (.c (.i .i64 0)) (.t 14), none⟩])
 .ret)
 .skip))
 (.seq [0, 1, 4, 5] (.reg [q4 16 (.mv (.t 0)),
 q4 17 (.mv (.t 1)),
 q4 18 (.call 355 [(.t 16), (.t 17)]),
 q4 15 (.mv (.t 18)),
 q4 19 (.extract 0 (.t 15)),
 q4 20 (.extract 1 (.t 15)),
 q4 4 (.mv (.t 19)),
 q4 5 (.mv (.t 20))])
 (.seq [0, 1, 4] (.seq [0, 1, 4, 22] (.reg [q4 21 (.mv (.t 5)),
 q4 22 (.not (.t 21))])
 (.cond (.t 22)
 .ret
 .skip))
 (.seq [0, 1, 6, 7] (.reg [q4 24 (.mv (.t 4)),
 q4 25 (.call 356 [(.t 24)]),
 q4 23 (.mv (.t 25)),
 q4 26 (.extract 0 (.t 23)),
 q4 27 (.extract 1 (.t 23)),
 q4 6 (.mv (.t 26)),
 q4 7 (.mv (.t 27))])
 (.seq [0, 1, 6, 28] (.reg [q4 28 (.mv (.t 7))])
 (.cond (.t 28)
 (.dreg [] [⟨0, q4 29 (.mv (.t 0)), [], []⟩,
 ⟨1, q4 30 (.nilck (.t 29)), [], []⟩,
 ⟨2, q4 31 (.faddr 2 (.t 30)), [], []⟩,
 ⟨3, q4 32 (.load none (.t 31)), [], []⟩,
 ⟨4, q4 33 (.mv (.t 1)), [], []⟩,
 ⟨5, q4 34 (.mv (.t 1)), [], []⟩,
 ⟨6, q4 35 (.bslice 1 1 [(.i .i64 0)] [(0, (.t 34))]), [], []⟩,
 ⟨7, q4 36 (.mv (.t 6)), [], []⟩,
 ⟨9, q4 38 (.bslice 1 1 [(.i .i64 0)] [(0, (.c (.i .i64 0)))]), [], []⟩,
 ⟨8, q4 37 (.append 1 8 (.t 35) (.t 36)), [3], [q4 32 (.load none (.t 31))]⟩,
 ⟨10, q4 39 (.append 1 8 (.t 37) (.t 38)), [3], [q4 32 (.load none (.t 31))]⟩,
 ⟨11, ⟨none, .mapset (.i .i64) (.t 32) (.t 33) (.t 39), none⟩, [], []⟩])
 .skip))))))
theorem ree330 : Tryz.f330.body.bind (res Tryz.prog Tryz.f330.ntmps [] []) = some (erase ae330) := by kernel_rfl
def fs330 : FnS := .fn 40 ae330 []
theorem fsok330 : FnOk Tryz.prog 330 fs330 := fun _ _ _ hn h => ctr_of_resC Tryz.func330 (by kernel_rfl) ree330 (by kernel_rfl) hn h
abbrev ae252 : ACode := (.seq [0, 2, 3, 4, 6] (.reg [q4 6 (.box (.t 1)),
 q4 7 (.mv (.c (.b false)))])
 (.seq [0, 3, 4, 6] (.seq [0, 3, 4, 6, 15] (.reg [q4 11 (.load none (.t 2)),
 q4 12 (.mv (.t 0)),
 q4 13 (.load (some 2) (.t 6)),
 q4 14 (.callv (.t 11) [(.t 12), (.t 13)]),
 q4 15 (.not (.t 14))])
 (.cond (.t 15)
 (.seq [7] (.reg [q4 7 (.mv (.c (.b false)))])
 .ret)
 .skip))
 (.seq [] (.seq [0, 3, 4, 6, 21, 22, 23] (.reg [q4 16 (.faddr 4 (.t 3)),
 q4 17 (.load none (.t 16)),
 q4 18 (.mv (.t 0)),
 q4 19 (.iaddr 3 none (.t 17) (.t 18)),
 q4 20 (.faddr 2 (.t 19)),
 q4 21 (.load none (.t 20)),
 q4 22 (.len (.t 21)),
 q4 23 (.mv (.c (.i .i64 0)))])
 (.block 0 (.loop [0, 3, 4, 6, 21, 22, 23] (.seq [0, 3, 4, 6, 21, 22, 23, 24] (.reg [q4 24 (.bin .lss (.t 23) (.t 22))])
 (.seq [0, 3, 4, 6, 21, 22, 23] (.cond (.t 24)
 .skip
 (.exit 0))
 (.seq [0, 3, 4, 6, 21, 22, 23] (.block 1 (.seq [0, 3, 4, 6, 8, 9, 21, 22, 23] (.reg [q4 25 (.mv (.t 23)),
 q4 26 (.iaddr 1 none (.t 21) (.t 23)),
 q4 27 (.load none (.t 26)),
 q4 8 (.mv (.t 25)),
 q4 9 (.mv (.t 27))])
 (.seq [0, 3, 4, 6, 8, 9, 10, 21, 22, 23] (.reg [q4 28 (.faddr 0 (.t 6)),
 q4 29 (.load none (.t 28)),
 q4 30 (.faddr 1 (.t 6)),
 q4 31 (.load none (.t 30)),
 q4 32 (.bin .add (.t 31) (.c (.i .i64 1))),
 q4 33 (.build [(.i .i64 0), (.i .i64 0)] [(0, 1, (.t 29)), (1, 1, (.t 32))]),
 q4 10 (.alloc [(.i .i64 0), (.i .i64 0)]),
 ⟨none, .store 2 (.t 10) (.t 33), none⟩])
 (.seq [0, 3, 4, 6, 9, 10, 21, 22, 23] (.seq [0, 3, 4, 6, 9, 10, 21, 22, 23, 44] (.reg [q4 34 (.faddr 4 (.t 3)),
 q4 35 (.load none (.t 34)),
 q4 36 (.mv (.t 0)),
 q4 37 (.iaddr 3 none (.t 35) (.t 36)),
 q4 38 (.faddr 0 (.t 37)),
 q4 39 (.load none (.t 38)),
 q4 40 (.bin .eql (.t 39) (.c (.i .i64 9))),
 q4 41 (.mv (.t 40)),
 ⟨(some 42), .mv (.t 8), (some (41, true))⟩,
 ⟨(some 43), .bin .eql (.t 42) (.c (.i .i64 1)), (some (41, true))⟩,
 q4 44 (.pick (.t 41) (.t 43) (.c (.b false)))])
 (.cond (.t 44)
 (.reg [q4 45 (.faddr 0 (.t 10)),
 q4 46 (.load none (.t 45)),
 q4 47 (.bin .add (.t 46) (.c (.i .i64 1))),
 q4 48 (.faddr 0 (.t 10)),
 ⟨none, .store 1 (.t 48) (.t 47), none⟩])
 .skip))
 (.seq [0, 3, 4, 6, 21, 22, 23, 53] (.reg [q4 49 (.load none (.t 4)),
 q4 50 (.mv (.t 9)),
 q4 51 (.load (some 2) (.t 10)),
 q4 52 (.callv (.t 49) [(.t 50), (.t 51)]),
 q4 53 (.not (.t 52))])
 (.cond (.t 53)
 (.seq [7] (.reg [q4 7 (.mv (.c (.b false)))])
 .ret)
 .skip))))))
 (.reg [q4 54 (.bin .add (.t 23) (.c (.i .i64 1))),
 q4 23 (.mv (.t 54))])))))))
 (.seq [7] (.reg [q4 7 (.mv (.c (.b true)))])
 .ret))))
theorem ree252 : Tryz.f252.body.bind (res Tryz.prog Tryz.f252.ntmps [] []) = some (erase ae252) := by kernel_rfl
def fs252 : FnS := .fn 55 ae252 [.t 7]
theorem fsok252 : FnOk Tryz.prog 252 fs252 := fun _ _ _ hn h => ctr_of_resC Tryz.func252 (by kernel_rfl) ree252 (by kernel_rfl) hn h
abbrev ae214 : ACode := (.seq [0, 1] (.reg [q4 4 (.mv (.c (.i .u64 0)))])
 (.seq [4] (.reg [q4 5 (.mv (.t 0)),
 q4 6 (.mv (.t 1)),
 q4 7 (.bin .shl (.c (.i .u64 1)) (.t 6)),
 q4 8 (.bin .or (.t 5) (.t 7)),
 q4 4 (.mv (.t 8))])
 .ret))
theorem ree214 : Tryz.f214.body.bind (res Tryz.prog Tryz.f214.ntmps [] []) = some (erase ae214) := by kernel_rfl
def fs214 : FnS := .fn 9 ae214 [.t 4]
theorem fsok214 : FnOk Tryz.prog 214 fs214 := fun _ _ _ hn h => ctr_of_resC Tryz.func214 (by kernel_rfl) ree214 (by kernel_rfl) hn h
abbrev ae216 : ACode := (.seq [0, 1] (.reg [q4 4 (.mv (.c (.b false)))])
 (.seq [4] (.reg [q4 5 (.mv (.t 1)),
 q4 6 (.bin .geq (.t 5) (.c (.i .i64 3))),
 q4 7 (.mv (.t 6)),
 ⟨(some 8), .mv (.t 1), (some (7, true))⟩,
 ⟨(some 9), .mv (.t 0), (some (7, true))⟩,
 ⟨(some 10), .nilck (.t 9), (some (7, true))⟩,
 ⟨(some 11), .faddr 0 (.t 10), (some (7, true))⟩,
 ⟨(some 12), .faddr 0 (.t 11), (some (7, true))⟩,
 ⟨(some 13), .load none (.t 12), (some (7, true))⟩,
 ⟨(some 14), .len (.t 13), (some (7, true))⟩,
 ⟨(some 15), .bin .add (.c (.i .i64 3)) (.t 14), (some (7, true))⟩,
 ⟨(some 16), .bin .lss (.t 8) (.t 15), (some (7, true))⟩,
 q4 17 (.pick (.t 7) (.t 16) (.c (.b false))),
 q4 4 (.mv (.t 17))])
 .ret))
theorem ree216 : Tryz.f216.body.bind (res Tryz.prog Tryz.f216.ntmps [] []) = some (erase ae216) := by kernel_rfl
def fs216 : FnS := .fn 18 ae216 [.t 4]
theorem fsok216 : FnOk Tryz.prog 216 fs216 := fun _ _ _ hn h => ctr_of_resC Tryz.func216 (by kernel_rfl) ree216 (by kernel_rfl) hn h
abbrev ae215 : ACode := (.seq [0, 3] (.reg [q4 3 (.box (.t 1)),
 q4 4 (.mv (.c (.b false)))])
 (.seq [4] (.reg [q4 5 (.mv (.t 0)),
 q4 6 (.mkf (.func 265) [] [(.t 3)]),
 q4 7 (.call 46 [(.t 5), (.t 6)]),
 q4 8 (.not (.t 7)),
 q4 4 (.mv (.t 8))])
 .ret))
theorem ree215 : Tryz.f215.body.bind (res Tryz.prog Tryz.f215.ntmps [] []) = some (erase ae215) := by kernel_rfl
def fs215 : FnS := .fn 9 ae215 [.t 4]
theorem fsok215 : FnOk Tryz.prog 215 fs215 := fun _ _ _ hn h => ctr_of_resC Tryz.func215 (by kernel_rfl) ree215 (by kernel_rfl) hn h
abbrev ae218 : ACode := (.seq [1, 2] (.reg [q4 2 (.box (.t 0)),
 q4 3 (.mv (.c (.b false)))])
 (.seq [1, 2, 4] (.reg [q4 4 (.alloc [(.i .i64 0)]),
 ⟨none, .store 1 (.t 4) (.c (.i .i64 24)), none⟩])
 (.seq [3] (.reg [q4 5 (.load none (.t 1)),
 q4 6 (.load (some 6) (.t 2)),
 q4 7 (.call 219 [(.t 5), (.t 6), (.t 4), (.c (.i .i64 12))]),
 q4 3 (.mv (.t 7))])
 .ret)))
theorem ree218 : Tryz.f218.body.bind (res Tryz.prog Tryz.f218.ntmps [] []) = some (erase ae218) := by kernel_rfl
def fs218 : FnS := .fn 8 ae218 [.t 3]
theorem fsok218 : FnOk Tryz.prog 218 fs218 := fun _ _ _ hn h => ctr_of_resC Tryz.func218 (by kernel_rfl) ree218 (by kernel_rfl) hn h
abbrev ae217 : ACode := (.seq [0, 3] (.reg [q4 3 (.box (.t 1)),
 q4 4 (.mv (.c (.b false)))])
 (.seq [4] (.reg [q4 5 (.mv (.t 0)),
 q4 6 (.mkf (.func 266) [] [(.t 3)]),
 q4 7 (.call 220 [(.t 5), (.t 6)]),
 q4 8 (.not (.t 7)),
 q4 4 (.mv (.t 8))])
 .ret))
theorem ree217 : Tryz.f217.body.bind (res Tryz.prog Tryz.f217.ntmps [] []) = some (erase ae217) := by kernel_rfl
def fs217 : FnS := .fn 9 ae217 [.t 4]
theorem fsok217 : FnOk Tryz.prog 217 fs217 := fun _ _ _ hn h => ctr_of_resC Tryz.func217 (by kernel_rfl) ree217 (by kernel_rfl) hn h
abbrev ae313 : ACode := (.seq [1, 2] (.reg [q4 2 (.box (.t 0)),
 q4 4 (.mv (.c (.b false)))])
 (.seq [] (.seq [1, 2, 6] (.reg [q4 5 (.faddr 0 (.t 2)),
 q4 6 (.load none (.t 5))])
 (.block 0 (.seq [1, 2, 6, 7] (.reg [q4 8 (.bin .eql (.t 6) (.c (.i .i64 1))),
 q4 7 (.mv (.t 8))])
 (.cond (.t 7)
 (.seq [4] (.reg [q4 9 (.faddr 1 (.t 2)),
 q4 10 (.load none (.t 9)),
 q4 11 (.bin .geq (.t 10) (.c (.i .i64 (-1000000000)))),
 q4 12 (.mv (.t 11)),
 ⟨(some 13), .faddr 1 (.t 2), (some (12, true))⟩,
 ⟨(some 14), .load none (.t 13), (some (12, true))⟩,
 ⟨(some 15), .bin .leq (.t 14) (.c (.i .i64 1000000000)), (some (12, true))⟩,
 q4 16 (.pick (.t 12) (.t 15) (.c (.b false))),
 q4 4 (.mv (.t 16))])
 .ret)
 (.seq [1, 2, 6, 17] (.reg [q4 18 (.bin .eql (.t 6) (.c (.i .i64 2))),
 q4 17 (.mv (.t 18))])
 (.cond (.t 17)
 (.seq [4] (.reg [q4 19 (.faddr 1 (.t 2)),
 q4 20 (.load none (.t 19)),
 q4 21 (.bin .eql (.t 20) (.c (.i .i64 0))),
 q4 4 (.mv (.t 21))])
 .ret)
 (.seq [1, 2, 22] (.reg [q4 23 (.bin .eql (.t 6) (.c (.i .i64 3))),
 q4 22 (.mv (.t 23))])
 (.cond (.t 22)
 (.seq [4] (.reg [q4 24 (.faddr 1 (.t 2)),
 q4 25 (.load none (.t 24)),
 q4 26 (.bin .geq (.t 25) (.c (.i .i64 0))),
 q4 27 (.mv (.t 26)),
 ⟨(some 28), .faddr 1 (.t 2), (some (27, true))⟩,
 ⟨(some 29), .load none (.t 28), (some (27, true))⟩,
 ⟨(some 30), .mv (.t 1), (some (27, true))⟩,
 ⟨(some 31), .bin .lss (.t 29) (.t 30), (some (27, true))⟩,
 q4 32 (.pick (.t 27) (.t 31) (.c (.b false))),
 q4 4 (.mv (.t 32))])
 .ret)
 .skip))))))))
 (.seq [4] (.reg [q4 4 (.mv (.c (.b false)))])
 .ret)))
theorem ree313 : Tryz.f313.body.bind (res Tryz.prog Tryz.f313.ntmps [] []) = some (erase ae313) := by kernel_rfl
def fs313 : FnS := .fn 33 ae313 [.t 4]
theorem fsok313 : FnOk Tryz.prog 313 fs313 := fun _ _ _ hn h => ctr_of_resC Tryz.func313 (by kernel_rfl) ree313 (by kernel_rfl) hn h
abbrev ae339 : ACode := (.seq [0, 2, 4] (.reg [q4 4 (.box (.t 1)),
 q4 6 (.mv (.c (.b false)))])
 (.seq [6] (.reg [q4 7 (.mv (.t 0)),
 q4 8 (.load none (.t 4)),
 q4 9 (.call 367 [(.t 7), (.t 8)]),
 q4 10 (.mv (.t 9)),
 ⟨(some 11), .mv (.t 2), (some (10, true))⟩,
 ⟨(some 12), .len (.t 11), (some (10, true))⟩,
 ⟨(some 13), .bin .geq (.t 12) (.c (.i .i64 1)), (some (10, true))⟩,
 q4 14 (.pick (.t 10) (.t 13) (.c (.b false))),
 q4 15 (.mv (.t 14)),
 ⟨(some 16), .mv (.t 2), (some (15, true))⟩,
 ⟨(some 17), .len (.t 16), (some (15, true))⟩,
 ⟨(some 18), .bin .leq (.t 17) (.c (.i .i64 3)), (some (15, true))⟩,
 q4 19 (.pick (.t 15) (.t 18) (.c (.b false))),
 q4 20 (.mv (.t 19)),
 ⟨(some 21), .mv (.t 2), (some (20, true))⟩,
 ⟨(some 22), .mkf (.func 369) [] [(.t 4)], (some (20, true))⟩,
 ⟨(some 23), .call 368 [(.t 21), (.t 22)], (some (20, true))⟩,
 q4 24 (.pick (.t 20) (.t 23) (.c (.b false))),
 q4 6 (.mv (.t 24))])
 .ret))
theorem ree339 : Tryz.f339.body.bind (res Tryz.prog Tryz.f339.ntmps [] []) = some (erase ae339) := by kernel_rfl
def fs339 : FnS := .fn 25 ae339 [.t 6]
theorem fsok339 : FnOk Tryz.prog 339 fs339 := fun _ _ _ hn h => ctr_of_resC Tryz.func339 (by kernel_rfl) ree339 (by kernel_rfl) hn h
abbrev ae340 : ACode := (.seq [1] (.reg [q4 1 (.box (.t 0)),
 q4 2 (.mv (.c (.i .i64 0)))])
 (.seq [1, 3] (.reg [q4 3 (.mv (.c (.i .i64 0)))])
 (.seq [1, 3] (.seq [1, 3, 7] (.reg [q4 6 (.load (some 6) (.t 1)),
 q4 7 (.call 268 [(.t 6)])])
 (.cond (.t 7)
 (.reg [q4 8 (.faddr 1 (.t 1)),
 q4 9 (.load none (.t 8)),
 q4 10 (.bin .add (.t 9) (.c (.i .i64 1))),
 q4 3 (.mv (.t 10))])
 .skip))
 (.seq [3] (.seq [3, 12, 13, 14] (.reg [q4 11 (.faddr 5 (.t 1)),
 q4 12 (.load none (.t 11)),
 q4 13 (.len (.t 12)),
 q4 14 (.mv (.c (.i .i64 0)))])
 (.block 0 (.loop [3, 12, 13, 14] (.seq [3, 12, 13, 14, 15] (.reg [q4 15 (.bin .lss (.t 14) (.t 13))])
 (.seq [3, 12, 13, 14] (.cond (.t 15)
 .skip
 (.exit 0))
 (.seq [3, 12, 13, 14] (.block 1 (.seq [3, 5, 12, 13, 14] (.reg [q4 16 (.iaddr 6 none (.t 12) (.t 14)),
 q4 17 (.load (some 6) (.t 16)),
 q4 5 (.alloc [(.i .i64 0), (.i .i64 0), (.l [] true), (.i .i64 0), (.i .i64 0), (.l [] true)]),
 ⟨none, .store 6 (.t 5) (.t 17), none⟩])
 (.reg [q4 18 (.mv (.t 3)),
 q4 19 (.load (some 6) (.t 5)),
 q4 20 (.call 340 [(.t 19)]),
 q4 21 (.mmax (.t 18) (.t 20)),
 q4 3 (.mv (.t 21))])))
 (.reg [q4 22 (.bin .add (.t 14) (.c (.i .i64 1))),
 q4 14 (.mv (.t 22))])))))))
 (.seq [2] (.reg [q4 23 (.mv (.t 3)),
 q4 2 (.mv (.t 23))])
 .ret)))))
theorem ree340 : Tryz.f340.body.bind (res Tryz.prog Tryz.f340.ntmps [] []) = some (erase ae340) := by kernel_rfl
def fs340 : FnS := .fn 24 ae340 [.t 2]
theorem fsok340 : FnOk Tryz.prog 340 fs340 := fun _ _ _ hn h => ctr_of_resC Tryz.func340 (by kernel_rfl) ree340 (by kernel_rfl) hn h
abbrev ae341 : ACode := (.seq [0, 2, 3, 5] (.reg [q4 5 (.box (.t 1)),
 q4 8 (.mv (.c (.b false)))])
 (.seq [0, 2, 3, 5] (.seq [0, 2, 3, 5, 12] (.reg [q4 11 (.faddr 0 (.t 5)),
 q4 12 (.load none (.t 11))])
 (.block 0 (.seq [0, 2, 3, 5, 12, 13] (.reg [q4 14 (.bin .eql (.t 12) (.c (.i .i64 1))),
 q4 13 (.mv (.t 14))])
 (.cond (.t 13)
 (.seq [8] (.reg [q4 8 (.mv (.c (.b true)))])
 .ret)
 (.seq [0, 2, 3, 5, 12, 15] (.reg [q4 16 (.bin .eql (.t 12) (.c (.i .i64 5))),
 q4 15 (.mv (.t 16))])
 (.cond (.t 15)
 (.seq [8] (.reg [q4 17 (.mv (.t 0)),
 q4 18 (.faddr 5 (.t 5)),
 q4 19 (.load none (.t 18)),
 q4 20 (.iaddr 6 none (.t 19) (.c (.i .i64 0))),
 q4 21 (.load (some 6) (.t 20)),
 q4 22 (.mv (.t 2)),
 q4 23 (.mv (.t 3)),
 q4 24 (.call 341 [(.t 17), (.t 21), (.t 22), (.t 23)]),
 q4 25 (.not (.t 24)),
 q4 8 (.mv (.t 25))])
 .ret)
 (.seq [0, 2, 3, 5, 12, 26] (.reg [q4 27 (.bin .eql (.t 12) (.c (.i .i64 6))),
 q4 26 (.mv (.t 27))])
 (.cond (.t 26)
 (.seq [8] (.reg [q4 28 (.mv (.t 0)),
 q4 29 (.faddr 5 (.t 5)),
 q4 30 (.load none (.t 29)),
 q4 31 (.iaddr 6 none (.t 30) (.c (.i .i64 0))),
 q4 32 (.load (some 6) (.t 31)),
 q4 33 (.mv (.t 2)),
 q4 34 (.mv (.t 3)),
 q4 35 (.call 341 [(.t 28), (.t 32), (.t 33), (.t 34)]),
 q4 36 (.mv (.t 35)),
 ⟨(some 37), .mv (.t 0), (some (36, true))⟩,
 ⟨(some 38), .faddr 5 (.t 5), (some (36, true))⟩,
 ⟨(some 39), .load none (.t 38), (some (36, true))⟩,
 ⟨(some 40), .iaddr 6 none (.t 39) (.c (.i .i64 1)), (some (36, true))⟩,
 ⟨(some 41), .load (some 6) (.t 40), (some (36, true))⟩,
 ⟨(some 42), .mv (.t 2), (some (36, true))⟩,
 ⟨(some 43), .mv (.t 3), (some (36, true))⟩,
 ⟨(some 44), .call 341 [(.t 37), (.t 41), (.t 42), (.t 43)], (some (36, true))⟩,
 q4 45 (.pick (.t 36) (.t 44) (.c (.b false))),
 q4 8 (.mv (.t 45))])
 .ret)
 (.seq [0, 2, 3, 5, 46] (.reg [q4 47 (.bin .eql (.t 12) (.c (.i .i64 7))),
 q4 46 (.mv (.t 47))])
 (.cond (.t 46)
 (.seq [8] (.reg [q4 48 (.mv (.t 0)),
 q4 49 (.faddr 5 (.t 5)),
 q4 50 (.load none (.t 49)),
 q4 51 (.iaddr 6 none (.t 50) (.c (.i .i64 0))),
 q4 52 (.load (some 6) (.t 51)),
 q4 53 (.mv (.t 2)),
 q4 54 (.mv (.t 3)),
 q4 55 (.call 341 [(.t 48), (.t 52), (.t 53), (.t 54)]),
 q4 56 (.mv (.t 55)),
 ⟨(some 57), .mv (.t 0), (some (56, false))⟩,
 ⟨(some 58), .faddr 5 (.t 5), (some (56, false))⟩,
 ⟨(some 59), .load none (.t 58), (some (56, false))⟩,
 ⟨(some 60), .iaddr 6 none (.t 59) (.c (.i .i64 1)), (some (56, false))⟩,
 ⟨(some 61), .load (some 6) (.t 60), (some (56, false))⟩,
 ⟨(some 62), .mv (.t 2), (some (56, false))⟩,
 ⟨(some 63), .mv (.t 3), (some (56, false))⟩,
 ⟨(some 64), .call 341 [(.t 57), (.t 61), (.t 62), (.t 63)], (some (56, false))⟩,
 q4 65 (.pick (.t 56) (.c (.b true)) (.t 64)),
 q4 8 (.mv (.t 65))])
 .ret)
 .skip))))))))))
 (.seq [0, 2, 5, 9, 10] (.dreg [0, 2, 5, 9, 10] [⟨0, q4 67 (.mv (.t 0)), [], []⟩,
 ⟨1, q4 68 (.mv (.t 2)), [], []⟩,
 ⟨2, q4 69 (.mv (.t 3)), [], []⟩,
 ⟨3, q4 70 (.faddr 1 (.t 5)), [], []⟩,
 ⟨4, q4 71 (.load none (.t 70)), [], []⟩,
 ⟨5, q4 72 (.iaddr 2 none (.t 69) (.t 71)), [], []⟩,
 ⟨6, q4 73 (.load (some 2) (.t 72)), [], []⟩,
 ⟨7, q4 74 (.faddr 2 (.t 5)), [], []⟩,
 ⟨8, q4 75 (.load none (.t 74)), [], []⟩,
 ⟨9, q4 76 (.call 371 [(.t 67), (.t 68), (.t 73), (.t 75)]), [], []⟩,
 ⟨10, q4 66 (.mv (.t 76)), [], []⟩,
 ⟨11, q4 77 (.extract 0 (.t 66)), [], []⟩,
 ⟨12, q4 78 (.extract 1 (.t 66)), [], []⟩,
 ⟨13, q4 9 (.alloc [(.i .i64 0), (.i .i64 0)]), [], []⟩,
 ⟨14, ⟨none, .store 2 (.t 9) (.t 77), none⟩, [], []⟩,
 ⟨15, q4 10 (.mv (.t 78)), [], []⟩])
 (.seq [0, 5, 9] (.block 1 (.seq [0, 2, 5, 9, 79] (.reg [q4 80 (.mv (.t 10)),
 q4 81 (.not (.t 80)),
 q4 79 (.mv (.t 81))])
 (.cond (.t 79)
 (.seq [8] (.reg [q4 8 (.mv (.c (.b false)))])
 .ret)
 (.seq [0, 2, 5, 9, 82] (.reg [q4 83 (.faddr 0 (.t 5)),
 q4 84 (.load none (.t 83)),
 q4 85 (.bin .neq (.t 84) (.c (.i .i64 2))),
 q4 82 (.mv (.t 85))])
 (.cond (.t 82)
 (.seq [8] (.reg [q4 86 (.faddr 0 (.t 9)),
 q4 87 (.load none (.t 86)),
 q4 88 (.bin .eql (.t 87) (.c (.i .i64 1))),
 q4 89 (.mv (.t 88)),
 ⟨(some 90), .faddr 1 (.t 9), (some (89, true))⟩,
 ⟨(some 91), .load none (.t 90), (some (89, true))⟩,
 ⟨(some 92), .faddr 4 (.t 5), (some (89, true))⟩,
 ⟨(some 93), .load none (.t 92), (some (89, true))⟩,
 ⟨(some 94), .bin .eql (.t 91) (.t 93), (some (89, true))⟩,
 ⟨(some 95), .faddr 0 (.t 5), (some (89, true))⟩,
 ⟨(some 96), .load none (.t 95), (some (89, true))⟩,
 ⟨(some 97), .bin .eql (.t 96) (.c (.i .i64 4)), (some (89, true))⟩,
 ⟨(some 98), .eqb false (.t 94) (.t 97), (some (89, true))⟩,
 q4 99 (.pick (.t 89) (.t 98) (.c (.b false))),
 q4 100 (.mv (.t 99)),
 ⟨(some 101), .faddr 1 (.t 9), (some (100, true))⟩,
 ⟨(some 102), .load none (.t 101), (some (100, true))⟩,
 ⟨(some 103), .faddr 4 (.t 5), (some (100, true))⟩,
 ⟨(some 104), .load none (.t 103), (some (100, true))⟩,
 ⟨(some 105), .bin .leq (.t 102) (.t 104), (some (100, true))⟩,
 q4 106 (.pick (.t 100) (.t 105) (.c (.b false))),
 q4 8 (.mv (.t 106))])
 .ret)
 (.seq [0, 2, 5, 9, 107] (.reg [q4 108 (.faddr 0 (.t 9)),
 q4 109 (.load none (.t 108)),
 q4 110 (.bin .eql (.t 109) (.c (.i .i64 3))),
 q4 107 (.mv (.t 110))])
 (.cond (.t 107)
 (.seq [8] (.dreg [8] [⟨0, q4 111 (.mv (.t 0)), [], []⟩,
 ⟨1, q4 112 (.mv (.t 2)), [], []⟩,
 ⟨2, q4 113 (.faddr 1 (.t 9)), [], []⟩,
 ⟨3, q4 114 (.load none (.t 113)), [], []⟩,
 ⟨4, q4 115 (.iaddr 2 none (.t 112) (.t 114)), [], []⟩,
 ⟨5, q4 116 (.faddr 0 (.t 115)), [], []⟩,
 ⟨6, q4 117 (.load none (.t 116)), [], []⟩,
 ⟨7, q4 118 (.nilck (.t 111)), [], []⟩,
 ⟨8, q4 119 (.faddr 2 (.t 118)), [], []⟩,
 ⟨9, q4 120 (.iaddr 1 (some 63) (.t 119) (.t 117)), [], []⟩,
 ⟨10, q4 121 (.load none (.t 120)), [], []⟩,
 ⟨11, q4 122 (.faddr 3 (.t 5)), [], []⟩,
 ⟨12, q4 123 (.load none (.t 122)), [], []⟩,
 ⟨13, q4 124 (.call 372 [(.t 121), (.t 123)]), [], []⟩,
 ⟨14, q4 8 (.mv (.t 124)), [], []⟩])
 .ret)
 .skip)))))))
 (.seq [8] (.dreg [8] [⟨0, q4 125 (.mv (.t 0)), [], []⟩,
 ⟨1, q4 126 (.faddr 0 (.t 9)), [], []⟩,
 ⟨2, q4 127 (.load none (.t 126)), [], []⟩,
 ⟨3, q4 128 (.nilck (.t 125)), [], []⟩,
 ⟨4, q4 129 (.faddr 2 (.t 128)), [], []⟩,
 ⟨5, q4 130 (.iaddr 1 (some 63) (.t 129) (.t 127)), [], []⟩,
 ⟨6, q4 131 (.load none (.t 130)), [], []⟩,
 ⟨7, q4 132 (.faddr 3 (.t 5)), [], []⟩,
 ⟨8, q4 133 (.load none (.t 132)), [], []⟩,
 ⟨9, q4 134 (.call 372 [(.t 131), (.t 133)]), [], []⟩,
 ⟨10, q4 8 (.mv (.t 134)), [], []⟩])
 .ret)))))
theorem ree341 : Tryz.f341.body.bind (res Tryz.prog Tryz.f341.ntmps [] []) = some (erase ae341) := by kernel_rfl
def fs341 : FnS := .fn 135 ae341 [.t 8]
theorem fsok341 : FnOk Tryz.prog 341 fs341 := fun _ _ _ hn h => ctr_of_resC Tryz.func341 (by kernel_rfl) ree341 (by kernel_rfl) hn h
abbrev ae342 : ACode := (.seq [0, 2, 10, 11, 12] (.reg [q4 6 (.load none (.t 1)),
 q4 7 (.nilck (.t 6)),
 q4 8 (.faddr 0 (.t 7)),
 q4 9 (.faddr 3 (.t 8)),
 q4 10 (.load none (.t 9)),
 q4 11 (.len (.t 10)),
 q4 12 (.mv (.c (.i .i64 0)))])
 (.block 0 (.loop [0, 2, 10, 11, 12] (.seq [0, 2, 10, 11, 12, 13] (.reg [q4 13 (.bin .lss (.t 12) (.t 11))])
 (.seq [0, 2, 10, 11, 12] (.cond (.t 13)
 .skip
 (.exit 0))
 (.seq [0, 2, 10, 11, 12] (.block 1 (.seq [0, 2, 4, 5, 10, 11, 12] (.reg [q4 14 (.mv (.t 12)),
 q4 15 (.iaddr 9 none (.t 10) (.t 12)),
 q4 16 (.load (some 9) (.t 15)),
 q4 5 (.alloc [(.i .i64 0), (.i .i64 0), (.i .i64 0), (.i .i64 0), (.l [] true), (.i .i64 0), (.i .i64 0), (.l [] true), (.i .i64 0)]),
 q4 4 (.mv (.t 14)),
 ⟨none, .store 9 (.t 5) (.t 16), none⟩])
 (.seq [0, 2, 10, 11, 12, 26] (.reg [q4 17 (.faddr 1 (.t 5)),
 q4 18 (.load none (.t 17)),
 q4 19 (.load none (.t 2)),
 q4 20 (.bin .eql (.t 18) (.t 19)),
 q4 21 (.mv (.t 20)),
 ⟨(some 22), .mv (.t 0), (some (21, true))⟩,
 ⟨(some 23), .mv (.t 4), (some (21, true))⟩,
 ⟨(some 24), .callv (.t 22) [(.t 23)], (some (21, true))⟩,
 ⟨(some 25), .not (.t 24), (some (21, true))⟩,
 q4 26 (.pick (.t 21) (.t 25) (.c (.b false)))])
 (.cond (.t 26)
 .ret
 .skip))))
 (.reg [q4 27 (.bin .add (.t 12) (.c (.i .i64 1))),
 q4 12 (.mv (.t 27))])))))))
theorem ree342 : Tryz.f342.body.bind (res Tryz.prog Tryz.f342.ntmps [] []) = some (erase ae342) := by kernel_rfl
def fs342 : FnS := .fn 28 ae342 []
theorem fsok342 : FnOk Tryz.prog 342 fs342 := fun _ _ _ hn h => ctr_of_resC Tryz.func342 (by kernel_rfl) ree342 (by kernel_rfl) hn h
abbrev ae343 : ACode := (.seq [0, 1, 3] (.reg [q4 4 (.load none (.t 1)),
 q4 5 (.len (.t 4)),
 q4 6 (.bin .sub (.t 5) (.c (.i .i64 1))),
 q4 3 (.mv (.t 6))])
 (.block 0 (.loop [0, 1, 3] (.seq [0, 1, 3] (.seq [0, 1, 3, 8] (.reg [q4 7 (.mv (.t 3)),
 q4 8 (.bin .geq (.t 7) (.c (.i .i64 0)))])
 (.cond (.t 8)
 .skip
 (.exit 0)))
 (.seq [0, 1, 3] (.block 1 (.seq [0, 1, 3, 18] (.reg [q4 11 (.mv (.t 0)),
 q4 12 (.mv (.t 3)),
 q4 13 (.load none (.t 1)),
 q4 14 (.mv (.t 3)),
 q4 15 (.iaddr 1 none (.t 13) (.t 14)),
 q4 16 (.load none (.t 15)),
 q4 17 (.callv (.t 11) [(.t 12), (.t 16)]),
 q4 18 (.not (.t 17))])
 (.cond (.t 18)
 .ret
 .skip)))
 (.reg [q4 9 (.mv (.t 3)),
 q4 10 (.bin .sub (.t 9) (.c (.i .i64 1))),
 q4 3 (.mv (.t 10))]))))))
theorem ree343 : Tryz.f343.body.bind (res Tryz.prog Tryz.f343.ntmps [] []) = some (erase ae343) := by kernel_rfl
def fs343 : FnS := .fn 19 ae343 []
theorem fsok343 : FnOk Tryz.prog 343 fs343 := fun _ _ _ hn h => ctr_of_resC Tryz.func343 (by kernel_rfl) ree343 (by kernel_rfl) hn h
abbrev ae322 : ACode := (.seq [1, 2] (.reg [q4 2 (.box (.t 0)),
 q4 4 (.mv (.c (.b false)))])
 (.seq [] (.seq [1, 2, 6] (.reg [q4 5 (.faddr 0 (.t 2)),
 q4 6 (.load none (.t 5))])
 (.block 0 (.seq [1, 2, 6, 7] (.reg [q4 8 (.bin .eql (.t 6) (.c (.i .i64 1))),
 q4 7 (.mv (.t 8))])
 (.cond (.t 7)
 (.seq [4] (.reg [q4 9 (.faddr 1 (.t 2)),
 q4 10 (.load none (.t 9)),
 q4 11 (.bin .geq (.t 10) (.c (.i .i64 (-1000000000)))),
 q4 12 (.mv (.t 11)),
 ⟨(some 13), .faddr 1 (.t 2), (some (12, true))⟩,
 ⟨(some 14), .load none (.t 13), (some (12, true))⟩,
 ⟨(some 15), .bin .leq (.t 14) (.c (.i .i64 1000000000)), (some (12, true))⟩,
 q4 16 (.pick (.t 12) (.t 15) (.c (.b false))),
 q4 4 (.mv (.t 16))])
 .ret)
 (.seq [1, 2, 6, 17] (.reg [q4 18 (.bin .eql (.t 6) (.c (.i .i64 2))),
 q4 17 (.mv (.t 18))])
 (.cond (.t 17)
 (.seq [4] (.reg [q4 19 (.faddr 1 (.t 2)),
 q4 20 (.load none (.t 19)),
 q4 21 (.bin .eql (.t 20) (.c (.i .i64 0))),
 q4 4 (.mv (.t 21))])
 .ret)
 (.seq [1, 2, 22] (.reg [q4 23 (.bin .eql (.t 6) (.c (.i .i64 3))),
 q4 22 (.mv (.t 23))])
 (.cond (.t 22)
 (.seq [4] (.reg [q4 24 (.faddr 1 (.t 2)),
 q4 25 (.load none (.t 24)),
 q4 26 (.bin .geq (.t 25) (.c (.i .i64 0))),
 q4 27 (.mv (.t 26)),
 ⟨(some 28), .faddr 1 (.t 2), (some (27, true))⟩,
 ⟨(some 29), .load none (.t 28), (some (27, true))⟩,
 ⟨(some 30), .mv (.t 1), (some (27, true))⟩,
 ⟨(some 31), .bin .lss (.t 29) (.t 30), (some (27, true))⟩,
 q4 32 (.pick (.t 27) (.t 31) (.c (.b false))),
 q4 4 (.mv (.t 32))])
 .ret)
 .skip))))))))
 (.seq [4] (.reg [q4 4 (.mv (.c (.b false)))])
 .ret)))
theorem ree322 : Tryz.f322.body.bind (res Tryz.prog Tryz.f322.ntmps [] []) = some (erase ae322) := by kernel_rfl
def fs322 : FnS := .fn 33 ae322 [.t 4]
theorem fsok322 : FnOk Tryz.prog 322 fs322 := fun _ _ _ hn h => ctr_of_resC Tryz.func322 (by kernel_rfl) ree322 (by kernel_rfl) hn h
abbrev ae181 : ACode := (.seq [0, 4, 5] (.reg [q4 4 (.box (.t 1)),
 q4 5 (.box (.t 2)),
 q4 6 (.mv (.c (.b false)))])
 (.seq [6] (.dreg [6] [⟨0, q4 7 (.mv (.t 0)), [], []⟩,
 ⟨1, q4 8 (.load (some 6) (.t 4)), [], []⟩,
 ⟨2, q4 9 (.load (some 6) (.t 5)), [], []⟩,
 ⟨3, q4 10 (.call 176 [(.t 9)]), [1], [q4 8 (.load (some 6) (.t 4))]⟩,
 ⟨4, q4 11 (.call 225 [(.t 8), (.t 10)]), [], []⟩,
 ⟨5, q4 12 (.call 224 [(.t 7), (.t 11)]), [], []⟩,
 ⟨6, q4 13 (.not (.t 12)), [], []⟩,
 ⟨7, q4 6 (.mv (.t 13)), [], []⟩])
 .ret))
theorem ree181 : Tryz.f181.body.bind (res Tryz.prog Tryz.f181.ntmps [] []) = some (erase ae181) := by kernel_rfl
def fs181 : FnS := .fn 14 ae181 [.t 6]
theorem fsok181 : FnOk Tryz.prog 181 fs181 := fun _ _ _ hn h => ctr_of_resC Tryz.func181 (by kernel_rfl) ree181 (by kernel_rfl) hn h
abbrev ae353 : ACode := (.seq [0, 2] (.reg [q4 2 (.mv (.c (.i .i64 0)))])
 (.seq [0, 2] (.seq [0, 2, 4] (.reg [q4 3 (.mv (.t 0)),
 q4 4 (.bin .geq (.t 3) (.c (.i .u32 65536)))])
 (.cond (.t 4)
 (.seq [0] (.reg [q4 5 (.mv (.t 0)),
 q4 6 (.bin .shr (.t 5) (.c (.i .u64 16))),
 q4 0 (.mv (.t 6))])
 (.reg [q4 2 (.mv (.c (.i .i64 16)))]))
 .skip))
 (.seq [0, 2] (.seq [0, 2, 8] (.reg [q4 7 (.mv (.t 0)),
 q4 8 (.bin .geq (.t 7) (.c (.i .u32 256)))])
 (.cond (.t 8)
 (.seq [0, 2] (.reg [q4 9 (.mv (.t 0)),
 q4 10 (.bin .shr (.t 9) (.c (.i .u64 8))),
 q4 0 (.mv (.t 10))])
 (.reg [q4 11 (.mv (.t 2)),
 q4 12 (.bin .add (.t 11) (.c (.i .i64 8))),
 q4 2 (.mv (.t 12))]))
 .skip))
 (.seq [2] (.reg [q4 13 (.mv (.t 2)),
 q4 14 (.mv (.t 0)),
 q4 15 (.conv .u8 (.t 14)),
 ⟨(some 16), .sidx (.c (.s ⟨#[0, 1, 2, 2, 3, 3, 3, 3, 4, 4, 4, 4, 4, 4, 4, 4, 5, 5, 5, 5, 5, 5, 5, 5, 5, 5, 5, 5, 5, 5, 5, 5, 6, 6, 6, 6, 6, 6, 6, 6, 6, 6, 6, 6, 6, 6, 6, 6, 6, 6, 6, 6, 6, 6, 6, 6, 6, 6, 6, 6, 6, 6, 6, 6, 7, 7, 7, 7, 7, 7, 7, 7, 7, 7, 7, 7, 7, 7, 7, 7, 7, 7, 7, 7, 7, 7, 7, 7, 7, 7, 7, 7, 7, 7, 7, 7, 7, 7, 7, 7, 7, 7, 7, 7, 7, 7, 7, 7, 7, 7, 7, 7, 7, 7, 7, 7, 7, 7, 7, 7, 7, 7, 7, 7, 7, 7, 7, 7, 8, 8, 8, 8, 8, 8, 8, 8, 8, 8, 8, 8, 8, 8, 8, 8, 8, 8, 8, 8, 8, 8, 8, 8, 8, 8, 8, 8, 8, 8, 8, 8, 8, 8, 8, 8, 8, 8, 8, 8, 8, 8, 8, 8, 8, 8, 8, 8, 8, 8, 8, 8, 8, 8, 8, 8, 8, 8, 8, 8, 8, 8, 8, 8, 8, 8, 8, 8, 8, 8, 8, 8, 8, 8, 8, 8, 8, 8, 8, 8, 8, 8, 8, 8, 8, 8, 8, 8, 8, 8, 8, 8, 8, 8, 8, 8, 8, 8, 8, 8, 8, 8, 8, 8, 8, 8, 8, 8, 8, 8, 8, 8, 8, 8, 8, 8, 8, 8, 8, 8, 8, 8, 8, 8, 8, 8, 8, 8]⟩)) (.t 15), none⟩,
 q4 17 (.conv .i64 (.t 16)),
 q4 18 (.bin .add (.t 13) (.t 17)),
 q4 2 (.mv (.t 18))])
 .ret))))
theorem ree353 : Tryz.f353.body.bind (res Tryz.prog Tryz.f353.ntmps [] []) = some (erase ae353) := by kernel_rfl
def fs353 : FnS := .fn 19 ae353 [.t 2]
theorem fsok353 : FnOk Tryz.prog 353 fs353 := fun _ _ _ hn h => ctr_of_resC Tryz.func353 (by kernel_rfl) ree353 (by kernel_rfl) hn h
abbrev ae354 : ACode := (.seq [0, 2] (.reg [q4 2 (.mv (.c (.i .i64 0)))])
 (.seq [0, 2] (.seq [0, 2, 4] (.reg [q4 3 (.mv (.t 0)),
 q4 4 (.bin .geq (.t 3) (.c (.i .u64 4294967296)))])
 (.cond (.t 4)
 (.seq [0] (.reg [q4 5 (.mv (.t 0)),
 q4 6 (.bin .shr (.t 5) (.c (.i .u64 32))),
 q4 0 (.mv (.t 6))])
 (.reg [q4 2 (.mv (.c (.i .i64 32)))]))
 .skip))
 (.seq [0, 2] (.seq [0, 2, 8] (.reg [q4 7 (.mv (.t 0)),
 q4 8 (.bin .geq (.t 7) (.c (.i .u64 65536)))])
 (.cond (.t 8)
 (.seq [0, 2] (.reg [q4 9 (.mv (.t 0)),
 q4 10 (.bin .shr (.t 9) (.c (.i .u64 16))),
 q4 0 (.mv (.t 10))])
 (.reg [q4 11 (.mv (.t 2)),
 q4 12 (.bin .add (.t 11) (.c (.i .i64 16))),
 q4 2 (.mv (.t 12))]))
 .skip))
 (.seq [0, 2] (.seq [0, 2, 14] (.reg [q4 13 (.mv (.t 0)),
 q4 14 (.bin .geq (.t 13) (.c (.i .u64 256)))])
 (.cond (.t 14)
 (.seq [0, 2] (.reg [q4 15 (.mv (.t 0)),
 q4 16 (.bin .shr (.t 15) (.c (.i .u64 8))),
 q4 0 (.mv (.t 16))])
 (.reg [q4 17 (.mv (.t 2)),
 q4 18 (.bin .add (.t 17) (.c (.i .i64 8))),
 q4 2 (.mv (.t 18))]))
 .skip))
 (.seq [2] (.reg [q4 19 (.mv (.t 2)),
 q4 20 (.mv (.t 0)),
 q4 21 (.conv .u8 (.t 20)),
 ⟨(some 22), .sidx (.c (.s ⟨#[0, 1, 2, 2, 3, 3, 3, 3, 4, 4, 4, 4, 4, 4, 4, 4, 5, 5, 5, 5, 5, 5, 5, 5, 5, 5, 5, 5, 5, 5, 5, 5, 6, 6, 6, 6, 6, 6, 6, 6, 6, 6, 6, 6, 6, 6, 6, 6, 6, 6, 6, 6, 6, 6, 6, 6, 6, 6, 6, 6, 6, 6, 6, 6, 7, 7, 7, 7, 7, 7, 7, 7, 7, 7, 7, 7, 7, 7, 7, 7, 7, 7, 7, 7, 7, 7, 7, 7, 7, 7, 7, 7, 7, 7, 7, 7, 7, 7, 7, 7, 7, 7, 7, 7, 7, 7, 7, 7, 7, 7, 7, 7, 7, 7, 7, 7, 7, 7, 7, 7, 7, 7, 7, 7, 7, 7, 7, 7, 8, 8, 8, 8, 8, 8, 8, 8, 8, 8, 8, 8, 8, 8, 8, 8, 8, 8, 8, 8, 8, 8, 8, 8, 8, 8, 8, 8, 8, 8, 8, 8, 8, 8, 8, 8, 8, 8, 8, 8, 8, 8, 8, 8, 8, 8, 8, 8, 8, 8, 8, 8, 8, 8, 8, 8, 8, 8, 8, 8, 8, 8, 8, 8, 8, 8, 8, 8, 8, 8, 8, 8, 8, 8, 8, 8, 8, 8, 8, 8, 8, 8, 8, 8, 8, 8, 8, 8, 8, 8, 8, 8, 8, 8, 8, 8, 8, 8, 8, 8, 8, 8, 8, 8, 8, 8, 8, 8, 8, 8, 8, 8, 8, 8, 8, 8, 8, 8, 8, 8, 8, 8, 8, 8, 8, 8, 8, 8]⟩)) (.t 21), none⟩,
 q4 23 (.conv .i64 (.t 22)),
 q4 24 (.bin .add (.t 19) (.t 23)),
 q4 2 (.mv (.t 24))])
 .ret)))))
theorem ree354 : Tryz.f354.body.bind (res Tryz.prog Tryz.f354.ntmps [] []) = some (erase ae354) := by kernel_rfl
def fs354 : FnS := .fn 25 ae354 [.t 2]
theorem fsok354 : FnOk Tryz.prog 354 fs354 := fun _ _ _ hn h => ctr_of_resC Tryz.func354 (by kernel_rfl) ree354 (by kernel_rfl) hn h
abbrev ae344 : ACode := (.seq [0, 1, 2, 6] (.reg [q4 8 (.mv (.t 1)),
 q4 9 (.bin .add (.t 8) (.c (.i .i64 1))),
 q4 6 (.mv (.t 9))])
 (.block 0 (.loop [0, 1, 2, 6] (.seq [0, 1, 2, 6] (.seq [0, 1, 2, 6, 12] (.reg [q4 10 (.mv (.t 6)),
 q4 11 (.mv (.t 2)),
 q4 12 (.bin .lss (.t 10) (.t 11))])
 (.cond (.t 12)
 .skip
 (.exit 0)))
 (.seq [0, 1, 2, 6] (.block 1 (.seq [0, 1, 2, 6, 7] (.reg [q4 15 (.mv (.t 6)),
 q4 7 (.mv (.t 15))])
 (.block 2 (.loop [0, 1, 2, 6, 7] (.seq [0, 1, 2, 6, 7] (.seq [0, 1, 2, 6, 7, 30] (.dreg [0, 1, 2, 6, 7, 30] [⟨0, q4 16 (.mv (.t 7)), [], []⟩,
 ⟨1, q4 17 (.mv (.t 1)), [], []⟩,
 ⟨2, q4 18 (.bin .gtr (.t 16) (.t 17)), [], []⟩,
 ⟨3, q4 19 (.mv (.t 18)), [], []⟩,
 ⟨4, ⟨(some 20), .mv (.t 0), (some (19, true))⟩, [], []⟩,
 ⟨5, ⟨(some 21), .mv (.t 7), (some (19, true))⟩, [], []⟩,
 ⟨6, ⟨(some 22), .iaddr 1 none (.t 20) (.t 21), (some (19, true))⟩, [], []⟩,
 ⟨7, ⟨(some 23), .load none (.t 22), (some (19, true))⟩, [], []⟩,
 ⟨8, ⟨(some 24), .mv (.t 0), (some (19, true))⟩, [], []⟩,
 ⟨9, ⟨(some 25), .mv (.t 7), (some (19, true))⟩, [], []⟩,
 ⟨10, ⟨(some 26), .bin .sub (.t 25) (.c (.i .i64 1)), (some (19, true))⟩, [], []⟩,
 ⟨11, ⟨(some 27), .iaddr 1 none (.t 24) (.t 26), (some (19, true))⟩, [], []⟩,
 ⟨12, ⟨(some 28), .load none (.t 27), (some (19, true))⟩, [], []⟩,
 ⟨13, ⟨(some 29), .call 350 [(.t 23), (.t 28)], (some (19, true))⟩, [], []⟩,
 ⟨14, q4 30 (.pick (.t 19) (.t 29) (.c (.b false))), [], []⟩])
 (.cond (.t 30)
 .skip
 (.exit 2)))
 (.seq [0, 1, 2, 6, 7] (.block 3 (.dreg [0, 1, 2, 6, 7] [⟨0, q4 33 (.mv (.t 0)), [], []⟩,
 ⟨1, q4 34 (.mv (.t 7)), [], []⟩,
 ⟨2, q4 35 (.mv (.t 0)), [], []⟩,
 ⟨3, q4 36 (.mv (.t 7)), [], []⟩,
 ⟨4, q4 37 (.bin .sub (.t 36) (.c (.i .i64 1))), [], []⟩,
 ⟨5, q4 38 (.mv (.t 0)), [], []⟩,
 ⟨6, q4 39 (.mv (.t 7)), [], []⟩,
 ⟨7, q4 40 (.bin .sub (.t 39) (.c (.i .i64 1))), [], []⟩,
 ⟨8, q4 41 (.iaddr 1 none (.t 38) (.t 40)), [], []⟩,
 ⟨9, q4 42 (.load none (.t 41)), [], []⟩,
 ⟨10, q4 43 (.mv (.t 0)), [], []⟩,
 ⟨11, q4 44 (.mv (.t 7)), [], []⟩,
 ⟨12, q4 45 (.iaddr 1 none (.t 43) (.t 44)), [], []⟩,
 ⟨13, q4 46 (.load none (.t 45)), [], []⟩,
 ⟨14, q4 47 (.iaddr 1 none (.t 33) (.t 34)), [], []⟩,
 ⟨15, ⟨none, .store 1 (.t 47) (.t 42), none⟩, [], []⟩,
 ⟨16, q4 48 (.iaddr 1 none (.t 35) (.t 37)), [], []⟩,
 ⟨17, ⟨none, .store 1 (.t 48) (.t 46), none⟩, [], []⟩]))
 (.reg [q4 31 (.mv (.t 7)),
 q4 32 (.bin .sub (.t 31) (.c (.i .i64 1))),
 q4 7 (.mv (.t 32))])))))))
 (.reg [q4 13 (.mv (.t 6)),
 q4 14 (.bin .add (.t 13) (.c (.i .i64 1))),
 q4 6 (.mv (.t 14))]))))))
theorem ree344 : Tryz.f344.body.bind (res Tryz.prog Tryz.f344.ntmps [] []) = some (erase ae344) := by kernel_rfl
def fs344 : FnS := .fn 49 ae344 []
theorem fsok344 : FnOk Tryz.prog 344 fs344 := fun _ _ _ hn h => ctr_of_resC Tryz.func344 (by kernel_rfl) ree344 (by kernel_rfl) hn h
abbrev ae345 : ACode := (.seq [0, 1, 2, 6] (.reg [q4 11 (.mv (.t 1)),
 q4 6 (.mv (.t 11))])
 (.seq [0, 1, 2, 6, 7] (.reg [q4 7 (.mv (.c (.i .i64 0)))])
 (.seq [0, 6, 7, 8] (.reg [q4 12 (.mv (.t 2)),
 q4 13 (.mv (.t 1)),
 q4 14 (.bin .sub (.t 12) (.t 13)),
 q4 8 (.mv (.t 14))])
 (.seq [0, 6, 7, 8] (.seq [0, 6, 7, 8, 9] (.reg [q4 15 (.mv (.t 8)),
 q4 16 (.bin .sub (.t 15) (.c (.i .i64 1))),
 q4 17 (.bin .quo (.t 16) (.c (.i .i64 2))),
 q4 9 (.mv (.t 17))])
 (.block 0 (.loop [0, 6, 7, 8, 9] (.seq [0, 6, 7, 8, 9] (.seq [0, 6, 7, 8, 9, 19] (.reg [q4 18 (.mv (.t 9)),
 q4 19 (.bin .geq (.t 18) (.c (.i .i64 0)))])
 (.cond (.t 19)
 .skip
 (.exit 0)))
 (.seq [0, 6, 7, 8, 9] (.block 1 (.reg [q4 22 (.mv (.t 0)),
 q4 23 (.mv (.t 9)),
 q4 24 (.mv (.t 8)),
 q4 25 (.mv (.t 6)),
 q4 26 (.call 373 [(.t 22), (.t 23), (.t 24), (.t 25)])]))
 (.reg [q4 20 (.mv (.t 9)),
 q4 21 (.bin .sub (.t 20) (.c (.i .i64 1))),
 q4 9 (.mv (.t 21))]))))))
 (.seq [0, 6, 7, 10] (.reg [q4 27 (.mv (.t 8)),
 q4 28 (.bin .sub (.t 27) (.c (.i .i64 1))),
 q4 10 (.mv (.t 28))])
 (.block 2 (.loop [0, 6, 7, 10] (.seq [0, 6, 7, 10] (.seq [0, 6, 7, 10, 30] (.reg [q4 29 (.mv (.t 10)),
 q4 30 (.bin .geq (.t 29) (.c (.i .i64 0)))])
 (.cond (.t 30)
 .skip
 (.exit 2)))
 (.seq [0, 6, 7, 10] (.block 3 (.seq [0, 6, 7, 10] (.dreg [0, 6, 7, 10] [⟨0, q4 33 (.mv (.t 0)), [], []⟩,
 ⟨1, q4 34 (.mv (.t 6)), [], []⟩,
 ⟨2, q4 35 (.mv (.t 0)), [], []⟩,
 ⟨3, q4 36 (.mv (.t 6)), [], []⟩,
 ⟨4, q4 37 (.mv (.t 10)), [], []⟩,
 ⟨5, q4 38 (.bin .add (.t 36) (.t 37)), [], []⟩,
 ⟨6, q4 39 (.mv (.t 0)), [], []⟩,
 ⟨7, q4 40 (.mv (.t 6)), [], []⟩,
 ⟨8, q4 41 (.mv (.t 10)), [], []⟩,
 ⟨9, q4 42 (.bin .add (.t 40) (.t 41)), [], []⟩,
 ⟨10, q4 43 (.iaddr 1 none (.t 39) (.t 42)), [], []⟩,
 ⟨11, q4 44 (.load none (.t 43)), [], []⟩,
 ⟨12, q4 45 (.mv (.t 0)), [], []⟩,
 ⟨13, q4 46 (.mv (.t 6)), [], []⟩,
 ⟨14, q4 47 (.iaddr 1 none (.t 45) (.t 46)), [], []⟩,
 ⟨15, q4 48 (.load none (.t 47)), [], []⟩,
 ⟨16, q4 49 (.iaddr 1 none (.t 33) (.t 34)), [], []⟩,
 ⟨17, ⟨none, .store 1 (.t 49) (.t 44), none⟩, [], []⟩,
 ⟨18, q4 50 (.iaddr 1 none (.t 35) (.t 38)), [], []⟩,
 ⟨19, ⟨none, .store 1 (.t 50) (.t 48), none⟩, [], []⟩])
 (.reg [q4 51 (.mv (.t 0)),
 q4 52 (.mv (.t 7)),
 q4 53 (.mv (.t 10)),
 q4 54 (.mv (.t 6)),
 q4 55 (.call 373 [(.t 51), (.t 52), (.t 53), (.t 54)])])))
 (.reg [q4 31 (.mv (.t 10)),
 q4 32 (.bin .sub (.t 31) (.c (.i .i64 1))),
 q4 10 (.mv (.t 32))]))))))))))
theorem ree345 : Tryz.f345.body.bind (res Tryz.prog Tryz.f345.ntmps [] []) = some (erase ae345) := by kernel_rfl
def fs345 : FnS := .fn 56 ae345 []
theorem fsok345 : FnOk Tryz.prog 345 fs345 := fun _ _ _ hn h => ctr_of_resC Tryz.func345 (by kernel_rfl) ree345 (by kernel_rfl) hn h
abbrev ae346 : ACode := (.seq [0, 1, 6] (.reg [q4 11 (.mv (.t 2)),
 q4 12 (.mv (.t 1)),
 q4 13 (.bin .sub (.t 11) (.t 12)),
 q4 6 (.mv (.t 13))])
 (.seq [0, 1, 6, 15] (.reg [q4 14 (.mv (.t 6)),
 q4 15 (.bin .geq (.t 14) (.c (.i .i64 8)))])
 (.cond (.t 15)
 (.seq [0, 1, 6, 7] (.reg [q4 16 (.mv (.t 6)),
 q4 17 (.conv .u64 (.t 16)),
 q4 7 (.alloc [(.i .u64 0)]),
 ⟨none, .store 1 (.t 7) (.t 17), none⟩])
 (.seq [0, 1, 6, 7, 8] (.reg [q4 18 (.mv (.t 6)),
 q4 19 (.call 374 [(.t 18)]),
 q4 8 (.mv (.t 19))])
 (.seq [0, 1, 6, 7, 8, 9] (.reg [q4 20 (.mv (.t 1)),
 q4 21 (.mv (.t 6)),
 q4 22 (.bin .quo (.t 21) (.c (.i .i64 4))),
 q4 23 (.bin .mul (.t 22) (.c (.i .i64 2))),
 q4 24 (.bin .add (.t 20) (.t 23)),
 q4 25 (.bin .sub (.t 24) (.c (.i .i64 1))),
 q4 9 (.mv (.t 25))])
 (.block 0 (.loop [0, 1, 6, 7, 8, 9] (.seq [0, 1, 6, 7, 8, 9] (.seq [0, 1, 6, 7, 8, 9, 33] (.reg [q4 26 (.mv (.t 9)),
 q4 27 (.mv (.t 1)),
 q4 28 (.mv (.t 6)),
 q4 29 (.bin .quo (.t 28) (.c (.i .i64 4))),
 q4 30 (.bin .mul (.t 29) (.c (.i .i64 2))),
 q4 31 (.bin .add (.t 27) (.t 30)),
 q4 32 (.bin .add (.t 31) (.c (.i .i64 1))),
 q4 33 (.bin .leq (.t 26) (.t 32))])
 (.cond (.t 33)
 .skip
 (.exit 0)))
 (.seq [0, 1, 6, 7, 8, 9] (.block 1 (.seq [0, 1, 6, 7, 8, 9, 10] (.reg [q4 36 (.call 375 [(.t 7)]),
 q4 37 (.mv (.t 8)),
 q4 38 (.bin .sub (.t 37) (.c (.i .u64 1))),
 q4 39 (.bin .and (.t 36) (.t 38)),
 q4 40 (.conv .i64 (.t 39)),
 q4 10 (.mv (.t 40))])
 (.seq [0, 1, 6, 7, 8, 9, 10] (.seq [0, 1, 6, 7, 8, 9, 10, 43] (.reg [q4 41 (.mv (.t 10)),
 q4 42 (.mv (.t 6)),
 q4 43 (.bin .geq (.t 41) (.t 42))])
 (.cond (.t 43)
 (.reg [q4 44 (.mv (.t 10)),
 q4 45 (.mv (.t 6)),
 q4 46 (.bin .sub (.t 44) (.t 45)),
 q4 10 (.mv (.t 46))])
 .skip))
 (.dreg [0, 1, 6, 7, 8, 9] [⟨0, q4 47 (.mv (.t 0)), [], []⟩,
 ⟨1, q4 48 (.mv (.t 9)), [], []⟩,
 ⟨2, q4 49 (.mv (.t 0)), [], []⟩,
 ⟨3, q4 50 (.mv (.t 1)), [], []⟩,
 ⟨4, q4 51 (.mv (.t 10)), [], []⟩,
 ⟨5, q4 52 (.bin .add (.t 50) (.t 51)), [], []⟩,
 ⟨6, q4 53 (.mv (.t 0)), [], []⟩,
 ⟨7, q4 54 (.mv (.t 1)), [], []⟩,
 ⟨8, q4 55 (.mv (.t 10)), [], []⟩,
 ⟨9, q4 56 (.bin .add (.t 54) (.t 55)), [], []⟩,
 ⟨10, q4 57 (.iaddr 1 none (.t 53) (.t 56)), [], []⟩,
 ⟨11, q4 58 (.load none (.t 57)), [], []⟩,
 ⟨12, q4 59 (.mv (.t 0)), [], []⟩,
 ⟨13, q4 60 (.mv (.t 9)), [], []⟩,
 ⟨14, q4 61 (.iaddr 1 none (.t 59) (.t 60)), [], []⟩,
 ⟨15, q4 62 (.load none (.t 61)), [], []⟩,
 ⟨16, q4 63 (.iaddr 1 none (.t 47) (.t 48)), [], []⟩,
 ⟨17, ⟨none, .store 1 (.t 63) (.t 58), none⟩, [], []⟩,
 ⟨18, q4 64 (.iaddr 1 none (.t 49) (.t 52)), [], []⟩,
 ⟨19, ⟨none, .store 1 (.t 64) (.t 62), none⟩, [], []⟩]))))
 (.reg [q4 34 (.mv (.t 9)),
 q4 35 (.bin .add (.t 34) (.c (.i .i64 1))),
 q4 9 (.mv (.t 35))]))))))))
 .skip)))
theorem ree346 : Tryz.f346.body.bind (res Tryz.prog Tryz.f346.ntmps [] []) = some (erase ae346) := by kernel_rfl
def fs346 : FnS := .fn 65 ae346 []
theorem fsok346 : FnOk Tryz.prog 346 fs346 := fun _ _ _ hn h => ctr_of_resC Tryz.func346 (by kernel_rfl) ree346 (by kernel_rfl) hn h
abbrev ae347 : ACode := (.seq [0, 1, 2] (.reg [q4 6 (.mv (.c (.i .i64 0))),
 q4 7 (.mv (.c (.i .i64 0)))])
 (.seq [0, 1, 8] (.reg [q4 13 (.mv (.t 2)),
 q4 14 (.mv (.t 1)),
 q4 15 (.bin .sub (.t 13) (.t 14)),
 q4 8 (.mv (.t 15))])
 (.seq [0, 1, 8, 9] (.reg [q4 9 (.alloc [(.i .i64 0)])])
 (.seq [0, 1, 8, 9, 10] (.reg [q4 16 (.mv (.t 1)),
 q4 17 (.mv (.t 8)),
 q4 18 (.bin .quo (.t 17) (.c (.i .i64 4))),
 q4 19 (.bin .mul (.t 18) (.c (.i .i64 1))),
 q4 20 (.bin .add (.t 16) (.t 19)),
 q4 10 (.mv (.t 20))])
 (.seq [0, 1, 8, 9, 10, 11] (.reg [q4 21 (.mv (.t 1)),
 q4 22 (.mv (.t 8)),
 q4 23 (.bin .quo (.t 22) (.c (.i .i64 4))),
 q4 24 (.bin .mul (.t 23) (.c (.i .i64 2))),
 q4 25 (.bin .add (.t 21) (.t 24)),
 q4 11 (.mv (.t 25))])
 (.seq [0, 8, 9, 10, 11, 12] (.reg [q4 26 (.mv (.t 1)),
 q4 27 (.mv (.t 8)),
 q4 28 (.bin .quo (.t 27) (.c (.i .i64 4))),
 q4 29 (.bin .mul (.t 28) (.c (.i .i64 3))),
 q4 30 (.bin .add (.t 26) (.t 29)),
 q4 12 (.mv (.t 30))])
 (.seq [9, 11] (.seq [0, 8, 9, 10, 11, 12, 32] (.reg [q4 31 (.mv (.t 8)),
 q4 32 (.bin .geq (.t 31) (.c (.i .i64 8)))])
 (.cond (.t 32)
 (.seq [0, 9, 10, 11, 12] (.seq [0, 9, 10, 11, 12, 34] (.reg [q4 33 (.mv (.t 8)),
 q4 34 (.bin .geq (.t 33) (.c (.i .i64 50)))])
 (.cond (.t 34)
 (.seq [0, 9, 10, 11, 12] (.reg [q4 35 (.mv (.t 0)),
 q4 36 (.mv (.t 10)),
 q4 37 (.call 376 [(.t 35), (.t 36), (.t 9)]),
 q4 10 (.mv (.t 37))])
 (.seq [0, 9, 10, 11, 12] (.reg [q4 38 (.mv (.t 0)),
 q4 39 (.mv (.t 11)),
 q4 40 (.call 376 [(.t 38), (.t 39), (.t 9)]),
 q4 11 (.mv (.t 40))])
 (.reg [q4 41 (.mv (.t 0)),
 q4 42 (.mv (.t 12)),
 q4 43 (.call 376 [(.t 41), (.t 42), (.t 9)]),
 q4 12 (.mv (.t 43))])))
 .skip))
 (.reg [q4 44 (.mv (.t 0)),
 q4 45 (.mv (.t 10)),
 q4 46 (.mv (.t 11)),
 q4 47 (.mv (.t 12)),
 q4 48 (.call 377 [(.t 44), (.t 45), (.t 46), (.t 47), (.t 9)]),
 q4 11 (.mv (.t 48))]))
 .skip))
 (.seq [11, 49] (.reg [q4 49 (.load none (.t 9))])
 (.block 0 (.seq [11, 49, 51] (.reg [q4 52 (.bin .eql (.t 49) (.c (.i .i64 0))),
 q4 51 (.mv (.t 52))])
 (.cond (.t 51)
 (.seq [6, 7] (.reg [q4 53 (.mv (.t 11)),
 q4 6 (.mv (.t 53)),
 q4 7 (.mv (.c (.i .i64 1)))])
 .ret)
 (.seq [11, 54] (.reg [q4 55 (.bin .eql (.t 49) (.c (.i .i64 12))),
 q4 54 (.mv (.t 55))])
 (.cond (.t 54)
 (.seq [6, 7] (.reg [q4 56 (.mv (.t 11)),
 q4 6 (.mv (.t 56)),
 q4 7 (.mv (.c (.i .i64 2)))])
 .ret)
 (.seq [6, 7] (.reg [q4 50 (.mv (.t 11)),
 q4 6 (.mv (.t 50)),
 q4 7 (.mv (.c (.i .i64 0)))])
 .ret))))))))))))))
theorem ree347 : Tryz.f347.body.bind (res Tryz.prog Tryz.f347.ntmps [] []) = some (erase ae347) := by kernel_rfl
def fs347 : FnS := .fn 57 ae347 [.t 6, .t 7]
theorem fsok347 : FnOk Tryz.prog 347 fs347 := fun _ _ _ hn h => ctr_of_resC Tryz.func347 (by kernel_rfl) ree347 (by kernel_rfl) hn h
abbrev ae348 : ACode := (.seq [0, 2, 6] (.reg [q4 8 (.mv (.t 1)),
 q4 6 (.mv (.t 8))])
 (.seq [0, 6, 7] (.reg [q4 9 (.mv (.t 2)),
 q4 10 (.bin .sub (.t 9) (.c (.i .i64 1))),
 q4 7 (.mv (.t 10))])
 (.block 0 (.loop [0, 6, 7] (.seq [0, 6, 7] (.seq [0, 6, 7, 13] (.reg [q4 11 (.mv (.t 6)),
 q4 12 (.mv (.t 7)),
 q4 13 (.bin .lss (.t 11) (.t 12))])
 (.cond (.t 13)
 .skip
 (.exit 0)))
 (.block 1 (.seq [0, 6, 7] (.dreg [0, 6, 7] [⟨0, q4 14 (.mv (.t 0)), [], []⟩,
 ⟨1, q4 15 (.mv (.t 6)), [], []⟩,
 ⟨2, q4 16 (.mv (.t 0)), [], []⟩,
 ⟨3, q4 17 (.mv (.t 7)), [], []⟩,
 ⟨4, q4 18 (.mv (.t 0)), [], []⟩,
 ⟨5, q4 19 (.mv (.t 7)), [], []⟩,
 ⟨6, q4 20 (.iaddr 1 none (.t 18) (.t 19)), [], []⟩,
 ⟨7, q4 21 (.load none (.t 20)), [], []⟩,
 ⟨8, q4 22 (.mv (.t 0)), [], []⟩,
 ⟨9, q4 23 (.mv (.t 6)), [], []⟩,
 ⟨10, q4 24 (.iaddr 1 none (.t 22) (.t 23)), [], []⟩,
 ⟨11, q4 25 (.load none (.t 24)), [], []⟩,
 ⟨12, q4 26 (.iaddr 1 none (.t 14) (.t 15)), [], []⟩,
 ⟨13, ⟨none, .store 1 (.t 26) (.t 21), none⟩, [], []⟩,
 ⟨14, q4 27 (.iaddr 1 none (.t 16) (.t 17)), [], []⟩,
 ⟨15, ⟨none, .store 1 (.t 27) (.t 25), none⟩, [], []⟩])
 (.seq [0, 6, 7] (.reg [q4 28 (.mv (.t 6)),
 q4 29 (.bin .add (.t 28) (.c (.i .i64 1))),
 q4 6 (.mv (.t 29))])
 (.reg [q4 30 (.mv (.t 7)),
 q4 31 (.bin .sub (.t 30) (.c (.i .i64 1))),
 q4 7 (.mv (.t 31))])))))))))
theorem ree348 : Tryz.f348.body.bind (res Tryz.prog Tryz.f348.ntmps [] []) = some (erase ae348) := by kernel_rfl
def fs348 : FnS := .fn 32 ae348 []
theorem fsok348 : FnOk Tryz.prog 348 fs348 := fun _ _ _ hn h => ctr_of_resC Tryz.func348 (by kernel_rfl) ree348 (by kernel_rfl) hn h
abbrev ae349 : ACode := (.seq [0, 1, 2] (.reg [q4 6 (.mv (.c (.b false)))])
 (.seq [0, 1, 2, 7] (.reg [q4 11 (.mv (.t 1)),
 q4 12 (.bin .add (.t 11) (.c (.i .i64 1))),
 q4 7 (.mv (.t 12))])
 (.seq [] (.seq [0, 1, 2, 7, 8] (.reg [q4 8 (.mv (.c (.i .i64 0)))])
 (.block 0 (.loop [0, 1, 2, 7, 8] (.seq [0, 1, 2, 7, 8] (.seq [0, 1, 2, 7, 8, 14] (.reg [q4 13 (.mv (.t 8)),
 q4 14 (.bin .lss (.t 13) (.c (.i .i64 5)))])
 (.cond (.t 14)
 .skip
 (.exit 0)))
 (.seq [0, 1, 2, 7, 8] (.block 1 (.seq [0, 1, 2, 7, 8] (.block 2 (.loop [0, 1, 2, 7, 8] (.seq [0, 1, 2, 7, 8] (.seq [0, 1, 2, 7, 8, 32] (.dreg [0, 1, 2, 7, 8, 32] [⟨0, q4 17 (.mv (.t 7)), [], []⟩,
 ⟨1, q4 18 (.mv (.t 2)), [], []⟩,
 ⟨2, q4 19 (.bin .lss (.t 17) (.t 18)), [], []⟩,
 ⟨3, q4 20 (.mv (.t 19)), [], []⟩,
 ⟨4, ⟨(some 21), .mv (.t 0), (some (20, true))⟩, [], []⟩,
 ⟨5, ⟨(some 22), .mv (.t 7), (some (20, true))⟩, [], []⟩,
 ⟨6, ⟨(some 23), .iaddr 1 none (.t 21) (.t 22), (some (20, true))⟩, [], []⟩,
 ⟨7, ⟨(some 24), .load none (.t 23), (some (20, true))⟩, [], []⟩,
 ⟨8, ⟨(some 25), .mv (.t 0), (some (20, true))⟩, [], []⟩,
 ⟨9, ⟨(some 26), .mv (.t 7), (some (20, true))⟩, [], []⟩,
 ⟨10, ⟨(some 27), .bin .sub (.t 26) (.c (.i .i64 1)), (some (20, true))⟩, [], []⟩,
 ⟨11, ⟨(some 28), .iaddr 1 none (.t 25) (.t 27), (some (20, true))⟩, [], []⟩,
 ⟨12, ⟨(some 29), .load none (.t 28), (some (20, true))⟩, [], []⟩,
 ⟨13, ⟨(some 30), .call 350 [(.t 24), (.t 29)], (some (20, true))⟩, [], []⟩,
 ⟨14, ⟨(some 31), .not (.t 30), (some (20, true))⟩, [], []⟩,
 ⟨15, q4 32 (.pick (.t 20) (.t 31) (.c (.b false))), [], []⟩])
 (.cond (.t 32)
 .skip
 (.exit 2)))
 (.block 3 (.reg [q4 33 (.mv (.t 7)),
 q4 34 (.bin .add (.t 33) (.c (.i .i64 1))),
 q4 7 (.mv (.t 34))])))))
 (.seq [0, 1, 2, 7, 8] (.seq [0, 1, 2, 7, 8, 37] (.reg [q4 35 (.mv (.t 7)),
 q4 36 (.mv (.t 2)),
 q4 37 (.bin .eql (.t 35) (.t 36))])
 (.cond (.t 37)
 (.seq [6] (.reg [q4 6 (.mv (.c (.b true)))])
 .ret)
 .skip))
 (.seq [0, 1, 2, 7, 8] (.seq [0, 1, 2, 7, 8, 41] (.reg [q4 38 (.mv (.t 2)),
 q4 39 (.mv (.t 1)),
 q4 40 (.bin .sub (.t 38) (.t 39)),
 q4 41 (.bin .lss (.t 40) (.c (.i .i64 50)))])
 (.cond (.t 41)
 (.seq [6] (.reg [q4 6 (.mv (.c (.b false)))])
 .ret)
 .skip))
 (.seq [0, 1, 2, 7, 8] (.dreg [0, 1, 2, 7, 8] [⟨0, q4 42 (.mv (.t 0)), [], []⟩,
 ⟨1, q4 43 (.mv (.t 7)), [], []⟩,
 ⟨2, q4 44 (.mv (.t 0)), [], []⟩,
 ⟨3, q4 45 (.mv (.t 7)), [], []⟩,
 ⟨4, q4 46 (.bin .sub (.t 45) (.c (.i .i64 1))), [], []⟩,
 ⟨5, q4 47 (.mv (.t 0)), [], []⟩,
 ⟨6, q4 48 (.mv (.t 7)), [], []⟩,
 ⟨7, q4 49 (.bin .sub (.t 48) (.c (.i .i64 1))), [], []⟩,
 ⟨8, q4 50 (.iaddr 1 none (.t 47) (.t 49)), [], []⟩,
 ⟨9, q4 51 (.load none (.t 50)), [], []⟩,
 ⟨10, q4 52 (.mv (.t 0)), [], []⟩,
 ⟨11, q4 53 (.mv (.t 7)), [], []⟩,
 ⟨12, q4 54 (.iaddr 1 none (.t 52) (.t 53)), [], []⟩,
 ⟨13, q4 55 (.load none (.t 54)), [], []⟩,
 ⟨14, q4 56 (.iaddr 1 none (.t 42) (.t 43)), [], []⟩,
 ⟨15, ⟨none, .store 1 (.t 56) (.t 51), none⟩, [], []⟩,
 ⟨16, q4 57 (.iaddr 1 none (.t 44) (.t 46)), [], []⟩,
 ⟨17, ⟨none, .store 1 (.t 57) (.t 55), none⟩, [], []⟩])
 (.seq [0, 1, 2, 7, 8] (.seq [0, 1, 2, 7, 8, 61] (.reg [q4 58 (.mv (.t 7)),
 q4 59 (.mv (.t 1)),
 q4 60 (.bin .sub (.t 58) (.t 59)),
 q4 61 (.bin .geq (.t 60) (.c (.i .i64 2)))])
 (.cond (.t 61)
 (.seq [0, 1, 2, 7, 8, 9] (.reg [q4 62 (.mv (.t 7)),
 q4 63 (.bin .sub (.t 62) (.c (.i .i64 1))),
 q4 9 (.mv (.t 63))])
 (.block 4 (.loop [0, 1, 2, 7, 8, 9] (.seq [0, 1, 2, 7, 8, 9] (.seq [0, 1, 2, 7, 8, 9, 65] (.reg [q4 64 (.mv (.t 9)),
 q4 65 (.bin .geq (.t 64) (.c (.i .i64 1)))])
 (.cond (.t 65)
 .skip
 (.exit 4)))
 (.seq [0, 1, 2, 7, 8, 9] (.block 5 (.seq [0, 1, 2, 7, 8, 9] (.seq [0, 1, 2, 7, 8, 9, 78] (.dreg [0, 1, 2, 7, 8, 9, 78] [⟨0, q4 68 (.mv (.t 0)), [], []⟩,
 ⟨1, q4 69 (.mv (.t 9)), [], []⟩,
 ⟨2, q4 70 (.iaddr 1 none (.t 68) (.t 69)), [], []⟩,
 ⟨3, q4 71 (.load none (.t 70)), [], []⟩,
 ⟨4, q4 72 (.mv (.t 0)), [], []⟩,
 ⟨5, q4 73 (.mv (.t 9)), [], []⟩,
 ⟨6, q4 74 (.bin .sub (.t 73) (.c (.i .i64 1))), [], []⟩,
 ⟨7, q4 75 (.iaddr 1 none (.t 72) (.t 74)), [], []⟩,
 ⟨8, q4 76 (.load none (.t 75)), [], []⟩,
 ⟨9, q4 77 (.call 350 [(.t 71), (.t 76)]), [], []⟩,
 ⟨10, q4 78 (.not (.t 77)), [], []⟩])
 (.cond (.t 78)
 (.exit 4)
 .skip))
 (.dreg [0, 1, 2, 7, 8, 9] [⟨0, q4 79 (.mv (.t 0)), [], []⟩,
 ⟨1, q4 80 (.mv (.t 9)), [], []⟩,
 ⟨2, q4 81 (.mv (.t 0)), [], []⟩,
 ⟨3, q4 82 (.mv (.t 9)), [], []⟩,
 ⟨4, q4 83 (.bin .sub (.t 82) (.c (.i .i64 1))), [], []⟩,
 ⟨5, q4 84 (.mv (.t 0)), [], []⟩,
 ⟨6, q4 85 (.mv (.t 9)), [], []⟩,
 ⟨7, q4 86 (.bin .sub (.t 85) (.c (.i .i64 1))), [], []⟩,
 ⟨8, q4 87 (.iaddr 1 none (.t 84) (.t 86)), [], []⟩,
 ⟨9, q4 88 (.load none (.t 87)), [], []⟩,
 ⟨10, q4 89 (.mv (.t 0)), [], []⟩,
 ⟨11, q4 90 (.mv (.t 9)), [], []⟩,
 ⟨12, q4 91 (.iaddr 1 none (.t 89) (.t 90)), [], []⟩,
 ⟨13, q4 92 (.load none (.t 91)), [], []⟩,
 ⟨14, q4 93 (.iaddr 1 none (.t 79) (.t 80)), [], []⟩,
 ⟨15, ⟨none, .store 1 (.t 93) (.t 88), none⟩, [], []⟩,
 ⟨16, q4 94 (.iaddr 1 none (.t 81) (.t 83)), [], []⟩,
 ⟨17, ⟨none, .store 1 (.t 94) (.t 92), none⟩, [], []⟩])))
 (.reg [q4 66 (.mv (.t 9)),
 q4 67 (.bin .sub (.t 66) (.c (.i .i64 1))),
 q4 9 (.mv (.t 67))]))))))
 .skip))
 (.seq [0, 1, 2, 7, 8, 98] (.reg [q4 95 (.mv (.t 2)),
 q4 96 (.mv (.t 7)),
 q4 97 (.bin .sub (.t 95) (.t 96)),
 q4 98 (.bin .geq (.t 97) (.c (.i .i64 2)))])
 (.cond (.t 98)
 (.seq [0, 1, 2, 7, 8, 10] (.reg [q4 99 (.mv (.t 7)),
 q4 100 (.bin .add (.t 99) (.c (.i .i64 1))),
 q4 10 (.mv (.t 100))])
 (.block 6 (.loop [0, 1, 2, 7, 8, 10] (.seq [0, 1, 2, 7, 8, 10] (.seq [0, 1, 2, 7, 8, 10, 103] (.reg [q4 101 (.mv (.t 10)),
 q4 102 (.mv (.t 2)),
 q4 103 (.bin .lss (.t 101) (.t 102))])
 (.cond (.t 103)
 .skip
 (.exit 6)))
 (.seq [0, 1, 2, 7, 8, 10] (.block 7 (.seq [0, 1, 2, 7, 8, 10] (.seq [0, 1, 2, 7, 8, 10, 116] (.dreg [0, 1, 2, 7, 8, 10, 116] [⟨0, q4 106 (.mv (.t 0)), [], []⟩,
 ⟨1, q4 107 (.mv (.t 10)), [], []⟩,
 ⟨2, q4 108 (.iaddr 1 none (.t 106) (.t 107)), [], []⟩,
 ⟨3, q4 109 (.load none (.t 108)), [], []⟩,
 ⟨4, q4 110 (.mv (.t 0)), [], []⟩,
 ⟨5, q4 111 (.mv (.t 10)), [], []⟩,
 ⟨6, q4 112 (.bin .sub (.t 111) (.c (.i .i64 1))), [], []⟩,
 ⟨7, q4 113 (.iaddr 1 none (.t 110) (.t 112)), [], []⟩,
 ⟨8, q4 114 (.load none (.t 113)), [], []⟩,
 ⟨9, q4 115 (.call 350 [(.t 109), (.t 114)]), [], []⟩,
 ⟨10, q4 116 (.not (.t 115)), [], []⟩])
 (.cond (.t 116)
 (.exit 6)
 .skip))
 (.dreg [0, 1, 2, 7, 8, 10] [⟨0, q4 117 (.mv (.t 0)), [], []⟩,
 ⟨1, q4 118 (.mv (.t 10)), [], []⟩,
 ⟨2, q4 119 (.mv (.t 0)), [], []⟩,
 ⟨3, q4 120 (.mv (.t 10)), [], []⟩,
 ⟨4, q4 121 (.bin .sub (.t 120) (.c (.i .i64 1))), [], []⟩,
 ⟨5, q4 122 (.mv (.t 0)), [], []⟩,
 ⟨6, q4 123 (.mv (.t 10)), [], []⟩,
 ⟨7, q4 124 (.bin .sub (.t 123) (.c (.i .i64 1))), [], []⟩,
 ⟨8, q4 125 (.iaddr 1 none (.t 122) (.t 124)), [], []⟩,
 ⟨9, q4 126 (.load none (.t 125)), [], []⟩,
 ⟨10, q4 127 (.mv (.t 0)), [], []⟩,
 ⟨11, q4 128 (.mv (.t 10)), [], []⟩,
 ⟨12, q4 129 (.iaddr 1 none (.t 127) (.t 128)), [], []⟩,
 ⟨13, q4 130 (.load none (.t 129)), [], []⟩,
 ⟨14, q4 131 (.iaddr 1 none (.t 117) (.t 118)), [], []⟩,
 ⟨15, ⟨none, .store 1 (.t 131) (.t 126), none⟩, [], []⟩,
 ⟨16, q4 132 (.iaddr 1 none (.t 119) (.t 121)), [], []⟩,
 ⟨17, ⟨none, .store 1 (.t 132) (.t 130), none⟩, [], []⟩])))
 (.reg [q4 104 (.mv (.t 10)),
 q4 105 (.bin .add (.t 104) (.c (.i .i64 1))),
 q4 10 (.mv (.t 105))]))))))
 .skip))))))))
 (.reg [q4 15 (.mv (.t 8)),
 q4 16 (.bin .add (.t 15) (.c (.i .i64 1))),
 q4 8 (.mv (.t 16))]))))))
 (.seq [6] (.reg [q4 6 (.mv (.c (.b false)))])
 .ret))))
theorem ree349 : Tryz.f349.body.bind (res Tryz.prog Tryz.f349.ntmps [] []) = some (erase ae349) := by kernel_rfl
def fs349 : FnS := .fn 133 ae349 [.t 6]
theorem fsok349 : FnOk Tryz.prog 349 fs349 := fun _ _ _ hn h => ctr_of_resC Tryz.func349 (by kernel_rfl) ree349 (by kernel_rfl) hn h
abbrev ae350 : ACode := (.seq [0, 1] (.reg [q4 4 (.mv (.c (.b false)))])
 (.seq [4] (.reg [q4 5 (.mv (.t 0)),
 q4 6 (.call 378 [(.t 5)]),
 q4 7 (.mv (.t 6)),
 ⟨(some 8), .mv (.t 1), (some (7, true))⟩,
 ⟨(some 9), .call 378 [(.t 8)], (some (7, true))⟩,
 ⟨(some 10), .not (.t 9), (some (7, true))⟩,
 q4 11 (.pick (.t 7) (.t 10) (.c (.b false))),
 q4 12 (.mv (.t 11)),
 ⟨(some 13), .mv (.t 0), (some (12, false))⟩,
 ⟨(some 14), .mv (.t 1), (some (12, false))⟩,
 ⟨(some 15), .bin .lss (.t 13) (.t 14), (some (12, false))⟩,
 q4 16 (.pick (.t 12) (.c (.b true)) (.t 15)),
 q4 4 (.mv (.t 16))])
 .ret))
theorem ree350 : Tryz.f350.body.bind (res Tryz.prog Tryz.f350.ntmps [] []) = some (erase ae350) := by kernel_rfl
def fs350 : FnS := .fn 17 ae350 [.t 4]
theorem fsok350 : FnOk Tryz.prog 350 fs350 := fun _ _ _ hn h => ctr_of_resC Tryz.func350 (by kernel_rfl) ree350 (by kernel_rfl) hn h
abbrev ae351 : ACode := (.seq [0, 1, 2, 3] (.reg [q4 8 (.mv (.c (.i .i64 0)))])
 (.seq [0, 1, 2] (.dreg [0, 1, 2] [⟨0, q4 11 (.mv (.t 0)), [], []⟩,
 ⟨1, q4 12 (.mv (.t 1)), [], []⟩,
 ⟨2, q4 13 (.mv (.t 0)), [], []⟩,
 ⟨3, q4 14 (.mv (.t 3)), [], []⟩,
 ⟨4, q4 15 (.mv (.t 0)), [], []⟩,
 ⟨5, q4 16 (.mv (.t 3)), [], []⟩,
 ⟨6, q4 17 (.iaddr 1 none (.t 15) (.t 16)), [], []⟩,
 ⟨7, q4 18 (.load none (.t 17)), [], []⟩,
 ⟨8, q4 19 (.mv (.t 0)), [], []⟩,
 ⟨9, q4 20 (.mv (.t 1)), [], []⟩,
 ⟨10, q4 21 (.iaddr 1 none (.t 19) (.t 20)), [], []⟩,
 ⟨11, q4 22 (.load none (.t 21)), [], []⟩,
 ⟨12, q4 23 (.iaddr 1 none (.t 11) (.t 12)), [], []⟩,
 ⟨13, ⟨none, .store 1 (.t 23) (.t 18), none⟩, [], []⟩,
 ⟨14, q4 24 (.iaddr 1 none (.t 13) (.t 14)), [], []⟩,
 ⟨15, ⟨none, .store 1 (.t 24) (.t 22), none⟩, [], []⟩])
 (.seq [0, 1, 9, 10] (.reg [q4 25 (.mv (.t 1)),
 q4 26 (.bin .add (.t 25) (.c (.i .i64 1))),
 q4 27 (.mv (.t 2)),
 q4 28 (.bin .sub (.t 27) (.c (.i .i64 1))),
 q4 9 (.mv (.t 26)),
 q4 10 (.mv (.t 28))])
 (.seq [9] (.block 0 (.loop [0, 1, 9, 10] (.block 1 (.seq [0, 1, 9, 10] (.block 2 (.loop [0, 1, 9, 10] (.seq [0, 1, 9, 10] (.seq [0, 1, 9, 10, 43] (.dreg [0, 1, 9, 10, 43] [⟨0, q4 29 (.mv (.t 9)), [], []⟩,
 ⟨1, q4 30 (.mv (.t 10)), [], []⟩,
 ⟨2, q4 31 (.bin .leq (.t 29) (.t 30)), [], []⟩,
 ⟨3, q4 32 (.mv (.t 31)), [], []⟩,
 ⟨4, ⟨(some 33), .mv (.t 0), (some (32, true))⟩, [], []⟩,
 ⟨5, ⟨(some 34), .mv (.t 1), (some (32, true))⟩, [], []⟩,
 ⟨6, ⟨(some 35), .iaddr 1 none (.t 33) (.t 34), (some (32, true))⟩, [], []⟩,
 ⟨7, ⟨(some 36), .load none (.t 35), (some (32, true))⟩, [], []⟩,
 ⟨8, ⟨(some 37), .mv (.t 0), (some (32, true))⟩, [], []⟩,
 ⟨9, ⟨(some 38), .mv (.t 9), (some (32, true))⟩, [], []⟩,
 ⟨10, ⟨(some 39), .iaddr 1 none (.t 37) (.t 38), (some (32, true))⟩, [], []⟩,
 ⟨11, ⟨(some 40), .load none (.t 39), (some (32, true))⟩, [], []⟩,
 ⟨12, ⟨(some 41), .call 350 [(.t 36), (.t 40)], (some (32, true))⟩, [], []⟩,
 ⟨13, ⟨(some 42), .not (.t 41), (some (32, true))⟩, [], []⟩,
 ⟨14, q4 43 (.pick (.t 32) (.t 42) (.c (.b false))), [], []⟩])
 (.cond (.t 43)
 .skip
 (.exit 2)))
 (.block 3 (.reg [q4 44 (.mv (.t 9)),
 q4 45 (.bin .add (.t 44) (.c (.i .i64 1))),
 q4 9 (.mv (.t 45))])))))
 (.seq [0, 1, 9, 10] (.block 4 (.loop [0, 1, 9, 10] (.seq [0, 1, 9, 10] (.seq [0, 1, 9, 10, 59] (.dreg [0, 1, 9, 10, 59] [⟨0, q4 46 (.mv (.t 9)), [], []⟩,
 ⟨1, q4 47 (.mv (.t 10)), [], []⟩,
 ⟨2, q4 48 (.bin .leq (.t 46) (.t 47)), [], []⟩,
 ⟨3, q4 49 (.mv (.t 48)), [], []⟩,
 ⟨4, ⟨(some 50), .mv (.t 0), (some (49, true))⟩, [], []⟩,
 ⟨5, ⟨(some 51), .mv (.t 1), (some (49, true))⟩, [], []⟩,
 ⟨6, ⟨(some 52), .iaddr 1 none (.t 50) (.t 51), (some (49, true))⟩, [], []⟩,
 ⟨7, ⟨(some 53), .load none (.t 52), (some (49, true))⟩, [], []⟩,
 ⟨8, ⟨(some 54), .mv (.t 0), (some (49, true))⟩, [], []⟩,
 ⟨9, ⟨(some 55), .mv (.t 10), (some (49, true))⟩, [], []⟩,
 ⟨10, ⟨(some 56), .iaddr 1 none (.t 54) (.t 55), (some (49, true))⟩, [], []⟩,
 ⟨11, ⟨(some 57), .load none (.t 56), (some (49, true))⟩, [], []⟩,
 ⟨12, ⟨(some 58), .call 350 [(.t 53), (.t 57)], (some (49, true))⟩, [], []⟩,
 ⟨13, q4 59 (.pick (.t 49) (.t 58) (.c (.b false))), [], []⟩])
 (.cond (.t 59)
 .skip
 (.exit 4)))
 (.block 5 (.reg [q4 60 (.mv (.t 10)),
 q4 61 (.bin .sub (.t 60) (.c (.i .i64 1))),
 q4 10 (.mv (.t 61))])))))
 (.seq [0, 1, 9, 10] (.seq [0, 1, 9, 10, 64] (.reg [q4 62 (.mv (.t 9)),
 q4 63 (.mv (.t 10)),
 q4 64 (.bin .gtr (.t 62) (.t 63))])
 (.cond (.t 64)
 (.exit 0)
 .skip))
 (.seq [0, 1, 9, 10] (.dreg [0, 1, 9, 10] [⟨0, q4 65 (.mv (.t 0)), [], []⟩,
 ⟨1, q4 66 (.mv (.t 9)), [], []⟩,
 ⟨2, q4 67 (.mv (.t 0)), [], []⟩,
 ⟨3, q4 68 (.mv (.t 10)), [], []⟩,
 ⟨4, q4 69 (.mv (.t 0)), [], []⟩,
 ⟨5, q4 70 (.mv (.t 10)), [], []⟩,
 ⟨6, q4 71 (.iaddr 1 none (.t 69) (.t 70)), [], []⟩,
 ⟨7, q4 72 (.load none (.t 71)), [], []⟩,
 ⟨8, q4 73 (.mv (.t 0)), [], []⟩,
 ⟨9, q4 74 (.mv (.t 9)), [], []⟩,
 ⟨10, q4 75 (.iaddr 1 none (.t 73) (.t 74)), [], []⟩,
 ⟨11, q4 76 (.load none (.t 75)), [], []⟩,
 ⟨12, q4 77 (.iaddr 1 none (.t 65) (.t 66)), [], []⟩,
 ⟨13, ⟨none, .store 1 (.t 77) (.t 72), none⟩, [], []⟩,
 ⟨14, q4 78 (.iaddr 1 none (.t 67) (.t 68)), [], []⟩,
 ⟨15, ⟨none, .store 1 (.t 78) (.t 76), none⟩, [], []⟩])
 (.seq [0, 1, 9, 10] (.reg [q4 79 (.mv (.t 9)),
 q4 80 (.bin .add (.t 79) (.c (.i .i64 1))),
 q4 9 (.mv (.t 80))])
 (.reg [q4 81 (.mv (.t 10)),
 q4 82 (.bin .sub (.t 81) (.c (.i .i64 1))),
 q4 10 (.mv (.t 82))])))))))))
 (.seq [8] (.reg [q4 83 (.mv (.t 9)),
 q4 8 (.mv (.t 83))])
 .ret)))))
theorem ree351 : Tryz.f351.body.bind (res Tryz.prog Tryz.f351.ntmps [] []) = some (erase ae351) := by kernel_rfl
def fs351 : FnS := .fn 84 ae351 [.t 8]
theorem fsok351 : FnOk Tryz.prog 351 fs351 := fun _ _ _ hn h => ctr_of_resC Tryz.func351 (by kernel_rfl) ree351 (by kernel_rfl) hn h
end Go.Gl
