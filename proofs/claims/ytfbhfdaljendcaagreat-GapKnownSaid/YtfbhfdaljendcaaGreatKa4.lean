/-
  The code of functions of the program, resolved, for the evaluator (printed by wip/gen/mkclosed.py)
-/
import Derived.Test.YtfbhfdaljendcaaGreatEv7
import Derived.Test.YtfbhfdaljendcaaGreatProg
import Derived.KernelRfl
set_option linter.all false
set_option linter.unusedVariables false
set_option linter.unusedSimpArgs false
namespace Go.Gl
open Go.Proofs
abbrev ae292 : ACode := (.seq [0, 5, 6, 7] (.reg [⟨(some 5), .load none (.t 1), none⟩,
    ⟨(some 6), .len (.t 5), none⟩,
    ⟨(some 7), .mv (.c (.i .i64 0)), none⟩])
  (.block 0 (.loop [0, 5, 6, 7] (.seq [0, 5, 6, 7, 8] (.reg [⟨(some 8), .bin .lss (.t 7) (.t 6), none⟩])
  (.seq [0, 5, 6, 7] (.cond (.t 8)
  .skip
  (.exit 0))
  (.seq [0, 5, 6, 7] (.block 1 (.seq [0, 4, 5, 6, 7] (.reg [⟨(some 9), .iaddr 1 none (.t 5) (.t 7), none⟩,
    ⟨(some 10), .load none (.t 9), none⟩,
    ⟨(some 4), .mv (.t 10), none⟩])
  (.seq [0, 5, 6, 7, 14] (.reg [⟨(some 11), .mv (.t 0), none⟩,
    ⟨(some 12), .mv (.t 4), none⟩,
    ⟨(some 13), .callv (.t 11) [(.t 12)], none⟩,
    ⟨(some 14), .not (.t 13), none⟩])
  (.cond (.t 14)
  .ret
  .skip))))
  (.reg [⟨(some 15), .bin .add (.t 7) (.c (.i .i64 1)), none⟩,
    ⟨(some 7), .mv (.t 15), none⟩])))))))
theorem ree292 : Tryz.f292.body.bind (res Tryz.prog Tryz.f292.ntmps [] []) = some (erase ae292) := by kernel_rfl
def fs292 : FnS := .fn 16 ae292 []
theorem fsok292 : FnOk Tryz.prog 292 fs292 := fun _ _ _ hn h => ctr_of_resC Tryz.func292 (by kernel_rfl) ree292 (by kernel_rfl) hn h
abbrev ae290 : ACode := (.seq [0] (.reg [⟨(some 2), .mv (.c (.l [] true)), none⟩])
  (.seq [2] (.reg [⟨(some 3), .mv (.t 0), none⟩,
    ⟨(some 4), .call 325 [(.c (.l [] true)), (.t 3)], none⟩,
    ⟨(some 2), .mv (.t 4), none⟩])
  .ret))
theorem ree290 : Tryz.f290.body.bind (res Tryz.prog Tryz.f290.ntmps [] []) = some (erase ae290) := by kernel_rfl
def fs290 : FnS := .fn 5 ae290 [.t 2]
theorem fsok290 : FnOk Tryz.prog 290 fs290 := fun _ _ _ hn h => ctr_of_resC Tryz.func290 (by kernel_rfl) ree290 (by kernel_rfl) hn h
abbrev ae291 : ACode := (.seq [0, 2] (.reg [⟨(some 3), .mv (.t 0), none⟩,
    ⟨(some 4), .len (.t 3), none⟩,
    ⟨(some 2), .mv (.t 4), none⟩])
  (.reg [⟨(some 5), .mv (.t 0), none⟩,
    ⟨(some 6), .mv (.t 2), none⟩,
    ⟨(some 7), .mv (.t 2), none⟩,
    ⟨(some 8), .conv .u64 (.t 7), none⟩,
    ⟨(some 9), .call 327 [(.t 8)], none⟩,
    ⟨(some 10), .call 326 [(.t 5), (.c (.i .i64 0)), (.t 6), (.t 9)], none⟩]))
theorem ree291 : Tryz.f291.body.bind (res Tryz.prog Tryz.f291.ntmps [] []) = some (erase ae291) := by kernel_rfl
def fs291 : FnS := .fn 11 ae291 []
theorem fsok291 : FnOk Tryz.prog 291 fs291 := fun _ _ _ hn h => ctr_of_resC Tryz.func291 (by kernel_rfl) ree291 (by kernel_rfl) hn h
abbrev ae245 : ACode := (.seq [0, 1, 2] (.reg [⟨(some 4), .mv (.c (.b false)), none⟩])
  (.seq [4] (.reg [⟨(some 5), .load none (.t 1), none⟩,
    ⟨(some 6), .mv (.t 0), none⟩,
    ⟨(some 7), .load none (.t 2), none⟩,
    ⟨(some 8), .call 239 [(.t 5), (.t 6), (.t 7)], none⟩,
    ⟨(some 4), .mv (.t 8), none⟩])
  .ret))
theorem ree245 : Tryz.f245.body.bind (res Tryz.prog Tryz.f245.ntmps [] []) = some (erase ae245) := by kernel_rfl
def fs245 : FnS := .fn 9 ae245 [.t 4]
theorem fsok245 : FnOk Tryz.prog 245 fs245 := fun _ _ _ hn h => ctr_of_resC Tryz.func245 (by kernel_rfl) ree245 (by kernel_rfl) hn h
abbrev ae247 : ACode := (.seq [0] (.reg [⟨(some 2), .mv (.c (.i .i64 0)), none⟩])
  (.seq [] (.seq [5] (.reg [⟨(some 3), .mv (.t 0), none⟩,
    ⟨(some 4), .call 293 [(.t 3)], none⟩,
    ⟨(some 5), .not (.t 4), none⟩])
  (.cond (.t 5)
  (.seq [2] (.reg [⟨(some 2), .mv (.c (.i .i64 2)), none⟩])
  .ret)
  .skip))
  (.seq [2] (.reg [⟨(some 2), .mv (.c (.i .i64 0)), none⟩])
  .ret)))
theorem ree247 : Tryz.f247.body.bind (res Tryz.prog Tryz.f247.ntmps [] []) = some (erase ae247) := by kernel_rfl
def fs247 : FnS := .fn 6 ae247 [.t 2]
theorem fsok247 : FnOk Tryz.prog 247 fs247 := fun _ _ _ hn h => ctr_of_resC Tryz.func247 (by kernel_rfl) ree247 (by kernel_rfl) hn h
abbrev ae248 : ACode := (.seq [0, 1] (.reg [⟨(some 4), .mv (.c (.l [] true)), none⟩,
    ⟨(some 5), .mv (.c (.i .i64 0)), none⟩])
  (.seq [1, 6, 7] (.reg [⟨(some 9), .mv (.t 0), none⟩,
    ⟨(some 10), .mv (.t 1), none⟩,
    ⟨(some 11), .bslice 1 1 [(.i .i64 0)] [(0, (.t 10))], none⟩,
    ⟨(some 12), .call 294 [(.t 9), (.t 11)], none⟩,
    ⟨(some 8), .mv (.t 12), none⟩,
    ⟨(some 13), .extract 0 (.t 8), none⟩,
    ⟨(some 14), .extract 1 (.t 8), none⟩,
    ⟨(some 6), .mv (.t 13), none⟩,
    ⟨(some 7), .mv (.t 14), none⟩])
  (.seq [1, 6] (.seq [1, 6, 16] (.reg [⟨(some 15), .mv (.t 7), none⟩,
    ⟨(some 16), .not (.t 15), none⟩])
  (.cond (.t 16)
  (.seq [4, 5] (.reg [⟨(some 4), .mv (.c (.l [] true)), none⟩,
    ⟨(some 5), .mv (.c (.i .i64 2)), none⟩])
  .ret)
  .skip))
  (.seq [1, 6] (.seq [1, 6, 24] (.reg [⟨(some 17), .mv (.t 6), none⟩,
    ⟨(some 18), .nilck (.t 17), none⟩,
    ⟨(some 19), .faddr 2 (.t 18), none⟩,
    ⟨(some 20), .load none (.t 19), none⟩,
    ⟨(some 21), .mv (.t 1), none⟩,
    ⟨(some 22), .lookup (.i .i64) (.l [] true) false (.t 20) (.t 21), none⟩,
    ⟨(some 23), .len (.t 22), none⟩,
    ⟨(some 24), .bin .eql (.t 23) (.c (.i .i64 0)), none⟩])
  (.cond (.t 24)
  (.seq [4, 5] (.reg [⟨(some 4), .mv (.c (.l [] true)), none⟩,
    ⟨(some 5), .mv (.c (.i .i64 7)), none⟩])
  .ret)
  .skip))
  (.seq [4, 5] (.reg [⟨(some 25), .mv (.t 6), none⟩,
    ⟨(some 26), .nilck (.t 25), none⟩,
    ⟨(some 27), .faddr 2 (.t 26), none⟩,
    ⟨(some 28), .load none (.t 27), none⟩,
    ⟨(some 29), .mv (.t 1), none⟩,
    ⟨(some 30), .lookup (.i .i64) (.l [] true) false (.t 28) (.t 29), none⟩,
    ⟨(some 31), .call 149 [(.t 30)], none⟩,
    ⟨(some 4), .mv (.t 31), none⟩,
    ⟨(some 5), .mv (.c (.i .i64 0)), none⟩])
  .ret)))))
theorem ree248 : Tryz.f248.body.bind (res Tryz.prog Tryz.f248.ntmps [] []) = some (erase ae248) := by kernel_rfl
def fs248 : FnS := .fn 32 ae248 [.t 4, .t 5]
theorem fsok248 : FnOk Tryz.prog 248 fs248 := fun _ _ _ hn h => ctr_of_resC Tryz.func248 (by kernel_rfl) ree248 (by kernel_rfl) hn h
abbrev ae249 : ACode := (.seq [1, 2] (.reg [⟨(some 2), .box (.t 0), none⟩,
    ⟨(some 4), .mv (.c (.l [] true)), none⟩])
  (.seq [1, 2, 5] (.reg [⟨(some 10), .mkmap, none⟩,
    ⟨(some 11), .mv (.t 1), none⟩,
    ⟨none, .mapset (.i .i64) (.t 10) (.t 11) (.c (.b true)), none⟩,
    ⟨(some 12), .mv (.t 10), none⟩,
    ⟨(some 5), .mv (.t 12), none⟩])
  (.seq [1, 2, 5, 6] (.reg [⟨(some 6), .mv (.c (.l [] true)), none⟩])
  (.seq [6] (.seq [2, 5, 6, 7] (.reg [⟨(some 13), .mv (.t 1), none⟩,
    ⟨(some 7), .mv (.t 13), none⟩])
  (.block 0 (.loop [2, 5, 6, 7] (.seq [2, 5, 6, 7] (.seq [2, 5, 6, 7, 15] (.reg [⟨(some 14), .mv (.t 7), none⟩,
    ⟨(some 15), .bin .geq (.t 14) (.c (.i .i64 3)), none⟩])
  (.cond (.t 15)
  .skip
  (.exit 0)))
  (.seq [2, 5, 6, 7] (.block 1 (.seq [2, 5, 6, 7, 20] (.reg [⟨(some 18), .mv (.t 5), none⟩,
    ⟨(some 19), .mv (.t 7), none⟩,
    ⟨(some 20), .lookup (.i .i64) (.b false) false (.t 18) (.t 19), none⟩])
  (.cond (.t 20)
  (.seq [2, 5, 6, 7] (.reg [⟨(some 21), .mv (.t 6), none⟩,
    ⟨(some 22), .faddr 0 (.t 2), none⟩,
    ⟨(some 23), .load none (.t 22), none⟩,
    ⟨(some 24), .mv (.t 7), none⟩,
    ⟨(some 25), .bin .sub (.t 24) (.c (.i .i64 3)), none⟩,
    ⟨(some 26), .iaddr 3 none (.t 23) (.t 25), none⟩,
    ⟨(some 27), .faddr 1 (.t 26), none⟩,
    ⟨(some 28), .load none (.t 27), none⟩,
    ⟨(some 29), .append 1 8 (.t 21) (.t 28), none⟩,
    ⟨(some 6), .mv (.t 29), none⟩])
  (.seq [2, 5, 6, 7, 36, 37, 38] (.reg [⟨(some 30), .faddr 0 (.t 2), none⟩,
    ⟨(some 31), .load none (.t 30), none⟩,
    ⟨(some 32), .mv (.t 7), none⟩,
    ⟨(some 33), .bin .sub (.t 32) (.c (.i .i64 3)), none⟩,
    ⟨(some 34), .iaddr 3 none (.t 31) (.t 33), none⟩,
    ⟨(some 35), .faddr 0 (.t 34), none⟩,
    ⟨(some 36), .load none (.t 35), none⟩,
    ⟨(some 37), .len (.t 36), none⟩,
    ⟨(some 38), .mv (.c (.i .i64 0)), none⟩])
  (.block 2 (.loop [2, 5, 6, 7, 36, 37, 38] (.seq [2, 5, 6, 7, 36, 37, 38, 39] (.reg [⟨(some 39), .bin .lss (.t 38) (.t 37), none⟩])
  (.seq [2, 5, 6, 7, 36, 37, 38] (.cond (.t 39)
  .skip
  (.exit 2))
  (.seq [2, 5, 6, 7, 36, 37, 38] (.block 3 (.seq [2, 5, 6, 7, 9, 36, 37, 38] (.reg [⟨(some 40), .iaddr 1 none (.t 36) (.t 38), none⟩,
    ⟨(some 41), .load none (.t 40), none⟩,
    ⟨(some 9), .mv (.t 41), none⟩])
  (.reg [⟨(some 42), .mv (.t 5), none⟩,
    ⟨(some 43), .mv (.t 9), none⟩,
    ⟨none, .mapset (.i .i64) (.t 42) (.t 43) (.c (.b true)), none⟩])))
  (.reg [⟨(some 44), .bin .add (.t 38) (.c (.i .i64 1)), none⟩,
    ⟨(some 38), .mv (.t 44), none⟩]))))))))
  .skip)))
  (.reg [⟨(some 16), .mv (.t 7), none⟩,
    ⟨(some 17), .bin .sub (.t 16) (.c (.i .i64 1)), none⟩,
    ⟨(some 7), .mv (.t 17), none⟩]))))))
  (.seq [6] (.reg [⟨(some 45), .mv (.t 6), none⟩,
    ⟨(some 46), .call 291 [(.t 45)], none⟩])
  (.seq [4] (.reg [⟨(some 47), .mv (.t 6), none⟩,
    ⟨(some 48), .call 241 [(.t 47)], none⟩,
    ⟨(some 4), .mv (.t 48), none⟩])
  .ret))))))
theorem ree249 : Tryz.f249.body.bind (res Tryz.prog Tryz.f249.ntmps [] []) = some (erase ae249) := by kernel_rfl
def fs249 : FnS := .fn 49 ae249 [.t 4]
theorem fsok249 : FnOk Tryz.prog 249 fs249 := fun _ _ _ hn h => ctr_of_resC Tryz.func249 (by kernel_rfl) ree249 (by kernel_rfl) hn h
abbrev ae250 : ACode := (.seq [0] (.reg [⟨(some 2), .mv (.c (.b false)), none⟩])
  (.seq [2] (.reg [⟨(some 3), .mv (.t 0), none⟩,
    ⟨(some 4), .bin .geq (.t 3) (.c (.i .i64 (-1000000000))), none⟩,
    ⟨(some 5), .mv (.t 4), none⟩,
    ⟨(some 6), .mv (.t 0), (some (5, true))⟩,
    ⟨(some 7), .bin .leq (.t 6) (.c (.i .i64 1000000000)), (some (5, true))⟩,
    ⟨(some 8), .pick (.t 5) (.t 7) (.c (.b false)), none⟩,
    ⟨(some 2), .mv (.t 8), none⟩])
  .ret))
theorem ree250 : Tryz.f250.body.bind (res Tryz.prog Tryz.f250.ntmps [] []) = some (erase ae250) := by kernel_rfl
def fs250 : FnS := .fn 9 ae250 [.t 2]
theorem fsok250 : FnOk Tryz.prog 250 fs250 := fun _ _ _ hn h => ctr_of_resC Tryz.func250 (by kernel_rfl) ree250 (by kernel_rfl) hn h
abbrev ae199 : ACode := (.seq [3, 4, 5] (.reg [⟨(some 3), .box (.t 0), none⟩,
    ⟨(some 4), .box (.t 1), none⟩,
    ⟨(some 5), .box (.t 2), none⟩,
    ⟨(some 6), .mv (.c .fnil), none⟩])
  (.seq [6] (.reg [⟨(some 7), .mkf (.func 251) [] [(.t 3), (.t 4), (.t 5)], none⟩,
    ⟨(some 6), .mv (.t 7), none⟩])
  .ret))
theorem ree199 : Tryz.f199.body.bind (res Tryz.prog Tryz.f199.ntmps [] []) = some (erase ae199) := by kernel_rfl
def fs199 : FnS := .fn 8 ae199 [.t 6]
theorem fsok199 : FnOk Tryz.prog 199 fs199 := fun _ _ _ hn h => ctr_of_resC Tryz.func199 (by kernel_rfl) ree199 (by kernel_rfl) hn h
abbrev ae200 : ACode := (.seq [2, 3, 4] (.reg [⟨(some 3), .box (.t 0), none⟩,
    ⟨(some 4), .box (.t 1), none⟩,
    ⟨(some 6), .mv (.c (.b false)), none⟩])
  (.seq [2, 3, 4, 7] (.reg [⟨(some 7), .mv (.c (.i .i64 1)), none⟩])
  (.seq [4, 7] (.seq [2, 3, 4, 7, 9] (.reg [⟨(some 8), .faddr 0 (.t 4), none⟩,
    ⟨(some 9), .load none (.t 8), none⟩])
  (.block 0 (.seq [2, 3, 4, 7, 9, 10] (.reg [⟨(some 11), .bin .eql (.t 9) (.c (.i .i64 1)), none⟩,
    ⟨(some 10), .mv (.t 11), none⟩])
  (.cond (.t 10)
  (.seq [6] (.reg [⟨(some 12), .faddr 1 (.t 4), none⟩,
    ⟨(some 13), .load none (.t 12), none⟩,
    ⟨(some 14), .call 250 [(.t 13)], none⟩,
    ⟨(some 6), .mv (.t 14), none⟩])
  .ret)
  (.seq [2, 3, 4, 7, 9, 15] (.reg [⟨(some 16), .bin .eql (.t 9) (.c (.i .i64 3)), none⟩,
    ⟨(some 15), .mv (.t 16), none⟩])
  (.cond (.t 15)
  (.reg [⟨(some 17), .mv (.t 2), none⟩,
    ⟨(some 7), .mv (.t 17), none⟩])
  (.seq [3, 4, 7, 9, 18] (.seq [3, 4, 7, 9, 18] (.reg [⟨(some 19), .bin .eql (.t 9) (.c (.i .i64 4)), none⟩,
    ⟨(some 18), .mv (.t 19), none⟩])
  (.cond (.t 18)
  .skip
  (.reg [⟨(some 20), .bin .eql (.t 9) (.c (.i .i64 7)), none⟩,
    ⟨(some 18), .mv (.t 20), none⟩])))
  (.cond (.t 18)
  (.reg [⟨(some 21), .faddr 1 (.t 3), none⟩,
    ⟨(some 22), .load none (.t 21), none⟩,
    ⟨(some 7), .mv (.t 22), none⟩])
  (.seq [3, 4, 7, 9, 23] (.seq [3, 4, 7, 9, 23] (.reg [⟨(some 24), .bin .eql (.t 9) (.c (.i .i64 6)), none⟩,
    ⟨(some 23), .mv (.t 24), none⟩])
  (.cond (.t 23)
  .skip
  (.reg [⟨(some 25), .bin .eql (.t 9) (.c (.i .i64 8)), none⟩,
    ⟨(some 23), .mv (.t 25), none⟩])))
  (.cond (.t 23)
  (.seq [6] (.reg [⟨(some 26), .faddr 1 (.t 4), none⟩,
    ⟨(some 27), .load none (.t 26), none⟩,
    ⟨(some 28), .bin .geq (.t 27) (.c (.i .i64 3)), none⟩,
    ⟨(some 29), .mv (.t 28), none⟩,
    ⟨(some 30), .faddr 1 (.t 4), (some (29, true))⟩,
    ⟨(some 31), .load none (.t 30), (some (29, true))⟩,
    ⟨(some 32), .faddr 0 (.t 3), (some (29, true))⟩,
    ⟨(some 33), .load none (.t 32), (some (29, true))⟩,
    ⟨(some 34), .len (.t 33), (some (29, true))⟩,
    ⟨(some 35), .bin .add (.c (.i .i64 3)) (.t 34), (some (29, true))⟩,
    ⟨(some 36), .bin .lss (.t 31) (.t 35), (some (29, true))⟩,
    ⟨(some 37), .pick (.t 29) (.t 36) (.c (.b false)), none⟩,
    ⟨(some 6), .mv (.t 37), none⟩])
  .ret)
  (.seq [3, 4, 7, 38] (.reg [⟨(some 39), .bin .eql (.t 9) (.c (.i .i64 5)), none⟩,
    ⟨(some 38), .mv (.t 39), none⟩])
  (.cond (.t 38)
  (.reg [⟨(some 40), .faddr 2 (.t 3), none⟩,
    ⟨(some 41), .load none (.t 40), none⟩,
    ⟨(some 42), .len (.t 41), none⟩,
    ⟨(some 7), .mv (.t 42), none⟩])
  .skip))))))))))))
  (.seq [6] (.reg [⟨(some 43), .faddr 1 (.t 4), none⟩,
    ⟨(some 44), .load none (.t 43), none⟩,
    ⟨(some 45), .bin .geq (.t 44) (.c (.i .i64 0)), none⟩,
    ⟨(some 46), .mv (.t 45), none⟩,
    ⟨(some 47), .faddr 1 (.t 4), (some (46, true))⟩,
    ⟨(some 48), .load none (.t 47), (some (46, true))⟩,
    ⟨(some 49), .mv (.t 7), (some (46, true))⟩,
    ⟨(some 50), .bin .lss (.t 48) (.t 49), (some (46, true))⟩,
    ⟨(some 51), .pick (.t 46) (.t 50) (.c (.b false)), none⟩,
    ⟨(some 6), .mv (.t 51), none⟩])
  .ret))))
theorem ree200 : Tryz.f200.body.bind (res Tryz.prog Tryz.f200.ntmps [] []) = some (erase ae200) := by kernel_rfl
def fs200 : FnS := .fn 52 ae200 [.t 6]
theorem fsok200 : FnOk Tryz.prog 200 fs200 := fun _ _ _ hn h => ctr_of_resC Tryz.func200 (by kernel_rfl) ree200 (by kernel_rfl) hn h
abbrev ae201 : ACode := (.seq [0] (.reg [⟨(some 2), .mv (.c .inil), none⟩])
  (.seq [] (.seq [3] (.reg [⟨(some 3), .mv (.t 0), none⟩])
  (.block 0 (.seq [3, 4] (.reg [⟨(some 5), .bin .eql (.t 3) (.c (.i .i64 5)), none⟩,
    ⟨(some 4), .mv (.t 5), none⟩])
  (.cond (.t 4)
  (.seq [2] (.reg [⟨(some 6), .build [] [], none⟩,
    ⟨(some 7), .mkifc 296 (.t 6), none⟩,
    ⟨(some 2), .mv (.t 7), none⟩])
  .ret)
  (.seq [3, 8] (.seq [3, 8] (.reg [⟨(some 9), .bin .eql (.t 3) (.c (.i .i64 1)), none⟩,
    ⟨(some 8), .mv (.t 9), none⟩])
  (.cond (.t 8)
  .skip
  (.seq [3, 8] (.reg [⟨(some 10), .bin .eql (.t 3) (.c (.i .i64 2)), none⟩,
    ⟨(some 8), .mv (.t 10), none⟩])
  (.cond (.t 8)
  .skip
  (.seq [3, 8] (.reg [⟨(some 11), .bin .eql (.t 3) (.c (.i .i64 3)), none⟩,
    ⟨(some 8), .mv (.t 11), none⟩])
  (.cond (.t 8)
  .skip
  (.seq [3, 8] (.reg [⟨(some 12), .bin .eql (.t 3) (.c (.i .i64 6)), none⟩,
    ⟨(some 8), .mv (.t 12), none⟩])
  (.cond (.t 8)
  .skip
  (.reg [⟨(some 13), .bin .eql (.t 3) (.c (.i .i64 18)), none⟩,
    ⟨(some 8), .mv (.t 13), none⟩])))))))))
  (.cond (.t 8)
  (.seq [2] (.reg [⟨(some 14), .mkifc 295 (.c (.i .i64 0)), none⟩,
    ⟨(some 2), .mv (.t 14), none⟩])
  .ret)
  (.seq [3, 15] (.seq [3, 15] (.reg [⟨(some 16), .bin .eql (.t 3) (.c (.i .i64 4)), none⟩,
    ⟨(some 15), .mv (.t 16), none⟩])
  (.cond (.t 15)
  .skip
  (.seq [3, 15] (.reg [⟨(some 17), .bin .eql (.t 3) (.c (.i .i64 8)), none⟩,
    ⟨(some 15), .mv (.t 17), none⟩])
  (.cond (.t 15)
  .skip
  (.reg [⟨(some 18), .bin .eql (.t 3) (.c (.i .i64 17)), none⟩,
    ⟨(some 15), .mv (.t 18), none⟩])))))
  (.cond (.t 15)
  (.seq [2] (.reg [⟨(some 19), .mkifc 295 (.c (.i .i64 1)), none⟩,
    ⟨(some 2), .mv (.t 19), none⟩])
  .ret)
  (.seq [3, 20] (.seq [3, 20] (.reg [⟨(some 21), .bin .eql (.t 3) (.c (.i .i64 7)), none⟩,
    ⟨(some 20), .mv (.t 21), none⟩])
  (.cond (.t 20)
  .skip
  (.seq [3, 20] (.reg [⟨(some 22), .bin .eql (.t 3) (.c (.i .i64 9)), none⟩,
    ⟨(some 20), .mv (.t 22), none⟩])
  (.cond (.t 20)
  .skip
  (.seq [3, 20] (.reg [⟨(some 23), .bin .eql (.t 3) (.c (.i .i64 11)), none⟩,
    ⟨(some 20), .mv (.t 23), none⟩])
  (.cond (.t 20)
  .skip
  (.seq [3, 20] (.reg [⟨(some 24), .bin .eql (.t 3) (.c (.i .i64 12)), none⟩,
    ⟨(some 20), .mv (.t 24), none⟩])
  (.cond (.t 20)
  .skip
  (.seq [3, 20] (.reg [⟨(some 25), .bin .eql (.t 3) (.c (.i .i64 13)), none⟩,
    ⟨(some 20), .mv (.t 25), none⟩])
  (.cond (.t 20)
  .skip
  (.seq [3, 20] (.reg [⟨(some 26), .bin .eql (.t 3) (.c (.i .i64 14)), none⟩,
    ⟨(some 20), .mv (.t 26), none⟩])
  (.cond (.t 20)
  .skip
  (.seq [3, 20] (.reg [⟨(some 27), .bin .eql (.t 3) (.c (.i .i64 15)), none⟩,
    ⟨(some 20), .mv (.t 27), none⟩])
  (.cond (.t 20)
  .skip
  (.reg [⟨(some 28), .bin .eql (.t 3) (.c (.i .i64 16)), none⟩,
    ⟨(some 20), .mv (.t 28), none⟩])))))))))))))))
  (.cond (.t 20)
  (.seq [2] (.reg [⟨(some 29), .mkifc 295 (.c (.i .i64 2)), none⟩,
    ⟨(some 2), .mv (.t 29), none⟩])
  .ret)
  (.seq [30] (.reg [⟨(some 31), .bin .eql (.t 3) (.c (.i .i64 10)), none⟩,
    ⟨(some 30), .mv (.t 31), none⟩])
  (.cond (.t 30)
  (.seq [2] (.reg [⟨(some 32), .mkifc 295 (.c (.i .i64 3)), none⟩,
    ⟨(some 2), .mv (.t 32), none⟩])
  .ret)
  .skip))))))))))))
  (.seq [2] (.reg [⟨(some 2), .mv (.c .inil), none⟩])
  .ret)))
theorem ree201 : Tryz.f201.body.bind (res Tryz.prog Tryz.f201.ntmps [] []) = some (erase ae201) := by kernel_rfl
def fs201 : FnS := .fn 33 ae201 [.t 2]
theorem fsok201 : FnOk Tryz.prog 201 fs201 := fun _ _ _ hn h => ctr_of_resC Tryz.func201 (by kernel_rfl) ree201 (by kernel_rfl) hn h
abbrev ae411 : ACode := (.seq [0] (.reg [⟨(some 4), .box (.t 1), none⟩,
    ⟨(some 5), .box (.t 2), none⟩,
    ⟨(some 6), .mv (.c (.i .i64 0)), none⟩])
  (.seq [6] (.reg [⟨(some 7), .mv (.t 0), none⟩,
    ⟨(some 6), .mv (.t 7), none⟩])
  .ret))
theorem ree411 : Tryz.f411.body.bind (res Tryz.prog Tryz.f411.ntmps [] []) = some (erase ae411) := by kernel_rfl
def fs411 : FnS := .fn 8 ae411 [.t 6]
theorem fsok411 : FnOk Tryz.prog 411 fs411 := fun _ _ _ hn h => ctr_of_resC Tryz.func411 (by kernel_rfl) ree411 (by kernel_rfl) hn h
abbrev ae412 : ACode := (.seq [4, 5] (.reg [⟨(some 3), .box (.t 0), none⟩,
    ⟨(some 4), .box (.t 1), none⟩,
    ⟨(some 5), .box (.t 2), none⟩,
    ⟨(some 6), .mv (.c (.i .i64 0)), none⟩])
  (.seq [6] (.reg [⟨(some 7), .faddr 2 (.t 4), none⟩,
    ⟨(some 8), .load none (.t 7), none⟩,
    ⟨(some 9), .faddr 1 (.t 5), none⟩,
    ⟨(some 10), .load none (.t 9), none⟩,
    ⟨(some 11), .iaddr 1 none (.t 8) (.t 10), none⟩,
    ⟨(some 12), .load none (.t 11), none⟩,
    ⟨(some 6), .mv (.t 12), none⟩])
  .ret))
theorem ree412 : Tryz.f412.body.bind (res Tryz.prog Tryz.f412.ntmps [] []) = some (erase ae412) := by kernel_rfl
def fs412 : FnS := .fn 13 ae412 [.t 6]
theorem fsok412 : FnOk Tryz.prog 412 fs412 := fun _ _ _ hn h => ctr_of_resC Tryz.func412 (by kernel_rfl) ree412 (by kernel_rfl) hn h
abbrev ae267 : ACode := (.seq [0] (.reg [⟨(some 2), .mv (.c (.i .i64 0)), none⟩])
  (.seq [] (.seq [3] (.reg [⟨(some 3), .mv (.t 0), none⟩])
  (.block 0 (.seq [3, 4] (.reg [⟨(some 5), .bin .eql (.t 3) (.c (.i .i64 5)), none⟩,
    ⟨(some 4), .mv (.t 5), none⟩])
  (.cond (.t 4)
  (.seq [2] (.reg [⟨(some 2), .mv (.c (.i .i64 1)), none⟩])
  .ret)
  (.seq [6] (.seq [3, 6] (.reg [⟨(some 7), .bin .eql (.t 3) (.c (.i .i64 6)), none⟩,
    ⟨(some 6), .mv (.t 7), none⟩])
  (.cond (.t 6)
  .skip
  (.reg [⟨(some 8), .bin .eql (.t 3) (.c (.i .i64 7)), none⟩,
    ⟨(some 6), .mv (.t 8), none⟩])))
  (.cond (.t 6)
  (.seq [2] (.reg [⟨(some 2), .mv (.c (.i .i64 2)), none⟩])
  .ret)
  .skip))))))
  (.seq [2] (.reg [⟨(some 2), .mv (.c (.i .i64 0)), none⟩])
  .ret)))
theorem ree267 : Tryz.f267.body.bind (res Tryz.prog Tryz.f267.ntmps [] []) = some (erase ae267) := by kernel_rfl
def fs267 : FnS := .fn 9 ae267 [.t 2]
theorem fsok267 : FnOk Tryz.prog 267 fs267 := fun _ _ _ hn h => ctr_of_resC Tryz.func267 (by kernel_rfl) ree267 (by kernel_rfl) hn h
abbrev ae268 : ACode := (.seq [1] (.reg [⟨(some 1), .box (.t 0), none⟩,
    ⟨(some 2), .mv (.c (.b false)), none⟩])
  (.seq [2] (.reg [⟨(some 3), .faddr 0 (.t 1), none⟩,
    ⟨(some 4), .load none (.t 3), none⟩,
    ⟨(some 5), .bin .geq (.t 4) (.c (.i .i64 2)), none⟩,
    ⟨(some 6), .mv (.t 5), none⟩,
    ⟨(some 7), .faddr 0 (.t 1), (some (6, true))⟩,
    ⟨(some 8), .load none (.t 7), (some (6, true))⟩,
    ⟨(some 9), .bin .leq (.t 8) (.c (.i .i64 4)), (some (6, true))⟩,
    ⟨(some 10), .pick (.t 6) (.t 9) (.c (.b false)), none⟩,
    ⟨(some 2), .mv (.t 10), none⟩])
  .ret))
theorem ree268 : Tryz.f268.body.bind (res Tryz.prog Tryz.f268.ntmps [] []) = some (erase ae268) := by kernel_rfl
def fs268 : FnS := .fn 11 ae268 [.t 2]
theorem fsok268 : FnOk Tryz.prog 268 fs268 := fun _ _ _ hn h => ctr_of_resC Tryz.func268 (by kernel_rfl) ree268 (by kernel_rfl) hn h
abbrev ae269 : ACode := (.seq [0, 1] (.reg [⟨(some 4), .mv (.c (.b false)), none⟩])
  (.seq [4] (.reg [⟨(some 5), .mv (.t 1), none⟩,
    ⟨(some 6), .len (.t 5), none⟩,
    ⟨(some 7), .bin .leq (.t 6) (.c (.i .i64 2)), none⟩,
    ⟨(some 8), .mv (.t 7), none⟩,
    ⟨(some 9), .mv (.t 1), (some (8, true))⟩,
    ⟨(some 10), .mv (.t 0), (some (8, true))⟩,
    ⟨(some 11), .mkf (.func 301) [(.t 10)] [], (some (8, true))⟩,
    ⟨(some 12), .call 215 [(.t 9), (.t 11)], (some (8, true))⟩,
    ⟨(some 13), .pick (.t 8) (.t 12) (.c (.b false)), none⟩,
    ⟨(some 4), .mv (.t 13), none⟩])
  .ret))
theorem ree269 : Tryz.f269.body.bind (res Tryz.prog Tryz.f269.ntmps [] []) = some (erase ae269) := by kernel_rfl
def fs269 : FnS := .fn 14 ae269 [.t 4]
theorem fsok269 : FnOk Tryz.prog 269 fs269 := fun _ _ _ hn h => ctr_of_resC Tryz.func269 (by kernel_rfl) ree269 (by kernel_rfl) hn h
abbrev ae270 : ACode := (.seq [0, 1] (.reg [⟨(some 4), .mv (.c (.b false)), none⟩])
  (.seq [4] (.reg [⟨(some 5), .mv (.t 1), none⟩,
    ⟨(some 6), .bin .geq (.t 5) (.c (.i .i64 0)), none⟩,
    ⟨(some 7), .mv (.t 6), none⟩,
    ⟨(some 8), .mv (.t 1), (some (7, true))⟩,
    ⟨(some 9), .mv (.t 0), (some (7, true))⟩,
    ⟨(some 10), .nilck (.t 9), (some (7, true))⟩,
    ⟨(some 11), .faddr 0 (.t 10), (some (7, true))⟩,
    ⟨(some 12), .faddr 0 (.t 11), (some (7, true))⟩,
    ⟨(some 13), .load none (.t 12), (some (7, true))⟩,
    ⟨(some 14), .len (.t 13), (some (7, true))⟩,
    ⟨(some 15), .bin .add (.c (.i .i64 3)) (.t 14), (some (7, true))⟩,
    ⟨(some 16), .bin .lss (.t 8) (.t 15), (some (7, true))⟩,
    ⟨(some 17), .pick (.t 7) (.t 16) (.c (.b false)), none⟩,
    ⟨(some 4), .mv (.t 17), none⟩])
  .ret))
theorem ree270 : Tryz.f270.body.bind (res Tryz.prog Tryz.f270.ntmps [] []) = some (erase ae270) := by kernel_rfl
def fs270 : FnS := .fn 18 ae270 [.t 4]
theorem fsok270 : FnOk Tryz.prog 270 fs270 := fun _ _ _ hn h => ctr_of_resC Tryz.func270 (by kernel_rfl) ree270 (by kernel_rfl) hn h
abbrev ae271 : ACode := (.seq [1, 2, 3, 4] (.reg [⟨(some 4), .box (.t 0), none⟩,
    ⟨(some 5), .mv (.c (.b false)), none⟩])
  (.seq [5] (.reg [⟨(some 6), .load none (.t 1), none⟩,
    ⟨(some 7), .load (some 6) (.t 4), none⟩,
    ⟨(some 8), .load none (.t 2), none⟩,
    ⟨(some 9), .load none (.t 3), none⟩,
    ⟨(some 10), .bin .sub (.t 9) (.c (.i .i64 1)), none⟩,
    ⟨(some 11), .call 219 [(.t 6), (.t 7), (.t 8), (.t 10)], none⟩,
    ⟨(some 5), .mv (.t 11), none⟩])
  .ret))
theorem ree271 : Tryz.f271.body.bind (res Tryz.prog Tryz.f271.ntmps [] []) = some (erase ae271) := by kernel_rfl
def fs271 : FnS := .fn 12 ae271 [.t 5]
theorem fsok271 : FnOk Tryz.prog 271 fs271 := fun _ _ _ hn h => ctr_of_resC Tryz.func271 (by kernel_rfl) ree271 (by kernel_rfl) hn h
abbrev ae273 : ACode := (.seq [2, 3] (.reg [⟨(some 2), .box (.t 0), none⟩,
    ⟨(some 3), .box (.t 1), none⟩,
    ⟨(some 4), .mv (.c .fnil), none⟩])
  (.seq [4] (.reg [⟨(some 5), .mkf (.func 302) [] [(.t 2), (.t 3)], none⟩,
    ⟨(some 4), .mv (.t 5), none⟩])
  .ret))
theorem ree273 : Tryz.f273.body.bind (res Tryz.prog Tryz.f273.ntmps [] []) = some (erase ae273) := by kernel_rfl
def fs273 : FnS := .fn 6 ae273 [.t 4]
theorem fsok273 : FnOk Tryz.prog 273 fs273 := fun _ _ _ hn h => ctr_of_resC Tryz.func273 (by kernel_rfl) ree273 (by kernel_rfl) hn h
abbrev acAe274 : ACode := (.reg [⟨(some 4), .alloc [(.b false)], none⟩])
def ose274 : List AOper := [⟨(some 5), .mkf (.func 307) [] [(.t 4)], none⟩]
abbrev acCe274 : ACode := (.seq [4] (.reg [⟨(some 6), .mv (.t 0), none⟩,
    ⟨(some 7), .mv (.t 1), none⟩,
    ⟨(some 8), .call 308 [(.t 6), (.t 7)], none⟩,
    ⟨(some 9), .call 309 [(.t 8)], none⟩])
  (.seq [4] (.reg [⟨none, .store 1 (.t 4) (.c (.b true)), none⟩])
  .ret))
theorem rese274 : Tryz.f274.body.bind (resDfr Tryz.prog Tryz.f274.ntmps [] []) = some (erase acAe274, ose274, (.t 5), erase acCe274) := by kernel_rfl
def fs274 : FnS := .dfr 10 acAe274 ose274 (.t 5) acCe274 [.c 4 none] [0, 1, 4] [0, 1, 4]
theorem fsok274 : FnOk Tryz.prog 274 fs274 := fun _ _ _ hn h => ctr_of_dfr Tryz.func274 (by kernel_rfl) rese274 (by kernel_rfl) hn h
abbrev ae210 : ACode := (.seq [0, 1, 2, 3] (.reg [⟨(some 5), .mv (.c (.b false)), none⟩])
  (.seq [5] (.dreg [5] [⟨0, ⟨(some 6), .faddr 5 (.t 1), none⟩, [], []⟩,
    ⟨1, ⟨(some 7), .load none (.t 6), none⟩, [], []⟩,
    ⟨2, ⟨(some 8), .iaddr 6 none (.t 7) (.c (.i .i64 1)), none⟩, [], []⟩,
    ⟨3, ⟨(some 9), .load (some 6) (.t 8), none⟩, [], []⟩,
    ⟨4, ⟨(some 10), .load none (.t 2), none⟩, [], []⟩,
    ⟨5, ⟨(some 11), .mv (.t 0), none⟩, [], []⟩,
    ⟨6, ⟨(some 12), .load none (.t 3), none⟩, [], []⟩,
    ⟨7, ⟨(some 13), .call 161 [(.t 9), (.t 10), (.t 11), (.t 12)], none⟩, [], []⟩,
    ⟨8, ⟨(some 5), .mv (.t 13), none⟩, [], []⟩])
  .ret))
theorem ree210 : Tryz.f210.body.bind (res Tryz.prog Tryz.f210.ntmps [] []) = some (erase ae210) := by kernel_rfl
def fs210 : FnS := .fn 14 ae210 [.t 5]
theorem fsok210 : FnOk Tryz.prog 210 fs210 := fun _ _ _ hn h => ctr_of_resC Tryz.func210 (by kernel_rfl) ree210 (by kernel_rfl) hn h
abbrev ae211 : ACode := (.seq [0] (.reg [⟨(some 2), .mv (.c (.l [] true)), none⟩])
  (.seq [2] (.reg [⟨(some 3), .mv (.t 0), none⟩,
    ⟨(some 4), .mv (.t 0), none⟩,
    ⟨(some 5), .len (.t 4), none⟩,
    ⟨(some 6), .mv (.t 0), none⟩,
    ⟨(some 7), .len (.t 6), none⟩,
    ⟨(some 8), .slice 7 (.t 3) none (some (.t 5)) (some (.t 7)), none⟩,
    ⟨(some 2), .mv (.t 8), none⟩])
  .ret))
theorem ree211 : Tryz.f211.body.bind (res Tryz.prog Tryz.f211.ntmps [] []) = some (erase ae211) := by kernel_rfl
def fs211 : FnS := .fn 9 ae211 [.t 2]
theorem fsok211 : FnOk Tryz.prog 211 fs211 := fun _ _ _ hn h => ctr_of_resC Tryz.func211 (by kernel_rfl) ree211 (by kernel_rfl) hn h
abbrev ae324 : ACode := (.seq [3, 4, 5] (.reg [⟨(some 3), .box (.t 0), none⟩,
    ⟨(some 4), .box (.t 1), none⟩,
    ⟨(some 5), .box (.t 2), none⟩,
    ⟨(some 6), .mv (.c (.b false)), none⟩,
    ⟨(some 7), .mv (.c (.i .i64 0)), none⟩])
  (.seq [4, 5, 8, 9] (.reg [⟨(some 11), .load (some 2) (.t 3), none⟩,
    ⟨(some 12), .load (some 6) (.t 4), none⟩,
    ⟨(some 13), .load (some 6) (.t 5), none⟩,
    ⟨(some 14), .bslice 6 2 [(.i .i64 0), (.i .i64 0), (.l [] true), (.i .i64 0), (.i .i64 0), (.l [] true)] [(0, (.t 12)), (1, (.t 13))], none⟩,
    ⟨(some 15), .call 119 [(.t 11), (.t 14)], none⟩,
    ⟨(some 10), .mv (.t 15), none⟩,
    ⟨(some 16), .extract 0 (.t 10), none⟩,
    ⟨(some 17), .extract 1 (.t 10), none⟩,
    ⟨(some 8), .mv (.t 16), none⟩,
    ⟨(some 9), .mv (.t 17), none⟩])
  (.seq [4, 5, 8] (.seq [4, 5, 8, 19] (.reg [⟨(some 18), .mv (.t 9), none⟩,
    ⟨(some 19), .not (.t 18), none⟩])
  (.cond (.t 19)
  (.seq [6, 7] (.reg [⟨(some 6), .mv (.c (.b false)), none⟩,
    ⟨(some 7), .mv (.c (.i .i64 2)), none⟩])
  .ret)
  .skip))
  (.seq [6, 7] (.reg [⟨(some 20), .mv (.t 8), none⟩,
    ⟨(some 21), .load (some 6) (.t 4), none⟩,
    ⟨(some 22), .load (some 6) (.t 5), none⟩,
    ⟨(some 23), .call 181 [(.t 20), (.t 21), (.t 22)], none⟩,
    ⟨(some 6), .mv (.t 23), none⟩,
    ⟨(some 7), .mv (.c (.i .i64 0)), none⟩])
  .ret))))
theorem ree324 : Tryz.f324.body.bind (res Tryz.prog Tryz.f324.ntmps [] []) = some (erase ae324) := by kernel_rfl
def fs324 : FnS := .fn 24 ae324 [.t 6, .t 7]
theorem fsok324 : FnOk Tryz.prog 324 fs324 := fun _ _ _ hn h => ctr_of_resC Tryz.func324 (by kernel_rfl) ree324 (by kernel_rfl) hn h
abbrev ae325 : ACode := (.seq [1, 2] (.reg [⟨(some 2), .box (.t 0), none⟩,
    ⟨(some 4), .mv (.c (.l [] true)), none⟩])
  (.seq [2] (.seq [2, 6] (.reg [⟨(some 6), .mv (.t 1), none⟩])
  (.block 0 (.rangef [2] (.t 6) [7]
  (.reg [⟨(some 5), .mv (.t 7), none⟩])
  (.block 1 (.reg [⟨(some 8), .load none (.t 2), none⟩,
    ⟨(some 9), .mv (.t 5), none⟩,
    ⟨(some 10), .bslice 1 1 [(.i .i64 0)] [(0, (.t 9))], none⟩,
    ⟨(some 11), .append 1 8 (.t 8) (.t 10), none⟩,
    ⟨none, .store 1 (.t 2) (.t 11), none⟩])))))
  (.seq [4] (.reg [⟨(some 12), .load none (.t 2), none⟩,
    ⟨(some 4), .mv (.t 12), none⟩])
  .ret)))
theorem ree325 : Tryz.f325.body.bind (res Tryz.prog Tryz.f325.ntmps [] []) = some (erase ae325) := by kernel_rfl
def fs325 : FnS := .fn 13 ae325 [.t 4]
theorem fsok325 : FnOk Tryz.prog 325 fs325 := fun _ _ _ hn h => ctr_of_resC Tryz.func325 (by kernel_rfl) ree325 (by kernel_rfl) hn h
abbrev ae327 : ACode := (.seq [0] (.reg [⟨(some 2), .mv (.c (.i .i64 0)), none⟩])
  (.seq [0] (.cond (.c (.b false))
  (.seq [2] (.reg [⟨(some 3), .mv (.t 0), none⟩,
    ⟨(some 4), .conv .u32 (.t 3), none⟩,
    ⟨(some 5), .call 353 [(.t 4)], none⟩,
    ⟨(some 2), .mv (.t 5), none⟩])
  .ret)
  .skip)
  (.seq [2] (.reg [⟨(some 6), .mv (.t 0), none⟩,
    ⟨(some 7), .call 354 [(.t 6)], none⟩,
    ⟨(some 2), .mv (.t 7), none⟩])
  .ret)))
theorem ree327 : Tryz.f327.body.bind (res Tryz.prog Tryz.f327.ntmps [] []) = some (erase ae327) := by kernel_rfl
def fs327 : FnS := .fn 8 ae327 [.t 2]
theorem fsok327 : FnOk Tryz.prog 327 fs327 := fun _ _ _ hn h => ctr_of_resC Tryz.func327 (by kernel_rfl) ree327 (by kernel_rfl) hn h
abbrev ae326 : ACode := (.seq [0, 1, 2, 3, 8] (.reg [⟨(some 8), .mv (.c (.b true)), none⟩])
  (.seq [0, 1, 2, 3, 8, 9] (.reg [⟨(some 9), .mv (.c (.b true)), none⟩])
  (.block 0 (.loop [0, 1, 2, 3, 8, 9] (.block 1 (.seq [0, 1, 2, 3, 8, 9, 10] (.reg [⟨(some 19), .mv (.t 2), none⟩,
    ⟨(some 20), .mv (.t 1), none⟩,
    ⟨(some 21), .bin .sub (.t 19) (.t 20), none⟩,
    ⟨(some 10), .mv (.t 21), none⟩])
  (.seq [0, 1, 2, 3, 8, 9, 10] (.seq [0, 1, 2, 3, 8, 9, 10, 23] (.reg [⟨(some 22), .mv (.t 10), none⟩,
    ⟨(some 23), .bin .leq (.t 22) (.c (.i .i64 12)), none⟩])
  (.cond (.t 23)
  (.seq [] (.reg [⟨(some 24), .mv (.t 0), none⟩,
    ⟨(some 25), .mv (.t 1), none⟩,
    ⟨(some 26), .mv (.t 2), none⟩,
    ⟨(some 27), .call 344 [(.t 24), (.t 25), (.t 26)], none⟩])
  .ret)
  .skip))
  (.seq [0, 1, 2, 3, 8, 9, 10] (.seq [0, 1, 2, 3, 8, 9, 10, 29] (.reg [⟨(some 28), .mv (.t 3), none⟩,
    ⟨(some 29), .bin .eql (.t 28) (.c (.i .i64 0)), none⟩])
  (.cond (.t 29)
  (.seq [] (.reg [⟨(some 30), .mv (.t 0), none⟩,
    ⟨(some 31), .mv (.t 1), none⟩,
    ⟨(some 32), .mv (.t 2), none⟩,
    ⟨(some 33), .call 345 [(.t 30), (.t 31), (.t 32)], none⟩])
  .ret)
  .skip))
  (.seq [0, 1, 2, 3, 8, 9, 10] (.seq [0, 1, 2, 3, 8, 9, 10, 35] (.reg [⟨(some 34), .mv (.t 8), none⟩,
    ⟨(some 35), .not (.t 34), none⟩])
  (.cond (.t 35)
  (.seq [0, 1, 2, 3, 8, 9, 10] (.reg [⟨(some 36), .mv (.t 0), none⟩,
    ⟨(some 37), .mv (.t 1), none⟩,
    ⟨(some 38), .mv (.t 2), none⟩,
    ⟨(some 39), .call 346 [(.t 36), (.t 37), (.t 38)], none⟩])
  (.reg [⟨(some 40), .mv (.t 3), none⟩,
    ⟨(some 41), .bin .sub (.t 40) (.c (.i .i64 1)), none⟩,
    ⟨(some 3), .mv (.t 41), none⟩]))
  .skip))
  (.seq [0, 1, 2, 3, 8, 9, 10, 11, 12] (.reg [⟨(some 43), .mv (.t 0), none⟩,
    ⟨(some 44), .mv (.t 1), none⟩,
    ⟨(some 45), .mv (.t 2), none⟩,
    ⟨(some 46), .call 347 [(.t 43), (.t 44), (.t 45)], none⟩,
    ⟨(some 42), .mv (.t 46), none⟩,
    ⟨(some 47), .extract 0 (.t 42), none⟩,
    ⟨(some 48), .extract 1 (.t 42), none⟩,
    ⟨(some 11), .mv (.t 47), none⟩,
    ⟨(some 12), .mv (.t 48), none⟩])
  (.seq [0, 1, 2, 3, 8, 9, 10, 11, 12] (.seq [0, 1, 2, 3, 8, 9, 10, 11, 12, 50] (.reg [⟨(some 49), .mv (.t 12), none⟩,
    ⟨(some 50), .bin .eql (.t 49) (.c (.i .i64 2)), none⟩])
  (.cond (.t 50)
  (.seq [0, 1, 2, 3, 8, 9, 10, 11] (.reg [⟨(some 51), .mv (.t 0), none⟩,
    ⟨(some 52), .mv (.t 1), none⟩,
    ⟨(some 53), .mv (.t 2), none⟩,
    ⟨(some 54), .call 348 [(.t 51), (.t 52), (.t 53)], none⟩])
  (.seq [0, 1, 2, 3, 8, 9, 10, 11] (.reg [⟨(some 55), .mv (.t 2), none⟩,
    ⟨(some 56), .bin .sub (.t 55) (.c (.i .i64 1)), none⟩,
    ⟨(some 57), .mv (.t 11), none⟩,
    ⟨(some 58), .mv (.t 1), none⟩,
    ⟨(some 59), .bin .sub (.t 57) (.t 58), none⟩,
    ⟨(some 60), .bin .sub (.t 56) (.t 59), none⟩,
    ⟨(some 11), .mv (.t 60), none⟩])
  (.reg [⟨(some 12), .mv (.c (.i .i64 1)), none⟩])))
  .skip))
  (.seq [0, 1, 2, 3, 8, 9, 10, 11] (.seq [0, 1, 2, 3, 8, 9, 10, 11, 68] (.reg [⟨(some 61), .mv (.t 8), none⟩,
    ⟨(some 62), .mv (.t 61), none⟩,
    ⟨(some 63), .mv (.t 9), (some (62, true))⟩,
    ⟨(some 64), .pick (.t 62) (.t 63) (.c (.b false)), none⟩,
    ⟨(some 65), .mv (.t 64), none⟩,
    ⟨(some 66), .mv (.t 12), (some (65, true))⟩,
    ⟨(some 67), .bin .eql (.t 66) (.c (.i .i64 1)), (some (65, true))⟩,
    ⟨(some 68), .pick (.t 65) (.t 67) (.c (.b false)), none⟩])
  (.cond (.t 68)
  (.seq [0, 1, 2, 3, 8, 9, 10, 11, 72] (.reg [⟨(some 69), .mv (.t 0), none⟩,
    ⟨(some 70), .mv (.t 1), none⟩,
    ⟨(some 71), .mv (.t 2), none⟩,
    ⟨(some 72), .call 349 [(.t 69), (.t 70), (.t 71)], none⟩])
  (.cond (.t 72)
  .ret
  .skip))
  .skip))
  (.seq [0, 1, 2, 3, 10, 11] (.seq [0, 1, 2, 3, 8, 9, 10, 11, 87] (.dreg [0, 1, 2, 3, 8, 9, 10, 11, 87] [⟨0, ⟨(some 73), .mv (.t 1), none⟩, [], []⟩,
    ⟨1, ⟨(some 74), .bin .gtr (.t 73) (.c (.i .i64 0)), none⟩, [], []⟩,
    ⟨2, ⟨(some 75), .mv (.t 74), none⟩, [], []⟩,
    ⟨3, ⟨(some 76), .mv (.t 0), (some (75, true))⟩, [], []⟩,
    ⟨4, ⟨(some 77), .mv (.t 1), (some (75, true))⟩, [], []⟩,
    ⟨5, ⟨(some 78), .bin .sub (.t 77) (.c (.i .i64 1)), (some (75, true))⟩, [], []⟩,
    ⟨6, ⟨(some 79), .iaddr 1 none (.t 76) (.t 78), (some (75, true))⟩, [], []⟩,
    ⟨7, ⟨(some 80), .load none (.t 79), (some (75, true))⟩, [], []⟩,
    ⟨8, ⟨(some 81), .mv (.t 0), (some (75, true))⟩, [], []⟩,
    ⟨9, ⟨(some 82), .mv (.t 11), (some (75, true))⟩, [], []⟩,
    ⟨10, ⟨(some 83), .iaddr 1 none (.t 81) (.t 82), (some (75, true))⟩, [], []⟩,
    ⟨11, ⟨(some 84), .load none (.t 83), (some (75, true))⟩, [], []⟩,
    ⟨12, ⟨(some 85), .call 350 [(.t 80), (.t 84)], (some (75, true))⟩, [], []⟩,
    ⟨13, ⟨(some 86), .not (.t 85), (some (75, true))⟩, [], []⟩,
    ⟨14, ⟨(some 87), .pick (.t 75) (.t 86) (.c (.b false)), none⟩, [], []⟩])
  (.cond (.t 87)
  (.seq [0, 2, 3, 8, 9, 13] (.reg [⟨(some 88), .mv (.t 0), none⟩,
    ⟨(some 89), .mv (.t 1), none⟩,
    ⟨(some 90), .mv (.t 2), none⟩,
    ⟨(some 91), .mv (.t 11), none⟩,
    ⟨(some 92), .call 351 [(.t 88), (.t 89), (.t 90), (.t 91)], none⟩,
    ⟨(some 13), .mv (.t 92), none⟩])
  (.seq [0, 1, 2, 3, 8, 9] (.reg [⟨(some 93), .mv (.t 13), none⟩,
    ⟨(some 1), .mv (.t 93), none⟩])
  (.exit 1)))
  .skip))
  (.seq [0, 1, 2, 3, 10, 14, 15] (.reg [⟨(some 95), .mv (.t 0), none⟩,
    ⟨(some 96), .mv (.t 1), none⟩,
    ⟨(some 97), .mv (.t 2), none⟩,
    ⟨(some 98), .mv (.t 11), none⟩,
    ⟨(some 99), .call 352 [(.t 95), (.t 96), (.t 97), (.t 98)], none⟩,
    ⟨(some 94), .mv (.t 99), none⟩,
    ⟨(some 100), .extract 0 (.t 94), none⟩,
    ⟨(some 101), .extract 1 (.t 94), none⟩,
    ⟨(some 14), .mv (.t 100), none⟩,
    ⟨(some 15), .mv (.t 101), none⟩])
  (.seq [0, 1, 2, 3, 9, 10, 14] (.reg [⟨(some 102), .mv (.t 15), none⟩,
    ⟨(some 9), .mv (.t 102), none⟩])
  (.seq [0, 1, 2, 3, 9, 10, 14, 16, 17] (.reg [⟨(some 103), .mv (.t 14), none⟩,
    ⟨(some 104), .mv (.t 1), none⟩,
    ⟨(some 105), .bin .sub (.t 103) (.t 104), none⟩,
    ⟨(some 106), .mv (.t 2), none⟩,
    ⟨(some 107), .mv (.t 14), none⟩,
    ⟨(some 108), .bin .sub (.t 106) (.t 107), none⟩,
    ⟨(some 16), .mv (.t 105), none⟩,
    ⟨(some 17), .mv (.t 108), none⟩])
  (.seq [0, 1, 2, 3, 9, 14, 16, 17, 18] (.reg [⟨(some 109), .mv (.t 10), none⟩,
    ⟨(some 110), .bin .quo (.t 109) (.c (.i .i64 8)), none⟩,
    ⟨(some 18), .mv (.t 110), none⟩])
  (.seq [0, 1, 2, 3, 9, 14, 16, 17, 18, 113] (.reg [⟨(some 111), .mv (.t 16), none⟩,
    ⟨(some 112), .mv (.t 17), none⟩,
    ⟨(some 113), .bin .lss (.t 111) (.t 112), none⟩])
  (.cond (.t 113)
  (.seq [0, 1, 2, 3, 8, 9, 14] (.reg [⟨(some 114), .mv (.t 16), none⟩,
    ⟨(some 115), .mv (.t 18), none⟩,
    ⟨(some 116), .bin .geq (.t 114) (.t 115), none⟩,
    ⟨(some 8), .mv (.t 116), none⟩])
  (.seq [0, 2, 3, 8, 9, 14] (.reg [⟨(some 117), .mv (.t 0), none⟩,
    ⟨(some 118), .mv (.t 1), none⟩,
    ⟨(some 119), .mv (.t 14), none⟩,
    ⟨(some 120), .mv (.t 3), none⟩,
    ⟨(some 121), .call 326 [(.t 117), (.t 118), (.t 119), (.t 120)], none⟩])
  (.reg [⟨(some 122), .mv (.t 14), none⟩,
    ⟨(some 123), .bin .add (.t 122) (.c (.i .i64 1)), none⟩,
    ⟨(some 1), .mv (.t 123), none⟩])))
  (.seq [0, 1, 2, 3, 8, 9, 14] (.reg [⟨(some 124), .mv (.t 17), none⟩,
    ⟨(some 125), .mv (.t 18), none⟩,
    ⟨(some 126), .bin .geq (.t 124) (.t 125), none⟩,
    ⟨(some 8), .mv (.t 126), none⟩])
  (.seq [0, 1, 3, 8, 9, 14] (.reg [⟨(some 127), .mv (.t 0), none⟩,
    ⟨(some 128), .mv (.t 14), none⟩,
    ⟨(some 129), .bin .add (.t 128) (.c (.i .i64 1)), none⟩,
    ⟨(some 130), .mv (.t 2), none⟩,
    ⟨(some 131), .mv (.t 3), none⟩,
    ⟨(some 132), .call 326 [(.t 127), (.t 129), (.t 130), (.t 131)], none⟩])
  (.reg [⟨(some 133), .mv (.t 14), none⟩,
    ⟨(some 2), .mv (.t 133), none⟩]))))))))))))))))))))))
theorem ree326 : Tryz.f326.body.bind (res Tryz.prog Tryz.f326.ntmps [] []) = some (erase ae326) := by kernel_rfl
def fs326 : FnS := .fn 134 ae326 []
theorem fsok326 : FnOk Tryz.prog 326 fs326 := fun _ _ _ hn h => ctr_of_resC Tryz.func326 (by kernel_rfl) ree326 (by kernel_rfl) hn h
abbrev ae293 : ACode := (.seq [0] (.reg [⟨(some 2), .mv (.c (.b false)), none⟩])
  (.seq [0] (.seq [0, 9] (.reg [⟨(some 7), .mv (.t 0), none⟩,
    ⟨(some 8), .len (.t 7), none⟩,
    ⟨(some 9), .bin .gtr (.t 8) (.c (.i .i64 16)), none⟩])
  (.cond (.t 9)
  (.seq [2] (.reg [⟨(some 2), .mv (.c (.b false)), none⟩])
  .ret)
  .skip))
  (.seq [] (.seq [10, 11, 12] (.reg [⟨(some 10), .mv (.t 0), none⟩,
    ⟨(some 11), .len (.t 10), none⟩,
    ⟨(some 12), .mv (.c (.i .i64 0)), none⟩])
  (.block 0 (.loop [10, 11, 12] (.seq [10, 11, 12, 13] (.reg [⟨(some 13), .bin .lss (.t 12) (.t 11), none⟩])
  (.seq [10, 11, 12] (.cond (.t 13)
  .skip
  (.exit 0))
  (.seq [10, 11, 12] (.block 1 (.seq [3, 4, 10, 11, 12] (.reg [⟨(some 14), .mv (.t 12), none⟩,
    ⟨(some 15), .iaddr 1 none (.t 10) (.t 12), none⟩,
    ⟨(some 16), .load none (.t 15), none⟩,
    ⟨(some 3), .mv (.t 14), none⟩,
    ⟨(some 4), .mv (.t 16), none⟩])
  (.seq [3, 4, 10, 11, 12] (.seq [3, 4, 10, 11, 12, 19] (.reg [⟨(some 17), .mv (.t 4), none⟩,
    ⟨(some 18), .len (.t 17), none⟩,
    ⟨(some 19), .bin .gtr (.t 18) (.c (.i .i64 3)), none⟩])
  (.cond (.t 19)
  (.seq [2] (.reg [⟨(some 2), .mv (.c (.b false)), none⟩])
  .ret)
  .skip))
  (.seq [3, 4, 10, 11, 12, 20, 21, 22] (.reg [⟨(some 20), .mv (.t 4), none⟩,
    ⟨(some 21), .len (.t 20), none⟩,
    ⟨(some 22), .mv (.c (.i .i64 0)), none⟩])
  (.block 2 (.loop [3, 4, 10, 11, 12, 20, 21, 22] (.seq [3, 4, 10, 11, 12, 20, 21, 22, 23] (.reg [⟨(some 23), .bin .lss (.t 22) (.t 21), none⟩])
  (.seq [3, 4, 10, 11, 12, 20, 21, 22] (.cond (.t 23)
  .skip
  (.exit 2))
  (.seq [3, 4, 10, 11, 12, 20, 21, 22] (.block 3 (.seq [3, 4, 5, 6, 10, 11, 12, 20, 21, 22] (.reg [⟨(some 24), .mv (.t 22), none⟩,
    ⟨(some 25), .iaddr 1 none (.t 20) (.t 22), none⟩,
    ⟨(some 26), .load none (.t 25), none⟩,
    ⟨(some 5), .mv (.t 24), none⟩,
    ⟨(some 6), .mv (.t 26), none⟩])
  (.seq [3, 4, 10, 11, 12, 20, 21, 22, 41] (.reg [⟨(some 27), .mv (.t 6), none⟩,
    ⟨(some 28), .bin .lss (.t 27) (.c (.i .i64 3)), none⟩,
    ⟨(some 29), .mv (.t 28), none⟩,
    ⟨(some 30), .mv (.t 6), (some (29, false))⟩,
    ⟨(some 31), .mv (.t 3), (some (29, false))⟩,
    ⟨(some 32), .bin .add (.c (.i .i64 3)) (.t 31), (some (29, false))⟩,
    ⟨(some 33), .bin .geq (.t 30) (.t 32), (some (29, false))⟩,
    ⟨(some 34), .pick (.t 29) (.c (.b true)) (.t 33), none⟩,
    ⟨(some 35), .mv (.t 34), none⟩,
    ⟨(some 36), .mv (.t 4), (some (35, false))⟩,
    ⟨(some 37), .mv (.t 5), (some (35, false))⟩,
    ⟨(some 38), .slice 1 (.t 36) none (some (.t 37)) none, (some (35, false))⟩,
    ⟨(some 39), .mv (.t 6), (some (35, false))⟩,
    ⟨(some 40), .call 67 [(.t 38), (.t 39)], (some (35, false))⟩,
    ⟨(some 41), .pick (.t 35) (.c (.b true)) (.t 40), none⟩])
  (.cond (.t 41)
  (.seq [2] (.reg [⟨(some 2), .mv (.c (.b false)), none⟩])
  .ret)
  .skip))))
  (.reg [⟨(some 42), .bin .add (.t 22) (.c (.i .i64 1)), none⟩,
    ⟨(some 22), .mv (.t 42), none⟩]))))))))))
  (.reg [⟨(some 43), .bin .add (.t 12) (.c (.i .i64 1)), none⟩,
    ⟨(some 12), .mv (.t 43), none⟩])))))))
  (.seq [2] (.reg [⟨(some 2), .mv (.c (.b true)), none⟩])
  .ret))))
theorem ree293 : Tryz.f293.body.bind (res Tryz.prog Tryz.f293.ntmps [] []) = some (erase ae293) := by kernel_rfl
def fs293 : FnS := .fn 44 ae293 [.t 2]
theorem fsok293 : FnOk Tryz.prog 293 fs293 := fun _ _ _ hn h => ctr_of_resC Tryz.func293 (by kernel_rfl) ree293 (by kernel_rfl) hn h
abbrev ae294 : ACode := (.seq [0, 1] (.reg [⟨(some 4), .mv (.c .pn), none⟩,
    ⟨(some 5), .mv (.c (.b false)), none⟩])
  (.seq [0, 1] (.seq [0, 1, 17] (.reg [⟨(some 15), .mv (.t 0), none⟩,
    ⟨(some 16), .call 293 [(.t 15)], none⟩,
    ⟨(some 17), .not (.t 16), none⟩])
  (.cond (.t 17)
  (.seq [4, 5] (.reg [⟨(some 4), .mv (.c .pn), none⟩,
    ⟨(some 5), .mv (.c (.b false)), none⟩])
  .ret)
  .skip))
  (.seq [0] (.seq [0, 18, 19, 20] (.reg [⟨(some 18), .mv (.t 1), none⟩,
    ⟨(some 19), .len (.t 18), none⟩,
    ⟨(some 20), .mv (.c (.i .i64 0)), none⟩])
  (.block 0 (.loop [0, 18, 19, 20] (.seq [0, 18, 19, 20, 21] (.reg [⟨(some 21), .bin .lss (.t 20) (.t 19), none⟩])
  (.seq [0, 18, 19, 20] (.cond (.t 21)
  .skip
  (.exit 0))
  (.seq [0, 18, 19, 20] (.block 1 (.seq [0, 7, 18, 19, 20] (.reg [⟨(some 22), .iaddr 1 none (.t 18) (.t 20), none⟩,
    ⟨(some 23), .load none (.t 22), none⟩,
    ⟨(some 7), .mv (.t 23), none⟩])
  (.seq [0, 18, 19, 20, 32] (.reg [⟨(some 24), .mv (.t 7), none⟩,
    ⟨(some 25), .bin .lss (.t 24) (.c (.i .i64 0)), none⟩,
    ⟨(some 26), .mv (.t 25), none⟩,
    ⟨(some 27), .mv (.t 7), (some (26, false))⟩,
    ⟨(some 28), .mv (.t 0), (some (26, false))⟩,
    ⟨(some 29), .len (.t 28), (some (26, false))⟩,
    ⟨(some 30), .bin .add (.c (.i .i64 3)) (.t 29), (some (26, false))⟩,
    ⟨(some 31), .bin .geq (.t 27) (.t 30), (some (26, false))⟩,
    ⟨(some 32), .pick (.t 26) (.c (.b true)) (.t 31), none⟩])
  (.cond (.t 32)
  (.seq [4, 5] (.reg [⟨(some 4), .mv (.c .pn), none⟩,
    ⟨(some 5), .mv (.c (.b false)), none⟩])
  .ret)
  .skip))))
  (.reg [⟨(some 33), .bin .add (.t 20) (.c (.i .i64 1)), none⟩,
    ⟨(some 20), .mv (.t 33), none⟩])))))))
  (.seq [0, 8] (.reg [⟨(some 34), .mv (.t 0), none⟩,
    ⟨(some 35), .len (.t 34), none⟩,
    ⟨(some 36), .bin .add (.c (.i .i64 3)) (.t 35), none⟩,
    ⟨(some 37), .mkslice 1 24 [(.l [] true)] (.c (.i .i64 3)) (.t 36), none⟩,
    ⟨(some 38), .mkmap, none⟩,
    ⟨(some 39), .build [(.l [] true), (.l [] true), .mn] [(0, 1, (.t 37)), (2, 1, (.t 38))], none⟩,
    ⟨(some 40), .box (.t 39), none⟩,
    ⟨(some 8), .mv (.t 40), none⟩])
  (.seq [8] (.reg [⟨(some 41), .mv (.t 8), none⟩,
    ⟨(some 42), .mv (.t 8), none⟩,
    ⟨(some 43), .nilck (.t 42), none⟩,
    ⟨(some 44), .faddr 0 (.t 43), none⟩,
    ⟨(some 45), .load none (.t 44), none⟩,
    ⟨(some 46), .mv (.t 0), none⟩,
    ⟨(some 47), .append 1 24 (.t 45) (.t 46), none⟩,
    ⟨(some 48), .nilck (.t 41), none⟩,
    ⟨(some 49), .faddr 0 (.t 48), none⟩,
    ⟨none, .store 1 (.t 49) (.t 47), none⟩])
  (.seq [8] (.seq [8, 53, 54, 55] (.reg [⟨(some 50), .mv (.t 8), none⟩,
    ⟨(some 51), .nilck (.t 50), none⟩,
    ⟨(some 52), .faddr 0 (.t 51), none⟩,
    ⟨(some 53), .load none (.t 52), none⟩,
    ⟨(some 54), .len (.t 53), none⟩,
    ⟨(some 55), .mv (.c (.i .i64 0)), none⟩])
  (.block 2 (.loop [8, 53, 54, 55] (.seq [8, 53, 54, 55, 56] (.reg [⟨(some 56), .bin .lss (.t 55) (.t 54), none⟩])
  (.seq [8, 53, 54, 55] (.cond (.t 56)
  .skip
  (.exit 2))
  (.seq [8, 53, 54, 55] (.block 3 (.seq [8, 9, 10, 53, 54, 55] (.reg [⟨(some 57), .mv (.t 55), none⟩,
    ⟨(some 58), .iaddr 1 none (.t 53) (.t 55), none⟩,
    ⟨(some 59), .load none (.t 58), none⟩,
    ⟨(some 9), .mv (.t 57), none⟩,
    ⟨(some 10), .mv (.t 59), none⟩])
  (.seq [8, 10, 11, 53, 54, 55] (.reg [⟨(some 60), .build [(.i .u64 0)] [], none⟩,
    ⟨(some 61), .mv (.t 9), none⟩,
    ⟨(some 62), .call 328 [(.t 60), (.t 61)], none⟩,
    ⟨(some 63), .call 328 [(.t 62), (.c (.i .i64 0))], none⟩,
    ⟨(some 11), .alloc [(.i .u64 0)], none⟩,
    ⟨none, .store 1 (.t 11) (.t 63), none⟩])
  (.seq [8, 11, 53, 54, 55] (.seq [8, 11, 53, 54, 55, 64, 65, 66] (.reg [⟨(some 64), .mv (.t 10), none⟩,
    ⟨(some 65), .len (.t 64), none⟩,
    ⟨(some 66), .mv (.c (.i .i64 0)), none⟩])
  (.block 4 (.loop [8, 11, 53, 54, 55, 64, 65, 66] (.seq [8, 11, 53, 54, 55, 64, 65, 66, 67] (.reg [⟨(some 67), .bin .lss (.t 66) (.t 65), none⟩])
  (.seq [8, 11, 53, 54, 55, 64, 65, 66] (.cond (.t 67)
  .skip
  (.exit 4))
  (.seq [8, 11, 53, 54, 55, 64, 65, 66] (.block 5 (.seq [8, 11, 13, 53, 54, 55, 64, 65, 66] (.reg [⟨(some 68), .iaddr 1 none (.t 64) (.t 66), none⟩,
    ⟨(some 69), .load none (.t 68), none⟩,
    ⟨(some 13), .mv (.t 69), none⟩])
  (.dreg [8, 11, 53, 54, 55, 64, 65, 66] [⟨0, ⟨(some 70), .load (some 1) (.t 11), none⟩, [], []⟩,
    ⟨1, ⟨(some 71), .mv (.t 8), none⟩, [], []⟩,
    ⟨2, ⟨(some 72), .nilck (.t 71), none⟩, [], []⟩,
    ⟨3, ⟨(some 73), .faddr 1 (.t 72), none⟩, [], []⟩,
    ⟨4, ⟨(some 74), .load none (.t 73), none⟩, [], []⟩,
    ⟨5, ⟨(some 75), .mv (.t 13), none⟩, [], []⟩,
    ⟨6, ⟨(some 76), .iaddr 1 none (.t 74) (.t 75), none⟩, [], []⟩,
    ⟨7, ⟨(some 77), .load (some 1) (.t 76), none⟩, [], []⟩,
    ⟨8, ⟨(some 78), .call 329 [(.t 70), (.t 77)], none⟩, [], []⟩,
    ⟨9, ⟨none, .store 1 (.t 11) (.t 78), none⟩, [], []⟩])))
  (.reg [⟨(some 79), .bin .add (.t 66) (.c (.i .i64 1)), none⟩,
    ⟨(some 66), .mv (.t 79), none⟩])))))))
  (.dreg [8, 53, 54, 55] [⟨0, ⟨(some 80), .mv (.t 8), none⟩, [], []⟩,
    ⟨1, ⟨(some 81), .mv (.t 8), none⟩, [], []⟩,
    ⟨2, ⟨(some 82), .nilck (.t 81), none⟩, [], []⟩,
    ⟨3, ⟨(some 83), .faddr 1 (.t 82), none⟩, [], []⟩,
    ⟨4, ⟨(some 84), .load none (.t 83), none⟩, [], []⟩,
    ⟨5, ⟨(some 85), .load (some 1) (.t 11), none⟩, [], []⟩,
    ⟨6, ⟨(some 86), .bslice 1 1 [(.i .u64 0)] [(0, (.t 85))], none⟩, [], []⟩,
    ⟨7, ⟨(some 87), .append 1 8 (.t 84) (.t 86), none⟩, [], []⟩,
    ⟨8, ⟨(some 88), .nilck (.t 80), none⟩, [], []⟩,
    ⟨9, ⟨(some 89), .faddr 1 (.t 88), none⟩, [], []⟩,
    ⟨10, ⟨none, .store 1 (.t 89) (.t 87), none⟩, [], []⟩])))))
  (.reg [⟨(some 90), .bin .add (.t 55) (.c (.i .i64 1)), none⟩,
    ⟨(some 55), .mv (.t 90), none⟩])))))))
  (.seq [8] (.seq [8, 95, 96] (.reg [⟨(some 91), .mv (.t 8), none⟩,
    ⟨(some 92), .nilck (.t 91), none⟩,
    ⟨(some 93), .faddr 0 (.t 92), none⟩,
    ⟨(some 94), .load none (.t 93), none⟩,
    ⟨(some 95), .len (.t 94), none⟩,
    ⟨(some 96), .mv (.c (.i .i64 0)), none⟩])
  (.block 6 (.loop [8, 95, 96] (.seq [8, 95, 96, 97] (.reg [⟨(some 97), .bin .lss (.t 96) (.t 95), none⟩])
  (.seq [8, 95, 96] (.cond (.t 97)
  .skip
  (.exit 6))
  (.seq [8, 95, 96] (.block 7 (.seq [8, 14, 95, 96] (.reg [⟨(some 98), .mv (.t 96), none⟩,
    ⟨(some 14), .mv (.t 98), none⟩])
  (.reg [⟨(some 99), .mv (.t 8), none⟩,
    ⟨(some 100), .mv (.t 14), none⟩,
    ⟨(some 101), .call 330 [(.t 99), (.t 100)], none⟩])))
  (.reg [⟨(some 102), .bin .add (.t 96) (.c (.i .i64 1)), none⟩,
    ⟨(some 96), .mv (.t 102), none⟩])))))))
  (.seq [4, 5] (.reg [⟨(some 103), .mv (.t 8), none⟩,
    ⟨(some 4), .mv (.t 103), none⟩,
    ⟨(some 5), .mv (.c (.b true)), none⟩])
  .ret))))))))
theorem ree294 : Tryz.f294.body.bind (res Tryz.prog Tryz.f294.ntmps [] []) = some (erase ae294) := by kernel_rfl
def fs294 : FnS := .fn 104 ae294 [.t 4, .t 5]
theorem fsok294 : FnOk Tryz.prog 294 fs294 := fun _ _ _ hn h => ctr_of_resC Tryz.func294 (by kernel_rfl) ree294 (by kernel_rfl) hn h
abbrev ae251 : ACode := (.seq [1, 2, 3, 4] (.reg [⟨(some 4), .box (.t 0), none⟩])
  (.seq [1, 2, 3, 4, 5] (.reg [⟨(some 5), .alloc [.fnil], none⟩])
  (.seq [2, 3, 5] (.reg [⟨(some 6), .mkf (.func 252) [] [(.t 4), (.t 1), (.t 5)], none⟩,
    ⟨none, .store 1 (.t 5) (.t 6), none⟩])
  (.reg [⟨(some 7), .load none (.t 5), none⟩,
    ⟨(some 8), .load none (.t 2), none⟩,
    ⟨(some 9), .load (some 2) (.t 3), none⟩,
    ⟨(some 10), .callv (.t 7) [(.t 8), (.t 9)], none⟩]))))
theorem ree251 : Tryz.f251.body.bind (res Tryz.prog Tryz.f251.ntmps [] []) = some (erase ae251) := by kernel_rfl
def fs251 : FnS := .fn 11 ae251 []
theorem fsok251 : FnOk Tryz.prog 251 fs251 := fun _ _ _ hn h => ctr_of_resC Tryz.func251 (by kernel_rfl) ree251 (by kernel_rfl) hn h
abbrev ae301 : ACode := (.seq [0, 1] (.reg [⟨(some 4), .mv (.c (.b false)), none⟩])
  (.seq [4] (.reg [⟨(some 5), .mv (.t 1), none⟩,
    ⟨(some 6), .bin .geq (.t 5) (.c (.i .i64 0)), none⟩,
    ⟨(some 7), .mv (.t 6), none⟩,
    ⟨(some 8), .mv (.t 1), (some (7, true))⟩,
    ⟨(some 9), .mv (.t 0), (some (7, true))⟩,
    ⟨(some 10), .nilck (.t 9), (some (7, true))⟩,
    ⟨(some 11), .faddr 0 (.t 10), (some (7, true))⟩,
    ⟨(some 12), .faddr 1 (.t 11), (some (7, true))⟩,
    ⟨(some 13), .load none (.t 12), (some (7, true))⟩,
    ⟨(some 14), .len (.t 13), (some (7, true))⟩,
    ⟨(some 15), .bin .lss (.t 8) (.t 14), (some (7, true))⟩,
    ⟨(some 16), .pick (.t 7) (.t 15) (.c (.b false)), none⟩,
    ⟨(some 4), .mv (.t 16), none⟩])
  .ret))
theorem ree301 : Tryz.f301.body.bind (res Tryz.prog Tryz.f301.ntmps [] []) = some (erase ae301) := by kernel_rfl
def fs301 : FnS := .fn 17 ae301 [.t 4]
theorem fsok301 : FnOk Tryz.prog 301 fs301 := fun _ _ _ hn h => ctr_of_resC Tryz.func301 (by kernel_rfl) ree301 (by kernel_rfl) hn h
abbrev ae302 : ACode := (.seq [0, 1, 2, 4] (.reg [⟨(some 4), .alloc [.fnil], none⟩])
  (.seq [0, 1, 2, 4] (.reg [⟨(some 5), .mkf (.func 303) [] [(.t 4)], none⟩,
    ⟨none, .store 1 (.t 4) (.t 5), none⟩])
  (.reg [⟨(some 6), .load none (.t 4), none⟩,
    ⟨(some 7), .load (some 6) (.t 1), none⟩,
    ⟨(some 8), .load none (.t 2), none⟩,
    ⟨(some 9), .mv (.t 0), none⟩,
    ⟨(some 10), .callv (.t 6) [(.t 7), (.t 8), (.t 9)], none⟩])))
theorem ree302 : Tryz.f302.body.bind (res Tryz.prog Tryz.f302.ntmps [] []) = some (erase ae302) := by kernel_rfl
def fs302 : FnS := .fn 11 ae302 []
theorem fsok302 : FnOk Tryz.prog 302 fs302 := fun _ _ _ hn h => ctr_of_resC Tryz.func302 (by kernel_rfl) ree302 (by kernel_rfl) hn h
def ose307 : List AOper := [⟨(some 5), .tas 379 (.a []) true (.t 4), none⟩,
    ⟨(some 3), .mv (.t 5), none⟩,
    ⟨(some 6), .extract 0 (.t 3), none⟩,
    ⟨(some 7), .extract 1 (.t 3), none⟩,
    ⟨(some 1), .alloc [], none⟩,
    ⟨none, .store 0 (.t 1) (.t 6), none⟩,
    ⟨(some 2), .mv (.t 7), none⟩]
abbrev acCe307 : ACode := (.seq [0, 8] (.reg [⟨(some 8), .mv (.t 2), none⟩])
  (.cond (.t 8)
  (.reg [⟨none, .store 1 (.t 0) (.c (.b false)), none⟩])
  .skip))
theorem rese307 : Tryz.f307.body.bind (resRec Tryz.prog Tryz.f307.ntmps [] []) = some (4, ose307, erase acCe307) := by kernel_rfl
def fs307 : FnS := .rcv 9 4 ose307 acCe307 [0, 2]
theorem fsok307 : FnOk Tryz.prog 307 fs307 := fun _ _ _ _ hn h => ctrD_of_T Tryz.func307 (by kernel_rfl) rese307 rfl hn h
abbrev ae308 : ACode := (.seq [0, 1] (.reg [⟨(some 4), .mv (.c .pn), none⟩])
  (.seq [1, 5] (.reg [⟨(some 8), .mv (.t 0), none⟩,
    ⟨(some 9), .mkmap, none⟩,
    ⟨(some 10), .build [.pn, .mn] [(0, 1, (.t 8)), (1, 1, (.t 9))], none⟩,
    ⟨(some 11), .box (.t 10), none⟩,
    ⟨(some 5), .mv (.t 11), none⟩])
  (.seq [5] (.seq [5, 12, 13, 14] (.reg [⟨(some 12), .mv (.t 1), none⟩,
    ⟨(some 13), .len (.t 12), none⟩,
    ⟨(some 14), .mv (.c (.i .i64 0)), none⟩])
  (.block 0 (.loop [5, 12, 13, 14] (.seq [5, 12, 13, 14, 15] (.reg [⟨(some 15), .bin .lss (.t 14) (.t 13), none⟩])
  (.seq [5, 12, 13, 14] (.cond (.t 15)
  .skip
  (.exit 0))
  (.seq [5, 12, 13, 14] (.block 1 (.seq [5, 7, 12, 13, 14] (.reg [⟨(some 16), .iaddr 7 none (.t 12) (.t 14), none⟩,
    ⟨(some 17), .load (some 7) (.t 16), none⟩,
    ⟨(some 7), .alloc [(.i .i64 0), (.i .i64 0), (.l [] true), (.i .i64 0), (.i .i64 0), (.l [] true), (.b false)], none⟩,
    ⟨none, .store 7 (.t 7) (.t 17), none⟩])
  (.reg [⟨(some 18), .mv (.t 5), none⟩,
    ⟨(some 19), .load (some 7) (.t 7), none⟩,
    ⟨(some 20), .call 337 [(.t 18), (.t 19)], none⟩])))
  (.reg [⟨(some 21), .bin .add (.t 14) (.c (.i .i64 1)), none⟩,
    ⟨(some 14), .mv (.t 21), none⟩])))))))
  (.seq [4] (.reg [⟨(some 22), .mv (.t 5), none⟩,
    ⟨(some 4), .mv (.t 22), none⟩])
  .ret))))
theorem ree308 : Tryz.f308.body.bind (res Tryz.prog Tryz.f308.ntmps [] []) = some (erase ae308) := by kernel_rfl
def fs308 : FnS := .fn 23 ae308 [.t 4]
theorem fsok308 : FnOk Tryz.prog 308 fs308 := fun _ _ _ hn h => ctr_of_resC Tryz.func308 (by kernel_rfl) ree308 (by kernel_rfl) hn h
abbrev ae309 : ACode := (.seq [0, 3] (.reg [⟨(some 3), .mv (.c (.i .i64 0)), none⟩])
  (.block 0 (.loop [0, 3] (.seq [0, 3, 4] (.reg [⟨(some 4), .bin .lss (.t 3) (.c (.i .i64 3)), none⟩])
  (.seq [0, 3] (.cond (.t 4)
  .skip
  (.exit 0))
  (.seq [0, 3] (.block 1 (.seq [0, 2, 3] (.reg [⟨(some 5), .mv (.t 3), none⟩,
    ⟨(some 2), .mv (.t 5), none⟩])
  (.seq [0, 3, 10] (.reg [⟨(some 6), .mv (.t 0), none⟩,
    ⟨(some 7), .mv (.t 2), none⟩,
    ⟨(some 8), .build [(.i .i64 0), (.i .i64 0), (.i .i64 0), (.i .i64 0)] [(0, 1, (.t 7))], none⟩,
    ⟨(some 9), .call 338 [(.t 6), (.t 8)], none⟩,
    ⟨(some 10), .not (.t 9), none⟩])
  (.cond (.t 10)
  (.reg [⟨(some 11), .build [] [], none⟩,
    ⟨(some 12), .mkifc 379 (.t 11), none⟩,
    ⟨none, .panic (.t 12), none⟩])
  .skip))))
  (.reg [⟨(some 13), .bin .add (.t 3) (.c (.i .i64 1)), none⟩,
    ⟨(some 3), .mv (.t 13), none⟩])))))))
theorem ree309 : Tryz.f309.body.bind (res Tryz.prog Tryz.f309.ntmps [] []) = some (erase ae309) := by kernel_rfl
def fs309 : FnS := .fn 14 ae309 []
theorem fsok309 : FnOk Tryz.prog 309 fs309 := fun _ _ _ hn h => ctr_of_resC Tryz.func309 (by kernel_rfl) ree309 (by kernel_rfl) hn h
abbrev ae353 : ACode := (.seq [0, 2] (.reg [⟨(some 2), .mv (.c (.i .i64 0)), none⟩])
  (.seq [0, 2] (.seq [0, 2, 4] (.reg [⟨(some 3), .mv (.t 0), none⟩,
    ⟨(some 4), .bin .geq (.t 3) (.c (.i .u32 65536)), none⟩])
  (.cond (.t 4)
  (.seq [0] (.reg [⟨(some 5), .mv (.t 0), none⟩,
    ⟨(some 6), .bin .shr (.t 5) (.c (.i .u64 16)), none⟩,
    ⟨(some 0), .mv (.t 6), none⟩])
  (.reg [⟨(some 2), .mv (.c (.i .i64 16)), none⟩]))
  .skip))
  (.seq [0, 2] (.seq [0, 2, 8] (.reg [⟨(some 7), .mv (.t 0), none⟩,
    ⟨(some 8), .bin .geq (.t 7) (.c (.i .u32 256)), none⟩])
  (.cond (.t 8)
  (.seq [0, 2] (.reg [⟨(some 9), .mv (.t 0), none⟩,
    ⟨(some 10), .bin .shr (.t 9) (.c (.i .u64 8)), none⟩,
    ⟨(some 0), .mv (.t 10), none⟩])
  (.reg [⟨(some 11), .mv (.t 2), none⟩,
    ⟨(some 12), .bin .add (.t 11) (.c (.i .i64 8)), none⟩,
    ⟨(some 2), .mv (.t 12), none⟩]))
  .skip))
  (.seq [2] (.reg [⟨(some 13), .mv (.t 2), none⟩,
    ⟨(some 14), .mv (.t 0), none⟩,
    ⟨(some 15), .conv .u8 (.t 14), none⟩,
    ⟨(some 16), .sidx (.c (.s ⟨#[0, 1, 2, 2, 3, 3, 3, 3, 4, 4, 4, 4, 4, 4, 4, 4, 5, 5, 5, 5, 5, 5, 5, 5, 5, 5, 5, 5, 5, 5, 5, 5, 6, 6, 6, 6, 6, 6, 6, 6, 6, 6, 6, 6, 6, 6, 6, 6, 6, 6, 6, 6, 6, 6, 6, 6, 6, 6, 6, 6, 6, 6, 6, 6, 7, 7, 7, 7, 7, 7, 7, 7, 7, 7, 7, 7, 7, 7, 7, 7, 7, 7, 7, 7, 7, 7, 7, 7, 7, 7, 7, 7, 7, 7, 7, 7, 7, 7, 7, 7, 7, 7, 7, 7, 7, 7, 7, 7, 7, 7, 7, 7, 7, 7, 7, 7, 7, 7, 7, 7, 7, 7, 7, 7, 7, 7, 7, 7, 8, 8, 8, 8, 8, 8, 8, 8, 8, 8, 8, 8, 8, 8, 8, 8, 8, 8, 8, 8, 8, 8, 8, 8, 8, 8, 8, 8, 8, 8, 8, 8, 8, 8, 8, 8, 8, 8, 8, 8, 8, 8, 8, 8, 8, 8, 8, 8, 8, 8, 8, 8, 8, 8, 8, 8, 8, 8, 8, 8, 8, 8, 8, 8, 8, 8, 8, 8, 8, 8, 8, 8, 8, 8, 8, 8, 8, 8, 8, 8, 8, 8, 8, 8, 8, 8, 8, 8, 8, 8, 8, 8, 8, 8, 8, 8, 8, 8, 8, 8, 8, 8, 8, 8, 8, 8, 8, 8, 8, 8, 8, 8, 8, 8, 8, 8, 8, 8, 8, 8, 8, 8, 8, 8, 8, 8, 8, 8]⟩)) (.t 15), none⟩,
    ⟨(some 17), .conv .i64 (.t 16), none⟩,
    ⟨(some 18), .bin .add (.t 13) (.t 17), none⟩,
    ⟨(some 2), .mv (.t 18), none⟩])
  .ret))))
theorem ree353 : Tryz.f353.body.bind (res Tryz.prog Tryz.f353.ntmps [] []) = some (erase ae353) := by kernel_rfl
def fs353 : FnS := .fn 19 ae353 [.t 2]
theorem fsok353 : FnOk Tryz.prog 353 fs353 := fun _ _ _ hn h => ctr_of_resC Tryz.func353 (by kernel_rfl) ree353 (by kernel_rfl) hn h
abbrev ae354 : ACode := (.seq [0, 2] (.reg [⟨(some 2), .mv (.c (.i .i64 0)), none⟩])
  (.seq [0, 2] (.seq [0, 2, 4] (.reg [⟨(some 3), .mv (.t 0), none⟩,
    ⟨(some 4), .bin .geq (.t 3) (.c (.i .u64 4294967296)), none⟩])
  (.cond (.t 4)
  (.seq [0] (.reg [⟨(some 5), .mv (.t 0), none⟩,
    ⟨(some 6), .bin .shr (.t 5) (.c (.i .u64 32)), none⟩,
    ⟨(some 0), .mv (.t 6), none⟩])
  (.reg [⟨(some 2), .mv (.c (.i .i64 32)), none⟩]))
  .skip))
  (.seq [0, 2] (.seq [0, 2, 8] (.reg [⟨(some 7), .mv (.t 0), none⟩,
    ⟨(some 8), .bin .geq (.t 7) (.c (.i .u64 65536)), none⟩])
  (.cond (.t 8)
  (.seq [0, 2] (.reg [⟨(some 9), .mv (.t 0), none⟩,
    ⟨(some 10), .bin .shr (.t 9) (.c (.i .u64 16)), none⟩,
    ⟨(some 0), .mv (.t 10), none⟩])
  (.reg [⟨(some 11), .mv (.t 2), none⟩,
    ⟨(some 12), .bin .add (.t 11) (.c (.i .i64 16)), none⟩,
    ⟨(some 2), .mv (.t 12), none⟩]))
  .skip))
  (.seq [0, 2] (.seq [0, 2, 14] (.reg [⟨(some 13), .mv (.t 0), none⟩,
    ⟨(some 14), .bin .geq (.t 13) (.c (.i .u64 256)), none⟩])
  (.cond (.t 14)
  (.seq [0, 2] (.reg [⟨(some 15), .mv (.t 0), none⟩,
    ⟨(some 16), .bin .shr (.t 15) (.c (.i .u64 8)), none⟩,
    ⟨(some 0), .mv (.t 16), none⟩])
  (.reg [⟨(some 17), .mv (.t 2), none⟩,
    ⟨(some 18), .bin .add (.t 17) (.c (.i .i64 8)), none⟩,
    ⟨(some 2), .mv (.t 18), none⟩]))
  .skip))
  (.seq [2] (.reg [⟨(some 19), .mv (.t 2), none⟩,
    ⟨(some 20), .mv (.t 0), none⟩,
    ⟨(some 21), .conv .u8 (.t 20), none⟩,
    ⟨(some 22), .sidx (.c (.s ⟨#[0, 1, 2, 2, 3, 3, 3, 3, 4, 4, 4, 4, 4, 4, 4, 4, 5, 5, 5, 5, 5, 5, 5, 5, 5, 5, 5, 5, 5, 5, 5, 5, 6, 6, 6, 6, 6, 6, 6, 6, 6, 6, 6, 6, 6, 6, 6, 6, 6, 6, 6, 6, 6, 6, 6, 6, 6, 6, 6, 6, 6, 6, 6, 6, 7, 7, 7, 7, 7, 7, 7, 7, 7, 7, 7, 7, 7, 7, 7, 7, 7, 7, 7, 7, 7, 7, 7, 7, 7, 7, 7, 7, 7, 7, 7, 7, 7, 7, 7, 7, 7, 7, 7, 7, 7, 7, 7, 7, 7, 7, 7, 7, 7, 7, 7, 7, 7, 7, 7, 7, 7, 7, 7, 7, 7, 7, 7, 7, 8, 8, 8, 8, 8, 8, 8, 8, 8, 8, 8, 8, 8, 8, 8, 8, 8, 8, 8, 8, 8, 8, 8, 8, 8, 8, 8, 8, 8, 8, 8, 8, 8, 8, 8, 8, 8, 8, 8, 8, 8, 8, 8, 8, 8, 8, 8, 8, 8, 8, 8, 8, 8, 8, 8, 8, 8, 8, 8, 8, 8, 8, 8, 8, 8, 8, 8, 8, 8, 8, 8, 8, 8, 8, 8, 8, 8, 8, 8, 8, 8, 8, 8, 8, 8, 8, 8, 8, 8, 8, 8, 8, 8, 8, 8, 8, 8, 8, 8, 8, 8, 8, 8, 8, 8, 8, 8, 8, 8, 8, 8, 8, 8, 8, 8, 8, 8, 8, 8, 8, 8, 8, 8, 8, 8, 8, 8, 8]⟩)) (.t 21), none⟩,
    ⟨(some 23), .conv .i64 (.t 22), none⟩,
    ⟨(some 24), .bin .add (.t 19) (.t 23), none⟩,
    ⟨(some 2), .mv (.t 24), none⟩])
  .ret)))))
theorem ree354 : Tryz.f354.body.bind (res Tryz.prog Tryz.f354.ntmps [] []) = some (erase ae354) := by kernel_rfl
def fs354 : FnS := .fn 25 ae354 [.t 2]
theorem fsok354 : FnOk Tryz.prog 354 fs354 := fun _ _ _ hn h => ctr_of_resC Tryz.func354 (by kernel_rfl) ree354 (by kernel_rfl) hn h
abbrev ae344 : ACode := (.seq [0, 1, 2, 6] (.reg [⟨(some 8), .mv (.t 1), none⟩,
    ⟨(some 9), .bin .add (.t 8) (.c (.i .i64 1)), none⟩,
    ⟨(some 6), .mv (.t 9), none⟩])
  (.block 0 (.loop [0, 1, 2, 6] (.seq [0, 1, 2, 6] (.seq [0, 1, 2, 6, 12] (.reg [⟨(some 10), .mv (.t 6), none⟩,
    ⟨(some 11), .mv (.t 2), none⟩,
    ⟨(some 12), .bin .lss (.t 10) (.t 11), none⟩])
  (.cond (.t 12)
  .skip
  (.exit 0)))
  (.seq [0, 1, 2, 6] (.block 1 (.seq [0, 1, 2, 6, 7] (.reg [⟨(some 15), .mv (.t 6), none⟩,
    ⟨(some 7), .mv (.t 15), none⟩])
  (.block 2 (.loop [0, 1, 2, 6, 7] (.seq [0, 1, 2, 6, 7] (.seq [0, 1, 2, 6, 7, 30] (.dreg [0, 1, 2, 6, 7, 30] [⟨0, ⟨(some 16), .mv (.t 7), none⟩, [], []⟩,
    ⟨1, ⟨(some 17), .mv (.t 1), none⟩, [], []⟩,
    ⟨2, ⟨(some 18), .bin .gtr (.t 16) (.t 17), none⟩, [], []⟩,
    ⟨3, ⟨(some 19), .mv (.t 18), none⟩, [], []⟩,
    ⟨4, ⟨(some 20), .mv (.t 0), (some (19, true))⟩, [], []⟩,
    ⟨5, ⟨(some 21), .mv (.t 7), (some (19, true))⟩, [], []⟩,
    ⟨6, ⟨(some 22), .iaddr 1 none (.t 20) (.t 21), (some (19, true))⟩, [], []⟩,
    ⟨7, ⟨(some 23), .load none (.t 22), (some (19, true))⟩, [], []⟩,
    ⟨8, ⟨(some 24), .mv (.t 0), (some (19, true))⟩, [], []⟩,
    ⟨9, ⟨(some 25), .mv (.t 7), (some (19, true))⟩, [], []⟩,
    ⟨10, ⟨(some 26), .bin .sub (.t 25) (.c (.i .i64 1)), (some (19, true))⟩, [], []⟩,
    ⟨11, ⟨(some 27), .iaddr 1 none (.t 24) (.t 26), (some (19, true))⟩, [], []⟩,
    ⟨12, ⟨(some 28), .load none (.t 27), (some (19, true))⟩, [], []⟩,
    ⟨13, ⟨(some 29), .call 350 [(.t 23), (.t 28)], (some (19, true))⟩, [], []⟩,
    ⟨14, ⟨(some 30), .pick (.t 19) (.t 29) (.c (.b false)), none⟩, [], []⟩])
  (.cond (.t 30)
  .skip
  (.exit 2)))
  (.seq [0, 1, 2, 6, 7] (.block 3 (.dreg [0, 1, 2, 6, 7] [⟨0, ⟨(some 33), .mv (.t 0), none⟩, [], []⟩,
    ⟨1, ⟨(some 34), .mv (.t 7), none⟩, [], []⟩,
    ⟨2, ⟨(some 35), .mv (.t 0), none⟩, [], []⟩,
    ⟨3, ⟨(some 36), .mv (.t 7), none⟩, [], []⟩,
    ⟨4, ⟨(some 37), .bin .sub (.t 36) (.c (.i .i64 1)), none⟩, [], []⟩,
    ⟨5, ⟨(some 38), .mv (.t 0), none⟩, [], []⟩,
    ⟨6, ⟨(some 39), .mv (.t 7), none⟩, [], []⟩,
    ⟨7, ⟨(some 40), .bin .sub (.t 39) (.c (.i .i64 1)), none⟩, [], []⟩,
    ⟨8, ⟨(some 41), .iaddr 1 none (.t 38) (.t 40), none⟩, [], []⟩,
    ⟨9, ⟨(some 42), .load none (.t 41), none⟩, [], []⟩,
    ⟨10, ⟨(some 43), .mv (.t 0), none⟩, [], []⟩,
    ⟨11, ⟨(some 44), .mv (.t 7), none⟩, [], []⟩,
    ⟨12, ⟨(some 45), .iaddr 1 none (.t 43) (.t 44), none⟩, [], []⟩,
    ⟨13, ⟨(some 46), .load none (.t 45), none⟩, [], []⟩,
    ⟨14, ⟨(some 47), .iaddr 1 none (.t 33) (.t 34), none⟩, [], []⟩,
    ⟨15, ⟨none, .store 1 (.t 47) (.t 42), none⟩, [], []⟩,
    ⟨16, ⟨(some 48), .iaddr 1 none (.t 35) (.t 37), none⟩, [], []⟩,
    ⟨17, ⟨none, .store 1 (.t 48) (.t 46), none⟩, [], []⟩]))
  (.reg [⟨(some 31), .mv (.t 7), none⟩,
    ⟨(some 32), .bin .sub (.t 31) (.c (.i .i64 1)), none⟩,
    ⟨(some 7), .mv (.t 32), none⟩])))))))
  (.reg [⟨(some 13), .mv (.t 6), none⟩,
    ⟨(some 14), .bin .add (.t 13) (.c (.i .i64 1)), none⟩,
    ⟨(some 6), .mv (.t 14), none⟩]))))))
theorem ree344 : Tryz.f344.body.bind (res Tryz.prog Tryz.f344.ntmps [] []) = some (erase ae344) := by kernel_rfl
def fs344 : FnS := .fn 49 ae344 []
theorem fsok344 : FnOk Tryz.prog 344 fs344 := fun _ _ _ hn h => ctr_of_resC Tryz.func344 (by kernel_rfl) ree344 (by kernel_rfl) hn h
abbrev ae345 : ACode := (.seq [0, 1, 2, 6] (.reg [⟨(some 11), .mv (.t 1), none⟩,
    ⟨(some 6), .mv (.t 11), none⟩])
  (.seq [0, 1, 2, 6, 7] (.reg [⟨(some 7), .mv (.c (.i .i64 0)), none⟩])
  (.seq [0, 6, 7, 8] (.reg [⟨(some 12), .mv (.t 2), none⟩,
    ⟨(some 13), .mv (.t 1), none⟩,
    ⟨(some 14), .bin .sub (.t 12) (.t 13), none⟩,
    ⟨(some 8), .mv (.t 14), none⟩])
  (.seq [0, 6, 7, 8] (.seq [0, 6, 7, 8, 9] (.reg [⟨(some 15), .mv (.t 8), none⟩,
    ⟨(some 16), .bin .sub (.t 15) (.c (.i .i64 1)), none⟩,
    ⟨(some 17), .bin .quo (.t 16) (.c (.i .i64 2)), none⟩,
    ⟨(some 9), .mv (.t 17), none⟩])
  (.block 0 (.loop [0, 6, 7, 8, 9] (.seq [0, 6, 7, 8, 9] (.seq [0, 6, 7, 8, 9, 19] (.reg [⟨(some 18), .mv (.t 9), none⟩,
    ⟨(some 19), .bin .geq (.t 18) (.c (.i .i64 0)), none⟩])
  (.cond (.t 19)
  .skip
  (.exit 0)))
  (.seq [0, 6, 7, 8, 9] (.block 1 (.reg [⟨(some 22), .mv (.t 0), none⟩,
    ⟨(some 23), .mv (.t 9), none⟩,
    ⟨(some 24), .mv (.t 8), none⟩,
    ⟨(some 25), .mv (.t 6), none⟩,
    ⟨(some 26), .call 373 [(.t 22), (.t 23), (.t 24), (.t 25)], none⟩]))
  (.reg [⟨(some 20), .mv (.t 9), none⟩,
    ⟨(some 21), .bin .sub (.t 20) (.c (.i .i64 1)), none⟩,
    ⟨(some 9), .mv (.t 21), none⟩]))))))
  (.seq [0, 6, 7, 10] (.reg [⟨(some 27), .mv (.t 8), none⟩,
    ⟨(some 28), .bin .sub (.t 27) (.c (.i .i64 1)), none⟩,
    ⟨(some 10), .mv (.t 28), none⟩])
  (.block 2 (.loop [0, 6, 7, 10] (.seq [0, 6, 7, 10] (.seq [0, 6, 7, 10, 30] (.reg [⟨(some 29), .mv (.t 10), none⟩,
    ⟨(some 30), .bin .geq (.t 29) (.c (.i .i64 0)), none⟩])
  (.cond (.t 30)
  .skip
  (.exit 2)))
  (.seq [0, 6, 7, 10] (.block 3 (.seq [0, 6, 7, 10] (.dreg [0, 6, 7, 10] [⟨0, ⟨(some 33), .mv (.t 0), none⟩, [], []⟩,
    ⟨1, ⟨(some 34), .mv (.t 6), none⟩, [], []⟩,
    ⟨2, ⟨(some 35), .mv (.t 0), none⟩, [], []⟩,
    ⟨3, ⟨(some 36), .mv (.t 6), none⟩, [], []⟩,
    ⟨4, ⟨(some 37), .mv (.t 10), none⟩, [], []⟩,
    ⟨5, ⟨(some 38), .bin .add (.t 36) (.t 37), none⟩, [], []⟩,
    ⟨6, ⟨(some 39), .mv (.t 0), none⟩, [], []⟩,
    ⟨7, ⟨(some 40), .mv (.t 6), none⟩, [], []⟩,
    ⟨8, ⟨(some 41), .mv (.t 10), none⟩, [], []⟩,
    ⟨9, ⟨(some 42), .bin .add (.t 40) (.t 41), none⟩, [], []⟩,
    ⟨10, ⟨(some 43), .iaddr 1 none (.t 39) (.t 42), none⟩, [], []⟩,
    ⟨11, ⟨(some 44), .load none (.t 43), none⟩, [], []⟩,
    ⟨12, ⟨(some 45), .mv (.t 0), none⟩, [], []⟩,
    ⟨13, ⟨(some 46), .mv (.t 6), none⟩, [], []⟩,
    ⟨14, ⟨(some 47), .iaddr 1 none (.t 45) (.t 46), none⟩, [], []⟩,
    ⟨15, ⟨(some 48), .load none (.t 47), none⟩, [], []⟩,
    ⟨16, ⟨(some 49), .iaddr 1 none (.t 33) (.t 34), none⟩, [], []⟩,
    ⟨17, ⟨none, .store 1 (.t 49) (.t 44), none⟩, [], []⟩,
    ⟨18, ⟨(some 50), .iaddr 1 none (.t 35) (.t 38), none⟩, [], []⟩,
    ⟨19, ⟨none, .store 1 (.t 50) (.t 48), none⟩, [], []⟩])
  (.reg [⟨(some 51), .mv (.t 0), none⟩,
    ⟨(some 52), .mv (.t 7), none⟩,
    ⟨(some 53), .mv (.t 10), none⟩,
    ⟨(some 54), .mv (.t 6), none⟩,
    ⟨(some 55), .call 373 [(.t 51), (.t 52), (.t 53), (.t 54)], none⟩])))
  (.reg [⟨(some 31), .mv (.t 10), none⟩,
    ⟨(some 32), .bin .sub (.t 31) (.c (.i .i64 1)), none⟩,
    ⟨(some 10), .mv (.t 32), none⟩]))))))))))
theorem ree345 : Tryz.f345.body.bind (res Tryz.prog Tryz.f345.ntmps [] []) = some (erase ae345) := by kernel_rfl
def fs345 : FnS := .fn 56 ae345 []
theorem fsok345 : FnOk Tryz.prog 345 fs345 := fun _ _ _ hn h => ctr_of_resC Tryz.func345 (by kernel_rfl) ree345 (by kernel_rfl) hn h
abbrev ae346 : ACode := (.seq [0, 1, 6] (.reg [⟨(some 11), .mv (.t 2), none⟩,
    ⟨(some 12), .mv (.t 1), none⟩,
    ⟨(some 13), .bin .sub (.t 11) (.t 12), none⟩,
    ⟨(some 6), .mv (.t 13), none⟩])
  (.seq [0, 1, 6, 15] (.reg [⟨(some 14), .mv (.t 6), none⟩,
    ⟨(some 15), .bin .geq (.t 14) (.c (.i .i64 8)), none⟩])
  (.cond (.t 15)
  (.seq [0, 1, 6, 7] (.reg [⟨(some 16), .mv (.t 6), none⟩,
    ⟨(some 17), .conv .u64 (.t 16), none⟩,
    ⟨(some 7), .alloc [(.i .u64 0)], none⟩,
    ⟨none, .store 1 (.t 7) (.t 17), none⟩])
  (.seq [0, 1, 6, 7, 8] (.reg [⟨(some 18), .mv (.t 6), none⟩,
    ⟨(some 19), .call 374 [(.t 18)], none⟩,
    ⟨(some 8), .mv (.t 19), none⟩])
  (.seq [0, 1, 6, 7, 8, 9] (.reg [⟨(some 20), .mv (.t 1), none⟩,
    ⟨(some 21), .mv (.t 6), none⟩,
    ⟨(some 22), .bin .quo (.t 21) (.c (.i .i64 4)), none⟩,
    ⟨(some 23), .bin .mul (.t 22) (.c (.i .i64 2)), none⟩,
    ⟨(some 24), .bin .add (.t 20) (.t 23), none⟩,
    ⟨(some 25), .bin .sub (.t 24) (.c (.i .i64 1)), none⟩,
    ⟨(some 9), .mv (.t 25), none⟩])
  (.block 0 (.loop [0, 1, 6, 7, 8, 9] (.seq [0, 1, 6, 7, 8, 9] (.seq [0, 1, 6, 7, 8, 9, 33] (.reg [⟨(some 26), .mv (.t 9), none⟩,
    ⟨(some 27), .mv (.t 1), none⟩,
    ⟨(some 28), .mv (.t 6), none⟩,
    ⟨(some 29), .bin .quo (.t 28) (.c (.i .i64 4)), none⟩,
    ⟨(some 30), .bin .mul (.t 29) (.c (.i .i64 2)), none⟩,
    ⟨(some 31), .bin .add (.t 27) (.t 30), none⟩,
    ⟨(some 32), .bin .add (.t 31) (.c (.i .i64 1)), none⟩,
    ⟨(some 33), .bin .leq (.t 26) (.t 32), none⟩])
  (.cond (.t 33)
  .skip
  (.exit 0)))
  (.seq [0, 1, 6, 7, 8, 9] (.block 1 (.seq [0, 1, 6, 7, 8, 9, 10] (.reg [⟨(some 36), .call 375 [(.t 7)], none⟩,
    ⟨(some 37), .mv (.t 8), none⟩,
    ⟨(some 38), .bin .sub (.t 37) (.c (.i .u64 1)), none⟩,
    ⟨(some 39), .bin .and (.t 36) (.t 38), none⟩,
    ⟨(some 40), .conv .i64 (.t 39), none⟩,
    ⟨(some 10), .mv (.t 40), none⟩])
  (.seq [0, 1, 6, 7, 8, 9, 10] (.seq [0, 1, 6, 7, 8, 9, 10, 43] (.reg [⟨(some 41), .mv (.t 10), none⟩,
    ⟨(some 42), .mv (.t 6), none⟩,
    ⟨(some 43), .bin .geq (.t 41) (.t 42), none⟩])
  (.cond (.t 43)
  (.reg [⟨(some 44), .mv (.t 10), none⟩,
    ⟨(some 45), .mv (.t 6), none⟩,
    ⟨(some 46), .bin .sub (.t 44) (.t 45), none⟩,
    ⟨(some 10), .mv (.t 46), none⟩])
  .skip))
  (.dreg [0, 1, 6, 7, 8, 9] [⟨0, ⟨(some 47), .mv (.t 0), none⟩, [], []⟩,
    ⟨1, ⟨(some 48), .mv (.t 9), none⟩, [], []⟩,
    ⟨2, ⟨(some 49), .mv (.t 0), none⟩, [], []⟩,
    ⟨3, ⟨(some 50), .mv (.t 1), none⟩, [], []⟩,
    ⟨4, ⟨(some 51), .mv (.t 10), none⟩, [], []⟩,
    ⟨5, ⟨(some 52), .bin .add (.t 50) (.t 51), none⟩, [], []⟩,
    ⟨6, ⟨(some 53), .mv (.t 0), none⟩, [], []⟩,
    ⟨7, ⟨(some 54), .mv (.t 1), none⟩, [], []⟩,
    ⟨8, ⟨(some 55), .mv (.t 10), none⟩, [], []⟩,
    ⟨9, ⟨(some 56), .bin .add (.t 54) (.t 55), none⟩, [], []⟩,
    ⟨10, ⟨(some 57), .iaddr 1 none (.t 53) (.t 56), none⟩, [], []⟩,
    ⟨11, ⟨(some 58), .load none (.t 57), none⟩, [], []⟩,
    ⟨12, ⟨(some 59), .mv (.t 0), none⟩, [], []⟩,
    ⟨13, ⟨(some 60), .mv (.t 9), none⟩, [], []⟩,
    ⟨14, ⟨(some 61), .iaddr 1 none (.t 59) (.t 60), none⟩, [], []⟩,
    ⟨15, ⟨(some 62), .load none (.t 61), none⟩, [], []⟩,
    ⟨16, ⟨(some 63), .iaddr 1 none (.t 47) (.t 48), none⟩, [], []⟩,
    ⟨17, ⟨none, .store 1 (.t 63) (.t 58), none⟩, [], []⟩,
    ⟨18, ⟨(some 64), .iaddr 1 none (.t 49) (.t 52), none⟩, [], []⟩,
    ⟨19, ⟨none, .store 1 (.t 64) (.t 62), none⟩, [], []⟩]))))
  (.reg [⟨(some 34), .mv (.t 9), none⟩,
    ⟨(some 35), .bin .add (.t 34) (.c (.i .i64 1)), none⟩,
    ⟨(some 9), .mv (.t 35), none⟩]))))))))
  .skip)))
theorem ree346 : Tryz.f346.body.bind (res Tryz.prog Tryz.f346.ntmps [] []) = some (erase ae346) := by kernel_rfl
def fs346 : FnS := .fn 65 ae346 []
theorem fsok346 : FnOk Tryz.prog 346 fs346 := fun _ _ _ hn h => ctr_of_resC Tryz.func346 (by kernel_rfl) ree346 (by kernel_rfl) hn h
abbrev ae347 : ACode := (.seq [0, 1, 2] (.reg [⟨(some 6), .mv (.c (.i .i64 0)), none⟩,
    ⟨(some 7), .mv (.c (.i .i64 0)), none⟩])
  (.seq [0, 1, 8] (.reg [⟨(some 13), .mv (.t 2), none⟩,
    ⟨(some 14), .mv (.t 1), none⟩,
    ⟨(some 15), .bin .sub (.t 13) (.t 14), none⟩,
    ⟨(some 8), .mv (.t 15), none⟩])
  (.seq [0, 1, 8, 9] (.reg [⟨(some 9), .alloc [(.i .i64 0)], none⟩])
  (.seq [0, 1, 8, 9, 10] (.reg [⟨(some 16), .mv (.t 1), none⟩,
    ⟨(some 17), .mv (.t 8), none⟩,
    ⟨(some 18), .bin .quo (.t 17) (.c (.i .i64 4)), none⟩,
    ⟨(some 19), .bin .mul (.t 18) (.c (.i .i64 1)), none⟩,
    ⟨(some 20), .bin .add (.t 16) (.t 19), none⟩,
    ⟨(some 10), .mv (.t 20), none⟩])
  (.seq [0, 1, 8, 9, 10, 11] (.reg [⟨(some 21), .mv (.t 1), none⟩,
    ⟨(some 22), .mv (.t 8), none⟩,
    ⟨(some 23), .bin .quo (.t 22) (.c (.i .i64 4)), none⟩,
    ⟨(some 24), .bin .mul (.t 23) (.c (.i .i64 2)), none⟩,
    ⟨(some 25), .bin .add (.t 21) (.t 24), none⟩,
    ⟨(some 11), .mv (.t 25), none⟩])
  (.seq [0, 8, 9, 10, 11, 12] (.reg [⟨(some 26), .mv (.t 1), none⟩,
    ⟨(some 27), .mv (.t 8), none⟩,
    ⟨(some 28), .bin .quo (.t 27) (.c (.i .i64 4)), none⟩,
    ⟨(some 29), .bin .mul (.t 28) (.c (.i .i64 3)), none⟩,
    ⟨(some 30), .bin .add (.t 26) (.t 29), none⟩,
    ⟨(some 12), .mv (.t 30), none⟩])
  (.seq [9, 11] (.seq [0, 8, 9, 10, 11, 12, 32] (.reg [⟨(some 31), .mv (.t 8), none⟩,
    ⟨(some 32), .bin .geq (.t 31) (.c (.i .i64 8)), none⟩])
  (.cond (.t 32)
  (.seq [0, 9, 10, 11, 12] (.seq [0, 9, 10, 11, 12, 34] (.reg [⟨(some 33), .mv (.t 8), none⟩,
    ⟨(some 34), .bin .geq (.t 33) (.c (.i .i64 50)), none⟩])
  (.cond (.t 34)
  (.seq [0, 9, 10, 11, 12] (.reg [⟨(some 35), .mv (.t 0), none⟩,
    ⟨(some 36), .mv (.t 10), none⟩,
    ⟨(some 37), .call 376 [(.t 35), (.t 36), (.t 9)], none⟩,
    ⟨(some 10), .mv (.t 37), none⟩])
  (.seq [0, 9, 10, 11, 12] (.reg [⟨(some 38), .mv (.t 0), none⟩,
    ⟨(some 39), .mv (.t 11), none⟩,
    ⟨(some 40), .call 376 [(.t 38), (.t 39), (.t 9)], none⟩,
    ⟨(some 11), .mv (.t 40), none⟩])
  (.reg [⟨(some 41), .mv (.t 0), none⟩,
    ⟨(some 42), .mv (.t 12), none⟩,
    ⟨(some 43), .call 376 [(.t 41), (.t 42), (.t 9)], none⟩,
    ⟨(some 12), .mv (.t 43), none⟩])))
  .skip))
  (.reg [⟨(some 44), .mv (.t 0), none⟩,
    ⟨(some 45), .mv (.t 10), none⟩,
    ⟨(some 46), .mv (.t 11), none⟩,
    ⟨(some 47), .mv (.t 12), none⟩,
    ⟨(some 48), .call 377 [(.t 44), (.t 45), (.t 46), (.t 47), (.t 9)], none⟩,
    ⟨(some 11), .mv (.t 48), none⟩]))
  .skip))
  (.seq [11, 49] (.reg [⟨(some 49), .load none (.t 9), none⟩])
  (.block 0 (.seq [11, 49, 51] (.reg [⟨(some 52), .bin .eql (.t 49) (.c (.i .i64 0)), none⟩,
    ⟨(some 51), .mv (.t 52), none⟩])
  (.cond (.t 51)
  (.seq [6, 7] (.reg [⟨(some 53), .mv (.t 11), none⟩,
    ⟨(some 6), .mv (.t 53), none⟩,
    ⟨(some 7), .mv (.c (.i .i64 1)), none⟩])
  .ret)
  (.seq [11, 54] (.reg [⟨(some 55), .bin .eql (.t 49) (.c (.i .i64 12)), none⟩,
    ⟨(some 54), .mv (.t 55), none⟩])
  (.cond (.t 54)
  (.seq [6, 7] (.reg [⟨(some 56), .mv (.t 11), none⟩,
    ⟨(some 6), .mv (.t 56), none⟩,
    ⟨(some 7), .mv (.c (.i .i64 2)), none⟩])
  .ret)
  (.seq [6, 7] (.reg [⟨(some 50), .mv (.t 11), none⟩,
    ⟨(some 6), .mv (.t 50), none⟩,
    ⟨(some 7), .mv (.c (.i .i64 0)), none⟩])
  .ret))))))))))))))
theorem ree347 : Tryz.f347.body.bind (res Tryz.prog Tryz.f347.ntmps [] []) = some (erase ae347) := by kernel_rfl
def fs347 : FnS := .fn 57 ae347 [.t 6, .t 7]
theorem fsok347 : FnOk Tryz.prog 347 fs347 := fun _ _ _ hn h => ctr_of_resC Tryz.func347 (by kernel_rfl) ree347 (by kernel_rfl) hn h
abbrev ae348 : ACode := (.seq [0, 2, 6] (.reg [⟨(some 8), .mv (.t 1), none⟩,
    ⟨(some 6), .mv (.t 8), none⟩])
  (.seq [0, 6, 7] (.reg [⟨(some 9), .mv (.t 2), none⟩,
    ⟨(some 10), .bin .sub (.t 9) (.c (.i .i64 1)), none⟩,
    ⟨(some 7), .mv (.t 10), none⟩])
  (.block 0 (.loop [0, 6, 7] (.seq [0, 6, 7] (.seq [0, 6, 7, 13] (.reg [⟨(some 11), .mv (.t 6), none⟩,
    ⟨(some 12), .mv (.t 7), none⟩,
    ⟨(some 13), .bin .lss (.t 11) (.t 12), none⟩])
  (.cond (.t 13)
  .skip
  (.exit 0)))
  (.block 1 (.seq [0, 6, 7] (.dreg [0, 6, 7] [⟨0, ⟨(some 14), .mv (.t 0), none⟩, [], []⟩,
    ⟨1, ⟨(some 15), .mv (.t 6), none⟩, [], []⟩,
    ⟨2, ⟨(some 16), .mv (.t 0), none⟩, [], []⟩,
    ⟨3, ⟨(some 17), .mv (.t 7), none⟩, [], []⟩,
    ⟨4, ⟨(some 18), .mv (.t 0), none⟩, [], []⟩,
    ⟨5, ⟨(some 19), .mv (.t 7), none⟩, [], []⟩,
    ⟨6, ⟨(some 20), .iaddr 1 none (.t 18) (.t 19), none⟩, [], []⟩,
    ⟨7, ⟨(some 21), .load none (.t 20), none⟩, [], []⟩,
    ⟨8, ⟨(some 22), .mv (.t 0), none⟩, [], []⟩,
    ⟨9, ⟨(some 23), .mv (.t 6), none⟩, [], []⟩,
    ⟨10, ⟨(some 24), .iaddr 1 none (.t 22) (.t 23), none⟩, [], []⟩,
    ⟨11, ⟨(some 25), .load none (.t 24), none⟩, [], []⟩,
    ⟨12, ⟨(some 26), .iaddr 1 none (.t 14) (.t 15), none⟩, [], []⟩,
    ⟨13, ⟨none, .store 1 (.t 26) (.t 21), none⟩, [], []⟩,
    ⟨14, ⟨(some 27), .iaddr 1 none (.t 16) (.t 17), none⟩, [], []⟩,
    ⟨15, ⟨none, .store 1 (.t 27) (.t 25), none⟩, [], []⟩])
  (.seq [0, 6, 7] (.reg [⟨(some 28), .mv (.t 6), none⟩,
    ⟨(some 29), .bin .add (.t 28) (.c (.i .i64 1)), none⟩,
    ⟨(some 6), .mv (.t 29), none⟩])
  (.reg [⟨(some 30), .mv (.t 7), none⟩,
    ⟨(some 31), .bin .sub (.t 30) (.c (.i .i64 1)), none⟩,
    ⟨(some 7), .mv (.t 31), none⟩])))))))))
theorem ree348 : Tryz.f348.body.bind (res Tryz.prog Tryz.f348.ntmps [] []) = some (erase ae348) := by kernel_rfl
def fs348 : FnS := .fn 32 ae348 []
theorem fsok348 : FnOk Tryz.prog 348 fs348 := fun _ _ _ hn h => ctr_of_resC Tryz.func348 (by kernel_rfl) ree348 (by kernel_rfl) hn h
abbrev ae349 : ACode := (.seq [0, 1, 2] (.reg [⟨(some 6), .mv (.c (.b false)), none⟩])
  (.seq [0, 1, 2, 7] (.reg [⟨(some 11), .mv (.t 1), none⟩,
    ⟨(some 12), .bin .add (.t 11) (.c (.i .i64 1)), none⟩,
    ⟨(some 7), .mv (.t 12), none⟩])
  (.seq [] (.seq [0, 1, 2, 7, 8] (.reg [⟨(some 8), .mv (.c (.i .i64 0)), none⟩])
  (.block 0 (.loop [0, 1, 2, 7, 8] (.seq [0, 1, 2, 7, 8] (.seq [0, 1, 2, 7, 8, 14] (.reg [⟨(some 13), .mv (.t 8), none⟩,
    ⟨(some 14), .bin .lss (.t 13) (.c (.i .i64 5)), none⟩])
  (.cond (.t 14)
  .skip
  (.exit 0)))
  (.seq [0, 1, 2, 7, 8] (.block 1 (.seq [0, 1, 2, 7, 8] (.block 2 (.loop [0, 1, 2, 7, 8] (.seq [0, 1, 2, 7, 8] (.seq [0, 1, 2, 7, 8, 32] (.dreg [0, 1, 2, 7, 8, 32] [⟨0, ⟨(some 17), .mv (.t 7), none⟩, [], []⟩,
    ⟨1, ⟨(some 18), .mv (.t 2), none⟩, [], []⟩,
    ⟨2, ⟨(some 19), .bin .lss (.t 17) (.t 18), none⟩, [], []⟩,
    ⟨3, ⟨(some 20), .mv (.t 19), none⟩, [], []⟩,
    ⟨4, ⟨(some 21), .mv (.t 0), (some (20, true))⟩, [], []⟩,
    ⟨5, ⟨(some 22), .mv (.t 7), (some (20, true))⟩, [], []⟩,
    ⟨6, ⟨(some 23), .iaddr 1 none (.t 21) (.t 22), (some (20, true))⟩, [], []⟩,
    ⟨7, ⟨(some 24), .load none (.t 23), (some (20, true))⟩, [], []⟩,
    ⟨8, ⟨(some 25), .mv (.t 0), (some (20, true))⟩, [], []⟩,
    ⟨9, ⟨(some 26), .mv (.t 7), (some (20, true))⟩, [], []⟩,
    ⟨10, ⟨(some 27), .bin .sub (.t 26) (.c (.i .i64 1)), (some (20, true))⟩, [], []⟩,
    ⟨11, ⟨(some 28), .iaddr 1 none (.t 25) (.t 27), (some (20, true))⟩, [], []⟩,
    ⟨12, ⟨(some 29), .load none (.t 28), (some (20, true))⟩, [], []⟩,
    ⟨13, ⟨(some 30), .call 350 [(.t 24), (.t 29)], (some (20, true))⟩, [], []⟩,
    ⟨14, ⟨(some 31), .not (.t 30), (some (20, true))⟩, [], []⟩,
    ⟨15, ⟨(some 32), .pick (.t 20) (.t 31) (.c (.b false)), none⟩, [], []⟩])
  (.cond (.t 32)
  .skip
  (.exit 2)))
  (.block 3 (.reg [⟨(some 33), .mv (.t 7), none⟩,
    ⟨(some 34), .bin .add (.t 33) (.c (.i .i64 1)), none⟩,
    ⟨(some 7), .mv (.t 34), none⟩])))))
  (.seq [0, 1, 2, 7, 8] (.seq [0, 1, 2, 7, 8, 37] (.reg [⟨(some 35), .mv (.t 7), none⟩,
    ⟨(some 36), .mv (.t 2), none⟩,
    ⟨(some 37), .bin .eql (.t 35) (.t 36), none⟩])
  (.cond (.t 37)
  (.seq [6] (.reg [⟨(some 6), .mv (.c (.b true)), none⟩])
  .ret)
  .skip))
  (.seq [0, 1, 2, 7, 8] (.seq [0, 1, 2, 7, 8, 41] (.reg [⟨(some 38), .mv (.t 2), none⟩,
    ⟨(some 39), .mv (.t 1), none⟩,
    ⟨(some 40), .bin .sub (.t 38) (.t 39), none⟩,
    ⟨(some 41), .bin .lss (.t 40) (.c (.i .i64 50)), none⟩])
  (.cond (.t 41)
  (.seq [6] (.reg [⟨(some 6), .mv (.c (.b false)), none⟩])
  .ret)
  .skip))
  (.seq [0, 1, 2, 7, 8] (.dreg [0, 1, 2, 7, 8] [⟨0, ⟨(some 42), .mv (.t 0), none⟩, [], []⟩,
    ⟨1, ⟨(some 43), .mv (.t 7), none⟩, [], []⟩,
    ⟨2, ⟨(some 44), .mv (.t 0), none⟩, [], []⟩,
    ⟨3, ⟨(some 45), .mv (.t 7), none⟩, [], []⟩,
    ⟨4, ⟨(some 46), .bin .sub (.t 45) (.c (.i .i64 1)), none⟩, [], []⟩,
    ⟨5, ⟨(some 47), .mv (.t 0), none⟩, [], []⟩,
    ⟨6, ⟨(some 48), .mv (.t 7), none⟩, [], []⟩,
    ⟨7, ⟨(some 49), .bin .sub (.t 48) (.c (.i .i64 1)), none⟩, [], []⟩,
    ⟨8, ⟨(some 50), .iaddr 1 none (.t 47) (.t 49), none⟩, [], []⟩,
    ⟨9, ⟨(some 51), .load none (.t 50), none⟩, [], []⟩,
    ⟨10, ⟨(some 52), .mv (.t 0), none⟩, [], []⟩,
    ⟨11, ⟨(some 53), .mv (.t 7), none⟩, [], []⟩,
    ⟨12, ⟨(some 54), .iaddr 1 none (.t 52) (.t 53), none⟩, [], []⟩,
    ⟨13, ⟨(some 55), .load none (.t 54), none⟩, [], []⟩,
    ⟨14, ⟨(some 56), .iaddr 1 none (.t 42) (.t 43), none⟩, [], []⟩,
    ⟨15, ⟨none, .store 1 (.t 56) (.t 51), none⟩, [], []⟩,
    ⟨16, ⟨(some 57), .iaddr 1 none (.t 44) (.t 46), none⟩, [], []⟩,
    ⟨17, ⟨none, .store 1 (.t 57) (.t 55), none⟩, [], []⟩])
  (.seq [0, 1, 2, 7, 8] (.seq [0, 1, 2, 7, 8, 61] (.reg [⟨(some 58), .mv (.t 7), none⟩,
    ⟨(some 59), .mv (.t 1), none⟩,
    ⟨(some 60), .bin .sub (.t 58) (.t 59), none⟩,
    ⟨(some 61), .bin .geq (.t 60) (.c (.i .i64 2)), none⟩])
  (.cond (.t 61)
  (.seq [0, 1, 2, 7, 8, 9] (.reg [⟨(some 62), .mv (.t 7), none⟩,
    ⟨(some 63), .bin .sub (.t 62) (.c (.i .i64 1)), none⟩,
    ⟨(some 9), .mv (.t 63), none⟩])
  (.block 4 (.loop [0, 1, 2, 7, 8, 9] (.seq [0, 1, 2, 7, 8, 9] (.seq [0, 1, 2, 7, 8, 9, 65] (.reg [⟨(some 64), .mv (.t 9), none⟩,
    ⟨(some 65), .bin .geq (.t 64) (.c (.i .i64 1)), none⟩])
  (.cond (.t 65)
  .skip
  (.exit 4)))
  (.seq [0, 1, 2, 7, 8, 9] (.block 5 (.seq [0, 1, 2, 7, 8, 9] (.seq [0, 1, 2, 7, 8, 9, 78] (.dreg [0, 1, 2, 7, 8, 9, 78] [⟨0, ⟨(some 68), .mv (.t 0), none⟩, [], []⟩,
    ⟨1, ⟨(some 69), .mv (.t 9), none⟩, [], []⟩,
    ⟨2, ⟨(some 70), .iaddr 1 none (.t 68) (.t 69), none⟩, [], []⟩,
    ⟨3, ⟨(some 71), .load none (.t 70), none⟩, [], []⟩,
    ⟨4, ⟨(some 72), .mv (.t 0), none⟩, [], []⟩,
    ⟨5, ⟨(some 73), .mv (.t 9), none⟩, [], []⟩,
    ⟨6, ⟨(some 74), .bin .sub (.t 73) (.c (.i .i64 1)), none⟩, [], []⟩,
    ⟨7, ⟨(some 75), .iaddr 1 none (.t 72) (.t 74), none⟩, [], []⟩,
    ⟨8, ⟨(some 76), .load none (.t 75), none⟩, [], []⟩,
    ⟨9, ⟨(some 77), .call 350 [(.t 71), (.t 76)], none⟩, [], []⟩,
    ⟨10, ⟨(some 78), .not (.t 77), none⟩, [], []⟩])
  (.cond (.t 78)
  (.exit 4)
  .skip))
  (.dreg [0, 1, 2, 7, 8, 9] [⟨0, ⟨(some 79), .mv (.t 0), none⟩, [], []⟩,
    ⟨1, ⟨(some 80), .mv (.t 9), none⟩, [], []⟩,
    ⟨2, ⟨(some 81), .mv (.t 0), none⟩, [], []⟩,
    ⟨3, ⟨(some 82), .mv (.t 9), none⟩, [], []⟩,
    ⟨4, ⟨(some 83), .bin .sub (.t 82) (.c (.i .i64 1)), none⟩, [], []⟩,
    ⟨5, ⟨(some 84), .mv (.t 0), none⟩, [], []⟩,
    ⟨6, ⟨(some 85), .mv (.t 9), none⟩, [], []⟩,
    ⟨7, ⟨(some 86), .bin .sub (.t 85) (.c (.i .i64 1)), none⟩, [], []⟩,
    ⟨8, ⟨(some 87), .iaddr 1 none (.t 84) (.t 86), none⟩, [], []⟩,
    ⟨9, ⟨(some 88), .load none (.t 87), none⟩, [], []⟩,
    ⟨10, ⟨(some 89), .mv (.t 0), none⟩, [], []⟩,
    ⟨11, ⟨(some 90), .mv (.t 9), none⟩, [], []⟩,
    ⟨12, ⟨(some 91), .iaddr 1 none (.t 89) (.t 90), none⟩, [], []⟩,
    ⟨13, ⟨(some 92), .load none (.t 91), none⟩, [], []⟩,
    ⟨14, ⟨(some 93), .iaddr 1 none (.t 79) (.t 80), none⟩, [], []⟩,
    ⟨15, ⟨none, .store 1 (.t 93) (.t 88), none⟩, [], []⟩,
    ⟨16, ⟨(some 94), .iaddr 1 none (.t 81) (.t 83), none⟩, [], []⟩,
    ⟨17, ⟨none, .store 1 (.t 94) (.t 92), none⟩, [], []⟩])))
  (.reg [⟨(some 66), .mv (.t 9), none⟩,
    ⟨(some 67), .bin .sub (.t 66) (.c (.i .i64 1)), none⟩,
    ⟨(some 9), .mv (.t 67), none⟩]))))))
  .skip))
  (.seq [0, 1, 2, 7, 8, 98] (.reg [⟨(some 95), .mv (.t 2), none⟩,
    ⟨(some 96), .mv (.t 7), none⟩,
    ⟨(some 97), .bin .sub (.t 95) (.t 96), none⟩,
    ⟨(some 98), .bin .geq (.t 97) (.c (.i .i64 2)), none⟩])
  (.cond (.t 98)
  (.seq [0, 1, 2, 7, 8, 10] (.reg [⟨(some 99), .mv (.t 7), none⟩,
    ⟨(some 100), .bin .add (.t 99) (.c (.i .i64 1)), none⟩,
    ⟨(some 10), .mv (.t 100), none⟩])
  (.block 6 (.loop [0, 1, 2, 7, 8, 10] (.seq [0, 1, 2, 7, 8, 10] (.seq [0, 1, 2, 7, 8, 10, 103] (.reg [⟨(some 101), .mv (.t 10), none⟩,
    ⟨(some 102), .mv (.t 2), none⟩,
    ⟨(some 103), .bin .lss (.t 101) (.t 102), none⟩])
  (.cond (.t 103)
  .skip
  (.exit 6)))
  (.seq [0, 1, 2, 7, 8, 10] (.block 7 (.seq [0, 1, 2, 7, 8, 10] (.seq [0, 1, 2, 7, 8, 10, 116] (.dreg [0, 1, 2, 7, 8, 10, 116] [⟨0, ⟨(some 106), .mv (.t 0), none⟩, [], []⟩,
    ⟨1, ⟨(some 107), .mv (.t 10), none⟩, [], []⟩,
    ⟨2, ⟨(some 108), .iaddr 1 none (.t 106) (.t 107), none⟩, [], []⟩,
    ⟨3, ⟨(some 109), .load none (.t 108), none⟩, [], []⟩,
    ⟨4, ⟨(some 110), .mv (.t 0), none⟩, [], []⟩,
    ⟨5, ⟨(some 111), .mv (.t 10), none⟩, [], []⟩,
    ⟨6, ⟨(some 112), .bin .sub (.t 111) (.c (.i .i64 1)), none⟩, [], []⟩,
    ⟨7, ⟨(some 113), .iaddr 1 none (.t 110) (.t 112), none⟩, [], []⟩,
    ⟨8, ⟨(some 114), .load none (.t 113), none⟩, [], []⟩,
    ⟨9, ⟨(some 115), .call 350 [(.t 109), (.t 114)], none⟩, [], []⟩,
    ⟨10, ⟨(some 116), .not (.t 115), none⟩, [], []⟩])
  (.cond (.t 116)
  (.exit 6)
  .skip))
  (.dreg [0, 1, 2, 7, 8, 10] [⟨0, ⟨(some 117), .mv (.t 0), none⟩, [], []⟩,
    ⟨1, ⟨(some 118), .mv (.t 10), none⟩, [], []⟩,
    ⟨2, ⟨(some 119), .mv (.t 0), none⟩, [], []⟩,
    ⟨3, ⟨(some 120), .mv (.t 10), none⟩, [], []⟩,
    ⟨4, ⟨(some 121), .bin .sub (.t 120) (.c (.i .i64 1)), none⟩, [], []⟩,
    ⟨5, ⟨(some 122), .mv (.t 0), none⟩, [], []⟩,
    ⟨6, ⟨(some 123), .mv (.t 10), none⟩, [], []⟩,
    ⟨7, ⟨(some 124), .bin .sub (.t 123) (.c (.i .i64 1)), none⟩, [], []⟩,
    ⟨8, ⟨(some 125), .iaddr 1 none (.t 122) (.t 124), none⟩, [], []⟩,
    ⟨9, ⟨(some 126), .load none (.t 125), none⟩, [], []⟩,
    ⟨10, ⟨(some 127), .mv (.t 0), none⟩, [], []⟩,
    ⟨11, ⟨(some 128), .mv (.t 10), none⟩, [], []⟩,
    ⟨12, ⟨(some 129), .iaddr 1 none (.t 127) (.t 128), none⟩, [], []⟩,
    ⟨13, ⟨(some 130), .load none (.t 129), none⟩, [], []⟩,
    ⟨14, ⟨(some 131), .iaddr 1 none (.t 117) (.t 118), none⟩, [], []⟩,
    ⟨15, ⟨none, .store 1 (.t 131) (.t 126), none⟩, [], []⟩,
    ⟨16, ⟨(some 132), .iaddr 1 none (.t 119) (.t 121), none⟩, [], []⟩,
    ⟨17, ⟨none, .store 1 (.t 132) (.t 130), none⟩, [], []⟩])))
  (.reg [⟨(some 104), .mv (.t 10), none⟩,
    ⟨(some 105), .bin .add (.t 104) (.c (.i .i64 1)), none⟩,
    ⟨(some 10), .mv (.t 105), none⟩]))))))
  .skip))))))))
  (.reg [⟨(some 15), .mv (.t 8), none⟩,
    ⟨(some 16), .bin .add (.t 15) (.c (.i .i64 1)), none⟩,
    ⟨(some 8), .mv (.t 16), none⟩]))))))
  (.seq [6] (.reg [⟨(some 6), .mv (.c (.b false)), none⟩])
  .ret))))
theorem ree349 : Tryz.f349.body.bind (res Tryz.prog Tryz.f349.ntmps [] []) = some (erase ae349) := by kernel_rfl
def fs349 : FnS := .fn 133 ae349 [.t 6]
theorem fsok349 : FnOk Tryz.prog 349 fs349 := fun _ _ _ hn h => ctr_of_resC Tryz.func349 (by kernel_rfl) ree349 (by kernel_rfl) hn h
abbrev ae350 : ACode := (.seq [0, 1] (.reg [⟨(some 4), .mv (.c (.b false)), none⟩])
  (.seq [4] (.reg [⟨(some 5), .mv (.t 0), none⟩,
    ⟨(some 6), .call 378 [(.t 5)], none⟩,
    ⟨(some 7), .mv (.t 6), none⟩,
    ⟨(some 8), .mv (.t 1), (some (7, true))⟩,
    ⟨(some 9), .call 378 [(.t 8)], (some (7, true))⟩,
    ⟨(some 10), .not (.t 9), (some (7, true))⟩,
    ⟨(some 11), .pick (.t 7) (.t 10) (.c (.b false)), none⟩,
    ⟨(some 12), .mv (.t 11), none⟩,
    ⟨(some 13), .mv (.t 0), (some (12, false))⟩,
    ⟨(some 14), .mv (.t 1), (some (12, false))⟩,
    ⟨(some 15), .bin .lss (.t 13) (.t 14), (some (12, false))⟩,
    ⟨(some 16), .pick (.t 12) (.c (.b true)) (.t 15), none⟩,
    ⟨(some 4), .mv (.t 16), none⟩])
  .ret))
theorem ree350 : Tryz.f350.body.bind (res Tryz.prog Tryz.f350.ntmps [] []) = some (erase ae350) := by kernel_rfl
def fs350 : FnS := .fn 17 ae350 [.t 4]
theorem fsok350 : FnOk Tryz.prog 350 fs350 := fun _ _ _ hn h => ctr_of_resC Tryz.func350 (by kernel_rfl) ree350 (by kernel_rfl) hn h
abbrev ae351 : ACode := (.seq [0, 1, 2, 3] (.reg [⟨(some 8), .mv (.c (.i .i64 0)), none⟩])
  (.seq [0, 1, 2] (.dreg [0, 1, 2] [⟨0, ⟨(some 11), .mv (.t 0), none⟩, [], []⟩,
    ⟨1, ⟨(some 12), .mv (.t 1), none⟩, [], []⟩,
    ⟨2, ⟨(some 13), .mv (.t 0), none⟩, [], []⟩,
    ⟨3, ⟨(some 14), .mv (.t 3), none⟩, [], []⟩,
    ⟨4, ⟨(some 15), .mv (.t 0), none⟩, [], []⟩,
    ⟨5, ⟨(some 16), .mv (.t 3), none⟩, [], []⟩,
    ⟨6, ⟨(some 17), .iaddr 1 none (.t 15) (.t 16), none⟩, [], []⟩,
    ⟨7, ⟨(some 18), .load none (.t 17), none⟩, [], []⟩,
    ⟨8, ⟨(some 19), .mv (.t 0), none⟩, [], []⟩,
    ⟨9, ⟨(some 20), .mv (.t 1), none⟩, [], []⟩,
    ⟨10, ⟨(some 21), .iaddr 1 none (.t 19) (.t 20), none⟩, [], []⟩,
    ⟨11, ⟨(some 22), .load none (.t 21), none⟩, [], []⟩,
    ⟨12, ⟨(some 23), .iaddr 1 none (.t 11) (.t 12), none⟩, [], []⟩,
    ⟨13, ⟨none, .store 1 (.t 23) (.t 18), none⟩, [], []⟩,
    ⟨14, ⟨(some 24), .iaddr 1 none (.t 13) (.t 14), none⟩, [], []⟩,
    ⟨15, ⟨none, .store 1 (.t 24) (.t 22), none⟩, [], []⟩])
  (.seq [0, 1, 9, 10] (.reg [⟨(some 25), .mv (.t 1), none⟩,
    ⟨(some 26), .bin .add (.t 25) (.c (.i .i64 1)), none⟩,
    ⟨(some 27), .mv (.t 2), none⟩,
    ⟨(some 28), .bin .sub (.t 27) (.c (.i .i64 1)), none⟩,
    ⟨(some 9), .mv (.t 26), none⟩,
    ⟨(some 10), .mv (.t 28), none⟩])
  (.seq [9] (.block 0 (.loop [0, 1, 9, 10] (.block 1 (.seq [0, 1, 9, 10] (.block 2 (.loop [0, 1, 9, 10] (.seq [0, 1, 9, 10] (.seq [0, 1, 9, 10, 43] (.dreg [0, 1, 9, 10, 43] [⟨0, ⟨(some 29), .mv (.t 9), none⟩, [], []⟩,
    ⟨1, ⟨(some 30), .mv (.t 10), none⟩, [], []⟩,
    ⟨2, ⟨(some 31), .bin .leq (.t 29) (.t 30), none⟩, [], []⟩,
    ⟨3, ⟨(some 32), .mv (.t 31), none⟩, [], []⟩,
    ⟨4, ⟨(some 33), .mv (.t 0), (some (32, true))⟩, [], []⟩,
    ⟨5, ⟨(some 34), .mv (.t 1), (some (32, true))⟩, [], []⟩,
    ⟨6, ⟨(some 35), .iaddr 1 none (.t 33) (.t 34), (some (32, true))⟩, [], []⟩,
    ⟨7, ⟨(some 36), .load none (.t 35), (some (32, true))⟩, [], []⟩,
    ⟨8, ⟨(some 37), .mv (.t 0), (some (32, true))⟩, [], []⟩,
    ⟨9, ⟨(some 38), .mv (.t 9), (some (32, true))⟩, [], []⟩,
    ⟨10, ⟨(some 39), .iaddr 1 none (.t 37) (.t 38), (some (32, true))⟩, [], []⟩,
    ⟨11, ⟨(some 40), .load none (.t 39), (some (32, true))⟩, [], []⟩,
    ⟨12, ⟨(some 41), .call 350 [(.t 36), (.t 40)], (some (32, true))⟩, [], []⟩,
    ⟨13, ⟨(some 42), .not (.t 41), (some (32, true))⟩, [], []⟩,
    ⟨14, ⟨(some 43), .pick (.t 32) (.t 42) (.c (.b false)), none⟩, [], []⟩])
  (.cond (.t 43)
  .skip
  (.exit 2)))
  (.block 3 (.reg [⟨(some 44), .mv (.t 9), none⟩,
    ⟨(some 45), .bin .add (.t 44) (.c (.i .i64 1)), none⟩,
    ⟨(some 9), .mv (.t 45), none⟩])))))
  (.seq [0, 1, 9, 10] (.block 4 (.loop [0, 1, 9, 10] (.seq [0, 1, 9, 10] (.seq [0, 1, 9, 10, 59] (.dreg [0, 1, 9, 10, 59] [⟨0, ⟨(some 46), .mv (.t 9), none⟩, [], []⟩,
    ⟨1, ⟨(some 47), .mv (.t 10), none⟩, [], []⟩,
    ⟨2, ⟨(some 48), .bin .leq (.t 46) (.t 47), none⟩, [], []⟩,
    ⟨3, ⟨(some 49), .mv (.t 48), none⟩, [], []⟩,
    ⟨4, ⟨(some 50), .mv (.t 0), (some (49, true))⟩, [], []⟩,
    ⟨5, ⟨(some 51), .mv (.t 1), (some (49, true))⟩, [], []⟩,
    ⟨6, ⟨(some 52), .iaddr 1 none (.t 50) (.t 51), (some (49, true))⟩, [], []⟩,
    ⟨7, ⟨(some 53), .load none (.t 52), (some (49, true))⟩, [], []⟩,
    ⟨8, ⟨(some 54), .mv (.t 0), (some (49, true))⟩, [], []⟩,
    ⟨9, ⟨(some 55), .mv (.t 10), (some (49, true))⟩, [], []⟩,
    ⟨10, ⟨(some 56), .iaddr 1 none (.t 54) (.t 55), (some (49, true))⟩, [], []⟩,
    ⟨11, ⟨(some 57), .load none (.t 56), (some (49, true))⟩, [], []⟩,
    ⟨12, ⟨(some 58), .call 350 [(.t 53), (.t 57)], (some (49, true))⟩, [], []⟩,
    ⟨13, ⟨(some 59), .pick (.t 49) (.t 58) (.c (.b false)), none⟩, [], []⟩])
  (.cond (.t 59)
  .skip
  (.exit 4)))
  (.block 5 (.reg [⟨(some 60), .mv (.t 10), none⟩,
    ⟨(some 61), .bin .sub (.t 60) (.c (.i .i64 1)), none⟩,
    ⟨(some 10), .mv (.t 61), none⟩])))))
  (.seq [0, 1, 9, 10] (.seq [0, 1, 9, 10, 64] (.reg [⟨(some 62), .mv (.t 9), none⟩,
    ⟨(some 63), .mv (.t 10), none⟩,
    ⟨(some 64), .bin .gtr (.t 62) (.t 63), none⟩])
  (.cond (.t 64)
  (.exit 0)
  .skip))
  (.seq [0, 1, 9, 10] (.dreg [0, 1, 9, 10] [⟨0, ⟨(some 65), .mv (.t 0), none⟩, [], []⟩,
    ⟨1, ⟨(some 66), .mv (.t 9), none⟩, [], []⟩,
    ⟨2, ⟨(some 67), .mv (.t 0), none⟩, [], []⟩,
    ⟨3, ⟨(some 68), .mv (.t 10), none⟩, [], []⟩,
    ⟨4, ⟨(some 69), .mv (.t 0), none⟩, [], []⟩,
    ⟨5, ⟨(some 70), .mv (.t 10), none⟩, [], []⟩,
    ⟨6, ⟨(some 71), .iaddr 1 none (.t 69) (.t 70), none⟩, [], []⟩,
    ⟨7, ⟨(some 72), .load none (.t 71), none⟩, [], []⟩,
    ⟨8, ⟨(some 73), .mv (.t 0), none⟩, [], []⟩,
    ⟨9, ⟨(some 74), .mv (.t 9), none⟩, [], []⟩,
    ⟨10, ⟨(some 75), .iaddr 1 none (.t 73) (.t 74), none⟩, [], []⟩,
    ⟨11, ⟨(some 76), .load none (.t 75), none⟩, [], []⟩,
    ⟨12, ⟨(some 77), .iaddr 1 none (.t 65) (.t 66), none⟩, [], []⟩,
    ⟨13, ⟨none, .store 1 (.t 77) (.t 72), none⟩, [], []⟩,
    ⟨14, ⟨(some 78), .iaddr 1 none (.t 67) (.t 68), none⟩, [], []⟩,
    ⟨15, ⟨none, .store 1 (.t 78) (.t 76), none⟩, [], []⟩])
  (.seq [0, 1, 9, 10] (.reg [⟨(some 79), .mv (.t 9), none⟩,
    ⟨(some 80), .bin .add (.t 79) (.c (.i .i64 1)), none⟩,
    ⟨(some 9), .mv (.t 80), none⟩])
  (.reg [⟨(some 81), .mv (.t 10), none⟩,
    ⟨(some 82), .bin .sub (.t 81) (.c (.i .i64 1)), none⟩,
    ⟨(some 10), .mv (.t 82), none⟩])))))))))
  (.seq [8] (.reg [⟨(some 83), .mv (.t 9), none⟩,
    ⟨(some 8), .mv (.t 83), none⟩])
  .ret)))))
theorem ree351 : Tryz.f351.body.bind (res Tryz.prog Tryz.f351.ntmps [] []) = some (erase ae351) := by kernel_rfl
def fs351 : FnS := .fn 84 ae351 [.t 8]
theorem fsok351 : FnOk Tryz.prog 351 fs351 := fun _ _ _ hn h => ctr_of_resC Tryz.func351 (by kernel_rfl) ree351 (by kernel_rfl) hn h
end Go.Gl
