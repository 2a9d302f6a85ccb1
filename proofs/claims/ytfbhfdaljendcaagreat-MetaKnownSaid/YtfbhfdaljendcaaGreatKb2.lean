/-
  The code of functions of the program, resolved, for the evaluator (printed by wip/gen/mkclosed.py)
-/
import Derived.Test.YtfbhfdaljendcaaGreatEv7
import Derived.Test.YtfbhfdaljendcaaGreatProg
import Derived.KernelRfl
set_option linter.all false
set_option linter.unusedVariables false
set_option linter.unusedSimpArgs false
namespace Go.Gl
open Go.Proofs
abbrev ae143 : ACode := (.seq [0, 3, 4] (.reg [⟨(some 3), .box (.t 1), none⟩,
    ⟨(some 4), .alloc [(.i .i64 0), (.i .i64 0)], none⟩])
  (.seq [0, 3, 4, 5] (.reg [⟨(some 8), .mv (.t 0), none⟩,
    ⟨(some 9), .load (some 5) (.t 3), none⟩,
    ⟨(some 10), .call 182 [(.t 8), (.t 9), (.c (.i .i64 0))], none⟩,
    ⟨(some 5), .alloc [(.i .i64 0), (.i .i64 0)], none⟩,
    ⟨none, .store 2 (.t 5) (.t 10), none⟩])
  (.seq [3, 4, 5, 6] (.reg [⟨(some 11), .mv (.t 0), none⟩,
    ⟨(some 12), .load (some 5) (.t 3), none⟩,
    ⟨(some 13), .call 182 [(.t 11), (.t 12), (.c (.i .i64 1))], none⟩,
    ⟨(some 6), .alloc [(.i .i64 0), (.i .i64 0)], none⟩,
    ⟨none, .store 2 (.t 6) (.t 13), none⟩])
  (.seq [3, 4, 5, 6, 7] (.reg [⟨(some 7), .mv (.c (.b false)), none⟩])
  (.seq [4, 7] (.seq [4, 5, 6, 7, 16] (.reg [⟨(some 14), .faddr 0 (.t 3), none⟩,
    ⟨(some 15), .faddr 0 (.t 14), none⟩,
    ⟨(some 16), .load none (.t 15), none⟩])
  (.block 0 (.seq [4, 5, 6, 7, 16, 17] (.reg [⟨(some 18), .bin .eql (.t 16) (.c (.i .i64 12)), none⟩,
    ⟨(some 17), .mv (.t 18), none⟩])
  (.cond (.t 17)
  (.seq [4] (.dreg [4] [⟨0, ⟨(some 19), .load (some 2) (.t 5), none⟩, [], []⟩,
    ⟨2, ⟨(some 21), .load (some 2) (.t 6), none⟩, [], []⟩,
    ⟨1, ⟨(some 20), .call 124 [(.t 19)], none⟩, [2], [⟨(some 21), .load (some 2) (.t 6), none⟩]⟩,
    ⟨3, ⟨(some 22), .call 124 [(.t 21)], none⟩, [], []⟩,
    ⟨4, ⟨(some 23), .bin .add (.t 20) (.t 22), none⟩, [], []⟩,
    ⟨5, ⟨(some 24), .call 126 [(.t 23)], none⟩, [], []⟩,
    ⟨6, ⟨none, .store 2 (.t 4) (.t 24), none⟩, [], []⟩])
  .ret)
  (.seq [4, 5, 6, 7, 16, 25] (.reg [⟨(some 26), .bin .eql (.t 16) (.c (.i .i64 13)), none⟩,
    ⟨(some 25), .mv (.t 26), none⟩])
  (.cond (.t 25)
  (.seq [4] (.dreg [4] [⟨0, ⟨(some 27), .load (some 2) (.t 5), none⟩, [], []⟩,
    ⟨2, ⟨(some 29), .load (some 2) (.t 6), none⟩, [], []⟩,
    ⟨1, ⟨(some 28), .call 124 [(.t 27)], none⟩, [2], [⟨(some 29), .load (some 2) (.t 6), none⟩]⟩,
    ⟨3, ⟨(some 30), .call 124 [(.t 29)], none⟩, [], []⟩,
    ⟨4, ⟨(some 31), .bin .sub (.t 28) (.t 30), none⟩, [], []⟩,
    ⟨5, ⟨(some 32), .call 126 [(.t 31)], none⟩, [], []⟩,
    ⟨6, ⟨none, .store 2 (.t 4) (.t 32), none⟩, [], []⟩])
  .ret)
  (.seq [4, 5, 6, 7, 16, 33] (.reg [⟨(some 34), .bin .eql (.t 16) (.c (.i .i64 14)), none⟩,
    ⟨(some 33), .mv (.t 34), none⟩])
  (.cond (.t 33)
  (.seq [4] (.dreg [4] [⟨0, ⟨(some 35), .load (some 2) (.t 5), none⟩, [], []⟩,
    ⟨2, ⟨(some 37), .load (some 2) (.t 6), none⟩, [], []⟩,
    ⟨1, ⟨(some 36), .call 124 [(.t 35)], none⟩, [2], [⟨(some 37), .load (some 2) (.t 6), none⟩]⟩,
    ⟨3, ⟨(some 38), .call 124 [(.t 37)], none⟩, [], []⟩,
    ⟨4, ⟨(some 39), .bin .mul (.t 36) (.t 38), none⟩, [], []⟩,
    ⟨5, ⟨(some 40), .call 126 [(.t 39)], none⟩, [], []⟩,
    ⟨6, ⟨none, .store 2 (.t 4) (.t 40), none⟩, [], []⟩])
  .ret)
  (.seq [4, 5, 6, 7, 16, 41] (.reg [⟨(some 42), .bin .eql (.t 16) (.c (.i .i64 15)), none⟩,
    ⟨(some 41), .mv (.t 42), none⟩])
  (.cond (.t 41)
  (.dreg [4, 7] [⟨0, ⟨(some 43), .load (some 2) (.t 5), none⟩, [], []⟩,
    ⟨2, ⟨(some 45), .load (some 2) (.t 6), none⟩, [], []⟩,
    ⟨1, ⟨(some 44), .call 124 [(.t 43)], none⟩, [2], [⟨(some 45), .load (some 2) (.t 6), none⟩]⟩,
    ⟨3, ⟨(some 46), .call 124 [(.t 45)], none⟩, [], []⟩,
    ⟨4, ⟨(some 47), .bin .lss (.t 44) (.t 46), none⟩, [], []⟩,
    ⟨5, ⟨(some 7), .mv (.t 47), none⟩, [], []⟩])
  (.seq [4, 5, 6, 7, 48] (.reg [⟨(some 49), .bin .eql (.t 16) (.c (.i .i64 16)), none⟩,
    ⟨(some 48), .mv (.t 49), none⟩])
  (.cond (.t 48)
  (.reg [⟨(some 50), .load (some 2) (.t 5), none⟩,
    ⟨(some 51), .load (some 2) (.t 6), none⟩,
    ⟨(some 52), .eqf 2 false (.t 50) (.t 51), none⟩,
    ⟨(some 7), .mv (.t 52), none⟩])
  .skip))))))))))))
  (.seq [4] (.seq [4, 53] (.reg [⟨(some 53), .mv (.t 7), none⟩])
  (.cond (.t 53)
  (.seq [4] (.reg [⟨(some 54), .call 126 [(.c (.i .i64 1))], none⟩,
    ⟨none, .store 2 (.t 4) (.t 54), none⟩])
  .ret)
  .skip))
  (.seq [4] (.reg [⟨(some 55), .call 126 [(.c (.i .i64 0))], none⟩,
    ⟨none, .store 2 (.t 4) (.t 55), none⟩])
  .ret)))))))
theorem ree143 : Tryz.f143.body.bind (res Tryz.prog Tryz.f143.ntmps [] []) = some (erase ae143) := by kernel_rfl
def fs143 : FnS := .fn 56 ae143 [.c 4 (some 2)]
theorem fsok143 : FnOk Tryz.prog 143 fs143 := fun _ _ _ hn h => ctr_of_resC Tryz.func143 (by kernel_rfl) ree143 (by kernel_rfl) hn h
abbrev ae91 : ACode := (.seq [0, 2] (.reg [⟨(some 2), .alloc [(.i .i64 0), (.i .i64 0)], none⟩])
  (.seq [2] (.reg [⟨(some 3), .mv (.t 0), none⟩,
    ⟨(some 4), .call 145 [(.t 3), (.c (.i .i64 4))], none⟩,
    ⟨none, .store 2 (.t 2) (.t 4), none⟩])
  .ret))
theorem ree91 : Tryz.f91.body.bind (res Tryz.prog Tryz.f91.ntmps [] []) = some (erase ae91) := by kernel_rfl
def fs91 : FnS := .fn 5 ae91 [.c 2 (some 2)]
theorem fsok91 : FnOk Tryz.prog 91 fs91 := fun _ _ _ hn h => ctr_of_resC Tryz.func91 (by kernel_rfl) ree91 (by kernel_rfl) hn h
abbrev ae90 : ACode := (.seq [0, 1, 2, 3, 8] (.reg [⟨(some 8), .alloc [(.i .i64 0), (.i .i64 0)], none⟩])
  (.seq [0, 2, 3, 8, 9] (.reg [⟨(some 10), .mv (.t 0), none⟩,
    ⟨(some 11), .nilck (.t 10), none⟩,
    ⟨(some 12), .faddr 6 (.t 11), none⟩,
    ⟨(some 13), .faddr 4 (.t 12), none⟩,
    ⟨(some 14), .load none (.t 13), none⟩,
    ⟨(some 15), .mv (.t 1), none⟩,
    ⟨(some 16), .iaddr 3 none (.t 14) (.t 15), none⟩,
    ⟨(some 17), .load (some 3) (.t 16), none⟩,
    ⟨(some 9), .alloc [(.i .i64 0), (.i .i64 0), (.l [] true)], none⟩,
    ⟨none, .store 3 (.t 9) (.t 17), none⟩])
  (.seq [8] (.dreg [8] [⟨0, ⟨(some 18), .mv (.t 0), none⟩, [], []⟩,
    ⟨1, ⟨(some 19), .nilck (.t 18), none⟩, [], []⟩,
    ⟨2, ⟨(some 20), .faddr 17 (.t 19), none⟩, [], []⟩,
    ⟨3, ⟨(some 21), .load none (.t 20), none⟩, [], []⟩,
    ⟨4, ⟨(some 22), .faddr 0 (.t 9), none⟩, [], []⟩,
    ⟨5, ⟨(some 23), .load none (.t 22), none⟩, [], []⟩,
    ⟨6, ⟨(some 24), .lookup (.i .i64) .fnil false (.t 21) (.t 23), none⟩, [], []⟩,
    ⟨7, ⟨(some 25), .mv (.t 0), none⟩, [], []⟩,
    ⟨8, ⟨(some 26), .load (some 3) (.t 9), none⟩, [], []⟩,
    ⟨9, ⟨(some 27), .mv (.t 2), none⟩, [], []⟩,
    ⟨10, ⟨(some 28), .mv (.t 3), none⟩, [], []⟩,
    ⟨11, ⟨(some 29), .build [(.i .i64 0), (.i .i64 0), (.l [] true), (.l [] true), .fnil] [(0, 3, (.t 26)), (3, 1, (.t 27)), (4, 1, (.t 28))], none⟩, [], []⟩,
    ⟨12, ⟨(some 30), .callv (.t 24) [(.t 25), (.t 29)], none⟩, [], []⟩,
    ⟨13, ⟨none, .store 2 (.t 8) (.t 30), none⟩, [], []⟩])
  .ret)))
theorem ree90 : Tryz.f90.body.bind (res Tryz.prog Tryz.f90.ntmps [] []) = some (erase ae90) := by kernel_rfl
def fs90 : FnS := .fn 31 ae90 [.c 8 (some 2)]
theorem fsok90 : FnOk Tryz.prog 90 fs90 := fun _ _ _ hn h => ctr_of_resC Tryz.func90 (by kernel_rfl) ree90 (by kernel_rfl) hn h
def ose144 : List AOper := [⟨(some 2), .mv (.t 5), none⟩]
abbrev acCe144 : ACode := (.seq [0, 1] (.seq [0, 1, 2, 4] (.reg [⟨(some 7), .mv (.t 2), none⟩,
    ⟨(some 8), .tas 216 (.a []) true (.t 7), none⟩,
    ⟨(some 6), .mv (.t 8), none⟩,
    ⟨(some 9), .extract 0 (.t 6), none⟩,
    ⟨(some 10), .extract 1 (.t 6), none⟩,
    ⟨(some 3), .alloc [], none⟩,
    ⟨none, .store 0 (.t 3) (.t 9), none⟩,
    ⟨(some 4), .mv (.t 10), none⟩])
  (.seq [0, 1, 2, 16] (.reg [⟨(some 11), .mv (.t 2), none⟩,
    ⟨(some 12), .eqn 2 true (.t 11), none⟩,
    ⟨(some 13), .mv (.t 12), none⟩,
    ⟨(some 14), .mv (.t 4), (some (13, true))⟩,
    ⟨(some 15), .not (.t 14), (some (13, true))⟩,
    ⟨(some 16), .pick (.t 13) (.t 15) (.c (.b false)), none⟩])
  (.cond (.t 16)
  (.reg [⟨(some 17), .mv (.t 2), none⟩,
    ⟨none, .panic (.t 17), none⟩])
  .skip)))
  (.reg [⟨(some 18), .load none (.t 0), none⟩,
    ⟨(some 19), .nilck (.t 18), none⟩,
    ⟨(some 20), .faddr 0 (.t 19), none⟩,
    ⟨(some 21), .load (some 6) (.t 20), none⟩,
    ⟨none, .store 6 (.t 1) (.t 21), none⟩]))
theorem rese144 : Tryz.f144.body.bind (resRec Tryz.prog Tryz.f144.ntmps [] []) = some (5, ose144, erase acCe144) := by kernel_rfl
def fs144 : FnS := .rcv 22 5 ose144 acCe144 [0, 1, 2]
theorem fsok144 : FnOk Tryz.prog 144 fs144 := fun _ _ _ _ hn h => ctrD_of_T Tryz.func144 (by kernel_rfl) rese144 rfl hn h
abbrev ae81 : ACode := (.seq [0, 3] (.reg [⟨(some 3), .box (.t 1), none⟩,
    ⟨(some 4), .mv (.c (.b false)), none⟩])
  (.seq [4] (.reg [⟨(some 5), .mv (.t 0), none⟩,
    ⟨(some 6), .bin .eql (.t 5) (.c (.i .i64 1)), none⟩,
    ⟨(some 7), .mv (.t 6), none⟩,
    ⟨(some 8), .mv (.t 0), (some (7, false))⟩,
    ⟨(some 9), .bin .eql (.t 8) (.c (.i .i64 5)), (some (7, false))⟩,
    ⟨(some 10), .mv (.t 9), (some (7, false))⟩,
    ⟨(some 11), .load (some 2) (.t 3), (some (10, true))⟩,
    ⟨(some 12), .call 124 [(.t 11)], (some (10, true))⟩,
    ⟨(some 13), .bin .eql (.t 12) (.c (.i .i64 0)), (some (10, true))⟩,
    ⟨(some 14), .pick (.t 10) (.t 13) (.c (.b false)), (some (7, false))⟩,
    ⟨(some 15), .pick (.t 7) (.c (.b true)) (.t 14), none⟩,
    ⟨(some 16), .mv (.t 15), none⟩,
    ⟨(some 17), .mv (.t 0), (some (16, false))⟩,
    ⟨(some 18), .bin .eql (.t 17) (.c (.i .i64 6)), (some (16, false))⟩,
    ⟨(some 19), .mv (.t 18), (some (16, false))⟩,
    ⟨(some 20), .load (some 2) (.t 3), (some (19, true))⟩,
    ⟨(some 21), .call 124 [(.t 20)], (some (19, true))⟩,
    ⟨(some 22), .bin .neq (.t 21) (.c (.i .i64 0)), (some (19, true))⟩,
    ⟨(some 23), .pick (.t 19) (.t 22) (.c (.b false)), (some (16, false))⟩,
    ⟨(some 24), .pick (.t 16) (.c (.b true)) (.t 23), none⟩,
    ⟨(some 4), .mv (.t 24), none⟩])
  .ret))
theorem ree81 : Tryz.f81.body.bind (res Tryz.prog Tryz.f81.ntmps [] []) = some (erase ae81) := by kernel_rfl
def fs81 : FnS := .fn 25 ae81 [.t 4]
theorem fsok81 : FnOk Tryz.prog 81 fs81 := fun _ _ _ hn h => ctr_of_resC Tryz.func81 (by kernel_rfl) ree81 (by kernel_rfl) hn h
abbrev ae124 : ACode := (.seq [1] (.reg [⟨(some 1), .box (.t 0), none⟩,
    ⟨(some 2), .mv (.c (.i .i64 0)), none⟩])
  (.seq [] (.seq [1, 5] (.reg [⟨(some 3), .faddr 0 (.t 1), none⟩,
    ⟨(some 4), .load none (.t 3), none⟩,
    ⟨(some 5), .bin .eql (.t 4) (.c (.i .i64 1)), none⟩])
  (.cond (.t 5)
  (.seq [2] (.reg [⟨(some 6), .faddr 1 (.t 1), none⟩,
    ⟨(some 7), .load none (.t 6), none⟩,
    ⟨(some 2), .mv (.t 7), none⟩])
  .ret)
  .skip))
  (.seq [2] (.reg [⟨(some 2), .mv (.c (.i .i64 0)), none⟩])
  .ret)))
theorem ree124 : Tryz.f124.body.bind (res Tryz.prog Tryz.f124.ntmps [] []) = some (erase ae124) := by kernel_rfl
def fs124 : FnS := .fn 8 ae124 [.t 2]
theorem fsok124 : FnOk Tryz.prog 124 fs124 := fun _ _ _ hn h => ctr_of_resC Tryz.func124 (by kernel_rfl) ree124 (by kernel_rfl) hn h
abbrev ae126 : ACode := (.seq [0, 2] (.reg [⟨(some 2), .alloc [(.i .i64 0), (.i .i64 0)], none⟩])
  (.seq [2] (.reg [⟨(some 3), .mv (.t 0), none⟩,
    ⟨(some 4), .mmax (.t 3) (.c (.i .i64 (-1000000000))), none⟩,
    ⟨(some 5), .mmin (.t 4) (.c (.i .i64 1000000000)), none⟩,
    ⟨(some 6), .build [(.i .i64 0), (.i .i64 0)] [(0, 1, (.c (.i .i64 1))), (1, 1, (.t 5))], none⟩,
    ⟨none, .store 2 (.t 2) (.t 6), none⟩])
  .ret))
theorem ree126 : Tryz.f126.body.bind (res Tryz.prog Tryz.f126.ntmps [] []) = some (erase ae126) := by kernel_rfl
def fs126 : FnS := .fn 7 ae126 [.c 2 (some 2)]
theorem fsok126 : FnOk Tryz.prog 126 fs126 := fun _ _ _ hn h => ctr_of_resC Tryz.func126 (by kernel_rfl) ree126 (by kernel_rfl) hn h
abbrev ae125 : ACode := (.seq [0, 1] (.reg [⟨(some 4), .mv (.c (.i .i64 0)), none⟩])
  (.seq [4] (.reg [⟨(some 5), .mv (.t 0), none⟩,
    ⟨(some 6), .mv (.t 1), none⟩,
    ⟨(some 7), .bin .add (.t 5) (.t 6), none⟩,
    ⟨(some 8), .call 126 [(.t 7)], none⟩,
    ⟨(some 9), .field none 1 (.t 8), none⟩,
    ⟨(some 4), .mv (.t 9), none⟩])
  .ret))
theorem ree125 : Tryz.f125.body.bind (res Tryz.prog Tryz.f125.ntmps [] []) = some (erase ae125) := by kernel_rfl
def fs125 : FnS := .fn 10 ae125 [.t 4]
theorem fsok125 : FnOk Tryz.prog 125 fs125 := fun _ _ _ hn h => ctr_of_resC Tryz.func125 (by kernel_rfl) ree125 (by kernel_rfl) hn h
abbrev ae127 : ACode := (.seq [0, 1] (.reg [⟨(some 4), .mv (.c (.i .i64 0)), none⟩])
  (.seq [4] (.reg [⟨(some 5), .mv (.t 0), none⟩,
    ⟨(some 6), .mv (.t 1), none⟩,
    ⟨(some 7), .mmin (.t 5) (.t 6), none⟩,
    ⟨(some 4), .mv (.t 7), none⟩])
  .ret))
theorem ree127 : Tryz.f127.body.bind (res Tryz.prog Tryz.f127.ntmps [] []) = some (erase ae127) := by kernel_rfl
def fs127 : FnS := .fn 8 ae127 [.t 4]
theorem fsok127 : FnOk Tryz.prog 127 fs127 := fun _ _ _ hn h => ctr_of_resC Tryz.func127 (by kernel_rfl) ree127 (by kernel_rfl) hn h
abbrev ae128 : ACode := (.seq [0, 1] (.reg [⟨(some 4), .mv (.c (.i .i64 0)), none⟩])
  (.seq [4] (.reg [⟨(some 5), .mv (.t 0), none⟩,
    ⟨(some 6), .mv (.t 1), none⟩,
    ⟨(some 7), .mmax (.t 5) (.t 6), none⟩,
    ⟨(some 4), .mv (.t 7), none⟩])
  .ret))
theorem ree128 : Tryz.f128.body.bind (res Tryz.prog Tryz.f128.ntmps [] []) = some (erase ae128) := by kernel_rfl
def fs128 : FnS := .fn 8 ae128 [.t 4]
theorem fsok128 : FnOk Tryz.prog 128 fs128 := fun _ _ _ hn h => ctr_of_resC Tryz.func128 (by kernel_rfl) ree128 (by kernel_rfl) hn h
abbrev ae78 : ACode := (.seq [1] (.reg [⟨(some 1), .box (.t 0), none⟩,
    ⟨(some 2), .mv (.c (.b false)), none⟩])
  (.seq [1] (.seq [1, 4] (.reg [⟨(some 3), .faddr 0 (.t 1), none⟩,
    ⟨(some 4), .load none (.t 3), none⟩])
  (.block 0 (.seq [1, 4, 5] (.reg [⟨(some 6), .bin .eql (.t 4) (.c (.i .i64 1)), none⟩,
    ⟨(some 5), .mv (.t 6), none⟩])
  (.cond (.t 5)
  (.seq [2] (.reg [⟨(some 7), .faddr 1 (.t 1), none⟩,
    ⟨(some 8), .load none (.t 7), none⟩,
    ⟨(some 9), .bin .geq (.t 8) (.c (.i .i64 (-1000000000))), none⟩,
    ⟨(some 10), .mv (.t 9), none⟩,
    ⟨(some 11), .faddr 1 (.t 1), (some (10, true))⟩,
    ⟨(some 12), .load none (.t 11), (some (10, true))⟩,
    ⟨(some 13), .bin .leq (.t 12) (.c (.i .i64 1000000000)), (some (10, true))⟩,
    ⟨(some 14), .pick (.t 10) (.t 13) (.c (.b false)), none⟩,
    ⟨(some 2), .mv (.t 14), none⟩])
  .ret)
  (.seq [1, 15] (.reg [⟨(some 16), .bin .eql (.t 4) (.c (.i .i64 2)), none⟩,
    ⟨(some 15), .mv (.t 16), none⟩])
  (.cond (.t 15)
  (.seq [2] (.reg [⟨(some 17), .faddr 1 (.t 1), none⟩,
    ⟨(some 18), .load none (.t 17), none⟩,
    ⟨(some 19), .bin .eql (.t 18) (.c (.i .i64 0)), none⟩,
    ⟨(some 2), .mv (.t 19), none⟩])
  .ret)
  .skip))))))
  (.seq [2] (.reg [⟨(some 20), .faddr 0 (.t 1), none⟩,
    ⟨(some 21), .load none (.t 20), none⟩,
    ⟨(some 22), .bin .eql (.t 21) (.c (.i .i64 3)), none⟩,
    ⟨(some 23), .mv (.t 22), none⟩,
    ⟨(some 24), .faddr 1 (.t 1), (some (23, true))⟩,
    ⟨(some 25), .load none (.t 24), (some (23, true))⟩,
    ⟨(some 26), .bin .geq (.t 25) (.c (.i .i64 0)), (some (23, true))⟩,
    ⟨(some 27), .pick (.t 23) (.t 26) (.c (.b false)), none⟩,
    ⟨(some 28), .mv (.t 27), none⟩,
    ⟨(some 29), .faddr 1 (.t 1), (some (28, true))⟩,
    ⟨(some 30), .load none (.t 29), (some (28, true))⟩,
    ⟨(some 31), .bin .lss (.t 30) (.c (.i .i64 40)), (some (28, true))⟩,
    ⟨(some 32), .pick (.t 28) (.t 31) (.c (.b false)), none⟩,
    ⟨(some 2), .mv (.t 32), none⟩])
  .ret)))
theorem ree78 : Tryz.f78.body.bind (res Tryz.prog Tryz.f78.ntmps [] []) = some (erase ae78) := by kernel_rfl
def fs78 : FnS := .fn 33 ae78 [.t 2]
theorem fsok78 : FnOk Tryz.prog 78 fs78 := fun _ _ _ hn h => ctr_of_resC Tryz.func78 (by kernel_rfl) ree78 (by kernel_rfl) hn h
abbrev ae146 : ACode := (.seq [1] (.reg [⟨(some 1), .box (.t 0), none⟩,
    ⟨(some 2), .mv (.c .pn), none⟩])
  (.seq [1, 3, 4] (.reg [⟨(some 6), .load (some 6) (.t 1), none⟩,
    ⟨(some 7), .call 64 [(.t 6)], none⟩,
    ⟨(some 5), .mv (.t 7), none⟩,
    ⟨(some 8), .extract 0 (.t 5), none⟩,
    ⟨(some 9), .extract 1 (.t 5), none⟩,
    ⟨(some 3), .alloc [(.l [] true), (.l [] true)], none⟩,
    ⟨none, .store 2 (.t 3) (.t 8), none⟩,
    ⟨(some 4), .mv (.t 9), none⟩])
  (.seq [1, 3] (.seq [1, 3, 11] (.reg [⟨(some 10), .mv (.t 4), none⟩,
    ⟨(some 11), .bin .neq (.t 10) (.c (.i .i64 0)), none⟩])
  (.cond (.t 11)
  (.seq [2] (.reg [⟨(some 2), .mv (.c .pn), none⟩])
  .ret)
  .skip))
  (.seq [2] (.reg [⟨(some 12), .load (some 6) (.t 1), none⟩,
    ⟨(some 13), .load (some 2) (.t 3), none⟩,
    ⟨(some 14), .mkmap, none⟩,
    ⟨(some 15), .build [(.l [] true), (.i .i64 0), (.l [] true), (.l [] true), (.l [] true), (.i .i64 0), (.l [] true), (.l [] true), .mn] [(0, 6, (.t 12)), (6, 2, (.t 13)), (8, 1, (.t 14))], none⟩,
    ⟨(some 16), .box (.t 15), none⟩,
    ⟨(some 2), .mv (.t 16), none⟩])
  .ret))))
theorem ree146 : Tryz.f146.body.bind (res Tryz.prog Tryz.f146.ntmps [] []) = some (erase ae146) := by kernel_rfl
def fs146 : FnS := .fn 17 ae146 [.t 2]
theorem fsok146 : FnOk Tryz.prog 146 fs146 := fun _ _ _ hn h => ctr_of_resC Tryz.func146 (by kernel_rfl) ree146 (by kernel_rfl) hn h
abbrev ae147 : ACode := (.seq [0, 1, 2] (.reg [⟨(some 6), .mv (.c (.b false)), none⟩])
  (.seq [0, 1, 2] (.seq [0, 1, 2, 13] (.reg [⟨(some 10), .mv (.t 0), none⟩,
    ⟨(some 11), .mv (.t 1), none⟩,
    ⟨(some 12), .call 190 [(.t 10), (.t 11)], none⟩,
    ⟨(some 13), .not (.t 12), none⟩])
  (.cond (.t 13)
  (.seq [6] (.reg [⟨(some 6), .mv (.c (.b false)), none⟩])
  .ret)
  .skip))
  (.seq [0, 1, 2, 7] (.reg [⟨(some 14), .mkmap, none⟩,
    ⟨(some 7), .mv (.t 14), none⟩])
  (.seq [] (.seq [0, 1, 2, 7, 15, 16, 17] (.reg [⟨(some 15), .mv (.t 1), none⟩,
    ⟨(some 16), .len (.t 15), none⟩,
    ⟨(some 17), .mv (.c (.i .i64 0)), none⟩])
  (.block 0 (.loop [0, 1, 2, 7, 15, 16, 17] (.seq [0, 1, 2, 7, 15, 16, 17, 18] (.reg [⟨(some 18), .bin .lss (.t 17) (.t 16), none⟩])
  (.seq [0, 1, 2, 7, 15, 16, 17] (.cond (.t 18)
  .skip
  (.exit 0))
  (.seq [0, 1, 2, 7, 15, 16, 17] (.block 1 (.seq [0, 1, 2, 7, 9, 15, 16, 17] (.reg [⟨(some 19), .iaddr 1 none (.t 15) (.t 17), none⟩,
    ⟨(some 20), .load none (.t 19), none⟩,
    ⟨(some 9), .mv (.t 20), none⟩])
  (.seq [0, 1, 2, 7, 9, 15, 16, 17] (.seq [0, 1, 2, 7, 9, 15, 16, 17, 58] (.dreg [0, 1, 2, 7, 9, 15, 16, 17, 58] [⟨0, ⟨(some 21), .mv (.t 7), none⟩, [], []⟩,
    ⟨1, ⟨(some 22), .mv (.t 9), none⟩, [], []⟩,
    ⟨2, ⟨(some 23), .lookup (.i .i64) (.b false) false (.t 21) (.t 22), none⟩, [], []⟩,
    ⟨3, ⟨(some 24), .mv (.t 23), none⟩, [], []⟩,
    ⟨4, ⟨(some 25), .mv (.t 0), (some (24, false))⟩, [], []⟩,
    ⟨5, ⟨(some 26), .nilck (.t 25), (some (24, false))⟩, [], []⟩,
    ⟨6, ⟨(some 27), .faddr 0 (.t 26), (some (24, false))⟩, [], []⟩,
    ⟨7, ⟨(some 28), .faddr 3 (.t 27), (some (24, false))⟩, [], []⟩,
    ⟨8, ⟨(some 29), .load none (.t 28), (some (24, false))⟩, [], []⟩,
    ⟨9, ⟨(some 30), .mv (.t 9), (some (24, false))⟩, [], []⟩,
    ⟨10, ⟨(some 31), .iaddr 9 none (.t 29) (.t 30), (some (24, false))⟩, [], []⟩,
    ⟨11, ⟨(some 32), .faddr 1 (.t 31), (some (24, false))⟩, [], []⟩,
    ⟨12, ⟨(some 33), .load none (.t 32), (some (24, false))⟩, [], []⟩,
    ⟨13, ⟨(some 34), .mv (.t 0), (some (24, false))⟩, [], []⟩,
    ⟨14, ⟨(some 35), .nilck (.t 34), (some (24, false))⟩, [], []⟩,
    ⟨15, ⟨(some 36), .faddr 0 (.t 35), (some (24, false))⟩, [], []⟩,
    ⟨16, ⟨(some 37), .faddr 3 (.t 36), (some (24, false))⟩, [], []⟩,
    ⟨17, ⟨(some 38), .load none (.t 37), (some (24, false))⟩, [], []⟩,
    ⟨18, ⟨(some 39), .mv (.t 1), (some (24, false))⟩, [], []⟩,
    ⟨19, ⟨(some 40), .iaddr 1 none (.t 39) (.c (.i .i64 0)), (some (24, false))⟩, [], []⟩,
    ⟨20, ⟨(some 41), .load none (.t 40), (some (24, false))⟩, [], []⟩,
    ⟨21, ⟨(some 42), .iaddr 9 none (.t 38) (.t 41), (some (24, false))⟩, [], []⟩,
    ⟨22, ⟨(some 43), .faddr 1 (.t 42), (some (24, false))⟩, [], []⟩,
    ⟨23, ⟨(some 44), .load none (.t 43), (some (24, false))⟩, [], []⟩,
    ⟨24, ⟨(some 45), .bin .neq (.t 33) (.t 44), (some (24, false))⟩, [], []⟩,
    ⟨25, ⟨(some 46), .pick (.t 24) (.c (.b true)) (.t 45), none⟩, [], []⟩,
    ⟨26, ⟨(some 47), .mv (.t 46), none⟩, [], []⟩,
    ⟨27, ⟨(some 48), .mv (.t 2), (some (47, false))⟩, [], []⟩,
    ⟨28, ⟨(some 49), .mv (.t 48), (some (47, false))⟩, [], []⟩,
    ⟨29, ⟨(some 50), .mv (.t 0), (some (49, true))⟩, [], []⟩,
    ⟨30, ⟨(some 51), .mv (.t 9), (some (49, true))⟩, [], []⟩,
    ⟨31, ⟨(some 52), .mv (.t 1), (some (49, true))⟩, [], []⟩,
    ⟨32, ⟨(some 53), .iaddr 1 none (.t 52) (.c (.i .i64 0)), (some (49, true))⟩, [], []⟩,
    ⟨33, ⟨(some 54), .load none (.t 53), (some (49, true))⟩, [], []⟩,
    ⟨34, ⟨(some 55), .call 191 [(.t 50), (.t 51), (.t 54)], (some (49, true))⟩, [], []⟩,
    ⟨35, ⟨(some 56), .not (.t 55), (some (49, true))⟩, [], []⟩,
    ⟨36, ⟨(some 57), .pick (.t 49) (.t 56) (.c (.b false)), (some (47, false))⟩, [], []⟩,
    ⟨37, ⟨(some 58), .pick (.t 47) (.c (.b true)) (.t 57), none⟩, [], []⟩])
  (.cond (.t 58)
  (.seq [6] (.reg [⟨(some 6), .mv (.c (.b false)), none⟩])
  .ret)
  .skip))
  (.reg [⟨(some 59), .mv (.t 7), none⟩,
    ⟨(some 60), .mv (.t 9), none⟩,
    ⟨none, .mapset (.i .i64) (.t 59) (.t 60) (.c (.b true)), none⟩]))))
  (.reg [⟨(some 61), .bin .add (.t 17) (.c (.i .i64 1)), none⟩,
    ⟨(some 17), .mv (.t 61), none⟩])))))))
  (.seq [6] (.reg [⟨(some 6), .mv (.c (.b true)), none⟩])
  .ret)))))
theorem ree147 : Tryz.f147.body.bind (res Tryz.prog Tryz.f147.ntmps [] []) = some (erase ae147) := by kernel_rfl
def fs147 : FnS := .fn 62 ae147 [.t 6]
theorem fsok147 : FnOk Tryz.prog 147 fs147 := fun _ _ _ hn h => ctr_of_resC Tryz.func147 (by kernel_rfl) ree147 (by kernel_rfl) hn h
abbrev ae148 : ACode := (.seq [0, 1, 4] (.reg [⟨(some 4), .alloc [(.l [] true), (.b false), (.l [] true), (.l [] true), (.b false), (.l [] true)], none⟩,
    ⟨(some 5), .mv (.c (.b false)), none⟩])
  (.seq [0, 1, 4, 6] (.reg [⟨(some 6), .alloc [(.l [] true), (.l [] true), (.l [] true), (.l [] true), (.l [] true)], none⟩])
  (.seq [0, 4, 6] (.seq [0, 4, 6, 11, 12, 13] (.reg [⟨(some 11), .mv (.t 1), none⟩,
    ⟨(some 12), .len (.t 11), none⟩,
    ⟨(some 13), .mv (.c (.i .i64 0)), none⟩])
  (.block 0 (.loop [0, 4, 6, 11, 12, 13] (.seq [0, 4, 6, 11, 12, 13, 14] (.reg [⟨(some 14), .bin .lss (.t 13) (.t 12), none⟩])
  (.seq [0, 4, 6, 11, 12, 13] (.cond (.t 14)
  .skip
  (.exit 0))
  (.seq [0, 4, 6, 11, 12, 13] (.block 1 (.seq [0, 4, 6, 8, 11, 12, 13] (.reg [⟨(some 15), .iaddr 1 none (.t 11) (.t 13), none⟩,
    ⟨(some 16), .load none (.t 15), none⟩,
    ⟨(some 8), .mv (.t 16), none⟩])
  (.seq [0, 4, 6, 8, 9, 11, 12, 13] (.reg [⟨(some 17), .mv (.t 0), none⟩,
    ⟨(some 18), .nilck (.t 17), none⟩,
    ⟨(some 19), .faddr 0 (.t 18), none⟩,
    ⟨(some 20), .faddr 3 (.t 19), none⟩,
    ⟨(some 21), .load none (.t 20), none⟩,
    ⟨(some 22), .mv (.t 8), none⟩,
    ⟨(some 23), .iaddr 9 none (.t 21) (.t 22), none⟩,
    ⟨(some 24), .faddr 0 (.t 23), none⟩,
    ⟨(some 25), .load none (.t 24), none⟩,
    ⟨(some 9), .mv (.t 25), none⟩])
  (.reg [⟨(some 26), .mv (.t 9), none⟩,
    ⟨(some 27), .mv (.t 9), none⟩,
    ⟨(some 28), .iaddr 1 (some 5) (.t 6) (.t 27), none⟩,
    ⟨(some 29), .load none (.t 28), none⟩,
    ⟨(some 30), .mv (.t 8), none⟩,
    ⟨(some 31), .bslice 1 1 [(.i .i64 0)] [(0, (.t 30))], none⟩,
    ⟨(some 32), .append 1 8 (.t 29) (.t 31), none⟩,
    ⟨(some 33), .iaddr 1 (some 5) (.t 6) (.t 26), none⟩,
    ⟨none, .store 1 (.t 33) (.t 32), none⟩]))))
  (.reg [⟨(some 34), .bin .add (.t 13) (.c (.i .i64 1)), none⟩,
    ⟨(some 13), .mv (.t 34), none⟩])))))))
  (.seq [0, 4, 6, 10] (.reg [⟨(some 10), .alloc [(.l [] true), (.b false), (.l [] true), (.l [] true), (.b false), (.l [] true)], none⟩])
  (.seq [0, 4, 6, 10] (.seq [0, 4, 6, 10, 38] (.reg [⟨(some 35), .iaddr 1 (some 5) (.t 6) (.c (.i .i64 1)), none⟩,
    ⟨(some 36), .load none (.t 35), none⟩,
    ⟨(some 37), .len (.t 36), none⟩,
    ⟨(some 38), .bin .eql (.t 37) (.c (.i .i64 0)), none⟩])
  (.cond (.t 38)
  (.seq [4, 5] (.reg [⟨(some 39), .load (some 6) (.t 10), none⟩,
    ⟨none, .store 6 (.t 4) (.t 39), none⟩,
    ⟨(some 5), .mv (.c (.b false)), none⟩])
  .ret)
  .skip))
  (.seq [0, 4, 6, 10] (.reg [⟨(some 41), .mv (.t 0), none⟩,
    ⟨(some 42), .iaddr 1 (some 5) (.t 6) (.c (.i .i64 4)), none⟩,
    ⟨(some 43), .load none (.t 42), none⟩,
    ⟨(some 44), .call 192 [(.t 41), (.t 43)], none⟩,
    ⟨(some 40), .mv (.t 44), none⟩,
    ⟨(some 45), .extract 0 (.t 40), none⟩,
    ⟨(some 46), .extract 1 (.t 40), none⟩,
    ⟨(some 47), .faddr 0 (.t 10), none⟩,
    ⟨none, .store 1 (.t 47) (.t 45), none⟩,
    ⟨(some 48), .faddr 1 (.t 10), none⟩,
    ⟨none, .store 1 (.t 48) (.t 46), none⟩])
  (.seq [0, 4, 6, 10] (.reg [⟨(some 49), .mv (.t 0), none⟩,
    ⟨(some 50), .iaddr 1 (some 5) (.t 6) (.c (.i .i64 2)), none⟩,
    ⟨(some 51), .load none (.t 50), none⟩,
    ⟨(some 52), .call 193 [(.t 49), (.t 51)], none⟩,
    ⟨(some 53), .faddr 2 (.t 10), none⟩,
    ⟨none, .store 1 (.t 53) (.t 52), none⟩])
  (.seq [0, 4, 6, 10] (.reg [⟨(some 55), .mv (.t 0), none⟩,
    ⟨(some 56), .iaddr 1 (some 5) (.t 6) (.c (.i .i64 1)), none⟩,
    ⟨(some 57), .load none (.t 56), none⟩,
    ⟨(some 58), .call 192 [(.t 55), (.t 57)], none⟩,
    ⟨(some 54), .mv (.t 58), none⟩,
    ⟨(some 59), .extract 0 (.t 54), none⟩,
    ⟨(some 60), .extract 1 (.t 54), none⟩,
    ⟨(some 61), .faddr 3 (.t 10), none⟩,
    ⟨none, .store 1 (.t 61) (.t 59), none⟩,
    ⟨(some 62), .faddr 4 (.t 10), none⟩,
    ⟨none, .store 1 (.t 62) (.t 60), none⟩])
  (.seq [4, 10] (.reg [⟨(some 63), .mv (.t 0), none⟩,
    ⟨(some 64), .iaddr 1 (some 5) (.t 6) (.c (.i .i64 3)), none⟩,
    ⟨(some 65), .load none (.t 64), none⟩,
    ⟨(some 66), .call 193 [(.t 63), (.t 65)], none⟩,
    ⟨(some 67), .faddr 5 (.t 10), none⟩,
    ⟨none, .store 1 (.t 67) (.t 66), none⟩])
  (.seq [4, 10] (.reg [⟨(some 68), .faddr 5 (.t 10), none⟩,
    ⟨(some 69), .load none (.t 68), none⟩,
    ⟨(some 70), .call 150 [(.t 69)], none⟩])
  (.seq [4, 5] (.reg [⟨(some 71), .load (some 6) (.t 10), none⟩,
    ⟨none, .store 6 (.t 4) (.t 71), none⟩,
    ⟨(some 5), .mv (.c (.b true)), none⟩])
  .ret)))))))))))
theorem ree148 : Tryz.f148.body.bind (res Tryz.prog Tryz.f148.ntmps [] []) = some (erase ae148) := by kernel_rfl
def fs148 : FnS := .fn 72 ae148 [.c 4 (some 6), .t 5]
theorem fsok148 : FnOk Tryz.prog 148 fs148 := fun _ _ _ hn h => ctr_of_resC Tryz.func148 (by kernel_rfl) ree148 (by kernel_rfl) hn h
theorem recl149 : Tryz.f149.body.bind (res Tryz.prog Tryz.f149.ntmps [] []) = some (erase (cloneAC 1 8)) := by kernel_rfl
def fs149 : FnS := .prim (cloneP 1)
theorem fsok149 : FnOk Tryz.prog 149 fs149 := clone_fs (sz := 1) (b := 8) (fun _ _ _ hn h => ctr_of_resC Tryz.func149 (by kernel_rfl) recl149 (by kernel_rfl) hn h) (Nat.le_of_ble_eq_true rfl)
abbrev ae150 : ACode := (.seq [0, 2, 3] (.reg [⟨(some 4), .mv (.t 0), none⟩,
    ⟨(some 5), .len (.t 4), none⟩,
    ⟨(some 6), .bin .sub (.t 5) (.c (.i .i64 1)), none⟩,
    ⟨(some 2), .mv (.c (.i .i64 0)), none⟩,
    ⟨(some 3), .mv (.t 6), none⟩])
  (.block 0 (.loop [0, 2, 3] (.seq [0, 2, 3] (.seq [0, 2, 3, 9] (.reg [⟨(some 7), .mv (.t 2), none⟩,
    ⟨(some 8), .mv (.t 3), none⟩,
    ⟨(some 9), .bin .lss (.t 7) (.t 8), none⟩])
  (.cond (.t 9)
  .skip
  (.exit 0)))
  (.seq [0, 2, 3] (.block 1 (.dreg [0, 2, 3] [⟨0, ⟨(some 14), .mv (.t 0), none⟩, [], []⟩,
    ⟨1, ⟨(some 15), .mv (.t 2), none⟩, [], []⟩,
    ⟨2, ⟨(some 16), .mv (.t 0), none⟩, [], []⟩,
    ⟨3, ⟨(some 17), .mv (.t 3), none⟩, [], []⟩,
    ⟨4, ⟨(some 18), .mv (.t 0), none⟩, [], []⟩,
    ⟨5, ⟨(some 19), .mv (.t 3), none⟩, [], []⟩,
    ⟨6, ⟨(some 20), .iaddr 1 none (.t 18) (.t 19), none⟩, [], []⟩,
    ⟨7, ⟨(some 21), .load none (.t 20), none⟩, [], []⟩,
    ⟨8, ⟨(some 22), .mv (.t 0), none⟩, [], []⟩,
    ⟨9, ⟨(some 23), .mv (.t 2), none⟩, [], []⟩,
    ⟨10, ⟨(some 24), .iaddr 1 none (.t 22) (.t 23), none⟩, [], []⟩,
    ⟨11, ⟨(some 25), .load none (.t 24), none⟩, [], []⟩,
    ⟨12, ⟨(some 26), .iaddr 1 none (.t 14) (.t 15), none⟩, [], []⟩,
    ⟨13, ⟨none, .store 1 (.t 26) (.t 21), none⟩, [], []⟩,
    ⟨14, ⟨(some 27), .iaddr 1 none (.t 16) (.t 17), none⟩, [], []⟩,
    ⟨15, ⟨none, .store 1 (.t 27) (.t 25), none⟩, [], []⟩]))
  (.reg [⟨(some 10), .mv (.t 2), none⟩,
    ⟨(some 11), .bin .add (.t 10) (.c (.i .i64 1)), none⟩,
    ⟨(some 12), .mv (.t 3), none⟩,
    ⟨(some 13), .bin .sub (.t 12) (.c (.i .i64 1)), none⟩,
    ⟨(some 2), .mv (.t 11), none⟩,
    ⟨(some 3), .mv (.t 13), none⟩]))))))
theorem ree150 : Tryz.f150.body.bind (res Tryz.prog Tryz.f150.ntmps [] []) = some (erase ae150) := by kernel_rfl
def fs150 : FnS := .fn 28 ae150 []
theorem fsok150 : FnOk Tryz.prog 150 fs150 := fun _ _ _ hn h => ctr_of_resC Tryz.func150 (by kernel_rfl) ree150 (by kernel_rfl) hn h
abbrev ae151 : ACode := (.seq [1] (.reg [⟨(some 1), .box (.t 0), none⟩,
    ⟨(some 2), .mv (.c (.l [] true)), none⟩,
    ⟨(some 3), .mv (.c (.b false)), none⟩])
  (.seq [1, 4] (.reg [⟨(some 4), .alloc [(.l [] true)], none⟩])
  (.seq [4, 5] (.reg [⟨(some 6), .mkf (.func 195) [] [(.t 1), (.t 4)], none⟩,
    ⟨(some 7), .call 194 [(.t 6)], none⟩,
    ⟨(some 5), .mv (.t 7), none⟩])
  (.seq [2, 3] (.reg [⟨(some 8), .load none (.t 4), none⟩,
    ⟨(some 9), .mv (.t 5), none⟩,
    ⟨(some 2), .mv (.t 8), none⟩,
    ⟨(some 3), .mv (.t 9), none⟩])
  .ret))))
theorem ree151 : Tryz.f151.body.bind (res Tryz.prog Tryz.f151.ntmps [] []) = some (erase ae151) := by kernel_rfl
def fs151 : FnS := .fn 10 ae151 [.t 2, .t 3]
theorem fsok151 : FnOk Tryz.prog 151 fs151 := fun _ _ _ hn h => ctr_of_resC Tryz.func151 (by kernel_rfl) ree151 (by kernel_rfl) hn h
abbrev ae155 : ACode := (.seq [0, 1, 2] (.reg [⟨(some 5), .mv (.c (.b false)), none⟩])
  (.seq [5] (.reg [⟨(some 6), .mv (.t 0), none⟩,
    ⟨(some 7), .bin .eql (.t 6) (.c (.i .i64 (-1))), none⟩,
    ⟨(some 8), .mv (.t 7), none⟩,
    ⟨(some 9), .mv (.t 0), (some (8, false))⟩,
    ⟨(some 10), .bin .geq (.t 9) (.c (.i .i64 0)), (some (8, false))⟩,
    ⟨(some 11), .mv (.t 10), (some (8, false))⟩,
    ⟨(some 12), .mv (.t 0), (some (11, true))⟩,
    ⟨(some 13), .faddr 2 (.t 2), (some (11, true))⟩,
    ⟨(some 14), .load none (.t 13), (some (11, true))⟩,
    ⟨(some 15), .len (.t 14), (some (11, true))⟩,
    ⟨(some 16), .bin .lss (.t 12) (.t 15), (some (11, true))⟩,
    ⟨(some 17), .pick (.t 11) (.t 16) (.c (.b false)), (some (8, false))⟩,
    ⟨(some 18), .mv (.t 17), (some (8, false))⟩,
    ⟨(some 19), .faddr 2 (.t 2), (some (18, true))⟩,
    ⟨(some 20), .load none (.t 19), (some (18, true))⟩,
    ⟨(some 21), .mv (.t 0), (some (18, true))⟩,
    ⟨(some 22), .iaddr 1 none (.t 20) (.t 21), (some (18, true))⟩,
    ⟨(some 23), .load none (.t 22), (some (18, true))⟩,
    ⟨(some 24), .mv (.t 1), (some (18, true))⟩,
    ⟨(some 25), .bin .eql (.t 23) (.t 24), (some (18, true))⟩,
    ⟨(some 26), .pick (.t 18) (.t 25) (.c (.b false)), (some (8, false))⟩,
    ⟨(some 27), .pick (.t 8) (.c (.b true)) (.t 26), none⟩,
    ⟨(some 5), .mv (.t 27), none⟩])
  .ret))
theorem ree155 : Tryz.f155.body.bind (res Tryz.prog Tryz.f155.ntmps [] []) = some (erase ae155) := by kernel_rfl
def fs155 : FnS := .fn 28 ae155 [.t 5]
theorem fsok155 : FnOk Tryz.prog 155 fs155 := fun _ _ _ hn h => ctr_of_resC Tryz.func155 (by kernel_rfl) ree155 (by kernel_rfl) hn h
abbrev ae156 : ACode := (.seq [0, 1] (.reg [⟨(some 3), .mv (.c (.b false)), none⟩])
  (.seq [3] (.reg [⟨(some 4), .mv (.t 0), none⟩,
    ⟨(some 5), .bin .lss (.t 4) (.c (.i .i64 (-1))), none⟩,
    ⟨(some 6), .mv (.t 5), none⟩,
    ⟨(some 7), .mv (.t 0), (some (6, false))⟩,
    ⟨(some 8), .faddr 1 (.t 1), (some (6, false))⟩,
    ⟨(some 9), .load none (.t 8), (some (6, false))⟩,
    ⟨(some 10), .len (.t 9), (some (6, false))⟩,
    ⟨(some 11), .bin .geq (.t 7) (.t 10), (some (6, false))⟩,
    ⟨(some 12), .pick (.t 6) (.c (.b true)) (.t 11), none⟩,
    ⟨(some 3), .mv (.t 12), none⟩])
  .ret))
theorem ree156 : Tryz.f156.body.bind (res Tryz.prog Tryz.f156.ntmps [] []) = some (erase ae156) := by kernel_rfl
def fs156 : FnS := .fn 13 ae156 [.t 3]
theorem fsok156 : FnOk Tryz.prog 156 fs156 := fun _ _ _ hn h => ctr_of_resC Tryz.func156 (by kernel_rfl) ree156 (by kernel_rfl) hn h
abbrev ae46 : ACode := (.seq [0, 1] (.reg [⟨(some 4), .mv (.c (.b false)), none⟩])
  (.seq [4] (.reg [⟨(some 5), .mv (.t 0), none⟩,
    ⟨(some 6), .mv (.t 1), none⟩,
    ⟨(some 7), .call 104 [(.t 5), (.t 6)], none⟩,
    ⟨(some 8), .bin .geq (.t 7) (.c (.i .i64 0)), none⟩,
    ⟨(some 4), .mv (.t 8), none⟩])
  .ret))
theorem ree46 : Tryz.f46.body.bind (res Tryz.prog Tryz.f46.ntmps [] []) = some (erase ae46) := by kernel_rfl
def fs46 : FnS := .fn 9 ae46 [.t 4]
theorem fsok46 : FnOk Tryz.prog 46 fs46 := fun _ _ _ hn h => ctr_of_resC Tryz.func46 (by kernel_rfl) ree46 (by kernel_rfl) hn h
abbrev ae182 : ACode := (.seq [0, 2, 4, 6] (.reg [⟨(some 4), .box (.t 1), none⟩,
    ⟨(some 6), .alloc [(.i .i64 0), (.i .i64 0)], none⟩])
  (.seq [6] (.dreg [6] [⟨0, ⟨(some 7), .mv (.t 0), none⟩, [], []⟩,
    ⟨1, ⟨(some 8), .faddr 0 (.t 4), none⟩, [], []⟩,
    ⟨2, ⟨(some 9), .faddr 2 (.t 8), none⟩, [], []⟩,
    ⟨3, ⟨(some 10), .load none (.t 9), none⟩, [], []⟩,
    ⟨4, ⟨(some 11), .mv (.t 2), none⟩, [], []⟩,
    ⟨5, ⟨(some 12), .iaddr 1 none (.t 10) (.t 11), none⟩, [], []⟩,
    ⟨6, ⟨(some 13), .load none (.t 12), none⟩, [], []⟩,
    ⟨7, ⟨(some 14), .faddr 3 (.t 4), none⟩, [], []⟩,
    ⟨8, ⟨(some 15), .load none (.t 14), none⟩, [], []⟩,
    ⟨9, ⟨(some 16), .faddr 4 (.t 4), none⟩, [], []⟩,
    ⟨10, ⟨(some 17), .load none (.t 16), none⟩, [], []⟩,
    ⟨11, ⟨(some 18), .call 90 [(.t 7), (.t 13), (.t 15), (.t 17)], none⟩, [], []⟩,
    ⟨12, ⟨none, .store 2 (.t 6) (.t 18), none⟩, [], []⟩])
  .ret))
theorem ree182 : Tryz.f182.body.bind (res Tryz.prog Tryz.f182.ntmps [] []) = some (erase ae182) := by kernel_rfl
def fs182 : FnS := .fn 19 ae182 [.c 6 (some 2)]
theorem fsok182 : FnOk Tryz.prog 182 fs182 := fun _ _ _ hn h => ctr_of_resC Tryz.func182 (by kernel_rfl) ree182 (by kernel_rfl) hn h
abbrev ae183 : ACode := (.seq [0, 2, 4] (.reg [⟨(some 4), .box (.t 1), none⟩,
    ⟨(some 6), .mv (.c (.i .i64 0)), none⟩])
  (.seq [0] (.seq [0, 2, 4, 12] (.reg [⟨(some 10), .faddr 0 (.t 4), none⟩,
    ⟨(some 11), .load none (.t 10), none⟩,
    ⟨(some 12), .bin .eql (.t 11) (.c (.i .i64 3)), none⟩])
  (.cond (.t 12)
  (.seq [0, 2, 7] (.dreg [0, 2, 7] [⟨0, ⟨(some 14), .mv (.t 0), none⟩, [], []⟩,
    ⟨1, ⟨(some 15), .nilck (.t 14), none⟩, [], []⟩,
    ⟨2, ⟨(some 16), .faddr 6 (.t 15), none⟩, [], []⟩,
    ⟨3, ⟨(some 17), .load (some 6) (.t 16), none⟩, [], []⟩,
    ⟨4, ⟨(some 18), .mv (.t 0), none⟩, [], []⟩,
    ⟨5, ⟨(some 19), .nilck (.t 18), none⟩, [], []⟩,
    ⟨6, ⟨(some 20), .faddr 0 (.t 19), none⟩, [], []⟩,
    ⟨7, ⟨(some 21), .faddr 4 (.t 20), none⟩, [], []⟩,
    ⟨8, ⟨(some 22), .load none (.t 21), none⟩, [], []⟩,
    ⟨9, ⟨(some 23), .faddr 1 (.t 4), none⟩, [], []⟩,
    ⟨10, ⟨(some 24), .load none (.t 23), none⟩, [], []⟩,
    ⟨11, ⟨(some 25), .iaddr 2 none (.t 22) (.t 24), none⟩, [], []⟩,
    ⟨12, ⟨(some 26), .faddr 0 (.t 25), none⟩, [], []⟩,
    ⟨13, ⟨(some 27), .load none (.t 26), none⟩, [], []⟩,
    ⟨14, ⟨(some 28), .call 226 [(.t 17), (.t 27)], none⟩, [], []⟩,
    ⟨15, ⟨(some 13), .mv (.t 28), none⟩, [], []⟩,
    ⟨16, ⟨(some 29), .extract 0 (.t 13), none⟩, [], []⟩,
    ⟨17, ⟨(some 30), .extract 1 (.t 13), none⟩, [], []⟩,
    ⟨18, ⟨(some 7), .mv (.t 29), none⟩, [], []⟩,
    ⟨19, ⟨(some 8), .mv (.t 30), none⟩, [], []⟩])
  (.seq [0, 9] (.reg [⟨(some 31), .mv (.t 7), none⟩,
    ⟨(some 32), .mv (.t 2), none⟩,
    ⟨(some 33), .call 122 [(.t 31), (.t 32)], none⟩,
    ⟨(some 9), .mv (.t 33), none⟩])
  (.seq [0, 9, 35] (.reg [⟨(some 34), .mv (.t 9), none⟩,
    ⟨(some 35), .bin .geq (.t 34) (.c (.i .i64 0)), none⟩])
  (.cond (.t 35)
  (.seq [6] (.reg [⟨(some 36), .mv (.t 9), none⟩,
    ⟨(some 6), .mv (.t 36), none⟩])
  .ret)
  .skip))))
  .skip))
  (.seq [] (.reg [⟨(some 37), .mv (.t 0), none⟩,
    ⟨(some 38), .call 145 [(.t 37), (.c (.i .i64 5))], none⟩])
  (.seq [6] (.reg [⟨(some 6), .mv (.c (.i .i64 0)), none⟩])
  .ret))))
theorem ree183 : Tryz.f183.body.bind (res Tryz.prog Tryz.f183.ntmps [] []) = some (erase ae183) := by kernel_rfl
def fs183 : FnS := .fn 39 ae183 [.t 6]
theorem fsok183 : FnOk Tryz.prog 183 fs183 := fun _ _ _ hn h => ctr_of_resC Tryz.func183 (by kernel_rfl) ree183 (by kernel_rfl) hn h
abbrev ae184 : ACode := (.seq [0, 3, 4] (.reg [⟨(some 3), .box (.t 1), none⟩,
    ⟨(some 4), .alloc [(.i .i64 0), (.i .i64 0), (.i .i64 0), (.i .i64 0)], none⟩,
    ⟨(some 5), .mv (.c (.b false)), none⟩])
  (.seq [0, 4, 6] (.dreg [0, 4, 6] [⟨0, ⟨(some 7), .mv (.t 0), none⟩, [], []⟩,
    ⟨1, ⟨(some 8), .nilck (.t 7), none⟩, [], []⟩,
    ⟨2, ⟨(some 9), .faddr 12 (.t 8), none⟩, [], []⟩,
    ⟨3, ⟨(some 10), .load (some 3) (.t 9), none⟩, [], []⟩,
    ⟨4, ⟨(some 11), .mv (.t 0), none⟩, [], []⟩,
    ⟨5, ⟨(some 12), .nilck (.t 11), none⟩, [], []⟩,
    ⟨6, ⟨(some 13), .faddr 0 (.t 12), none⟩, [], []⟩,
    ⟨7, ⟨(some 14), .faddr 4 (.t 13), none⟩, [], []⟩,
    ⟨8, ⟨(some 15), .load none (.t 14), none⟩, [], []⟩,
    ⟨9, ⟨(some 16), .faddr 1 (.t 3), none⟩, [], []⟩,
    ⟨10, ⟨(some 17), .load none (.t 16), none⟩, [], []⟩,
    ⟨11, ⟨(some 18), .iaddr 2 none (.t 15) (.t 17), none⟩, [], []⟩,
    ⟨12, ⟨(some 19), .faddr 0 (.t 18), none⟩, [], []⟩,
    ⟨13, ⟨(some 20), .load none (.t 19), none⟩, [], []⟩,
    ⟨14, ⟨(some 21), .mv (.t 0), none⟩, [], []⟩,
    ⟨15, ⟨(some 22), .nilck (.t 21), none⟩, [], []⟩,
    ⟨16, ⟨(some 23), .faddr 15 (.t 22), none⟩, [], []⟩,
    ⟨17, ⟨(some 24), .load none (.t 23), none⟩, [], []⟩,
    ⟨18, ⟨(some 25), .call 97 [(.t 10), (.t 20), (.t 24)], none⟩, [], []⟩,
    ⟨19, ⟨(some 6), .mv (.t 25), none⟩, [], []⟩])
  (.seq [0, 4, 6] (.seq [0, 4, 6, 27] (.reg [⟨(some 26), .mv (.t 6), none⟩,
    ⟨(some 27), .bin .lss (.t 26) (.c (.i .i64 0)), none⟩])
  (.cond (.t 27)
  (.seq [4, 5] (.reg [⟨(some 28), .build [(.i .i64 0), (.i .i64 0), (.i .i64 0), (.i .i64 0)] [], none⟩,
    ⟨none, .store 4 (.t 4) (.t 28), none⟩,
    ⟨(some 5), .mv (.c (.b false)), none⟩])
  .ret)
  .skip))
  (.seq [4, 5] (.reg [⟨(some 29), .mv (.t 0), none⟩,
    ⟨(some 30), .nilck (.t 29), none⟩,
    ⟨(some 31), .faddr 12 (.t 30), none⟩,
    ⟨(some 32), .faddr 1 (.t 31), none⟩,
    ⟨(some 33), .load none (.t 32), none⟩,
    ⟨(some 34), .mv (.t 6), none⟩,
    ⟨(some 35), .iaddr 4 none (.t 33) (.t 34), none⟩,
    ⟨(some 36), .load (some 4) (.t 35), none⟩,
    ⟨none, .store 4 (.t 4) (.t 36), none⟩,
    ⟨(some 5), .mv (.c (.b true)), none⟩])
  .ret))))
theorem ree184 : Tryz.f184.body.bind (res Tryz.prog Tryz.f184.ntmps [] []) = some (erase ae184) := by kernel_rfl
def fs184 : FnS := .fn 37 ae184 [.c 4 (some 4), .t 5]
theorem fsok184 : FnOk Tryz.prog 184 fs184 := fun _ _ _ hn h => ctr_of_resC Tryz.func184 (by kernel_rfl) ree184 (by kernel_rfl) hn h
abbrev acAe185 : ACode := (.seq [1, 2, 3, 6] (.reg [⟨(some 3), .box (.t 0), none⟩,
    ⟨(some 6), .alloc [(.i .i64 0), (.i .i64 0)], none⟩])
  (.reg [⟨(some 7), .load none (.t 3), none⟩,
    ⟨(some 8), .nilck (.t 7), none⟩,
    ⟨(some 9), .faddr 15 (.t 8), none⟩,
    ⟨(some 10), .load none (.t 9), none⟩,
    ⟨(some 11), .bin .add (.t 10) (.c (.i .i64 1)), none⟩,
    ⟨(some 12), .nilck (.t 7), none⟩,
    ⟨(some 13), .faddr 15 (.t 12), none⟩,
    ⟨none, .store 1 (.t 13) (.t 11), none⟩]))
def ose185 : List AOper := [⟨(some 14), .mkf (.func 227) [] [(.t 3)], none⟩]
abbrev acCe185 : ACode := (.seq [6] (.reg [⟨(some 15), .load none (.t 3), none⟩,
    ⟨(some 16), .mv (.t 1), none⟩,
    ⟨(some 17), .mv (.t 2), none⟩,
    ⟨(some 18), .call 186 [(.t 15), (.t 16), (.t 17)], none⟩,
    ⟨none, .store 2 (.t 6) (.t 18), none⟩])
  .ret)
theorem rese185 : Tryz.f185.body.bind (resDfr Tryz.prog Tryz.f185.ntmps [] []) = some (erase acAe185, ose185, (.t 14), erase acCe185) := by kernel_rfl
def fs185 : FnS := .dfr 19 acAe185 ose185 (.t 14) acCe185 [.c 6 (some 2)] [1, 2, 3, 6] [1, 2, 3, 6]
theorem fsok185 : FnOk Tryz.prog 185 fs185 := fun _ _ _ hn h => ctr_of_dfr Tryz.func185 (by kernel_rfl) rese185 (by kernel_rfl) hn h
abbrev ae186 : ACode := (.seq [3, 4, 5, 6] (.reg [⟨(some 3), .box (.t 0), none⟩,
    ⟨(some 4), .box (.t 1), none⟩,
    ⟨(some 5), .box (.t 2), none⟩,
    ⟨(some 6), .alloc [(.i .i64 0), (.i .i64 0)], none⟩])
  (.seq [3, 4, 5, 6, 7] (.dreg [3, 4, 5, 6, 7] [⟨0, ⟨(some 12), .load none (.t 3), none⟩, [], []⟩,
    ⟨1, ⟨(some 13), .nilck (.t 12), none⟩, [], []⟩,
    ⟨2, ⟨(some 14), .faddr 6 (.t 13), none⟩, [], []⟩,
    ⟨3, ⟨(some 15), .load (some 6) (.t 14), none⟩, [], []⟩,
    ⟨4, ⟨(some 16), .load none (.t 3), none⟩, [], []⟩,
    ⟨5, ⟨(some 17), .nilck (.t 16), none⟩, [], []⟩,
    ⟨6, ⟨(some 18), .faddr 0 (.t 17), none⟩, [], []⟩,
    ⟨7, ⟨(some 19), .faddr 4 (.t 18), none⟩, [], []⟩,
    ⟨8, ⟨(some 20), .load none (.t 19), none⟩, [], []⟩,
    ⟨9, ⟨(some 21), .load none (.t 4), none⟩, [], []⟩,
    ⟨10, ⟨(some 22), .load none (.t 5), none⟩, [], []⟩,
    ⟨11, ⟨(some 23), .call 228 [(.t 15), (.t 20), (.t 21), (.t 22)], none⟩, [], []⟩,
    ⟨12, ⟨(some 11), .mv (.t 23), none⟩, [], []⟩,
    ⟨13, ⟨(some 24), .extract 0 (.t 11), none⟩, [], []⟩,
    ⟨14, ⟨(some 25), .extract 1 (.t 11), none⟩, [], []⟩,
    ⟨15, ⟨(some 7), .mv (.t 24), none⟩, [], []⟩,
    ⟨16, ⟨(some 8), .mv (.t 25), none⟩, [], []⟩])
  (.seq [3, 4, 5, 6, 7, 9] (.reg [⟨(some 26), .build [(.l [] true), (.b false), (.l [] true), (.l [] true), (.b false), (.l [] true), (.b false)] [(6, 1, (.c (.b true)))], none⟩,
    ⟨(some 9), .alloc [(.l [] true), (.b false), (.l [] true), (.l [] true), (.b false), (.l [] true), (.b false)], none⟩,
    ⟨none, .store 7 (.t 9) (.t 26), none⟩])
  (.seq [3, 4, 5, 6, 9] (.seq [3, 4, 5, 6, 7, 9, 29] (.reg [⟨(some 27), .mv (.t 7), none⟩,
    ⟨(some 28), .len (.t 27), none⟩,
    ⟨(some 29), .bin .gtr (.t 28) (.c (.i .i64 0)), none⟩])
  (.cond (.t 29)
  (.reg [⟨(some 30), .load none (.t 3), none⟩,
    ⟨(some 31), .mv (.t 7), none⟩,
    ⟨(some 32), .call 229 [(.t 30), (.t 31)], none⟩,
    ⟨none, .store 7 (.t 9) (.t 32), none⟩])
  .skip))
  (.seq [3, 4, 5, 6, 9] (.block 0 (.seq [3, 4, 5, 6, 9, 33] (.reg [⟨(some 34), .faddr 6 (.t 9), none⟩,
    ⟨(some 35), .load none (.t 34), none⟩,
    ⟨(some 33), .mv (.t 35), none⟩])
  (.cond (.t 33)
  (.reg [⟨(some 36), .load none (.t 3), none⟩,
    ⟨(some 37), .call 145 [(.t 36), (.c (.i .i64 2))], none⟩])
  (.seq [3, 4, 5, 6, 9, 38] (.reg [⟨(some 39), .faddr 0 (.t 9), none⟩,
    ⟨(some 40), .faddr 0 (.t 39), none⟩,
    ⟨(some 41), .load none (.t 40), none⟩,
    ⟨(some 42), .len (.t 41), none⟩,
    ⟨(some 43), .bin .eql (.t 42) (.c (.i .i64 0)), none⟩,
    ⟨(some 44), .mv (.t 43), none⟩,
    ⟨(some 45), .faddr 0 (.t 9), (some (44, true))⟩,
    ⟨(some 46), .faddr 1 (.t 45), (some (44, true))⟩,
    ⟨(some 47), .load none (.t 46), (some (44, true))⟩,
    ⟨(some 48), .pick (.t 44) (.t 47) (.c (.b false)), none⟩,
    ⟨(some 38), .mv (.t 48), none⟩])
  (.cond (.t 38)
  (.reg [⟨(some 49), .load none (.t 3), none⟩,
    ⟨(some 50), .call 145 [(.t 49), (.c (.i .i64 3))], none⟩])
  .skip)))))
  (.seq [3, 5, 6, 9, 10] (.reg [⟨(some 51), .mkf (.func 230) [] [(.t 3), (.t 4), (.t 9), (.t 5)], none⟩,
    ⟨(some 10), .mv (.t 51), none⟩])
  (.seq [3, 5, 6, 9, 10] (.seq [3, 5, 6, 9, 10, 56] (.reg [⟨(some 52), .faddr 0 (.t 9), none⟩,
    ⟨(some 53), .faddr 0 (.t 52), none⟩,
    ⟨(some 54), .load none (.t 53), none⟩,
    ⟨(some 55), .len (.t 54), none⟩,
    ⟨(some 56), .bin .eql (.t 55) (.c (.i .i64 0)), none⟩])
  (.cond (.t 56)
  (.seq [6] (.reg [⟨(some 57), .mv (.t 10), none⟩,
    ⟨(some 58), .callv (.t 57) [], none⟩,
    ⟨none, .store 2 (.t 6) (.t 58), none⟩])
  .ret)
  .skip))
  (.seq [6] (.reg [⟨(some 59), .load none (.t 3), none⟩,
    ⟨(some 60), .faddr 0 (.t 9), none⟩,
    ⟨(some 61), .faddr 0 (.t 60), none⟩,
    ⟨(some 62), .load none (.t 61), none⟩,
    ⟨(some 63), .faddr 0 (.t 9), none⟩,
    ⟨(some 64), .faddr 1 (.t 63), none⟩,
    ⟨(some 65), .load none (.t 64), none⟩,
    ⟨(some 66), .load none (.t 5), none⟩,
    ⟨(some 67), .mv (.t 10), none⟩,
    ⟨(some 68), .call 232 [(.t 59), (.t 62), (.t 65), (.t 66), (.t 67)], none⟩,
    ⟨none, .store 2 (.t 6) (.t 68), none⟩])
  .ret))))))))
theorem ree186 : Tryz.f186.body.bind (res Tryz.prog Tryz.f186.ntmps [] []) = some (erase ae186) := by kernel_rfl
def fs186 : FnS := .fn 69 ae186 [.c 6 (some 2)]
theorem fsok186 : FnOk Tryz.prog 186 fs186 := fun _ _ _ hn h => ctr_of_resC Tryz.func186 (by kernel_rfl) ree186 (by kernel_rfl) hn h
abbrev ae145 : ACode := (.seq [0, 1, 4] (.reg [⟨(some 4), .alloc [(.i .i64 0), (.i .i64 0)], none⟩])
  (.seq [4] (.reg [⟨(some 5), .mv (.t 0), none⟩,
    ⟨(some 6), .mv (.t 1), none⟩,
    ⟨(some 7), .nilck (.t 5), none⟩,
    ⟨(some 8), .faddr 0 (.t 7), none⟩,
    ⟨(some 9), .faddr 0 (.t 8), none⟩,
    ⟨none, .store 1 (.t 9) (.t 6), none⟩])
  (.reg [⟨(some 10), .build [] [], none⟩,
    ⟨(some 11), .mkifc 216 (.t 10), none⟩,
    ⟨none, .panic (.t 11), none⟩])))
theorem ree145 : Tryz.f145.body.bind (res Tryz.prog Tryz.f145.ntmps [] []) = some (erase ae145) := by kernel_rfl
def fs145 : FnS := .fn 12 ae145 [.c 4 (some 2)]
theorem fsok145 : FnOk Tryz.prog 145 fs145 := fun _ _ _ hn h => ctr_of_resC Tryz.func145 (by kernel_rfl) ree145 (by kernel_rfl) hn h
abbrev ae187 : ACode := (.seq [1, 2, 4] (.reg [⟨(some 2), .box (.t 0), none⟩,
    ⟨(some 4), .alloc [(.i .i64 0), (.l [] true)], none⟩,
    ⟨(some 5), .mv (.c (.i .i64 0)), none⟩])
  (.seq [1, 2, 4] (.seq [1, 2, 4, 7] (.reg [⟨(some 9), .load (some 6) (.t 2), none⟩,
    ⟨(some 10), .mv (.t 1), none⟩,
    ⟨(some 11), .call 226 [(.t 9), (.t 10)], none⟩,
    ⟨(some 8), .mv (.t 11), none⟩,
    ⟨(some 12), .extract 0 (.t 8), none⟩,
    ⟨(some 13), .extract 1 (.t 8), none⟩,
    ⟨(some 6), .mv (.t 12), none⟩,
    ⟨(some 7), .mv (.t 13), none⟩])
  (.seq [1, 2, 4, 15] (.reg [⟨(some 14), .mv (.t 7), none⟩,
    ⟨(some 15), .bin .neq (.t 14) (.c (.i .i64 0)), none⟩])
  (.cond (.t 15)
  (.seq [4, 5] (.reg [⟨(some 16), .build [(.i .i64 0), (.l [] true)] [], none⟩,
    ⟨none, .store 2 (.t 4) (.t 16), none⟩,
    ⟨(some 5), .mv (.c (.i .i64 2)), none⟩])
  .ret)
  .skip)))
  (.seq [4, 5] (.reg [⟨(some 17), .load (some 6) (.t 2), none⟩,
    ⟨(some 18), .call 233 [(.t 17)], none⟩,
    ⟨(some 19), .mv (.t 1), none⟩,
    ⟨(some 20), .call 234 [(.t 18), (.t 19)], none⟩,
    ⟨none, .store 2 (.t 4) (.t 20), none⟩,
    ⟨(some 5), .mv (.c (.i .i64 0)), none⟩])
  .ret)))
theorem ree187 : Tryz.f187.body.bind (res Tryz.prog Tryz.f187.ntmps [] []) = some (erase ae187) := by kernel_rfl
def fs187 : FnS := .fn 21 ae187 [.c 4 (some 2), .t 5]
theorem fsok187 : FnOk Tryz.prog 187 fs187 := fun _ _ _ hn h => ctr_of_resC Tryz.func187 (by kernel_rfl) ree187 (by kernel_rfl) hn h
abbrev ae188 : ACode := (.seq [1, 2, 3, 4] (.reg [⟨(some 4), .box (.t 0), none⟩,
    ⟨(some 8), .mv (.c (.l [] true)), none⟩,
    ⟨(some 9), .mv (.c (.i .i64 0)), none⟩])
  (.seq [1, 2, 3, 4] (.seq [1, 2, 3, 4, 11] (.reg [⟨(some 14), .load (some 6) (.t 4), none⟩,
    ⟨(some 15), .mv (.t 3), none⟩,
    ⟨(some 16), .call 226 [(.t 14), (.t 15)], none⟩,
    ⟨(some 13), .mv (.t 16), none⟩,
    ⟨(some 17), .extract 0 (.t 13), none⟩,
    ⟨(some 18), .extract 1 (.t 13), none⟩,
    ⟨(some 10), .mv (.t 17), none⟩,
    ⟨(some 11), .mv (.t 18), none⟩])
  (.seq [1, 2, 3, 4, 36] (.reg [⟨(some 19), .mv (.t 11), none⟩,
    ⟨(some 20), .bin .neq (.t 19) (.c (.i .i64 0)), none⟩,
    ⟨(some 21), .mv (.t 20), none⟩,
    ⟨(some 22), .load (some 6) (.t 4), (some (21, false))⟩,
    ⟨(some 23), .mv (.t 1), (some (21, false))⟩,
    ⟨(some 24), .call 235 [(.t 22), (.t 23)], (some (21, false))⟩,
    ⟨(some 25), .bin .neq (.t 24) (.c (.i .i64 0)), (some (21, false))⟩,
    ⟨(some 26), .pick (.t 21) (.c (.b true)) (.t 25), none⟩,
    ⟨(some 27), .mv (.t 26), none⟩,
    ⟨(some 28), .mv (.t 2), (some (27, false))⟩,
    ⟨(some 29), .bin .lss (.t 28) (.c (.i .i64 0)), (some (27, false))⟩,
    ⟨(some 30), .pick (.t 27) (.c (.b true)) (.t 29), none⟩,
    ⟨(some 31), .mv (.t 30), none⟩,
    ⟨(some 32), .mv (.t 2), (some (31, false))⟩,
    ⟨(some 33), .mv (.t 1), (some (31, false))⟩,
    ⟨(some 34), .len (.t 33), (some (31, false))⟩,
    ⟨(some 35), .bin .geq (.t 32) (.t 34), (some (31, false))⟩,
    ⟨(some 36), .pick (.t 31) (.c (.b true)) (.t 35), none⟩])
  (.cond (.t 36)
  (.seq [8, 9] (.reg [⟨(some 8), .mv (.c (.l [] true)), none⟩,
    ⟨(some 9), .mv (.c (.i .i64 2)), none⟩])
  .ret)
  .skip)))
  (.seq [2, 3, 4, 12] (.reg [⟨(some 37), .mv (.t 1), none⟩,
    ⟨(some 38), .call 236 [(.t 37)], none⟩,
    ⟨(some 12), .mv (.t 38), none⟩])
  (.seq [12] (.dreg [12] [⟨0, ⟨(some 39), .mv (.t 12), none⟩, [], []⟩,
    ⟨1, ⟨(some 40), .mv (.t 2), none⟩, [], []⟩,
    ⟨2, ⟨(some 41), .load (some 6) (.t 4), none⟩, [], []⟩,
    ⟨4, ⟨(some 43), .mv (.t 12), none⟩, [], []⟩,
    ⟨5, ⟨(some 44), .mv (.t 2), none⟩, [], []⟩,
    ⟨6, ⟨(some 45), .iaddr 2 none (.t 43) (.t 44), none⟩, [], []⟩,
    ⟨7, ⟨(some 46), .load (some 2) (.t 45), none⟩, [], []⟩,
    ⟨8, ⟨(some 47), .mv (.t 3), none⟩, [], []⟩,
    ⟨3, ⟨(some 42), .call 233 [(.t 41)], none⟩, [7], [⟨(some 46), .load (some 2) (.t 45), none⟩]⟩,
    ⟨9, ⟨(some 48), .call 237 [(.t 42), (.t 46), (.t 47)], none⟩, [], []⟩,
    ⟨10, ⟨(some 49), .iaddr 2 none (.t 39) (.t 40), none⟩, [], []⟩,
    ⟨11, ⟨none, .store 2 (.t 49) (.t 48), none⟩, [], []⟩])
  (.seq [8, 9] (.reg [⟨(some 50), .mv (.t 12), none⟩,
    ⟨(some 8), .mv (.t 50), none⟩,
    ⟨(some 9), .mv (.c (.i .i64 0)), none⟩])
  .ret)))))
theorem ree188 : Tryz.f188.body.bind (res Tryz.prog Tryz.f188.ntmps [] []) = some (erase ae188) := by kernel_rfl
def fs188 : FnS := .fn 51 ae188 [.t 8, .t 9]
theorem fsok188 : FnOk Tryz.prog 188 fs188 := fun _ _ _ hn h => ctr_of_resC Tryz.func188 (by kernel_rfl) ree188 (by kernel_rfl) hn h
abbrev ae189 : ACode := (.seq [0] (.reg [⟨(some 2), .mv (.c (.l [] true)), none⟩])
  (.seq [2] (.reg [⟨(some 3), .mv (.t 0), none⟩,
    ⟨(some 4), .mv (.t 0), none⟩,
    ⟨(some 5), .len (.t 4), none⟩,
    ⟨(some 6), .mv (.t 0), none⟩,
    ⟨(some 7), .len (.t 6), none⟩,
    ⟨(some 8), .slice 2 (.t 3) none (some (.t 5)) (some (.t 7)), none⟩,
    ⟨(some 2), .mv (.t 8), none⟩])
  .ret))
theorem ree189 : Tryz.f189.body.bind (res Tryz.prog Tryz.f189.ntmps [] []) = some (erase ae189) := by kernel_rfl
def fs189 : FnS := .fn 9 ae189 [.t 2]
theorem fsok189 : FnOk Tryz.prog 189 fs189 := fun _ _ _ hn h => ctr_of_resC Tryz.func189 (by kernel_rfl) ree189 (by kernel_rfl) hn h
abbrev ae64 : ACode := (.seq [1, 2] (.reg [⟨(some 1), .box (.t 0), none⟩,
    ⟨(some 2), .alloc [(.l [] true), (.l [] true)], none⟩,
    ⟨(some 3), .mv (.c (.i .i64 0)), none⟩])
  (.seq [1, 2] (.seq [1, 2, 6] (.reg [⟨(some 4), .load (some 6) (.t 1), none⟩,
    ⟨(some 5), .call 94 [(.t 4)], none⟩,
    ⟨(some 6), .bin .neq (.t 5) (.c (.i .i64 0)), none⟩])
  (.cond (.t 6)
  (.seq [2, 3] (.reg [⟨(some 7), .build [(.l [] true), (.l [] true)] [], none⟩,
    ⟨none, .store 2 (.t 2) (.t 7), none⟩,
    ⟨(some 3), .mv (.c (.i .i64 2)), none⟩])
  .ret)
  .skip))
  (.seq [2, 3] (.reg [⟨(some 8), .load (some 6) (.t 1), none⟩,
    ⟨(some 9), .call 118 [(.t 8)], none⟩,
    ⟨none, .store 2 (.t 2) (.t 9), none⟩,
    ⟨(some 3), .mv (.c (.i .i64 0)), none⟩])
  .ret)))
theorem ree64 : Tryz.f64.body.bind (res Tryz.prog Tryz.f64.ntmps [] []) = some (erase ae64) := by kernel_rfl
def fs64 : FnS := .fn 10 ae64 [.c 2 (some 2), .t 3]
theorem fsok64 : FnOk Tryz.prog 64 fs64 := fun _ _ _ hn h => ctr_of_resC Tryz.func64 (by kernel_rfl) ree64 (by kernel_rfl) hn h
abbrev ae190 : ACode := (.seq [1, 2] (.reg [⟨(some 2), .box (.t 0), none⟩,
    ⟨(some 4), .mv (.c (.b false)), none⟩])
  (.seq [4] (.reg [⟨(some 5), .load none (.t 2), none⟩,
    ⟨(some 6), .eqn 0 true (.t 5), none⟩,
    ⟨(some 7), .mv (.t 6), none⟩,
    ⟨(some 8), .mv (.t 1), (some (7, true))⟩,
    ⟨(some 9), .mkf (.func 238) [] [(.t 2)], (some (7, true))⟩,
    ⟨(some 10), .call 46 [(.t 8), (.t 9)], (some (7, true))⟩,
    ⟨(some 11), .not (.t 10), (some (7, true))⟩,
    ⟨(some 12), .pick (.t 7) (.t 11) (.c (.b false)), none⟩,
    ⟨(some 4), .mv (.t 12), none⟩])
  .ret))
theorem ree190 : Tryz.f190.body.bind (res Tryz.prog Tryz.f190.ntmps [] []) = some (erase ae190) := by kernel_rfl
def fs190 : FnS := .fn 13 ae190 [.t 4]
theorem fsok190 : FnOk Tryz.prog 190 fs190 := fun _ _ _ hn h => ctr_of_resC Tryz.func190 (by kernel_rfl) ree190 (by kernel_rfl) hn h
abbrev ae191 : ACode := (.seq [0, 1, 2] (.reg [⟨(some 6), .mv (.c (.b false)), none⟩])
  (.seq [7, 8] (.dreg [7, 8] [⟨0, ⟨(some 9), .mv (.t 0), none⟩, [], []⟩,
    ⟨1, ⟨(some 10), .nilck (.t 9), none⟩, [], []⟩,
    ⟨2, ⟨(some 11), .faddr 0 (.t 10), none⟩, [], []⟩,
    ⟨3, ⟨(some 12), .faddr 3 (.t 11), none⟩, [], []⟩,
    ⟨4, ⟨(some 13), .load none (.t 12), none⟩, [], []⟩,
    ⟨5, ⟨(some 14), .mv (.t 1), none⟩, [], []⟩,
    ⟨6, ⟨(some 15), .iaddr 9 none (.t 13) (.t 14), none⟩, [], []⟩,
    ⟨7, ⟨(some 16), .load (some 9) (.t 15), none⟩, [], []⟩,
    ⟨8, ⟨(some 17), .mv (.t 0), none⟩, [], []⟩,
    ⟨9, ⟨(some 18), .nilck (.t 17), none⟩, [], []⟩,
    ⟨10, ⟨(some 19), .faddr 0 (.t 18), none⟩, [], []⟩,
    ⟨11, ⟨(some 20), .faddr 3 (.t 19), none⟩, [], []⟩,
    ⟨12, ⟨(some 21), .load none (.t 20), none⟩, [], []⟩,
    ⟨13, ⟨(some 22), .mv (.t 2), none⟩, [], []⟩,
    ⟨14, ⟨(some 23), .iaddr 9 none (.t 21) (.t 22), none⟩, [], []⟩,
    ⟨15, ⟨(some 24), .load (some 9) (.t 23), none⟩, [], []⟩,
    ⟨16, ⟨(some 7), .alloc [(.i .i64 0), (.i .i64 0), (.i .i64 0), (.i .i64 0), (.l [] true), (.i .i64 0), (.i .i64 0), (.l [] true), (.i .i64 0)], none⟩, [], []⟩,
    ⟨17, ⟨(some 8), .alloc [(.i .i64 0), (.i .i64 0), (.i .i64 0), (.i .i64 0), (.l [] true), (.i .i64 0), (.i .i64 0), (.l [] true), (.i .i64 0)], none⟩, [], []⟩,
    ⟨18, ⟨none, .store 9 (.t 7) (.t 16), none⟩, [15, 12], [⟨(some 24), .load (some 9) (.t 23), none⟩, ⟨(some 21), .load none (.t 20), none⟩]⟩,
    ⟨19, ⟨none, .store 9 (.t 8) (.t 24), none⟩, [], []⟩])
  (.seq [6] (.reg [⟨(some 25), .faddr 1 (.t 7), none⟩,
    ⟨(some 26), .load none (.t 25), none⟩,
    ⟨(some 27), .faddr 1 (.t 8), none⟩,
    ⟨(some 28), .load none (.t 27), none⟩,
    ⟨(some 29), .bin .eql (.t 26) (.t 28), none⟩,
    ⟨(some 30), .mv (.t 29), none⟩,
    ⟨(some 31), .faddr 0 (.t 7), (some (30, true))⟩,
    ⟨(some 32), .load none (.t 31), (some (30, true))⟩,
    ⟨(some 33), .faddr 0 (.t 8), (some (30, true))⟩,
    ⟨(some 34), .load none (.t 33), (some (30, true))⟩,
    ⟨(some 35), .bin .eql (.t 32) (.t 34), (some (30, true))⟩,
    ⟨(some 36), .pick (.t 30) (.t 35) (.c (.b false)), none⟩,
    ⟨(some 6), .mv (.t 36), none⟩])
  .ret)))
theorem ree191 : Tryz.f191.body.bind (res Tryz.prog Tryz.f191.ntmps [] []) = some (erase ae191) := by kernel_rfl
def fs191 : FnS := .fn 37 ae191 [.t 6]
theorem fsok191 : FnOk Tryz.prog 191 fs191 := fun _ _ _ hn h => ctr_of_resC Tryz.func191 (by kernel_rfl) ree191 (by kernel_rfl) hn h
abbrev ae192 : ACode := (.seq [0, 1] (.reg [⟨(some 4), .mv (.c (.l [] true)), none⟩,
    ⟨(some 5), .mv (.c (.b false)), none⟩])
  (.scope (.seq [0, 1, 6] (.reg [⟨(some 6), .mv (.c (.l [] true)), none⟩])
  (.seq [0, 1, 6] .skip
  (.seq [6] (.block 0 (.loop [0, 1, 6] (.seq [0, 1, 6] (.seq [0, 1, 6, 13] (.reg [⟨(some 11), .mv (.t 1), none⟩,
    ⟨(some 12), .len (.t 11), none⟩,
    ⟨(some 13), .bin .gtr (.t 12) (.c (.i .i64 0)), none⟩])
  (.cond (.t 13)
  .skip
  (.exit 0)))
  (.block 1 (.scope (.seq [0, 1, 6] .skip
  (.seq [6] (.seq [0, 1, 6, 14, 15, 16] (.reg [⟨(some 14), .mv (.t 1), none⟩,
    ⟨(some 15), .len (.t 14), none⟩,
    ⟨(some 16), .mv (.c (.i .i64 0)), none⟩])
  (.block 2 (.loop [0, 1, 6, 14, 15, 16] (.seq [0, 1, 6, 14, 15, 16, 17] (.reg [⟨(some 17), .bin .lss (.t 16) (.t 15), none⟩])
  (.seq [0, 1, 6, 14, 15, 16] (.cond (.t 17)
  .skip
  (.exit 2))
  (.seq [0, 1, 6, 14, 15, 16] (.block 3 (.seq [0, 1, 6, 8, 14, 15, 16] (.reg [⟨(some 18), .iaddr 1 none (.t 14) (.t 16), none⟩,
    ⟨(some 19), .load none (.t 18), none⟩,
    ⟨(some 8), .mv (.t 19), none⟩])
  (.seq [0, 1, 6, 8] (.seq [0, 1, 6, 8, 14, 15, 16, 20, 21, 22] (.reg [⟨(some 20), .mv (.t 1), none⟩,
    ⟨(some 21), .len (.t 20), none⟩,
    ⟨(some 22), .mv (.c (.i .i64 0)), none⟩])
  (.block 4 (.loop [0, 1, 6, 8, 14, 15, 16, 20, 21, 22] (.seq [0, 1, 6, 8, 14, 15, 16, 20, 21, 22, 23] (.reg [⟨(some 23), .bin .lss (.t 22) (.t 21), none⟩])
  (.seq [0, 1, 6, 8, 14, 15, 16, 20, 21, 22] (.cond (.t 23)
  .skip
  (.exit 4))
  (.seq [0, 1, 6, 8, 14, 15, 16, 20, 21, 22] (.block 5 (.seq [0, 1, 6, 8, 10, 14, 15, 16, 20, 21, 22] (.reg [⟨(some 24), .iaddr 1 none (.t 20) (.t 22), none⟩,
    ⟨(some 25), .load none (.t 24), none⟩,
    ⟨(some 10), .mv (.t 25), none⟩])
  (.seq [0, 1, 6, 8, 14, 15, 16, 20, 21, 22, 35] (.reg [⟨(some 26), .mv (.t 8), none⟩,
    ⟨(some 27), .mv (.t 10), none⟩,
    ⟨(some 28), .bin .neq (.t 26) (.t 27), none⟩,
    ⟨(some 29), .mv (.t 28), none⟩,
    ⟨(some 30), .mv (.t 0), (some (29, true))⟩,
    ⟨(some 31), .mv (.t 8), (some (29, true))⟩,
    ⟨(some 32), .mv (.t 10), (some (29, true))⟩,
    ⟨(some 33), .call 239 [(.t 30), (.t 31), (.t 32)], (some (29, true))⟩,
    ⟨(some 34), .not (.t 33), (some (29, true))⟩,
    ⟨(some 35), .pick (.t 29) (.t 34) (.c (.b false)), none⟩])
  (.cond (.t 35)
  (.exit 3)
  .skip))))
  (.reg [⟨(some 36), .bin .add (.t 22) (.c (.i .i64 1)), none⟩,
    ⟨(some 22), .mv (.t 36), none⟩])))))))
  (.seq [0, 1, 6, 8] (.reg [⟨(some 37), .mv (.t 6), none⟩,
    ⟨(some 38), .mv (.t 8), none⟩,
    ⟨(some 39), .bslice 1 1 [(.i .i64 0)] [(0, (.t 38))], none⟩,
    ⟨(some 40), .append 1 8 (.t 37) (.t 39), none⟩,
    ⟨(some 6), .mv (.t 40), none⟩])
  (.seq [0, 1, 6] (.reg [⟨(some 41), .mv (.t 1), none⟩,
    ⟨(some 42), .mv (.t 8), none⟩,
    ⟨(some 43), .call 240 [(.t 41), (.t 42)], none⟩,
    ⟨(some 1), .mv (.t 43), none⟩])
  (.exit 1))))))
  (.reg [⟨(some 44), .bin .add (.t 16) (.c (.i .i64 1)), none⟩,
    ⟨(some 16), .mv (.t 44), none⟩])))))))
  (.seq [4, 5] (.reg [⟨(some 45), .mv (.t 6), none⟩,
    ⟨(some 46), .call 241 [(.t 45)], none⟩,
    ⟨(some 4), .mv (.t 46), none⟩,
    ⟨(some 5), .mv (.c (.b true)), none⟩])
  .ret))))))))
  (.seq [4, 5] (.reg [⟨(some 47), .mv (.t 6), none⟩,
    ⟨(some 48), .call 241 [(.t 47)], none⟩,
    ⟨(some 4), .mv (.t 48), none⟩,
    ⟨(some 5), .mv (.c (.b false)), none⟩])
  .ret))))))
theorem ree192 : Tryz.f192.body.bind (res Tryz.prog Tryz.f192.ntmps [] []) = some (erase ae192) := by kernel_rfl
def fs192 : FnS := .fn 49 ae192 [.t 4, .t 5]
theorem fsok192 : FnOk Tryz.prog 192 fs192 := fun _ _ _ hn h => ctr_of_resC Tryz.func192 (by kernel_rfl) ree192 (by kernel_rfl) hn h
abbrev ae193 : ACode := (.seq [2, 3] (.reg [⟨(some 2), .box (.t 0), none⟩,
    ⟨(some 3), .box (.t 1), none⟩,
    ⟨(some 4), .mv (.c (.l [] true)), none⟩])
  (.seq [2, 3] (.reg [⟨(some 8), .load none (.t 3), none⟩,
    ⟨(some 9), .call 243 [(.t 8)], none⟩,
    ⟨(some 10), .call 242 [(.t 9)], none⟩,
    ⟨none, .store 1 (.t 3) (.t 10), none⟩])
  (.seq [2, 3, 5] (.reg [⟨(some 5), .mv (.c (.l [] true)), none⟩])
  (.seq [5] (.block 0 (.loop [2, 3, 5] (.seq [2, 3, 5] (.seq [2, 3, 5, 13] (.reg [⟨(some 11), .load none (.t 3), none⟩,
    ⟨(some 12), .len (.t 11), none⟩,
    ⟨(some 13), .bin .gtr (.t 12) (.c (.i .i64 0)), none⟩])
  (.cond (.t 13)
  .skip
  (.exit 0)))
  (.block 1 (.seq [2, 3, 5, 6] (.reg [⟨(some 14), .load none (.t 3), none⟩,
    ⟨(some 15), .mkf (.func 244) [] [(.t 3), (.t 2)], none⟩,
    ⟨(some 16), .call 104 [(.t 14), (.t 15)], none⟩,
    ⟨(some 6), .mv (.t 16), none⟩])
  (.seq [2, 3, 5, 7] (.reg [⟨(some 17), .load none (.t 3), none⟩,
    ⟨(some 18), .mv (.t 6), none⟩,
    ⟨(some 19), .iaddr 1 none (.t 17) (.t 18), none⟩,
    ⟨(some 20), .load none (.t 19), none⟩,
    ⟨(some 7), .mv (.t 20), none⟩])
  (.seq [2, 3, 5, 7] (.reg [⟨(some 21), .mv (.t 5), none⟩,
    ⟨(some 22), .mv (.t 7), none⟩,
    ⟨(some 23), .bslice 1 1 [(.i .i64 0)] [(0, (.t 22))], none⟩,
    ⟨(some 24), .append 1 8 (.t 21) (.t 23), none⟩,
    ⟨(some 5), .mv (.t 24), none⟩])
  (.reg [⟨(some 25), .load none (.t 3), none⟩,
    ⟨(some 26), .mv (.t 7), none⟩,
    ⟨(some 27), .call 240 [(.t 25), (.t 26)], none⟩,
    ⟨none, .store 1 (.t 3) (.t 27), none⟩]))))))))
  (.seq [4] (.reg [⟨(some 28), .mv (.t 5), none⟩,
    ⟨(some 29), .call 241 [(.t 28)], none⟩,
    ⟨(some 4), .mv (.t 29), none⟩])
  .ret)))))
theorem ree193 : Tryz.f193.body.bind (res Tryz.prog Tryz.f193.ntmps [] []) = some (erase ae193) := by kernel_rfl
def fs193 : FnS := .fn 30 ae193 [.t 4]
theorem fsok193 : FnOk Tryz.prog 193 fs193 := fun _ _ _ hn h => ctr_of_resC Tryz.func193 (by kernel_rfl) ree193 (by kernel_rfl) hn h
abbrev ae195 : ACode := (.seq [0, 1] (.reg [⟨(some 8), .load (some 6) (.t 0), none⟩,
    ⟨(some 9), .call 196 [(.t 8)], none⟩])
  (.seq [0, 1] (.reg [⟨(some 10), .faddr 2 (.t 0), none⟩,
    ⟨(some 11), .load none (.t 10), none⟩,
    ⟨(some 12), .len (.t 11), none⟩,
    ⟨(some 13), .bin .leq (.t 12) (.c (.i .i64 8)), none⟩,
    ⟨(some 14), .mv (.t 13), none⟩,
    ⟨(some 15), .faddr 3 (.t 0), (some (14, true))⟩,
    ⟨(some 16), .load none (.t 15), (some (14, true))⟩,
    ⟨(some 17), .len (.t 16), (some (14, true))⟩,
    ⟨(some 18), .bin .leq (.t 17) (.c (.i .i64 16)), (some (14, true))⟩,
    ⟨(some 19), .pick (.t 14) (.t 18) (.c (.b false)), none⟩,
    ⟨(some 20), .mv (.t 19), none⟩,
    ⟨(some 21), .faddr 4 (.t 0), (some (20, true))⟩,
    ⟨(some 22), .load none (.t 21), (some (20, true))⟩,
    ⟨(some 23), .len (.t 22), (some (20, true))⟩,
    ⟨(some 24), .bin .geq (.t 23) (.c (.i .i64 1)), (some (20, true))⟩,
    ⟨(some 25), .pick (.t 20) (.t 24) (.c (.b false)), none⟩,
    ⟨(some 26), .mv (.t 25), none⟩,
    ⟨(some 27), .faddr 4 (.t 0), (some (26, true))⟩,
    ⟨(some 28), .load none (.t 27), (some (26, true))⟩,
    ⟨(some 29), .len (.t 28), (some (26, true))⟩,
    ⟨(some 30), .bin .leq (.t 29) (.c (.i .i64 120)), (some (26, true))⟩,
    ⟨(some 31), .pick (.t 26) (.t 30) (.c (.b false)), none⟩,
    ⟨(some 32), .call 197 [(.t 31)], none⟩])
  (.seq [0, 1] (.seq [0, 1, 34, 35, 36] (.reg [⟨(some 33), .faddr 2 (.t 0), none⟩,
    ⟨(some 34), .load none (.t 33), none⟩,
    ⟨(some 35), .len (.t 34), none⟩,
    ⟨(some 36), .mv (.c (.i .i64 0)), none⟩])
  (.block 0 (.loop [0, 1, 34, 35, 36] (.seq [0, 1, 34, 35, 36, 37] (.reg [⟨(some 37), .bin .lss (.t 36) (.t 35), none⟩])
  (.seq [0, 1, 34, 35, 36] (.cond (.t 37)
  .skip
  (.exit 0))
  (.seq [0, 1, 34, 35, 36] (.block 1 (.seq [0, 1, 3, 34, 35, 36] (.reg [⟨(some 38), .iaddr 1 none (.t 34) (.t 36), none⟩,
    ⟨(some 39), .load none (.t 38), none⟩,
    ⟨(some 3), .mv (.t 39), none⟩])
  (.reg [⟨(some 40), .mv (.t 3), none⟩,
    ⟨(some 41), .bin .geq (.t 40) (.c (.i .i64 1)), none⟩,
    ⟨(some 42), .mv (.t 41), none⟩,
    ⟨(some 43), .mv (.t 3), (some (42, true))⟩,
    ⟨(some 44), .bin .leq (.t 43) (.c (.i .i64 3)), (some (42, true))⟩,
    ⟨(some 45), .pick (.t 42) (.t 44) (.c (.b false)), none⟩,
    ⟨(some 46), .call 197 [(.t 45)], none⟩])))
  (.reg [⟨(some 47), .bin .add (.t 36) (.c (.i .i64 1)), none⟩,
    ⟨(some 36), .mv (.t 47), none⟩])))))))
  (.seq [0, 1] (.reg [⟨(some 48), .bslice 1 1 [(.i .i64 0)] [(0, (.c (.i .i64 (-1))))], none⟩,
    ⟨(some 49), .faddr 4 (.t 0), none⟩,
    ⟨(some 50), .load none (.t 49), none⟩,
    ⟨(some 51), .len (.t 50), none⟩,
    ⟨(some 52), .call 60 [(.t 48), (.t 51)], none⟩,
    ⟨none, .store 1 (.t 1) (.t 52), none⟩])
  (.seq [0, 1, 4] (.reg [⟨(some 53), .mkf (.func 198) [] [(.t 0), (.t 1)], none⟩,
    ⟨(some 4), .mv (.t 53), none⟩])
  (.seq [0, 1, 4, 5] (.reg [⟨(some 54), .load (some 6) (.t 0), none⟩,
    ⟨(some 55), .call 118 [(.t 54)], none⟩,
    ⟨(some 5), .alloc [(.l [] true), (.l [] true)], none⟩,
    ⟨none, .store 2 (.t 5) (.t 55), none⟩])
  (.seq [0, 1, 4] (.seq [0, 1, 4, 5, 57, 58, 59] (.reg [⟨(some 56), .faddr 3 (.t 0), none⟩,
    ⟨(some 57), .load none (.t 56), none⟩,
    ⟨(some 58), .len (.t 57), none⟩,
    ⟨(some 59), .mv (.c (.i .i64 0)), none⟩])
  (.block 2 (.loop [0, 1, 4, 5, 57, 58, 59] (.seq [0, 1, 4, 5, 57, 58, 59, 60] (.reg [⟨(some 60), .bin .lss (.t 59) (.t 58), none⟩])
  (.seq [0, 1, 4, 5, 57, 58, 59] (.cond (.t 60)
  .skip
  (.exit 2))
  (.seq [0, 1, 4, 5, 57, 58, 59] (.block 3 (.seq [0, 1, 4, 5, 7, 57, 58, 59] (.reg [⟨(some 61), .iaddr 9 none (.t 57) (.t 59), none⟩,
    ⟨(some 62), .load (some 9) (.t 61), none⟩,
    ⟨(some 7), .alloc [(.i .i64 0), (.i .i64 0), (.i .i64 0), (.i .i64 0), (.l [] true), (.i .i64 0), (.i .i64 0), (.l [] true), (.i .i64 0)], none⟩,
    ⟨none, .store 9 (.t 7) (.t 62), none⟩])
  (.seq [0, 1, 4, 5, 7, 57, 58, 59] (.reg [⟨(some 63), .faddr 0 (.t 7), none⟩,
    ⟨(some 64), .load none (.t 63), none⟩,
    ⟨(some 65), .bin .geq (.t 64) (.c (.i .i64 1)), none⟩,
    ⟨(some 66), .mv (.t 65), none⟩,
    ⟨(some 67), .faddr 0 (.t 7), (some (66, true))⟩,
    ⟨(some 68), .load none (.t 67), (some (66, true))⟩,
    ⟨(some 69), .bin .leq (.t 68) (.c (.i .i64 4)), (some (66, true))⟩,
    ⟨(some 70), .pick (.t 66) (.t 69) (.c (.b false)), none⟩,
    ⟨(some 71), .mv (.t 70), none⟩,
    ⟨(some 72), .faddr 1 (.t 7), (some (71, true))⟩,
    ⟨(some 73), .load none (.t 72), (some (71, true))⟩,
    ⟨(some 74), .bin .geq (.t 73) (.c (.i .i64 0)), (some (71, true))⟩,
    ⟨(some 75), .pick (.t 71) (.t 74) (.c (.b false)), none⟩,
    ⟨(some 76), .mv (.t 75), none⟩,
    ⟨(some 77), .faddr 1 (.t 7), (some (76, true))⟩,
    ⟨(some 78), .load none (.t 77), (some (76, true))⟩,
    ⟨(some 79), .faddr 2 (.t 0), (some (76, true))⟩,
    ⟨(some 80), .load none (.t 79), (some (76, true))⟩,
    ⟨(some 81), .len (.t 80), (some (76, true))⟩,
    ⟨(some 82), .bin .lss (.t 78) (.t 81), (some (76, true))⟩,
    ⟨(some 83), .pick (.t 76) (.t 82) (.c (.b false)), none⟩,
    ⟨(some 84), .call 197 [(.t 83)], none⟩])
  (.seq [0, 1, 4, 5, 7, 57, 58, 59] (.dreg [0, 1, 4, 5, 7, 57, 58, 59] [⟨0, ⟨(some 85), .load (some 2) (.t 5), none⟩, [], []⟩,
    ⟨1, ⟨(some 86), .faddr 2 (.t 7), none⟩, [], []⟩,
    ⟨2, ⟨(some 87), .load (some 6) (.t 86), none⟩, [], []⟩,
    ⟨3, ⟨(some 88), .call 116 [(.t 85), (.t 87)], none⟩, [], []⟩,
    ⟨4, ⟨(some 89), .bin .eql (.t 88) (.c (.i .i64 0)), none⟩, [], []⟩,
    ⟨5, ⟨(some 90), .mv (.t 89), none⟩, [], []⟩,
    ⟨6, ⟨(some 91), .faddr 2 (.t 7), (some (90, true))⟩, [], []⟩,
    ⟨7, ⟨(some 92), .load (some 6) (.t 91), (some (90, true))⟩, [], []⟩,
    ⟨9, ⟨(some 94), .faddr 2 (.t 0), (some (90, true))⟩, [], []⟩,
    ⟨10, ⟨(some 95), .load none (.t 94), (some (90, true))⟩, [], []⟩,
    ⟨11, ⟨(some 96), .faddr 1 (.t 7), (some (90, true))⟩, [], []⟩,
    ⟨12, ⟨(some 97), .load none (.t 96), (some (90, true))⟩, [], []⟩,
    ⟨13, ⟨(some 98), .iaddr 1 none (.t 95) (.t 97), (some (90, true))⟩, [], []⟩,
    ⟨14, ⟨(some 99), .load none (.t 98), (some (90, true))⟩, [], []⟩,
    ⟨8, ⟨(some 93), .call 202 [(.t 92)], (some (90, true))⟩, [14, 12, 10], [⟨(some 99), .load none (.t 98), (some (90, true))⟩, ⟨(some 97), .load none (.t 96), (some (90, true))⟩, ⟨(some 95), .load none (.t 94), (some (90, true))⟩]⟩,
    ⟨15, ⟨(some 100), .bin .leq (.t 93) (.t 99), (some (90, true))⟩, [], []⟩,
    ⟨16, ⟨(some 101), .pick (.t 90) (.t 100) (.c (.b false)), none⟩, [], []⟩,
    ⟨17, ⟨(some 102), .call 197 [(.t 101)], none⟩, [], []⟩])
  (.dreg [0, 1, 4, 5, 57, 58, 59] [⟨0, ⟨(some 103), .mv (.t 4), none⟩, [], []⟩,
    ⟨1, ⟨(some 104), .faddr 8 (.t 7), none⟩, [], []⟩,
    ⟨2, ⟨(some 105), .load none (.t 104), none⟩, [], []⟩,
    ⟨3, ⟨(some 106), .faddr 2 (.t 0), none⟩, [], []⟩,
    ⟨4, ⟨(some 107), .load none (.t 106), none⟩, [], []⟩,
    ⟨5, ⟨(some 108), .faddr 1 (.t 7), none⟩, [], []⟩,
    ⟨6, ⟨(some 109), .load none (.t 108), none⟩, [], []⟩,
    ⟨7, ⟨(some 110), .iaddr 1 none (.t 107) (.t 109), none⟩, [], []⟩,
    ⟨8, ⟨(some 111), .load none (.t 110), none⟩, [], []⟩,
    ⟨9, ⟨(some 112), .faddr 0 (.t 7), none⟩, [], []⟩,
    ⟨10, ⟨(some 113), .load none (.t 112), none⟩, [], []⟩,
    ⟨11, ⟨(some 114), .bin .eql (.t 113) (.c (.i .i64 1)), none⟩, [], []⟩,
    ⟨12, ⟨(some 115), .mv (.t 114), none⟩, [], []⟩,
    ⟨13, ⟨(some 116), .faddr 0 (.t 7), (some (115, false))⟩, [], []⟩,
    ⟨14, ⟨(some 117), .load none (.t 116), (some (115, false))⟩, [], []⟩,
    ⟨15, ⟨(some 118), .bin .eql (.t 117) (.c (.i .i64 4)), (some (115, false))⟩, [], []⟩,
    ⟨16, ⟨(some 119), .pick (.t 115) (.c (.b true)) (.t 118), none⟩, [], []⟩,
    ⟨17, ⟨(some 120), .callv (.t 103) [(.t 105), (.t 111), (.t 119)], none⟩, [], []⟩])))))
  (.reg [⟨(some 121), .bin .add (.t 59) (.c (.i .i64 1)), none⟩,
    ⟨(some 59), .mv (.t 121), none⟩])))))))
  (.seq [1] (.reg [⟨(some 122), .mv (.t 4), none⟩,
    ⟨(some 123), .faddr 5 (.t 0), none⟩,
    ⟨(some 124), .load none (.t 123), none⟩,
    ⟨(some 125), .callv (.t 122) [(.t 124), (.c (.i .i64 0)), (.c (.b false))], none⟩])
  (.reg [⟨(some 126), .load none (.t 1), none⟩,
    ⟨(some 127), .call 67 [(.t 126), (.c (.i .i64 (-1)))], none⟩,
    ⟨(some 128), .not (.t 127), none⟩,
    ⟨(some 129), .call 197 [(.t 128)], none⟩])))))))))
theorem ree195 : Tryz.f195.body.bind (res Tryz.prog Tryz.f195.ntmps [] []) = some (erase ae195) := by kernel_rfl
def fs195 : FnS := .fn 130 ae195 []
theorem fsok195 : FnOk Tryz.prog 195 fs195 := fun _ _ _ hn h => ctr_of_resC Tryz.func195 (by kernel_rfl) ree195 (by kernel_rfl) hn h
abbrev acAe194 : ACode := (.reg [⟨(some 2), .alloc [(.b false)], none⟩])
def ose194 : List AOper := [⟨(some 3), .mkf (.func 246) [] [(.t 2)], none⟩]
abbrev acCe194 : ACode := (.seq [2] (.reg [⟨(some 4), .mv (.t 0), none⟩,
    ⟨(some 5), .callv (.t 4) [], none⟩])
  (.seq [2] (.reg [⟨none, .store 1 (.t 2) (.c (.b true)), none⟩])
  .ret))
theorem rese194 : Tryz.f194.body.bind (resDfr Tryz.prog Tryz.f194.ntmps [] []) = some (erase acAe194, ose194, (.t 3), erase acCe194) := by kernel_rfl
def fs194 : FnS := .dfr 6 acAe194 ose194 (.t 3) acCe194 [.c 2 none] [0, 2] [0, 2]
theorem fsok194 : FnOk Tryz.prog 194 fs194 := fun _ _ _ hn h => ctr_of_dfr Tryz.func194 (by kernel_rfl) rese194 (by kernel_rfl) hn h
abbrev ae104 : ACode := (.seq [0, 1] (.reg [⟨(some 4), .mv (.c (.i .i64 0)), none⟩])
  (.seq [] (.seq [0, 1, 7, 8] (.reg [⟨(some 6), .mv (.t 0), none⟩,
    ⟨(some 7), .len (.t 6), none⟩,
    ⟨(some 8), .mv (.c (.i .i64 0)), none⟩])
  (.block 0 (.loop [0, 1, 7, 8] (.seq [0, 1, 7, 8, 9] (.reg [⟨(some 9), .bin .lss (.t 8) (.t 7), none⟩])
  (.seq [0, 1, 7, 8] (.cond (.t 9)
  .skip
  (.exit 0))
  (.seq [0, 1, 7, 8] (.block 1 (.seq [0, 1, 5, 7, 8] (.reg [⟨(some 10), .mv (.t 8), none⟩,
    ⟨(some 5), .mv (.t 10), none⟩])
  (.seq [0, 1, 5, 7, 8, 16] (.reg [⟨(some 11), .mv (.t 1), none⟩,
    ⟨(some 12), .mv (.t 0), none⟩,
    ⟨(some 13), .mv (.t 5), none⟩,
    ⟨(some 14), .iaddr 1 none (.t 12) (.t 13), none⟩,
    ⟨(some 15), .load none (.t 14), none⟩,
    ⟨(some 16), .callv (.t 11) [(.t 15)], none⟩])
  (.cond (.t 16)
  (.seq [4] (.reg [⟨(some 17), .mv (.t 5), none⟩,
    ⟨(some 4), .mv (.t 17), none⟩])
  .ret)
  .skip))))
  (.reg [⟨(some 18), .bin .add (.t 8) (.c (.i .i64 1)), none⟩,
    ⟨(some 8), .mv (.t 18), none⟩])))))))
  (.seq [4] (.reg [⟨(some 4), .mv (.c (.i .i64 (-1))), none⟩])
  .ret)))
theorem ree104 : Tryz.f104.body.bind (res Tryz.prog Tryz.f104.ntmps [] []) = some (erase ae104) := by kernel_rfl
def fs104 : FnS := .fn 19 ae104 [.t 4]
theorem fsok104 : FnOk Tryz.prog 104 fs104 := fun _ _ _ hn h => ctr_of_resC Tryz.func104 (by kernel_rfl) ree104 (by kernel_rfl) hn h
abbrev ae226 : ACode := (.seq [1, 2] (.reg [⟨(some 2), .box (.t 0), none⟩,
    ⟨(some 4), .mv (.c (.l [] true)), none⟩,
    ⟨(some 5), .mv (.c (.i .i64 0)), none⟩])
  (.seq [1, 2] (.seq [1, 2, 9] (.reg [⟨(some 6), .load (some 6) (.t 2), none⟩,
    ⟨(some 7), .mv (.t 1), none⟩,
    ⟨(some 8), .call 275 [(.t 6), (.t 7)], none⟩,
    ⟨(some 9), .not (.t 8), none⟩])
  (.cond (.t 9)
  (.seq [4, 5] (.reg [⟨(some 4), .mv (.c (.l [] true)), none⟩,
    ⟨(some 5), .mv (.c (.i .i64 2)), none⟩])
  .ret)
  .skip))
  (.seq [4, 5] (.reg [⟨(some 10), .load (some 6) (.t 2), none⟩,
    ⟨(some 11), .mv (.t 1), none⟩,
    ⟨(some 12), .call 249 [(.t 10), (.t 11)], none⟩,
    ⟨(some 4), .mv (.t 12), none⟩,
    ⟨(some 5), .mv (.c (.i .i64 0)), none⟩])
  .ret)))
theorem ree226 : Tryz.f226.body.bind (res Tryz.prog Tryz.f226.ntmps [] []) = some (erase ae226) := by kernel_rfl
def fs226 : FnS := .fn 13 ae226 [.t 4, .t 5]
theorem fsok226 : FnOk Tryz.prog 226 fs226 := fun _ _ _ hn h => ctr_of_resC Tryz.func226 (by kernel_rfl) ree226 (by kernel_rfl) hn h
abbrev ae122 : ACode := (.seq [0, 1] (.reg [⟨(some 4), .mv (.c (.i .i64 0)), none⟩])
  (.seq [] (.seq [0, 1, 7, 8] (.reg [⟨(some 6), .mv (.t 0), none⟩,
    ⟨(some 7), .len (.t 6), none⟩,
    ⟨(some 8), .mv (.c (.i .i64 0)), none⟩])
  (.block 0 (.loop [0, 1, 7, 8] (.seq [0, 1, 7, 8, 9] (.reg [⟨(some 9), .bin .lss (.t 8) (.t 7), none⟩])
  (.seq [0, 1, 7, 8] (.cond (.t 9)
  .skip
  (.exit 0))
  (.seq [0, 1, 7, 8] (.block 1 (.seq [0, 1, 5, 7, 8] (.reg [⟨(some 10), .mv (.t 8), none⟩,
    ⟨(some 5), .mv (.t 10), none⟩])
  (.seq [0, 1, 5, 7, 8, 16] (.reg [⟨(some 11), .mv (.t 1), none⟩,
    ⟨(some 12), .mv (.t 0), none⟩,
    ⟨(some 13), .mv (.t 5), none⟩,
    ⟨(some 14), .iaddr 1 none (.t 12) (.t 13), none⟩,
    ⟨(some 15), .load none (.t 14), none⟩,
    ⟨(some 16), .bin .eql (.t 11) (.t 15), none⟩])
  (.cond (.t 16)
  (.seq [4] (.reg [⟨(some 17), .mv (.t 5), none⟩,
    ⟨(some 4), .mv (.t 17), none⟩])
  .ret)
  .skip))))
  (.reg [⟨(some 18), .bin .add (.t 8) (.c (.i .i64 1)), none⟩,
    ⟨(some 8), .mv (.t 18), none⟩])))))))
  (.seq [4] (.reg [⟨(some 4), .mv (.c (.i .i64 (-1))), none⟩])
  .ret)))
theorem ree122 : Tryz.f122.body.bind (res Tryz.prog Tryz.f122.ntmps [] []) = some (erase ae122) := by kernel_rfl
def fs122 : FnS := .fn 19 ae122 [.t 4]
theorem fsok122 : FnOk Tryz.prog 122 fs122 := fun _ _ _ hn h => ctr_of_resC Tryz.func122 (by kernel_rfl) ree122 (by kernel_rfl) hn h
abbrev ae97 : ACode := (.seq [1, 2, 3] (.reg [⟨(some 3), .box (.t 0), none⟩,
    ⟨(some 6), .mv (.c (.i .i64 0)), none⟩])
  (.seq [2, 3, 7] (.reg [⟨(some 8), .faddr 2 (.t 3), none⟩,
    ⟨(some 9), .load none (.t 8), none⟩,
    ⟨(some 10), .mv (.t 1), none⟩,
    ⟨(some 11), .bin .sub (.t 10) (.c (.i .i64 3)), none⟩,
    ⟨(some 12), .iaddr 1 none (.t 9) (.t 11), none⟩,
    ⟨(some 13), .load none (.t 12), none⟩,
    ⟨(some 7), .mv (.t 13), none⟩])
  (.seq [7] (.block 0 (.loop [2, 3, 7] (.seq [2, 3, 7] (.seq [2, 3, 7, 19] (.reg [⟨(some 14), .mv (.t 2), none⟩,
    ⟨(some 15), .bin .gtr (.t 14) (.c (.i .i64 0)), none⟩,
    ⟨(some 16), .mv (.t 15), none⟩,
    ⟨(some 17), .mv (.t 7), (some (16, true))⟩,
    ⟨(some 18), .bin .geq (.t 17) (.c (.i .i64 0)), (some (16, true))⟩,
    ⟨(some 19), .pick (.t 16) (.t 18) (.c (.b false)), none⟩])
  (.cond (.t 19)
  .skip
  (.exit 0)))
  (.seq [2, 3, 7] (.block 1 (.reg [⟨(some 22), .faddr 1 (.t 3), none⟩,
    ⟨(some 23), .load none (.t 22), none⟩,
    ⟨(some 24), .mv (.t 7), none⟩,
    ⟨(some 25), .iaddr 4 none (.t 23) (.t 24), none⟩,
    ⟨(some 26), .faddr 0 (.t 25), none⟩,
    ⟨(some 27), .load none (.t 26), none⟩,
    ⟨(some 7), .mv (.t 27), none⟩]))
  (.reg [⟨(some 20), .mv (.t 2), none⟩,
    ⟨(some 21), .bin .sub (.t 20) (.c (.i .i64 1)), none⟩,
    ⟨(some 2), .mv (.t 21), none⟩])))))
  (.seq [6] (.reg [⟨(some 28), .mv (.t 7), none⟩,
    ⟨(some 6), .mv (.t 28), none⟩])
  .ret))))
theorem ree97 : Tryz.f97.body.bind (res Tryz.prog Tryz.f97.ntmps [] []) = some (erase ae97) := by kernel_rfl
def fs97 : FnS := .fn 29 ae97 [.t 6]
theorem fsok97 : FnOk Tryz.prog 97 fs97 := fun _ _ _ hn h => ctr_of_resC Tryz.func97 (by kernel_rfl) ree97 (by kernel_rfl) hn h
abbrev ae227 : ACode := (.reg [⟨(some 1), .load none (.t 0), none⟩,
    ⟨(some 2), .nilck (.t 1), none⟩,
    ⟨(some 3), .faddr 15 (.t 2), none⟩,
    ⟨(some 4), .load none (.t 3), none⟩,
    ⟨(some 5), .bin .sub (.t 4) (.c (.i .i64 1)), none⟩,
    ⟨(some 6), .nilck (.t 1), none⟩,
    ⟨(some 7), .faddr 15 (.t 6), none⟩,
    ⟨none, .store 1 (.t 7) (.t 5), none⟩])
theorem ree227 : Tryz.f227.body.bind (res Tryz.prog Tryz.f227.ntmps [] []) = some (erase ae227) := by kernel_rfl
def fs227 : FnS := .pld 8 ae227
theorem fsok227 : FnOk Tryz.prog 227 fs227 := fun _ _ _ hn h => ctrD_plain Tryz.func227 (by kernel_rfl) ree227 rfl hn h
abbrev ae228 : ACode := (.seq [1, 2, 3, 4] (.reg [⟨(some 4), .box (.t 0), none⟩,
    ⟨(some 8), .mv (.c (.l [] true)), none⟩,
    ⟨(some 9), .mv (.c (.i .i64 0)), none⟩])
  (.seq [1, 2, 3, 10] (.reg [⟨(some 11), .load (some 6) (.t 4), none⟩,
    ⟨(some 12), .call 146 [(.t 11)], none⟩,
    ⟨(some 10), .mv (.t 12), none⟩])
  (.seq [1, 2, 3, 10] (.seq [1, 2, 3, 10, 18] (.reg [⟨(some 13), .mv (.t 10), none⟩,
    ⟨(some 14), .mv (.t 1), none⟩,
    ⟨(some 15), .mv (.t 2), none⟩,
    ⟨(some 16), .mv (.t 3), none⟩,
    ⟨(some 17), .call 276 [(.t 13), (.t 14), (.t 15), (.t 16)], none⟩,
    ⟨(some 18), .not (.t 17), none⟩])
  (.cond (.t 18)
  (.seq [8, 9] (.reg [⟨(some 8), .mv (.c (.l [] true)), none⟩,
    ⟨(some 9), .mv (.c (.i .i64 2)), none⟩])
  .ret)
  .skip))
  (.seq [8, 9] (.reg [⟨(some 19), .mv (.t 10), none⟩,
    ⟨(some 20), .mv (.t 1), none⟩,
    ⟨(some 21), .mv (.t 2), none⟩,
    ⟨(some 22), .mv (.t 3), none⟩,
    ⟨(some 23), .call 277 [(.t 19), (.t 20), (.t 21), (.t 22)], none⟩,
    ⟨(some 8), .mv (.t 23), none⟩,
    ⟨(some 9), .mv (.c (.i .i64 0)), none⟩])
  .ret))))
theorem ree228 : Tryz.f228.body.bind (res Tryz.prog Tryz.f228.ntmps [] []) = some (erase ae228) := by kernel_rfl
def fs228 : FnS := .fn 24 ae228 [.t 8, .t 9]
theorem fsok228 : FnOk Tryz.prog 228 fs228 := fun _ _ _ hn h => ctr_of_resC Tryz.func228 (by kernel_rfl) ree228 (by kernel_rfl) hn h
abbrev ae229 : ACode := (.seq [0, 1, 4] (.reg [⟨(some 4), .alloc [(.l [] true), (.b false), (.l [] true), (.l [] true), (.b false), (.l [] true), (.b false)], none⟩])
  (.seq [0, 1, 4, 5] (.reg [⟨(some 5), .mv (.c (.l [] true)), none⟩])
  (.seq [0, 1, 4, 5] (.seq [0, 1, 4, 5, 12, 13, 14] (.reg [⟨(some 12), .mv (.t 1), none⟩,
    ⟨(some 13), .len (.t 12), none⟩,
    ⟨(some 14), .mv (.c (.i .i64 0)), none⟩])
  (.block 0 (.loop [0, 1, 4, 5, 12, 13, 14] (.seq [0, 1, 4, 5, 12, 13, 14, 15] (.reg [⟨(some 15), .bin .lss (.t 14) (.t 13), none⟩])
  (.seq [0, 1, 4, 5, 12, 13, 14] (.cond (.t 15)
  .skip
  (.exit 0))
  (.seq [0, 1, 4, 5, 12, 13, 14] (.block 1 (.seq [0, 1, 4, 5, 7, 12, 13, 14] (.reg [⟨(some 16), .iaddr 1 none (.t 12) (.t 14), none⟩,
    ⟨(some 17), .load none (.t 16), none⟩,
    ⟨(some 7), .mv (.t 17), none⟩])
  (.reg [⟨(some 18), .mv (.t 5), none⟩,
    ⟨(some 19), .mv (.t 7), none⟩,
    ⟨(some 20), .conv .u8 (.t 19), none⟩,
    ⟨(some 21), .bslice 1 1 [(.i .u8 0)] [(0, (.t 20))], none⟩,
    ⟨(some 22), .append 1 1 (.t 18) (.t 21), none⟩,
    ⟨(some 5), .mv (.t 22), none⟩])))
  (.reg [⟨(some 23), .bin .add (.t 14) (.c (.i .i64 1)), none⟩,
    ⟨(some 14), .mv (.t 23), none⟩])))))))
  (.seq [0, 1, 4, 5, 8, 9] (.dreg [0, 1, 4, 5, 8, 9] [⟨0, ⟨(some 25), .mv (.t 0), none⟩, [], []⟩,
    ⟨1, ⟨(some 26), .nilck (.t 25), none⟩, [], []⟩,
    ⟨2, ⟨(some 27), .faddr 16 (.t 26), none⟩, [], []⟩,
    ⟨3, ⟨(some 28), .load none (.t 27), none⟩, [], []⟩,
    ⟨4, ⟨(some 29), .mv (.t 5), none⟩, [], []⟩,
    ⟨5, ⟨(some 30), .str (.t 29), none⟩, [], []⟩,
    ⟨6, ⟨(some 31), .lookup .s (.a [(.l [] true), (.b false), (.l [] true), (.l [] true), (.b false), (.l [] true), (.b false)]) true (.t 28) (.t 30), none⟩, [], []⟩,
    ⟨7, ⟨(some 24), .mv (.t 31), none⟩, [], []⟩,
    ⟨8, ⟨(some 32), .extract 0 (.t 24), none⟩, [], []⟩,
    ⟨9, ⟨(some 33), .extract 1 (.t 24), none⟩, [], []⟩,
    ⟨10, ⟨(some 8), .alloc [(.l [] true), (.b false), (.l [] true), (.l [] true), (.b false), (.l [] true), (.b false)], none⟩, [], []⟩,
    ⟨11, ⟨none, .store 7 (.t 8) (.t 32), none⟩, [], []⟩,
    ⟨12, ⟨(some 9), .mv (.t 33), none⟩, [], []⟩])
  (.seq [4, 8] (.seq [0, 1, 4, 5, 8, 35] (.reg [⟨(some 34), .mv (.t 9), none⟩,
    ⟨(some 35), .not (.t 34), none⟩])
  (.cond (.t 35)
  (.seq [0, 4, 5, 8, 10, 11] (.reg [⟨(some 37), .mv (.t 0), none⟩,
    ⟨(some 38), .nilck (.t 37), none⟩,
    ⟨(some 39), .faddr 6 (.t 38), none⟩,
    ⟨(some 40), .load (some 6) (.t 39), none⟩,
    ⟨(some 41), .mv (.t 1), none⟩,
    ⟨(some 42), .call 92 [(.t 40), (.t 41)], none⟩,
    ⟨(some 36), .mv (.t 42), none⟩,
    ⟨(some 43), .extract 0 (.t 36), none⟩,
    ⟨(some 44), .extract 1 (.t 36), none⟩,
    ⟨(some 10), .alloc [(.l [] true), (.b false), (.l [] true), (.l [] true), (.b false), (.l [] true)], none⟩,
    ⟨none, .store 6 (.t 10) (.t 43), none⟩,
    ⟨(some 11), .mv (.t 44), none⟩])
  (.seq [0, 4, 5, 8] (.reg [⟨(some 45), .load (some 6) (.t 10), none⟩,
    ⟨(some 46), .mv (.t 11), none⟩,
    ⟨(some 47), .bin .neq (.t 46) (.c (.i .i64 0)), none⟩,
    ⟨(some 48), .build [(.l [] true), (.b false), (.l [] true), (.l [] true), (.b false), (.l [] true), (.b false)] [(0, 6, (.t 45)), (6, 1, (.t 47))], none⟩,
    ⟨none, .store 7 (.t 8) (.t 48), none⟩])
  (.dreg [4, 8] [⟨0, ⟨(some 49), .mv (.t 0), none⟩, [], []⟩,
    ⟨1, ⟨(some 50), .nilck (.t 49), none⟩, [], []⟩,
    ⟨2, ⟨(some 51), .faddr 16 (.t 50), none⟩, [], []⟩,
    ⟨3, ⟨(some 52), .load none (.t 51), none⟩, [], []⟩,
    ⟨4, ⟨(some 53), .mv (.t 5), none⟩, [], []⟩,
    ⟨5, ⟨(some 54), .str (.t 53), none⟩, [], []⟩,
    ⟨6, ⟨(some 55), .load (some 7) (.t 8), none⟩, [], []⟩,
    ⟨7, ⟨none, .mapset .s (.t 52) (.t 54) (.t 55), none⟩, [], []⟩])))
  .skip))
  (.seq [4] (.reg [⟨(some 56), .load (some 7) (.t 8), none⟩,
    ⟨none, .store 7 (.t 4) (.t 56), none⟩])
  .ret))))))
theorem ree229 : Tryz.f229.body.bind (res Tryz.prog Tryz.f229.ntmps [] []) = some (erase ae229) := by kernel_rfl
def fs229 : FnS := .fn 57 ae229 [.c 4 (some 7)]
theorem fsok229 : FnOk Tryz.prog 229 fs229 := fun _ _ _ hn h => ctr_of_resC Tryz.func229 (by kernel_rfl) ree229 (by kernel_rfl) hn h
abbrev ae230 : ACode := (.seq [0, 1, 2, 3, 4] (.reg [⟨(some 4), .alloc [(.i .i64 0), (.i .i64 0)], none⟩])
  (.seq [4] (.reg [⟨(some 5), .load none (.t 0), none⟩,
    ⟨(some 6), .load none (.t 1), none⟩,
    ⟨(some 7), .load (some 7) (.t 2), none⟩,
    ⟨(some 8), .load none (.t 3), none⟩,
    ⟨(some 9), .call 231 [(.t 5), (.t 6), (.t 7), (.t 8)], none⟩,
    ⟨none, .store 2 (.t 4) (.t 9), none⟩])
  .ret))
theorem ree230 : Tryz.f230.body.bind (res Tryz.prog Tryz.f230.ntmps [] []) = some (erase ae230) := by kernel_rfl
def fs230 : FnS := .fn 10 ae230 [.c 4 (some 2)]
theorem fsok230 : FnOk Tryz.prog 230 fs230 := fun _ _ _ hn h => ctr_of_resC Tryz.func230 (by kernel_rfl) ree230 (by kernel_rfl) hn h
abbrev ae232 : ACode := (.seq [5, 6, 7, 8, 9, 10] (.reg [⟨(some 5), .box (.t 0), none⟩,
    ⟨(some 6), .box (.t 1), none⟩,
    ⟨(some 7), .box (.t 2), none⟩,
    ⟨(some 8), .box (.t 3), none⟩,
    ⟨(some 9), .box (.t 4), none⟩,
    ⟨(some 10), .alloc [(.i .i64 0), (.i .i64 0)], none⟩])
  (.seq [10] (.dreg [10] [⟨0, ⟨(some 11), .load none (.t 5), none⟩, [], []⟩,
    ⟨1, ⟨(some 12), .load none (.t 6), none⟩, [], []⟩,
    ⟨2, ⟨(some 13), .iaddr 1 none (.t 12) (.c (.i .i64 0)), none⟩, [], []⟩,
    ⟨3, ⟨(some 14), .load none (.t 13), none⟩, [], []⟩,
    ⟨4, ⟨(some 15), .load none (.t 8), none⟩, [], []⟩,
    ⟨5, ⟨(some 16), .mkf (.func 279) [] [(.t 6), (.t 5), (.t 7), (.t 8), (.t 9)], none⟩, [], []⟩,
    ⟨6, ⟨(some 17), .call 278 [(.t 11), (.t 14), (.t 15), (.t 16)], none⟩, [], []⟩,
    ⟨7, ⟨none, .store 2 (.t 10) (.t 17), none⟩, [], []⟩])
  .ret))
theorem ree232 : Tryz.f232.body.bind (res Tryz.prog Tryz.f232.ntmps [] []) = some (erase ae232) := by kernel_rfl
def fs232 : FnS := .fn 18 ae232 [.c 10 (some 2)]
theorem fsok232 : FnOk Tryz.prog 232 fs232 := fun _ _ _ hn h => ctr_of_resC Tryz.func232 (by kernel_rfl) ree232 (by kernel_rfl) hn h
abbrev ae233 : ACode := (.seq [1] (.reg [⟨(some 1), .box (.t 0), none⟩,
    ⟨(some 2), .mv (.c .pn), none⟩])
  (.seq [1, 3] (.reg [⟨(some 13), .load (some 6) (.t 1), none⟩,
    ⟨(some 14), .mkmap, none⟩,
    ⟨(some 15), .mkmap, none⟩,
    ⟨(some 16), .build [(.l [] true), (.i .i64 0), (.l [] true), (.l [] true), (.l [] true), (.i .i64 0), .mn, .mn] [(0, 6, (.t 13)), (6, 1, (.t 14)), (7, 1, (.t 15))], none⟩,
    ⟨(some 17), .box (.t 16), none⟩,
    ⟨(some 3), .mv (.t 17), none⟩])
  (.seq [3] (.seq [1, 3, 20, 21] (.reg [⟨(some 18), .faddr 0 (.t 1), none⟩,
    ⟨(some 19), .load none (.t 18), none⟩,
    ⟨(some 20), .len (.t 19), none⟩,
    ⟨(some 21), .mv (.c (.i .i64 0)), none⟩])
  (.block 0 (.loop [1, 3, 20, 21] (.seq [1, 3, 20, 21, 22] (.reg [⟨(some 22), .bin .lss (.t 21) (.t 20), none⟩])
  (.seq [1, 3, 20, 21] (.cond (.t 22)
  .skip
  (.exit 0))
  (.seq [1, 3, 20, 21] (.block 1 (.seq [1, 3, 4, 20, 21] (.reg [⟨(some 23), .mv (.t 21), none⟩,
    ⟨(some 4), .mv (.t 23), none⟩])
  (.seq [1, 3, 5, 20, 21] (.reg [⟨(some 24), .mv (.t 4), none⟩,
    ⟨(some 25), .bin .add (.t 24) (.c (.i .i64 3)), none⟩,
    ⟨(some 5), .mv (.t 25), none⟩])
  (.seq [1, 3, 5, 20, 21] (.dreg [1, 3, 5, 20, 21] [⟨0, ⟨(some 27), .mv (.t 3), none⟩, [], []⟩,
    ⟨1, ⟨(some 28), .nilck (.t 27), none⟩, [], []⟩,
    ⟨2, ⟨(some 29), .faddr 6 (.t 28), none⟩, [], []⟩,
    ⟨3, ⟨(some 30), .load none (.t 29), none⟩, [], []⟩,
    ⟨4, ⟨(some 31), .mv (.t 5), none⟩, [], []⟩,
    ⟨5, ⟨(some 32), .load (some 6) (.t 1), none⟩, [], []⟩,
    ⟨6, ⟨(some 33), .mv (.t 5), none⟩, [], []⟩,
    ⟨7, ⟨(some 34), .call 226 [(.t 32), (.t 33)], none⟩, [3], [⟨(some 30), .load none (.t 29), none⟩]⟩,
    ⟨8, ⟨(some 26), .mv (.t 34), none⟩, [], []⟩,
    ⟨9, ⟨(some 35), .extract 0 (.t 26), none⟩, [], []⟩,
    ⟨10, ⟨(some 36), .extract 1 (.t 26), none⟩, [], []⟩,
    ⟨11, ⟨none, .mapset (.i .i64) (.t 30) (.t 31) (.t 35), none⟩, [], []⟩])
  (.seq [1, 3, 5, 6, 20, 21] (.reg [⟨(some 37), .mv (.t 5), none⟩,
    ⟨(some 38), .build [(.i .i64 0), (.l [] true)] [(0, 1, (.t 37))], none⟩,
    ⟨(some 6), .alloc [(.i .i64 0), (.l [] true)], none⟩,
    ⟨none, .store 2 (.t 6) (.t 38), none⟩])
  (.seq [1, 3, 5, 6, 7, 20, 21] (.reg [⟨(some 40), .load (some 6) (.t 1), none⟩,
    ⟨(some 41), .mv (.t 5), none⟩,
    ⟨(some 42), .call 280 [(.t 40), (.t 41)], none⟩,
    ⟨(some 39), .mv (.t 42), none⟩,
    ⟨(some 43), .extract 0 (.t 39), none⟩,
    ⟨(some 44), .extract 1 (.t 39), none⟩,
    ⟨(some 7), .mv (.t 43), none⟩,
    ⟨(some 8), .mv (.t 44), none⟩])
  (.seq [1, 3, 5, 6, 20, 21] (.seq [1, 3, 5, 6, 7, 20, 21, 50, 51, 52] (.reg [⟨(some 45), .mv (.t 3), none⟩,
    ⟨(some 46), .nilck (.t 45), none⟩,
    ⟨(some 47), .faddr 6 (.t 46), none⟩,
    ⟨(some 48), .load none (.t 47), none⟩,
    ⟨(some 49), .mv (.t 5), none⟩,
    ⟨(some 50), .lookup (.i .i64) (.l [] true) false (.t 48) (.t 49), none⟩,
    ⟨(some 51), .len (.t 50), none⟩,
    ⟨(some 52), .mv (.c (.i .i64 0)), none⟩])
  (.block 2 (.loop [1, 3, 5, 6, 7, 20, 21, 50, 51, 52] (.seq [1, 3, 5, 6, 7, 20, 21, 50, 51, 52, 53] (.reg [⟨(some 53), .bin .lss (.t 52) (.t 51), none⟩])
  (.seq [1, 3, 5, 6, 7, 20, 21, 50, 51, 52] (.cond (.t 53)
  .skip
  (.exit 2))
  (.seq [1, 3, 5, 6, 7, 20, 21, 50, 51, 52] (.block 3 (.seq [1, 3, 5, 6, 7, 10, 20, 21, 50, 51, 52] (.reg [⟨(some 54), .iaddr 1 none (.t 50) (.t 52), none⟩,
    ⟨(some 55), .load none (.t 54), none⟩,
    ⟨(some 10), .alloc [(.i .i64 0)], none⟩,
    ⟨none, .store 1 (.t 10) (.t 55), none⟩])
  (.seq [1, 3, 5, 6, 7, 10, 11, 20, 21, 50, 51, 52] (.reg [⟨(some 56), .build [(.i .i64 0), (.i .i64 0)] [(0, 1, (.c (.i .i64 2)))], none⟩,
    ⟨(some 11), .alloc [(.i .i64 0), (.i .i64 0)], none⟩,
    ⟨none, .store 2 (.t 11) (.t 56), none⟩])
  (.seq [1, 3, 5, 6, 7, 11, 20, 21, 50, 51, 52] (.seq [1, 3, 5, 6, 7, 11, 12, 20, 21, 50, 51, 52] (.reg [⟨(some 57), .mv (.t 7), none⟩,
    ⟨(some 58), .mkf (.func 282) [] [(.t 10)], none⟩,
    ⟨(some 59), .call 281 [(.t 57), (.t 58)], none⟩,
    ⟨(some 12), .mv (.t 59), none⟩])
  (.seq [1, 3, 5, 6, 7, 11, 12, 20, 21, 50, 51, 52, 61] (.reg [⟨(some 60), .mv (.t 12), none⟩,
    ⟨(some 61), .bin .geq (.t 60) (.c (.i .i64 0)), none⟩])
  (.cond (.t 61)
  (.reg [⟨(some 62), .mv (.t 7), none⟩,
    ⟨(some 63), .mv (.t 12), none⟩,
    ⟨(some 64), .iaddr 2 none (.t 62) (.t 63), none⟩,
    ⟨(some 65), .faddr 1 (.t 64), none⟩,
    ⟨(some 66), .load none (.t 65), none⟩,
    ⟨(some 67), .build [(.i .i64 0), (.i .i64 0)] [(0, 1, (.c (.i .i64 1))), (1, 1, (.t 66))], none⟩,
    ⟨none, .store 2 (.t 11) (.t 67), none⟩])
  .skip)))
  (.reg [⟨(some 68), .faddr 1 (.t 6), none⟩,
    ⟨(some 69), .load none (.t 68), none⟩,
    ⟨(some 70), .load (some 2) (.t 11), none⟩,
    ⟨(some 71), .bslice 2 1 [(.i .i64 0), (.i .i64 0)] [(0, (.t 70))], none⟩,
    ⟨(some 72), .append 2 16 (.t 69) (.t 71), none⟩,
    ⟨(some 73), .faddr 1 (.t 6), none⟩,
    ⟨none, .store 1 (.t 73) (.t 72), none⟩])))))
  (.reg [⟨(some 74), .bin .add (.t 52) (.c (.i .i64 1)), none⟩,
    ⟨(some 52), .mv (.t 74), none⟩])))))))
  (.dreg [1, 3, 20, 21] [⟨0, ⟨(some 75), .mv (.t 3), none⟩, [], []⟩,
    ⟨1, ⟨(some 76), .nilck (.t 75), none⟩, [], []⟩,
    ⟨2, ⟨(some 77), .faddr 7 (.t 76), none⟩, [], []⟩,
    ⟨3, ⟨(some 78), .load none (.t 77), none⟩, [], []⟩,
    ⟨4, ⟨(some 79), .mv (.t 5), none⟩, [], []⟩,
    ⟨5, ⟨(some 80), .load (some 2) (.t 6), none⟩, [], []⟩,
    ⟨6, ⟨none, .mapset (.i .i64) (.t 78) (.t 79) (.t 80), none⟩, [], []⟩]))))))))
  (.reg [⟨(some 81), .bin .add (.t 21) (.c (.i .i64 1)), none⟩,
    ⟨(some 21), .mv (.t 81), none⟩])))))))
  (.seq [2] (.reg [⟨(some 82), .mv (.t 3), none⟩,
    ⟨(some 2), .mv (.t 82), none⟩])
  .ret))))
theorem ree233 : Tryz.f233.body.bind (res Tryz.prog Tryz.f233.ntmps [] []) = some (erase ae233) := by kernel_rfl
def fs233 : FnS := .fn 83 ae233 [.t 2]
theorem fsok233 : FnOk Tryz.prog 233 fs233 := fun _ _ _ hn h => ctr_of_resC Tryz.func233 (by kernel_rfl) ree233 (by kernel_rfl) hn h
abbrev ae234 : ACode := (.seq [0, 1, 4] (.reg [⟨(some 4), .alloc [(.i .i64 0), (.l [] true)], none⟩])
  (.seq [4] (.reg [⟨(some 5), .mv (.t 1), none⟩,
    ⟨(some 6), .mv (.t 0), none⟩,
    ⟨(some 7), .nilck (.t 6), none⟩,
    ⟨(some 8), .faddr 7 (.t 7), none⟩,
    ⟨(some 9), .load none (.t 8), none⟩,
    ⟨(some 10), .mv (.t 1), none⟩,
    ⟨(some 11), .lookup (.i .i64) (.a [(.i .i64 0), (.l [] true)]) false (.t 9) (.t 10), none⟩,
    ⟨(some 12), .field none 1 (.t 11), none⟩,
    ⟨(some 13), .call 283 [(.t 12)], none⟩,
    ⟨(some 14), .build [(.i .i64 0), (.l [] true)] [(0, 1, (.t 5)), (1, 1, (.t 13))], none⟩,
    ⟨none, .store 2 (.t 4) (.t 14), none⟩])
  .ret))
theorem ree234 : Tryz.f234.body.bind (res Tryz.prog Tryz.f234.ntmps [] []) = some (erase ae234) := by kernel_rfl
def fs234 : FnS := .fn 15 ae234 [.c 4 (some 2)]
theorem fsok234 : FnOk Tryz.prog 234 fs234 := fun _ _ _ hn h => ctr_of_resC Tryz.func234 (by kernel_rfl) ree234 (by kernel_rfl) hn h
abbrev ae235 : ACode := (.seq [1, 2] (.reg [⟨(some 2), .box (.t 0), none⟩,
    ⟨(some 4), .mv (.c (.i .i64 0)), none⟩])
  (.seq [1, 2] (.seq [1, 2, 16] (.reg [⟨(some 9), .load (some 6) (.t 2), none⟩,
    ⟨(some 10), .call 94 [(.t 9)], none⟩,
    ⟨(some 11), .bin .neq (.t 10) (.c (.i .i64 0)), none⟩,
    ⟨(some 12), .mv (.t 11), none⟩,
    ⟨(some 13), .mv (.t 1), (some (12, false))⟩,
    ⟨(some 14), .len (.t 13), (some (12, false))⟩,
    ⟨(some 15), .bin .gtr (.t 14) (.c (.i .i64 40)), (some (12, false))⟩,
    ⟨(some 16), .pick (.t 12) (.c (.b true)) (.t 15), none⟩])
  (.cond (.t 16)
  (.seq [4] (.reg [⟨(some 4), .mv (.c (.i .i64 2)), none⟩])
  .ret)
  .skip))
  (.seq [] (.seq [1, 2, 17, 18, 19] (.reg [⟨(some 17), .mv (.t 1), none⟩,
    ⟨(some 18), .len (.t 17), none⟩,
    ⟨(some 19), .mv (.c (.i .i64 0)), none⟩])
  (.block 0 (.loop [1, 2, 17, 18, 19] (.seq [1, 2, 17, 18, 19, 20] (.reg [⟨(some 20), .bin .lss (.t 19) (.t 18), none⟩])
  (.seq [1, 2, 17, 18, 19] (.cond (.t 20)
  .skip
  (.exit 0))
  (.seq [1, 2, 17, 18, 19] (.block 1 (.seq [1, 2, 6, 17, 18, 19] (.reg [⟨(some 21), .iaddr 2 none (.t 17) (.t 19), none⟩,
    ⟨(some 22), .load (some 2) (.t 21), none⟩,
    ⟨(some 6), .alloc [(.i .i64 0), (.l [] true)], none⟩,
    ⟨none, .store 2 (.t 6) (.t 22), none⟩])
  (.seq [1, 2, 6, 7, 8, 17, 18, 19] (.reg [⟨(some 24), .load (some 6) (.t 2), none⟩,
    ⟨(some 25), .faddr 0 (.t 6), none⟩,
    ⟨(some 26), .load none (.t 25), none⟩,
    ⟨(some 27), .call 226 [(.t 24), (.t 26)], none⟩,
    ⟨(some 23), .mv (.t 27), none⟩,
    ⟨(some 28), .extract 0 (.t 23), none⟩,
    ⟨(some 29), .extract 1 (.t 23), none⟩,
    ⟨(some 7), .mv (.t 28), none⟩,
    ⟨(some 8), .mv (.t 29), none⟩])
  (.seq [1, 2, 17, 18, 19, 47] (.reg [⟨(some 30), .mv (.t 8), none⟩,
    ⟨(some 31), .bin .neq (.t 30) (.c (.i .i64 0)), none⟩,
    ⟨(some 32), .mv (.t 31), none⟩,
    ⟨(some 33), .mv (.t 7), (some (32, false))⟩,
    ⟨(some 34), .len (.t 33), (some (32, false))⟩,
    ⟨(some 35), .faddr 1 (.t 6), (some (32, false))⟩,
    ⟨(some 36), .load none (.t 35), (some (32, false))⟩,
    ⟨(some 37), .len (.t 36), (some (32, false))⟩,
    ⟨(some 38), .bin .neq (.t 34) (.t 37), (some (32, false))⟩,
    ⟨(some 39), .pick (.t 32) (.c (.b true)) (.t 38), none⟩,
    ⟨(some 40), .mv (.t 39), none⟩,
    ⟨(some 41), .faddr 1 (.t 6), (some (40, false))⟩,
    ⟨(some 42), .load none (.t 41), (some (40, false))⟩,
    ⟨(some 43), .mv (.t 1), (some (40, false))⟩,
    ⟨(some 44), .len (.t 43), (some (40, false))⟩,
    ⟨(some 45), .call 284 [(.t 42), (.t 44)], (some (40, false))⟩,
    ⟨(some 46), .not (.t 45), (some (40, false))⟩,
    ⟨(some 47), .pick (.t 40) (.c (.b true)) (.t 46), none⟩])
  (.cond (.t 47)
  (.seq [4] (.reg [⟨(some 4), .mv (.c (.i .i64 2)), none⟩])
  .ret)
  .skip)))))
  (.reg [⟨(some 48), .bin .add (.t 19) (.c (.i .i64 1)), none⟩,
    ⟨(some 19), .mv (.t 48), none⟩])))))))
  (.seq [4] (.reg [⟨(some 4), .mv (.c (.i .i64 0)), none⟩])
  .ret))))
theorem ree235 : Tryz.f235.body.bind (res Tryz.prog Tryz.f235.ntmps [] []) = some (erase ae235) := by kernel_rfl
def fs235 : FnS := .fn 49 ae235 [.t 4]
theorem fsok235 : FnOk Tryz.prog 235 fs235 := fun _ _ _ hn h => ctr_of_resC Tryz.func235 (by kernel_rfl) ree235 (by kernel_rfl) hn h
abbrev ae236 : ACode := (.seq [0] (.reg [⟨(some 2), .mv (.c (.l [] true)), none⟩])
  (.seq [2] (.reg [⟨(some 3), .mv (.t 0), none⟩,
    ⟨(some 4), .call 285 [(.t 3), (.c (.f (.func 286) [] []))], none⟩,
    ⟨(some 2), .mv (.t 4), none⟩])
  .ret))
theorem ree236 : Tryz.f236.body.bind (res Tryz.prog Tryz.f236.ntmps [] []) = some (erase ae236) := by kernel_rfl
def fs236 : FnS := .fn 5 ae236 [.t 2]
theorem fsok236 : FnOk Tryz.prog 236 fs236 := fun _ _ _ hn h => ctr_of_resC Tryz.func236 (by kernel_rfl) ree236 (by kernel_rfl) hn h
abbrev ae237 : ACode := (.seq [0, 2, 4, 6] (.reg [⟨(some 4), .box (.t 1), none⟩,
    ⟨(some 6), .alloc [(.i .i64 0), (.l [] true)], none⟩])
  (.seq [0, 2, 4, 6, 7] (.reg [⟨(some 11), .mv (.t 0), none⟩,
    ⟨(some 12), .mv (.t 2), none⟩,
    ⟨(some 13), .call 234 [(.t 11), (.t 12)], none⟩,
    ⟨(some 7), .alloc [(.i .i64 0), (.l [] true)], none⟩,
    ⟨none, .store 2 (.t 7) (.t 13), none⟩])
  (.seq [6, 7] (.seq [0, 4, 6, 7, 19, 20, 21] (.reg [⟨(some 14), .mv (.t 0), none⟩,
    ⟨(some 15), .nilck (.t 14), none⟩,
    ⟨(some 16), .faddr 6 (.t 15), none⟩,
    ⟨(some 17), .load none (.t 16), none⟩,
    ⟨(some 18), .mv (.t 2), none⟩,
    ⟨(some 19), .lookup (.i .i64) (.l [] true) false (.t 17) (.t 18), none⟩,
    ⟨(some 20), .len (.t 19), none⟩,
    ⟨(some 21), .mv (.c (.i .i64 0)), none⟩])
  (.block 0 (.loop [0, 4, 6, 7, 19, 20, 21] (.seq [0, 4, 6, 7, 19, 20, 21, 22] (.reg [⟨(some 22), .bin .lss (.t 21) (.t 20), none⟩])
  (.seq [0, 4, 6, 7, 19, 20, 21] (.cond (.t 22)
  .skip
  (.exit 0))
  (.seq [0, 4, 6, 7, 19, 20, 21] (.block 1 (.seq [0, 4, 6, 7, 8, 9, 19, 20, 21] (.reg [⟨(some 23), .mv (.t 21), none⟩,
    ⟨(some 24), .iaddr 1 none (.t 19) (.t 21), none⟩,
    ⟨(some 25), .load none (.t 24), none⟩,
    ⟨(some 8), .mv (.t 23), none⟩,
    ⟨(some 9), .mv (.t 25), none⟩])
  (.seq [0, 4, 6, 7, 8, 10, 19, 20, 21] (.dreg [0, 4, 6, 7, 8, 10, 19, 20, 21] [⟨0, ⟨(some 26), .mv (.t 0), none⟩, [], []⟩,
    ⟨1, ⟨(some 27), .nilck (.t 26), none⟩, [], []⟩,
    ⟨2, ⟨(some 28), .faddr 6 (.t 27), none⟩, [], []⟩,
    ⟨3, ⟨(some 29), .load none (.t 28), none⟩, [], []⟩,
    ⟨4, ⟨(some 30), .faddr 0 (.t 4), none⟩, [], []⟩,
    ⟨5, ⟨(some 31), .load none (.t 30), none⟩, [], []⟩,
    ⟨6, ⟨(some 32), .lookup (.i .i64) (.l [] true) false (.t 29) (.t 31), none⟩, [], []⟩,
    ⟨7, ⟨(some 33), .mv (.t 9), none⟩, [], []⟩,
    ⟨8, ⟨(some 34), .call 122 [(.t 32), (.t 33)], none⟩, [], []⟩,
    ⟨9, ⟨(some 10), .mv (.t 34), none⟩, [], []⟩])
  (.seq [0, 4, 6, 7, 8, 10, 19, 20, 21, 36] (.reg [⟨(some 35), .mv (.t 10), none⟩,
    ⟨(some 36), .bin .geq (.t 35) (.c (.i .i64 0)), none⟩])
  (.cond (.t 36)
  (.dreg [0, 4, 6, 7, 19, 20, 21] [⟨0, ⟨(some 37), .faddr 1 (.t 7), none⟩, [], []⟩,
    ⟨1, ⟨(some 38), .load none (.t 37), none⟩, [], []⟩,
    ⟨2, ⟨(some 39), .mv (.t 8), none⟩, [], []⟩,
    ⟨3, ⟨(some 40), .faddr 1 (.t 4), none⟩, [], []⟩,
    ⟨4, ⟨(some 41), .load none (.t 40), none⟩, [], []⟩,
    ⟨5, ⟨(some 42), .mv (.t 10), none⟩, [], []⟩,
    ⟨6, ⟨(some 43), .iaddr 2 none (.t 41) (.t 42), none⟩, [], []⟩,
    ⟨7, ⟨(some 44), .load (some 2) (.t 43), none⟩, [], []⟩,
    ⟨8, ⟨(some 45), .iaddr 2 none (.t 38) (.t 39), none⟩, [], []⟩,
    ⟨9, ⟨none, .store 2 (.t 45) (.t 44), none⟩, [], []⟩])
  .skip)))))
  (.reg [⟨(some 46), .bin .add (.t 21) (.c (.i .i64 1)), none⟩,
    ⟨(some 21), .mv (.t 46), none⟩])))))))
  (.seq [6] (.reg [⟨(some 47), .load (some 2) (.t 7), none⟩,
    ⟨none, .store 2 (.t 6) (.t 47), none⟩])
  .ret))))
theorem ree237 : Tryz.f237.body.bind (res Tryz.prog Tryz.f237.ntmps [] []) = some (erase ae237) := by kernel_rfl
def fs237 : FnS := .fn 48 ae237 [.c 6 (some 2)]
theorem fsok237 : FnOk Tryz.prog 237 fs237 := fun _ _ _ hn h => ctr_of_resC Tryz.func237 (by kernel_rfl) ree237 (by kernel_rfl) hn h
abbrev ae118 : ACode := (.seq [1, 2] (.reg [⟨(some 1), .box (.t 0), none⟩,
    ⟨(some 2), .alloc [(.l [] true), (.l [] true)], none⟩])
  (.seq [1, 2, 3] (.reg [⟨(some 6), .load (some 6) (.t 1), none⟩,
    ⟨(some 7), .call 173 [(.t 6)], none⟩,
    ⟨(some 8), .build [(.l [] true), (.l [] true)] [(0, 1, (.t 7))], none⟩,
    ⟨(some 3), .alloc [(.l [] true), (.l [] true)], none⟩,
    ⟨none, .store 2 (.t 3) (.t 8), none⟩])
  (.seq [2, 3] (.seq [2, 3, 10, 11, 12] (.reg [⟨(some 9), .faddr 0 (.t 1), none⟩,
    ⟨(some 10), .load none (.t 9), none⟩,
    ⟨(some 11), .len (.t 10), none⟩,
    ⟨(some 12), .mv (.c (.i .i64 0)), none⟩])
  (.block 0 (.loop [2, 3, 10, 11, 12] (.seq [2, 3, 10, 11, 12, 13] (.reg [⟨(some 13), .bin .lss (.t 12) (.t 11), none⟩])
  (.seq [2, 3, 10, 11, 12] (.cond (.t 13)
  .skip
  (.exit 0))
  (.seq [2, 3, 10, 11, 12] (.block 1 (.seq [2, 3, 4, 5, 10, 11, 12] (.reg [⟨(some 14), .mv (.t 12), none⟩,
    ⟨(some 15), .iaddr 3 none (.t 10) (.t 12), none⟩,
    ⟨(some 16), .load (some 3) (.t 15), none⟩,
    ⟨(some 5), .alloc [(.l [] true), (.l [] true), (.l [] true)], none⟩,
    ⟨(some 4), .mv (.t 14), none⟩,
    ⟨none, .store 3 (.t 5) (.t 16), none⟩])
  (.seq [2, 3, 4, 10, 11, 12, 19, 20] (.reg [⟨(some 17), .faddr 1 (.t 5), none⟩,
    ⟨(some 18), .load none (.t 17), none⟩,
    ⟨(some 19), .len (.t 18), none⟩,
    ⟨(some 20), .mv (.c (.i .i64 0)), none⟩])
  (.block 2 (.loop [2, 3, 4, 10, 11, 12, 19, 20] (.seq [2, 3, 4, 10, 11, 12, 19, 20, 21] (.reg [⟨(some 21), .bin .lss (.t 20) (.t 19), none⟩])
  (.seq [2, 3, 4, 10, 11, 12, 19, 20] (.cond (.t 21)
  .skip
  (.exit 2))
  (.seq [2, 3, 4, 10, 11, 12, 19, 20] (.block 3 (.reg [⟨(some 22), .faddr 1 (.t 3), none⟩,
    ⟨(some 23), .load none (.t 22), none⟩,
    ⟨(some 24), .mv (.t 4), none⟩,
    ⟨(some 25), .bin .add (.t 24) (.c (.i .i64 3)), none⟩,
    ⟨(some 26), .bslice 1 1 [(.i .i64 0)] [(0, (.t 25))], none⟩,
    ⟨(some 27), .append 1 8 (.t 23) (.t 26), none⟩,
    ⟨(some 28), .faddr 1 (.t 3), none⟩,
    ⟨none, .store 1 (.t 28) (.t 27), none⟩]))
  (.reg [⟨(some 29), .bin .add (.t 20) (.c (.i .i64 1)), none⟩,
    ⟨(some 20), .mv (.t 29), none⟩])))))))))
  (.reg [⟨(some 30), .bin .add (.t 12) (.c (.i .i64 1)), none⟩,
    ⟨(some 12), .mv (.t 30), none⟩])))))))
  (.seq [2] (.reg [⟨(some 31), .load (some 2) (.t 3), none⟩,
    ⟨none, .store 2 (.t 2) (.t 31), none⟩])
  .ret))))
theorem ree118 : Tryz.f118.body.bind (res Tryz.prog Tryz.f118.ntmps [] []) = some (erase ae118) := by kernel_rfl
def fs118 : FnS := .fnz 32 ae118 [.c 2 (some 2)]
theorem fsok118 : FnOk Tryz.prog 118 fs118 := fun _ _ _ hn h => ctr_of_resC Tryz.func118 (by kernel_rfl) ree118 (by kernel_rfl) hn h
abbrev ae238 : ACode := (.seq [0, 1] (.reg [⟨(some 3), .mv (.c (.b false)), none⟩])
  (.seq [3] (.reg [⟨(some 4), .mv (.t 0), none⟩,
    ⟨(some 5), .bin .lss (.t 4) (.c (.i .i64 0)), none⟩,
    ⟨(some 6), .mv (.t 5), none⟩,
    ⟨(some 7), .mv (.t 0), (some (6, false))⟩,
    ⟨(some 8), .load none (.t 1), (some (6, false))⟩,
    ⟨(some 9), .nilck (.t 8), (some (6, false))⟩,
    ⟨(some 10), .faddr 0 (.t 9), (some (6, false))⟩,
    ⟨(some 11), .faddr 3 (.t 10), (some (6, false))⟩,
    ⟨(some 12), .load none (.t 11), (some (6, false))⟩,
    ⟨(some 13), .len (.t 12), (some (6, false))⟩,
    ⟨(some 14), .bin .geq (.t 7) (.t 13), (some (6, false))⟩,
    ⟨(some 15), .pick (.t 6) (.c (.b true)) (.t 14), none⟩,
    ⟨(some 3), .mv (.t 15), none⟩])
  .ret))
theorem ree238 : Tryz.f238.body.bind (res Tryz.prog Tryz.f238.ntmps [] []) = some (erase ae238) := by kernel_rfl
def fs238 : FnS := .fn 16 ae238 [.t 3]
theorem fsok238 : FnOk Tryz.prog 238 fs238 := fun _ _ _ hn h => ctr_of_resC Tryz.func238 (by kernel_rfl) ree238 (by kernel_rfl) hn h
end Go.Gl
