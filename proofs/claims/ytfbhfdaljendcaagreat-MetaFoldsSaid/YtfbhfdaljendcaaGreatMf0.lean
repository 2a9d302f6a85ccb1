/-
  The code of the functions of the statement MetaFolds, resolved (printed by wip/gen/Gen.lean).
-/
import Derived.Test.YtfbhfdaljendcaaGreatGl14w
import Derived.Test.YtfbhfdaljendcaaGreatProg
import Derived.KernelRfl
set_option linter.all false
set_option linter.unusedVariables false
set_option linter.unusedSimpArgs false
namespace Go.Gl
open Go.Proofs
/-- consortlaw20.counts; parameters 1, free 0, calls [] -/
abbrev ac22 : ACode := (.seq [1] (.reg [⟨(some 1), .boxf (.t 0), none⟩,
    ⟨(some 2), .mv (.c (.i .i64 0)), none⟩])
  (.seq [] (.seq [1, 5] (.reg [⟨(some 3), .faddr 0 (.t 1), none⟩,
    ⟨(some 4), .load none (.t 3), none⟩,
    ⟨(some 5), .bin .eql (.t 4) (.c (.i .i64 1)), none⟩])
  (.cond (.t 5)
  (.seq [2] (.reg [⟨(some 6), .faddr 1 (.t 1), none⟩,
    ⟨(some 7), .load none (.t 6), none⟩,
    ⟨(some 2), .mv (.t 7), none⟩])
  .ret)
  .skip))
  (.seq [2] (.reg [⟨(some 2), .mv (.c (.i .i64 0)), none⟩])
  .ret)))
theorem res22 : Tryz.f22.body.bind (res Tryz.prog Tryz.f22.ntmps [] [1]) = some (erase ac22) := by kernel_rfl
theorem ctr22 {args : List V} (hn : args.length ≤ 8) {σ : Store} {Q : R → Store → Prop} (h : W Tryz.prog ac22 (RetP [2] Q) (argEnv 0 args) σ) : Ctr Tryz.prog 22 args σ Q :=
  ctr_of_res Tryz.func22 (by kernel_rfl) res22 rfl hn (T_W h)

/-- consortlaw20.MetaFolds$1$1; parameters 1, free 1, calls [22] -/
abbrev ac25 : ACode := (.seq [1, 2] (.reg [⟨(some 2), .boxf (.t 0), none⟩,
    ⟨(some 3), .mv (.c (.b false)), none⟩])
  (.seq [3] (.dreg [3] [⟨0, ⟨(some 4), .load (some 2) (.t 2), none⟩, [], []⟩,
    ⟨2, ⟨(some 6), .load none (.t 1), none⟩, [], []⟩,
    ⟨1, ⟨(some 5), .call 22 [(.t 4)], none⟩, [2], [⟨(some 6), .load none (.t 1), none⟩]⟩,
    ⟨3, ⟨(some 7), .bin .eql (.t 5) (.t 6), none⟩, [], []⟩,
    ⟨4, ⟨(some 3), .mv (.t 7), none⟩, [], []⟩])
  .ret))
theorem res25 : Tryz.f25.body.bind (res Tryz.prog Tryz.f25.ntmps [] [2]) = some (erase ac25) := by kernel_rfl
theorem ctr25 {args : List V} (hn : args.length ≤ 8) {σ : Store} {Q : R → Store → Prop} (h : W Tryz.prog ac25 (RetP [3] Q) (argEnv 0 args) σ) : Ctr Tryz.prog 25 args σ Q :=
  ctr_of_res Tryz.func25 (by kernel_rfl) res25 rfl hn (T_W h)

/-- consortlaw20.MetaFolds$1; parameters 1, free 1, calls [24, 25] -/
abbrev ac23 : ACode := (.seq [1, 2] (.reg [⟨(some 2), .boxf (.t 0), none⟩,
    ⟨(some 3), .mv (.c (.b false)), none⟩])
  (.seq [3] (.reg [⟨(some 4), .load none (.t 1), none⟩,
    ⟨(some 5), .mkf (.func 25) [] [(.t 2)], none⟩,
    ⟨(some 6), .call 24 [(.t 4), (.t 5)], none⟩,
    ⟨(some 3), .mv (.t 6), none⟩])
  .ret))
theorem res23 : Tryz.f23.body.bind (res Tryz.prog Tryz.f23.ntmps [] [2]) = some (erase ac23) := by kernel_rfl
theorem ctr23 {args : List V} (hn : args.length ≤ 7) {σ : Store} {Q : R → Store → Prop} (h : W Tryz.prog ac23 (RetP [3] Q) (argEnv 0 args) σ) : Ctr Tryz.prog 23 args σ Q :=
  ctr_of_res Tryz.func23 (by kernel_rfl) res23 rfl hn (T_W h)

/-- consortlaw20.MetaFolds$2; parameters 1, free 1, calls [22] -/
abbrev ac28 : ACode := (.seq [1, 2] (.reg [⟨(some 2), .boxf (.t 0), none⟩,
    ⟨(some 3), .mv (.c (.b false)), none⟩])
  (.seq [3] (.dreg [3] [⟨0, ⟨(some 4), .load (some 2) (.t 2), none⟩, [], []⟩,
    ⟨3, ⟨(some 7), .load none (.t 1), none⟩, [], []⟩,
    ⟨4, ⟨(some 8), .bin .eql (.t 7) (.c (.i .i64 5)), none⟩, [], []⟩,
    ⟨1, ⟨(some 5), .call 22 [(.t 4)], none⟩, [3], [⟨(some 7), .load none (.t 1), none⟩]⟩,
    ⟨2, ⟨(some 6), .bin .eql (.t 5) (.c (.i .i64 0)), none⟩, [], []⟩,
    ⟨5, ⟨(some 9), .eqb false (.t 6) (.t 8), none⟩, [], []⟩,
    ⟨6, ⟨(some 3), .mv (.t 9), none⟩, [], []⟩])
  .ret))
theorem res28 : Tryz.f28.body.bind (res Tryz.prog Tryz.f28.ntmps [] [2]) = some (erase ac28) := by kernel_rfl
theorem ctr28 {args : List V} (hn : args.length ≤ 10) {σ : Store} {Q : R → Store → Prop} (h : W Tryz.prog ac28 (RetP [3] Q) (argEnv 0 args) σ) : Ctr Tryz.prog 28 args σ Q :=
  ctr_of_res Tryz.func28 (by kernel_rfl) res28 rfl hn (T_W h)

/-- consortref04.Val; parameters 2, free 0, calls [] -/
abbrev ac75 : ACode := (.seq [1, 2] (.reg [⟨(some 2), .boxf (.t 0), none⟩,
    ⟨(some 4), .mv (.c (.b false)), none⟩])
  (.seq [] (.seq [1, 2, 6] (.reg [⟨(some 5), .faddr 0 (.t 2), none⟩,
    ⟨(some 6), .load none (.t 5), none⟩])
  (.block 0 (.seq [1, 2, 6, 7] (.reg [⟨(some 8), .bin .eql (.t 6) (.c (.i .i64 1)), none⟩,
    ⟨(some 7), .mv (.t 8), none⟩])
  (.cond (.t 7)
  (.seq [4] (.reg [⟨(some 9), .faddr 1 (.t 2), none⟩,
    ⟨(some 10), .load none (.t 9), none⟩,
    ⟨(some 11), .bin .geq (.t 10) (.c (.i .i64 (-1000000000))), none⟩,
    ⟨(some 12), .mv (.t 11), none⟩,
    ⟨(some 13), .faddr 1 (.t 2), (some (12, true))⟩,
    ⟨(some 14), .load none (.t 13), (some (12, true))⟩,
    ⟨(some 15), .bin .leq (.t 14) (.c (.i .i64 1000000000)), (some (12, true))⟩,
    ⟨(some 16), .pick (.t 12) (.t 15) (.c (.b false)), none⟩,
    ⟨(some 4), .mv (.t 16), none⟩])
  .ret)
  (.seq [1, 2, 6, 17] (.reg [⟨(some 18), .bin .eql (.t 6) (.c (.i .i64 2)), none⟩,
    ⟨(some 17), .mv (.t 18), none⟩])
  (.cond (.t 17)
  (.seq [4] (.reg [⟨(some 19), .faddr 1 (.t 2), none⟩,
    ⟨(some 20), .load none (.t 19), none⟩,
    ⟨(some 21), .bin .eql (.t 20) (.c (.i .i64 0)), none⟩,
    ⟨(some 4), .mv (.t 21), none⟩])
  .ret)
  (.seq [1, 2, 22] (.reg [⟨(some 23), .bin .eql (.t 6) (.c (.i .i64 3)), none⟩,
    ⟨(some 22), .mv (.t 23), none⟩])
  (.cond (.t 22)
  (.seq [4] (.reg [⟨(some 24), .faddr 1 (.t 2), none⟩,
    ⟨(some 25), .load none (.t 24), none⟩,
    ⟨(some 26), .bin .geq (.t 25) (.c (.i .i64 0)), none⟩,
    ⟨(some 27), .mv (.t 26), none⟩,
    ⟨(some 28), .faddr 1 (.t 2), (some (27, true))⟩,
    ⟨(some 29), .load none (.t 28), (some (27, true))⟩,
    ⟨(some 30), .mv (.t 1), (some (27, true))⟩,
    ⟨(some 31), .bin .lss (.t 29) (.t 30), (some (27, true))⟩,
    ⟨(some 32), .pick (.t 27) (.t 31) (.c (.b false)), none⟩,
    ⟨(some 4), .mv (.t 32), none⟩])
  .ret)
  .skip))))))))
  (.seq [4] (.reg [⟨(some 4), .mv (.c (.b false)), none⟩])
  .ret)))
theorem res75 : Tryz.f75.body.bind (res Tryz.prog Tryz.f75.ntmps [] [2]) = some (erase ac75) := by kernel_rfl
theorem ctr75 {args : List V} (hn : args.length ≤ 33) {σ : Store} {Q : R → Store → Prop} (h : W Tryz.prog ac75 (RetP [4] Q) (argEnv 0 args) σ) : Ctr Tryz.prog 75 args σ Q :=
  ctr_of_res Tryz.func75 (by kernel_rfl) res75 rfl hn (T_W h)

/-- consortref04.Vals; parameters 2, free 0, calls [75] -/
abbrev ac19 : ACode := (.seq [0, 1] (.reg [⟨(some 4), .mv (.c (.b false)), none⟩])
  (.seq [] (.seq [1, 7, 8, 9] (.reg [⟨(some 7), .mv (.t 0), none⟩,
    ⟨(some 8), .len (.t 7), none⟩,
    ⟨(some 9), .mv (.c (.i .i64 0)), none⟩])
  (.block 0 (.loop [1, 7, 8, 9] (.seq [1, 7, 8, 9, 10] (.reg [⟨(some 10), .bin .lss (.t 9) (.t 8), none⟩])
  (.seq [1, 7, 8, 9] (.cond (.t 10)
  .skip
  (.exit 0))
  (.seq [1, 7, 8, 9] (.block 1 (.seq [1, 6, 7, 8, 9] (.reg [⟨(some 11), .iaddr 2 none (.t 7) (.t 9), none⟩,
    ⟨(some 12), .load (some 2) (.t 11), none⟩,
    ⟨(some 6), .alloc [(.i .i64 0), (.i .i64 0)], none⟩,
    ⟨none, .store 2 (.t 6) (.t 12), none⟩])
  (.seq [1, 7, 8, 9, 16] (.reg [⟨(some 13), .load (some 2) (.t 6), none⟩,
    ⟨(some 14), .mv (.t 1), none⟩,
    ⟨(some 15), .call 75 [(.t 13), (.t 14)], none⟩,
    ⟨(some 16), .not (.t 15), none⟩])
  (.cond (.t 16)
  (.seq [4] (.reg [⟨(some 4), .mv (.c (.b false)), none⟩])
  .ret)
  .skip))))
  (.reg [⟨(some 17), .bin .add (.t 9) (.c (.i .i64 1)), none⟩,
    ⟨(some 9), .mv (.t 17), none⟩])))))))
  (.seq [4] (.reg [⟨(some 4), .mv (.c (.b true)), none⟩])
  .ret)))
theorem res19 : Tryz.f19.body.bind (res Tryz.prog Tryz.f19.ntmps [] []) = some (erase ac19) := by kernel_rfl
theorem ctr19 {args : List V} (hn : args.length ≤ 18) {σ : Store} {Q : R → Store → Prop} (h : W Tryz.prog ac19 (RetP [4] Q) (argEnv 0 args) σ) : Ctr Tryz.prog 19 args σ Q :=
  ctr_of_res Tryz.func19 (by kernel_rfl) res19 rfl hn (T_W h)

/-- consort meta_isFold; parameters 1, free 0, calls [] -/
abbrev ac76 : ACode := (.seq [0] (.reg [⟨(some 2), .mv (.c (.b false)), none⟩])
  (.seq [2] (.reg [⟨(some 3), .mv (.t 0), none⟩,
    ⟨(some 4), .bin .geq (.t 3) (.c (.i .i64 1)), none⟩,
    ⟨(some 5), .mv (.t 4), none⟩,
    ⟨(some 6), .mv (.t 0), (some (5, true))⟩,
    ⟨(some 7), .bin .leq (.t 6) (.c (.i .i64 6)), (some (5, true))⟩,
    ⟨(some 8), .pick (.t 5) (.t 7) (.c (.b false)), none⟩,
    ⟨(some 2), .mv (.t 8), none⟩])
  .ret))
theorem res76 : Tryz.f76.body.bind (res Tryz.prog Tryz.f76.ntmps [] []) = some (erase ac76) := by kernel_rfl
theorem ctr76 {args : List V} (hn : args.length ≤ 9) {σ : Store} {Q : R → Store → Prop} (h : W Tryz.prog ac76 (RetP [2] Q) (argEnv 0 args) σ) : Ctr Tryz.prog 76 args σ Q :=
  ctr_of_res Tryz.func76 (by kernel_rfl) res76 rfl hn (T_W h)

/-- consort meta_count; parameters 1, free 0, calls [] -/
abbrev ac124 : ACode := (.seq [1] (.reg [⟨(some 1), .boxf (.t 0), none⟩,
    ⟨(some 2), .mv (.c (.i .i64 0)), none⟩])
  (.seq [] (.seq [1, 5] (.reg [⟨(some 3), .faddr 0 (.t 1), none⟩,
    ⟨(some 4), .load none (.t 3), none⟩,
    ⟨(some 5), .bin .eql (.t 4) (.c (.i .i64 1)), none⟩])
  (.cond (.t 5)
  (.seq [2] (.reg [⟨(some 6), .faddr 1 (.t 1), none⟩,
    ⟨(some 7), .load none (.t 6), none⟩,
    ⟨(some 2), .mv (.t 7), none⟩])
  .ret)
  .skip))
  (.seq [2] (.reg [⟨(some 2), .mv (.c (.i .i64 0)), none⟩])
  .ret)))
theorem res124 : Tryz.f124.body.bind (res Tryz.prog Tryz.f124.ntmps [] [1]) = some (erase ac124) := by kernel_rfl
theorem ctr124 {args : List V} (hn : args.length ≤ 8) {σ : Store} {Q : R → Store → Prop} (h : W Tryz.prog ac124 (RetP [2] Q) (argEnv 0 args) σ) : Ctr Tryz.prog 124 args σ Q :=
  ctr_of_res Tryz.func124 (by kernel_rfl) res124 rfl hn (T_W h)

/-- consort meta_enough; parameters 2, free 0, calls [124] -/
abbrev ac81 : ACode := (.seq [0, 3] (.reg [⟨(some 3), .boxf (.t 1), none⟩,
    ⟨(some 4), .mv (.c (.b false)), none⟩])
  (.seq [4] (.reg [⟨(some 5), .mv (.t 0), none⟩,
    ⟨(some 6), .bin .eql (.t 5) (.c (.i .i64 1)), none⟩,
    ⟨(some 7), .mv (.t 6), none⟩,
    ⟨(some 8), .mv (.t 0), (some (7, false))⟩,
    ⟨(some 9), .bin .eql (.t 8) (.c (.i .i64 5)), (some (7, false))⟩,
    ⟨(some 10), .mv (.t 9), (some (7, false))⟩,
    ⟨(some 11), .load (some 2) (.t 3), (some (10, true))⟩,
    ⟨(some 12), .call 124 [(.t 11)], (some (10, true))⟩,
    ⟨(some 13), .bin .eql (.t 12) (.c (.i .i64 0)), (some (10, true))⟩,
    ⟨(some 14), .pick (.t 10) (.t 13) (.c (.b false)), (some (7, false))⟩,
    ⟨(some 15), .pick (.t 7) (.c (.b true)) (.t 14), none⟩,
    ⟨(some 16), .mv (.t 15), none⟩,
    ⟨(some 17), .mv (.t 0), (some (16, false))⟩,
    ⟨(some 18), .bin .eql (.t 17) (.c (.i .i64 6)), (some (16, false))⟩,
    ⟨(some 19), .mv (.t 18), (some (16, false))⟩,
    ⟨(some 20), .load (some 2) (.t 3), (some (19, true))⟩,
    ⟨(some 21), .call 124 [(.t 20)], (some (19, true))⟩,
    ⟨(some 22), .bin .neq (.t 21) (.c (.i .i64 0)), (some (19, true))⟩,
    ⟨(some 23), .pick (.t 19) (.t 22) (.c (.b false)), (some (16, false))⟩,
    ⟨(some 24), .pick (.t 16) (.c (.b true)) (.t 23), none⟩,
    ⟨(some 4), .mv (.t 24), none⟩])
  .ret))
theorem res81 : Tryz.f81.body.bind (res Tryz.prog Tryz.f81.ntmps [] [3]) = some (erase ac81) := by kernel_rfl
theorem ctr81 {args : List V} (hn : args.length ≤ 25) {σ : Store} {Q : R → Store → Prop} (h : W Tryz.prog ac81 (RetP [4] Q) (argEnv 0 args) σ) : Ctr Tryz.prog 81 args σ Q :=
  ctr_of_res Tryz.func81 (by kernel_rfl) res81 rfl hn (T_W h)

/-- consort meta_num; parameters 1, free 0, calls [] -/
abbrev ac126 : ACode := (.seq [0, 2] (.reg [⟨(some 2), .alloc [(.i .i64 0), (.i .i64 0)], none⟩])
  (.seq [2] (.reg [⟨(some 3), .mv (.t 0), none⟩,
    ⟨(some 4), .mmax (.t 3) (.c (.i .i64 (-1000000000))), none⟩,
    ⟨(some 5), .mmin (.t 4) (.c (.i .i64 1000000000)), none⟩,
    ⟨(some 6), .build [(.i .i64 0), (.i .i64 0)] [(0, 1, (.c (.i .i64 1))), (1, 1, (.t 5))], none⟩,
    ⟨none, .store 2 (.t 2) (.t 6), none⟩])
  .ret))
theorem res126 : Tryz.f126.body.bind (res Tryz.prog Tryz.f126.ntmps [] []) = some (erase ac126) := by kernel_rfl
theorem ctr126 {args : List V} (hn : args.length ≤ 7) {σ : Store} {Q : R → Store → Prop} (h : W Tryz.prog ac126 (RetC [.c 2 (some 2)] Q) (argEnv 0 args) σ) : Ctr Tryz.prog 126 args σ Q :=
  ctr_of_resC Tryz.func126 (by kernel_rfl) res126 (by kernel_rfl) hn (T_W h)

/-- slices.IndexFunc[[]consort/api.MeanVal,consort/api.MeanVal]; parameters 2, free 0, calls [] -/
abbrev ac79 : ACode := (.seq [0, 1] (.reg [⟨(some 4), .mv (.c (.i .i64 0)), none⟩])
  (.seq [] (.seq [0, 1, 7, 8] (.reg [⟨(some 6), .mv (.t 0), none⟩,
    ⟨(some 7), .len (.t 6), none⟩,
    ⟨(some 8), .mv (.c (.i .i64 0)), none⟩])
  (.block 0 (.loop [0, 1, 7, 8] (.seq [0, 1, 7, 8, 9] (.reg [⟨(some 9), .bin .lss (.t 8) (.t 7), none⟩])
  (.seq [0, 1, 7, 8] (.cond (.t 9)
  .skip
  (.exit 0))
  (.seq [0, 1, 7, 8] (.block 1 (.seq [0, 1, 5, 7, 8] (.reg [⟨(some 10), .mv (.t 8), none⟩,
    ⟨(some 5), .mv (.t 10), none⟩])
  (.seq [0, 1, 5, 7, 8, 16] (.reg [⟨(some 11), .mv (.t 1), none⟩,
    ⟨(some 12), .mv (.t 0), none⟩,
    ⟨(some 13), .mv (.t 5), none⟩,
    ⟨(some 14), .iaddr 2 none (.t 12) (.t 13), none⟩,
    ⟨(some 15), .load (some 2) (.t 14), none⟩,
    ⟨(some 16), .callv (.t 11) [(.t 15)], none⟩])
  (.cond (.t 16)
  (.seq [4] (.reg [⟨(some 17), .mv (.t 5), none⟩,
    ⟨(some 4), .mv (.t 17), none⟩])
  .ret)
  .skip))))
  (.reg [⟨(some 18), .bin .add (.t 8) (.c (.i .i64 1)), none⟩,
    ⟨(some 8), .mv (.t 18), none⟩])))))))
  (.seq [4] (.reg [⟨(some 4), .mv (.c (.i .i64 (-1))), none⟩])
  .ret)))
theorem res79 : Tryz.f79.body.bind (res Tryz.prog Tryz.f79.ntmps [] []) = some (erase ac79) := by kernel_rfl
theorem ctr79 {args : List V} (hn : args.length ≤ 19) {σ : Store} {Q : R → Store → Prop} (h : W Tryz.prog ac79 (RetP [4] Q) (argEnv 0 args) σ) : Ctr Tryz.prog 79 args σ Q :=
  ctr_of_res Tryz.func79 (by kernel_rfl) res79 rfl hn (T_W h)

/-- slices.ContainsFunc[[]consort/api.MeanVal,consort/api.MeanVal]; parameters 2, free 0, calls [79] -/
abbrev ac24 : ACode := (.seq [0, 1] (.reg [⟨(some 4), .mv (.c (.b false)), none⟩])
  (.seq [4] (.reg [⟨(some 5), .mv (.t 0), none⟩,
    ⟨(some 6), .mv (.t 1), none⟩,
    ⟨(some 7), .call 79 [(.t 5), (.t 6)], none⟩,
    ⟨(some 8), .bin .geq (.t 7) (.c (.i .i64 0)), none⟩,
    ⟨(some 4), .mv (.t 8), none⟩])
  .ret))
theorem res24 : Tryz.f24.body.bind (res Tryz.prog Tryz.f24.ntmps [] []) = some (erase ac24) := by kernel_rfl
theorem ctr24 {args : List V} (hn : args.length ≤ 9) {σ : Store} {Q : R → Store → Prop} (h : W Tryz.prog ac24 (RetP [4] Q) (argEnv 0 args) σ) : Ctr Tryz.prog 24 args σ Q :=
  ctr_of_res Tryz.func24 (by kernel_rfl) res24 rfl hn (T_W h)

/-- consortref07.number; parameters 1, free 0, calls [] -/
abbrev ac83 : ACode := (.seq [1] (.reg [⟨(some 1), .boxf (.t 0), none⟩,
    ⟨(some 2), .mv (.c (.i .i64 0)), none⟩])
  (.seq [] (.seq [1, 5] (.reg [⟨(some 3), .faddr 0 (.t 1), none⟩,
    ⟨(some 4), .load none (.t 3), none⟩,
    ⟨(some 5), .bin .eql (.t 4) (.c (.i .i64 1)), none⟩])
  (.cond (.t 5)
  (.seq [2] (.reg [⟨(some 6), .faddr 1 (.t 1), none⟩,
    ⟨(some 7), .load none (.t 6), none⟩,
    ⟨(some 2), .mv (.t 7), none⟩])
  .ret)
  .skip))
  (.seq [2] (.reg [⟨(some 2), .mv (.c (.i .i64 0)), none⟩])
  .ret)))
theorem res83 : Tryz.f83.body.bind (res Tryz.prog Tryz.f83.ntmps [] [1]) = some (erase ac83) := by kernel_rfl
theorem ctr83 {args : List V} (hn : args.length ≤ 8) {σ : Store} {Q : R → Store → Prop} (h : W Tryz.prog ac83 (RetP [2] Q) (argEnv 0 args) σ) : Ctr Tryz.prog 83 args σ Q :=
  ctr_of_res Tryz.func83 (by kernel_rfl) res83 rfl hn (T_W h)

/-- consortref07.Clamp; parameters 1, free 0, calls [] -/
abbrev ac84 : ACode := (.seq [0] (.reg [⟨(some 2), .mv (.c (.i .i64 0)), none⟩])
  (.seq [2] (.reg [⟨(some 3), .mv (.t 0), none⟩,
    ⟨(some 4), .mmax (.t 3) (.c (.i .i64 (-1000000000))), none⟩,
    ⟨(some 5), .mmin (.t 4) (.c (.i .i64 1000000000)), none⟩,
    ⟨(some 2), .mv (.t 5), none⟩])
  .ret))
theorem res84 : Tryz.f84.body.bind (res Tryz.prog Tryz.f84.ntmps [] []) = some (erase ac84) := by kernel_rfl
theorem ctr84 {args : List V} (hn : args.length ≤ 6) {σ : Store} {Q : R → Store → Prop} (h : W Tryz.prog ac84 (RetP [2] Q) (argEnv 0 args) σ) : Ctr Tryz.prog 84 args σ Q :=
  ctr_of_res Tryz.func84 (by kernel_rfl) res84 rfl hn (T_W h)

/-- consortref07.truth; parameters 1, free 0, calls [] -/
abbrev ac85 : ACode := (.seq [0] (.reg [⟨(some 2), .mv (.c (.i .i64 0)), none⟩])
  (.seq [] (.seq [3] (.reg [⟨(some 3), .mv (.t 0), none⟩])
  (.cond (.t 3)
  (.seq [2] (.reg [⟨(some 2), .mv (.c (.i .i64 1)), none⟩])
  .ret)
  .skip))
  (.seq [2] (.reg [⟨(some 2), .mv (.c (.i .i64 0)), none⟩])
  .ret)))
theorem res85 : Tryz.f85.body.bind (res Tryz.prog Tryz.f85.ntmps [] []) = some (erase ac85) := by kernel_rfl
theorem ctr85 {args : List V} (hn : args.length ≤ 4) {σ : Store} {Q : R → Store → Prop} (h : W Tryz.prog ac85 (RetP [2] Q) (argEnv 0 args) σ) : Ctr Tryz.prog 85 args σ Q :=
  ctr_of_res Tryz.func85 (by kernel_rfl) res85 rfl hn (T_W h)

/-- consortref07.Int; parameters 1, free 0, calls [] -/
abbrev ac26 : ACode := (.seq [0, 2] (.reg [⟨(some 2), .alloc [(.i .i64 0), (.i .i64 0)], none⟩])
  (.seq [2] (.reg [⟨(some 3), .mv (.t 0), none⟩,
    ⟨(some 4), .build [(.i .i64 0), (.i .i64 0)] [(0, 1, (.c (.i .i64 1))), (1, 1, (.t 3))], none⟩,
    ⟨none, .store 2 (.t 2) (.t 4), none⟩])
  .ret))
theorem res26 : Tryz.f26.body.bind (res Tryz.prog Tryz.f26.ntmps [] []) = some (erase ac26) := by kernel_rfl
theorem ctr26 {args : List V} (hn : args.length ≤ 5) {σ : Store} {Q : R → Store → Prop} (h : W Tryz.prog ac26 (RetC [.c 2 (some 2)] Q) (argEnv 0 args) σ) : Ctr Tryz.prog 26 args σ Q :=
  ctr_of_resC Tryz.func26 (by kernel_rfl) res26 (by kernel_rfl) hn (T_W h)

/-- consortref07.Compute; parameters 3, free 0, calls [26, 83, 84, 85] -/
abbrev ac27 : ACode := (.seq [0, 4, 5, 6] (.reg [⟨(some 4), .boxf (.t 1), none⟩,
    ⟨(some 5), .boxf (.t 2), none⟩,
    ⟨(some 6), .alloc [(.i .i64 0), (.i .i64 0)], none⟩])
  (.seq [0, 4, 5, 6, 7, 8] (.dreg [0, 4, 5, 6, 7, 8] [⟨0, ⟨(some 9), .load (some 2) (.t 4), none⟩, [], []⟩,
    ⟨2, ⟨(some 11), .load (some 2) (.t 5), none⟩, [], []⟩,
    ⟨1, ⟨(some 10), .call 83 [(.t 9)], none⟩, [2], [⟨(some 11), .load (some 2) (.t 5), none⟩]⟩,
    ⟨3, ⟨(some 12), .call 83 [(.t 11)], none⟩, [], []⟩,
    ⟨4, ⟨(some 7), .mv (.t 10), none⟩, [], []⟩,
    ⟨5, ⟨(some 8), .mv (.t 12), none⟩, [], []⟩])
  (.seq [4, 5, 6] (.seq [4, 5, 6, 7, 8, 13] (.reg [⟨(some 13), .mv (.t 0), none⟩])
  (.block 0 (.seq [4, 5, 6, 7, 8, 13, 14] (.reg [⟨(some 15), .bin .eql (.t 13) (.c (.i .i64 12)), none⟩,
    ⟨(some 14), .mv (.t 15), none⟩])
  (.cond (.t 14)
  (.seq [6] (.reg [⟨(some 16), .mv (.t 7), none⟩,
    ⟨(some 17), .mv (.t 8), none⟩,
    ⟨(some 18), .bin .add (.t 16) (.t 17), none⟩,
    ⟨(some 19), .call 84 [(.t 18)], none⟩,
    ⟨(some 20), .call 26 [(.t 19)], none⟩,
    ⟨none, .store 2 (.t 6) (.t 20), none⟩])
  .ret)
  (.seq [4, 5, 6, 7, 8, 13, 21] (.reg [⟨(some 22), .bin .eql (.t 13) (.c (.i .i64 13)), none⟩,
    ⟨(some 21), .mv (.t 22), none⟩])
  (.cond (.t 21)
  (.seq [6] (.reg [⟨(some 23), .mv (.t 7), none⟩,
    ⟨(some 24), .mv (.t 8), none⟩,
    ⟨(some 25), .bin .sub (.t 23) (.t 24), none⟩,
    ⟨(some 26), .call 84 [(.t 25)], none⟩,
    ⟨(some 27), .call 26 [(.t 26)], none⟩,
    ⟨none, .store 2 (.t 6) (.t 27), none⟩])
  .ret)
  (.seq [4, 5, 6, 7, 8, 13, 28] (.reg [⟨(some 29), .bin .eql (.t 13) (.c (.i .i64 14)), none⟩,
    ⟨(some 28), .mv (.t 29), none⟩])
  (.cond (.t 28)
  (.seq [6] (.reg [⟨(some 30), .mv (.t 7), none⟩,
    ⟨(some 31), .mv (.t 8), none⟩,
    ⟨(some 32), .bin .mul (.t 30) (.t 31), none⟩,
    ⟨(some 33), .call 84 [(.t 32)], none⟩,
    ⟨(some 34), .call 26 [(.t 33)], none⟩,
    ⟨none, .store 2 (.t 6) (.t 34), none⟩])
  .ret)
  (.seq [4, 5, 6, 7, 8, 35] (.reg [⟨(some 36), .bin .eql (.t 13) (.c (.i .i64 15)), none⟩,
    ⟨(some 35), .mv (.t 36), none⟩])
  (.cond (.t 35)
  (.seq [6] (.reg [⟨(some 37), .mv (.t 7), none⟩,
    ⟨(some 38), .mv (.t 8), none⟩,
    ⟨(some 39), .bin .lss (.t 37) (.t 38), none⟩,
    ⟨(some 40), .call 85 [(.t 39)], none⟩,
    ⟨(some 41), .call 26 [(.t 40)], none⟩,
    ⟨none, .store 2 (.t 6) (.t 41), none⟩])
  .ret)
  .skip))))))))))
  (.seq [6] (.reg [⟨(some 42), .load (some 2) (.t 4), none⟩,
    ⟨(some 43), .load (some 2) (.t 5), none⟩,
    ⟨(some 44), .eqf 2 false (.t 42) (.t 43), none⟩,
    ⟨(some 45), .call 85 [(.t 44)], none⟩,
    ⟨(some 46), .call 26 [(.t 45)], none⟩,
    ⟨none, .store 2 (.t 6) (.t 46), none⟩])
  .ret))))
theorem res27 : Tryz.f27.body.bind (res Tryz.prog Tryz.f27.ntmps [] [4, 5]) = some (erase ac27) := by kernel_rfl
theorem ctr27 {args : List V} (hn : args.length ≤ 47) {σ : Store} {Q : R → Store → Prop} (h : W Tryz.prog ac27 (RetC [.c 6 (some 2)] Q) (argEnv 0 args) σ) : Ctr Tryz.prog 27 args σ Q :=
  ctr_of_resC Tryz.func27 (by kernel_rfl) res27 (by kernel_rfl) hn (T_W h)

/-- consort meta_fold; parameters 2, free 0, calls [124, 126] -/
abbrev ac82 : ACode := (.seq [0, 1, 4] (.reg [⟨(some 4), .alloc [(.i .i64 0), (.i .i64 0)], none⟩])
  (.seq [0, 1, 4, 5] (.reg [⟨(some 10), .build [.fnil, .fnil, .fnil, .fnil, .fnil, .fnil, .fnil] [(2, 1, (.c (.f (.func 125) [] []))), (3, 1, (.c (.f (.func 127) [] []))), (4, 1, (.c (.f (.func 128) [] []))), (6, 1, (.c .fnil))], none⟩,
    ⟨(some 5), .alloc [.fnil, .fnil, .fnil, .fnil, .fnil, .fnil, .fnil], none⟩,
    ⟨none, .store 7 (.t 5) (.t 10), none⟩])
  (.seq [1, 4, 6] (.reg [⟨(some 11), .mv (.t 0), none⟩,
    ⟨(some 12), .iaddr 1 (some 7) (.t 5) (.t 11), none⟩,
    ⟨(some 13), .load none (.t 12), none⟩,
    ⟨(some 6), .mv (.t 13), none⟩])
  (.seq [1, 4, 6] (.seq [1, 4, 6, 15] (.reg [⟨(some 14), .mv (.t 6), none⟩,
    ⟨(some 15), .eqn 4 false (.t 14), none⟩])
  (.cond (.t 15)
  (.seq [4] (.reg [⟨(some 16), .mv (.t 1), none⟩,
    ⟨(some 17), .mv (.t 1), none⟩,
    ⟨(some 18), .len (.t 17), none⟩,
    ⟨(some 19), .bin .sub (.t 18) (.c (.i .i64 1)), none⟩,
    ⟨(some 20), .iaddr 2 none (.t 16) (.t 19), none⟩,
    ⟨(some 21), .load (some 2) (.t 20), none⟩,
    ⟨none, .store 2 (.t 4) (.t 21), none⟩])
  .ret)
  .skip))
  (.seq [1, 4, 6, 7] (.reg [⟨(some 22), .mv (.t 1), none⟩,
    ⟨(some 23), .iaddr 2 none (.t 22) (.c (.i .i64 0)), none⟩,
    ⟨(some 24), .load (some 2) (.t 23), none⟩,
    ⟨(some 25), .call 124 [(.t 24)], none⟩,
    ⟨(some 7), .mv (.t 25), none⟩])
  (.seq [4, 7] (.seq [4, 6, 7, 27, 28, 29] (.reg [⟨(some 26), .mv (.t 1), none⟩,
    ⟨(some 27), .slice 2 (.t 26) (some (.c (.i .i64 1))) none none, none⟩,
    ⟨(some 28), .len (.t 27), none⟩,
    ⟨(some 29), .mv (.c (.i .i64 0)), none⟩])
  (.block 0 (.loop [4, 6, 7, 27, 28, 29] (.seq [4, 6, 7, 27, 28, 29, 30] (.reg [⟨(some 30), .bin .lss (.t 29) (.t 28), none⟩])
  (.seq [4, 6, 7, 27, 28, 29] (.cond (.t 30)
  .skip
  (.exit 0))
  (.seq [4, 6, 7, 27, 28, 29] (.block 1 (.seq [4, 6, 7, 9, 27, 28, 29] (.reg [⟨(some 31), .iaddr 2 none (.t 27) (.t 29), none⟩,
    ⟨(some 32), .load (some 2) (.t 31), none⟩,
    ⟨(some 9), .alloc [(.i .i64 0), (.i .i64 0)], none⟩,
    ⟨none, .store 2 (.t 9) (.t 32), none⟩])
  (.reg [⟨(some 33), .mv (.t 6), none⟩,
    ⟨(some 34), .mv (.t 7), none⟩,
    ⟨(some 35), .load (some 2) (.t 9), none⟩,
    ⟨(some 36), .call 124 [(.t 35)], none⟩,
    ⟨(some 37), .callv (.t 33) [(.t 34), (.t 36)], none⟩,
    ⟨(some 7), .mv (.t 37), none⟩])))
  (.reg [⟨(some 38), .bin .add (.t 29) (.c (.i .i64 1)), none⟩,
    ⟨(some 29), .mv (.t 38), none⟩])))))))
  (.seq [4] (.reg [⟨(some 39), .mv (.t 7), none⟩,
    ⟨(some 40), .call 126 [(.t 39)], none⟩,
    ⟨none, .store 2 (.t 4) (.t 40), none⟩])
  .ret)))))))
theorem res82 : Tryz.f82.body.bind (res Tryz.prog Tryz.f82.ntmps [] []) = some (erase ac82) := by kernel_rfl
theorem ctr82 {args : List V} (hn : args.length ≤ 41) {σ : Store} {Q : R → Store → Prop} (h : W Tryz.prog ac82 (RetC [.c 4 (some 2)] Q) (argEnv 0 args) σ) : Ctr Tryz.prog 82 args σ Q :=
  ctr_of_resC Tryz.func82 (by kernel_rfl) res82 (by kernel_rfl) hn (T_W h)

/-- consort meta_Fold; parameters 2, free 0, calls [24, 76, 79, 80, 82] -/
abbrev ac21 : ACode := (.seq [1, 2, 4] (.reg [⟨(some 2), .boxf (.t 0), none⟩,
    ⟨(some 4), .alloc [(.i .i64 0), (.i .i64 0)], none⟩,
    ⟨(some 5), .mv (.c (.i .i64 0)), none⟩,
    ⟨(some 6), .mv (.c (.i .i64 0)), none⟩])
  (.seq [1, 2, 4] (.seq [1, 2, 4, 14] (.reg [⟨(some 8), .load none (.t 2), none⟩,
    ⟨(some 9), .call 76 [(.t 8)], none⟩,
    ⟨(some 10), .not (.t 9), none⟩,
    ⟨(some 11), .mv (.t 10), none⟩,
    ⟨(some 12), .mv (.t 1), (some (11, false))⟩,
    ⟨(some 13), .call 24 [(.t 12), (.c (.f (.func 77) [] []))], (some (11, false))⟩,
    ⟨(some 14), .pick (.t 11) (.c (.b true)) (.t 13), none⟩])
  (.cond (.t 14)
  (.seq [4, 5, 6] (.reg [⟨(some 15), .build [(.i .i64 0), (.i .i64 0)] [], none⟩,
    ⟨none, .store 2 (.t 4) (.t 15), none⟩,
    ⟨(some 5), .mv (.c (.i .i64 0)), none⟩,
    ⟨(some 6), .mv (.c (.i .i64 2)), none⟩])
  .ret)
  .skip))
  (.seq [1, 2, 4] (.seq [1, 2, 4, 18] (.reg [⟨(some 16), .mv (.t 1), none⟩,
    ⟨(some 17), .len (.t 16), none⟩,
    ⟨(some 18), .bin .eql (.t 17) (.c (.i .i64 0)), none⟩])
  (.cond (.t 18)
  (.seq [4, 5, 6] (.reg [⟨(some 19), .build [(.i .i64 0), (.i .i64 0)] [], none⟩,
    ⟨none, .store 2 (.t 4) (.t 19), none⟩,
    ⟨(some 5), .mv (.c (.i .i64 0)), none⟩,
    ⟨(some 6), .mv (.c (.i .i64 5)), none⟩])
  .ret)
  .skip))
  (.seq [1, 2, 4, 7] (.reg [⟨(some 20), .mv (.t 1), none⟩,
    ⟨(some 21), .mkf (.func 80) [] [(.t 2)], none⟩,
    ⟨(some 22), .call 79 [(.t 20), (.t 21)], none⟩,
    ⟨(some 23), .bin .add (.t 22) (.c (.i .i64 1)), none⟩,
    ⟨(some 7), .mv (.t 23), none⟩])
  (.seq [1, 2, 4, 7] (.seq [1, 2, 4, 7, 25] (.reg [⟨(some 24), .mv (.t 7), none⟩,
    ⟨(some 25), .bin .eql (.t 24) (.c (.i .i64 0)), none⟩])
  (.cond (.t 25)
  (.reg [⟨(some 26), .mv (.t 1), none⟩,
    ⟨(some 27), .len (.t 26), none⟩,
    ⟨(some 7), .mv (.t 27), none⟩])
  .skip))
  (.seq [4, 5, 6] (.dreg [4, 5, 6] [⟨0, ⟨(some 28), .load none (.t 2), none⟩, [], []⟩,
    ⟨1, ⟨(some 29), .mv (.t 1), none⟩, [], []⟩,
    ⟨2, ⟨(some 30), .mv (.t 7), none⟩, [], []⟩,
    ⟨3, ⟨(some 31), .slice 2 (.t 29) none (some (.t 30)) none, none⟩, [], []⟩,
    ⟨5, ⟨(some 33), .mv (.t 7), none⟩, [], []⟩,
    ⟨4, ⟨(some 32), .call 82 [(.t 28), (.t 31)], none⟩, [], []⟩,
    ⟨6, ⟨none, .store 2 (.t 4) (.t 32), none⟩, [], []⟩,
    ⟨7, ⟨(some 5), .mv (.t 33), none⟩, [], []⟩,
    ⟨8, ⟨(some 6), .mv (.c (.i .i64 0)), none⟩, [], []⟩])
  .ret))))))
theorem res21 : Tryz.f21.body.bind (res Tryz.prog Tryz.f21.ntmps [] [2]) = some (erase ac21) := by kernel_rfl
theorem ctr21 {args : List V} (hn : args.length ≤ 34) {σ : Store} {Q : R → Store → Prop} (h : W Tryz.prog ac21 (RetC [.c 4 (some 2), .t 5, .t 6] Q) (argEnv 0 args) σ) : Ctr Tryz.prog 21 args σ Q :=
  ctr_of_resC Tryz.func21 (by kernel_rfl) res21 (by kernel_rfl) hn (T_W h)

/-- consortlaw20.MetaFolds; parameters 1, free 0, calls [19, 20, 21, 22, 23, 24, 26, 27, 28] -/
abbrev ac4 : ACode := (.seq [1] (.reg [⟨(some 1), .boxf (.t 0), none⟩,
    ⟨(some 2), .mv (.c (.b false)), none⟩])
  (.seq [1] (.seq [1, 36] (.reg [⟨(some 24), .load none (.t 1), none⟩,
    ⟨(some 25), .len (.t 24), none⟩,
    ⟨(some 26), .bin .gtr (.t 25) (.c (.i .i64 60)), none⟩,
    ⟨(some 27), .mv (.t 26), none⟩,
    ⟨(some 28), .load none (.t 1), (some (27, false))⟩,
    ⟨(some 29), .len (.t 28), (some (27, false))⟩,
    ⟨(some 30), .bin .eql (.t 29) (.c (.i .i64 0)), (some (27, false))⟩,
    ⟨(some 31), .pick (.t 27) (.c (.b true)) (.t 30), none⟩,
    ⟨(some 32), .mv (.t 31), none⟩,
    ⟨(some 33), .load none (.t 1), (some (32, false))⟩,
    ⟨(some 34), .call 19 [(.t 33), (.c (.i .i64 40))], (some (32, false))⟩,
    ⟨(some 35), .not (.t 34), (some (32, false))⟩,
    ⟨(some 36), .pick (.t 32) (.c (.b true)) (.t 35), none⟩])
  (.cond (.t 36)
  (.seq [2] (.reg [⟨(some 37), .call 20 [], none⟩,
    ⟨(some 2), .mv (.t 37), none⟩])
  .ret)
  .skip))
  (.seq [1, 3, 4, 5] (.reg [⟨(some 39), .load none (.t 1), none⟩,
    ⟨(some 40), .call 21 [(.c (.i .i64 1)), (.t 39)], none⟩,
    ⟨(some 38), .mv (.t 40), none⟩,
    ⟨(some 41), .extract 0 (.t 38), none⟩,
    ⟨(some 42), .extract 1 (.t 38), none⟩,
    ⟨(some 43), .extract 2 (.t 38), none⟩,
    ⟨(some 3), .alloc [(.i .i64 0), (.i .i64 0)], none⟩,
    ⟨none, .store 2 (.t 3) (.t 41), none⟩,
    ⟨(some 4), .mv (.t 42), none⟩,
    ⟨(some 5), .mv (.t 43), none⟩])
  (.seq [1] (.seq [1, 56] (.dreg [1, 56] [⟨0, ⟨(some 44), .mv (.t 5), none⟩, [], []⟩,
    ⟨1, ⟨(some 45), .bin .neq (.t 44) (.c (.i .i64 0)), none⟩, [], []⟩,
    ⟨2, ⟨(some 46), .mv (.t 45), none⟩, [], []⟩,
    ⟨3, ⟨(some 47), .load (some 2) (.t 3), (some (46, false))⟩, [], []⟩,
    ⟨4, ⟨(some 48), .load none (.t 1), (some (46, false))⟩, [], []⟩,
    ⟨5, ⟨(some 49), .iaddr 2 none (.t 48) (.c (.i .i64 0)), (some (46, false))⟩, [], []⟩,
    ⟨6, ⟨(some 50), .load (some 2) (.t 49), (some (46, false))⟩, [], []⟩,
    ⟨7, ⟨(some 51), .eqf 2 true (.t 47) (.t 50), (some (46, false))⟩, [], []⟩,
    ⟨8, ⟨(some 52), .pick (.t 46) (.c (.b true)) (.t 51), none⟩, [], []⟩,
    ⟨9, ⟨(some 53), .mv (.t 52), none⟩, [], []⟩,
    ⟨10, ⟨(some 54), .mv (.t 4), (some (53, false))⟩, [], []⟩,
    ⟨11, ⟨(some 55), .bin .neq (.t 54) (.c (.i .i64 1)), (some (53, false))⟩, [], []⟩,
    ⟨12, ⟨(some 56), .pick (.t 53) (.c (.b true)) (.t 55), none⟩, [], []⟩])
  (.cond (.t 56)
  (.seq [2] (.reg [⟨(some 2), .mv (.c (.b false)), none⟩])
  .ret)
  .skip))
  (.seq [1, 5, 6, 7] (.reg [⟨(some 58), .load none (.t 1), none⟩,
    ⟨(some 59), .call 21 [(.c (.i .i64 3)), (.t 58)], none⟩,
    ⟨(some 57), .mv (.t 59), none⟩,
    ⟨(some 60), .extract 0 (.t 57), none⟩,
    ⟨(some 61), .extract 1 (.t 57), none⟩,
    ⟨(some 62), .extract 2 (.t 57), none⟩,
    ⟨(some 6), .alloc [(.i .i64 0), (.i .i64 0)], none⟩,
    ⟨none, .store 2 (.t 6) (.t 60), none⟩,
    ⟨(some 7), .mv (.t 61), none⟩,
    ⟨(some 5), .mv (.t 62), none⟩])
  (.seq [1, 5, 6, 7, 8, 9, 10] (.reg [⟨(some 64), .load none (.t 1), none⟩,
    ⟨(some 65), .call 21 [(.c (.i .i64 4)), (.t 64)], none⟩,
    ⟨(some 63), .mv (.t 65), none⟩,
    ⟨(some 66), .extract 0 (.t 63), none⟩,
    ⟨(some 67), .extract 1 (.t 63), none⟩,
    ⟨(some 68), .extract 2 (.t 63), none⟩,
    ⟨(some 8), .alloc [(.i .i64 0), (.i .i64 0)], none⟩,
    ⟨none, .store 2 (.t 8) (.t 66), none⟩,
    ⟨(some 9), .mv (.t 67), none⟩,
    ⟨(some 10), .mv (.t 68), none⟩])
  (.seq [1, 5, 6, 7, 8, 9, 10, 11, 12, 13] (.reg [⟨(some 70), .load none (.t 1), none⟩,
    ⟨(some 71), .call 21 [(.c (.i .i64 2)), (.t 70)], none⟩,
    ⟨(some 69), .mv (.t 71), none⟩,
    ⟨(some 72), .extract 0 (.t 69), none⟩,
    ⟨(some 73), .extract 1 (.t 69), none⟩,
    ⟨(some 74), .extract 2 (.t 69), none⟩,
    ⟨(some 11), .alloc [(.i .i64 0), (.i .i64 0)], none⟩,
    ⟨none, .store 2 (.t 11) (.t 72), none⟩,
    ⟨(some 12), .mv (.t 73), none⟩,
    ⟨(some 13), .mv (.t 74), none⟩])
  (.seq [1, 6, 8, 11] (.seq [1, 6, 8, 11, 112] (.reg [⟨(some 75), .mv (.t 5), none⟩,
    ⟨(some 76), .bin .neq (.t 75) (.c (.i .i64 0)), none⟩,
    ⟨(some 77), .mv (.t 76), none⟩,
    ⟨(some 78), .mv (.t 10), (some (77, false))⟩,
    ⟨(some 79), .bin .neq (.t 78) (.c (.i .i64 0)), (some (77, false))⟩,
    ⟨(some 80), .pick (.t 77) (.c (.b true)) (.t 79), none⟩,
    ⟨(some 81), .mv (.t 80), none⟩,
    ⟨(some 82), .mv (.t 13), (some (81, false))⟩,
    ⟨(some 83), .bin .neq (.t 82) (.c (.i .i64 0)), (some (81, false))⟩,
    ⟨(some 84), .pick (.t 81) (.c (.b true)) (.t 83), none⟩,
    ⟨(some 85), .mv (.t 84), none⟩,
    ⟨(some 86), .mv (.t 7), (some (85, false))⟩,
    ⟨(some 87), .load none (.t 1), (some (85, false))⟩,
    ⟨(some 88), .len (.t 87), (some (85, false))⟩,
    ⟨(some 89), .bin .neq (.t 86) (.t 88), (some (85, false))⟩,
    ⟨(some 90), .pick (.t 85) (.c (.b true)) (.t 89), none⟩,
    ⟨(some 91), .mv (.t 90), none⟩,
    ⟨(some 92), .mv (.t 9), (some (91, false))⟩,
    ⟨(some 93), .load none (.t 1), (some (91, false))⟩,
    ⟨(some 94), .len (.t 93), (some (91, false))⟩,
    ⟨(some 95), .bin .neq (.t 92) (.t 94), (some (91, false))⟩,
    ⟨(some 96), .pick (.t 91) (.c (.b true)) (.t 95), none⟩,
    ⟨(some 97), .mv (.t 96), none⟩,
    ⟨(some 98), .mv (.t 12), (some (97, false))⟩,
    ⟨(some 99), .load none (.t 1), (some (97, false))⟩,
    ⟨(some 100), .len (.t 99), (some (97, false))⟩,
    ⟨(some 101), .bin .neq (.t 98) (.t 100), (some (97, false))⟩,
    ⟨(some 102), .pick (.t 97) (.c (.b true)) (.t 101), none⟩,
    ⟨(some 103), .mv (.t 102), none⟩,
    ⟨(some 104), .faddr 0 (.t 6), (some (103, false))⟩,
    ⟨(some 105), .load none (.t 104), (some (103, false))⟩,
    ⟨(some 106), .bin .neq (.t 105) (.c (.i .i64 1)), (some (103, false))⟩,
    ⟨(some 107), .pick (.t 103) (.c (.b true)) (.t 106), none⟩,
    ⟨(some 108), .mv (.t 107), none⟩,
    ⟨(some 109), .faddr 0 (.t 8), (some (108, false))⟩,
    ⟨(some 110), .load none (.t 109), (some (108, false))⟩,
    ⟨(some 111), .bin .neq (.t 110) (.c (.i .i64 1)), (some (108, false))⟩,
    ⟨(some 112), .pick (.t 108) (.c (.b true)) (.t 111), none⟩])
  (.cond (.t 112)
  (.seq [2] (.reg [⟨(some 2), .mv (.c (.b false)), none⟩])
  .ret)
  .skip))
  (.seq [1, 6, 8, 11] (.seq [1, 6, 8, 11, 113, 114, 115] (.reg [⟨(some 113), .load none (.t 1), none⟩,
    ⟨(some 114), .len (.t 113), none⟩,
    ⟨(some 115), .mv (.c (.i .i64 0)), none⟩])
  (.block 0 (.loop [1, 6, 8, 11, 113, 114, 115] (.seq [1, 6, 8, 11, 113, 114, 115, 116] (.reg [⟨(some 116), .bin .lss (.t 115) (.t 114), none⟩])
  (.seq [1, 6, 8, 11, 113, 114, 115] (.cond (.t 116)
  .skip
  (.exit 0))
  (.seq [1, 6, 8, 11, 113, 114, 115] (.block 1 (.seq [1, 6, 8, 11, 15, 113, 114, 115] (.reg [⟨(some 117), .iaddr 2 none (.t 113) (.t 115), none⟩,
    ⟨(some 118), .load (some 2) (.t 117), none⟩,
    ⟨(some 15), .alloc [(.i .i64 0), (.i .i64 0)], none⟩,
    ⟨none, .store 2 (.t 15) (.t 118), none⟩])
  (.seq [1, 6, 8, 11, 113, 114, 115, 130] (.dreg [1, 6, 8, 11, 113, 114, 115, 130] [⟨0, ⟨(some 119), .load (some 2) (.t 15), none⟩, [], []⟩,
    ⟨2, ⟨(some 121), .faddr 1 (.t 6), none⟩, [], []⟩,
    ⟨3, ⟨(some 122), .load none (.t 121), none⟩, [], []⟩,
    ⟨1, ⟨(some 120), .call 22 [(.t 119)], none⟩, [3], [⟨(some 122), .load none (.t 121), none⟩]⟩,
    ⟨4, ⟨(some 123), .bin .lss (.t 120) (.t 122), none⟩, [], []⟩,
    ⟨5, ⟨(some 124), .mv (.t 123), none⟩, [], []⟩,
    ⟨6, ⟨(some 125), .load (some 2) (.t 15), (some (124, false))⟩, [], []⟩,
    ⟨8, ⟨(some 127), .faddr 1 (.t 8), (some (124, false))⟩, [], []⟩,
    ⟨9, ⟨(some 128), .load none (.t 127), (some (124, false))⟩, [], []⟩,
    ⟨7, ⟨(some 126), .call 22 [(.t 125)], (some (124, false))⟩, [9], [⟨(some 128), .load none (.t 127), (some (124, false))⟩]⟩,
    ⟨10, ⟨(some 129), .bin .gtr (.t 126) (.t 128), (some (124, false))⟩, [], []⟩,
    ⟨11, ⟨(some 130), .pick (.t 124) (.c (.b true)) (.t 129), none⟩, [], []⟩])
  (.cond (.t 130)
  (.seq [2] (.reg [⟨(some 2), .mv (.c (.b false)), none⟩])
  .ret)
  .skip))))
  (.reg [⟨(some 131), .bin .add (.t 115) (.c (.i .i64 1)), none⟩,
    ⟨(some 115), .mv (.t 131), none⟩])))))))
  (.seq [1, 6, 8, 11, 16] (.reg [⟨(some 132), .mkf (.func 23) [] [(.t 1)], none⟩,
    ⟨(some 16), .mv (.t 132), none⟩])
  (.seq [1, 11] (.seq [1, 11, 144] (.reg [⟨(some 133), .mv (.t 16), none⟩,
    ⟨(some 134), .faddr 1 (.t 6), none⟩,
    ⟨(some 135), .load none (.t 134), none⟩,
    ⟨(some 136), .callv (.t 133) [(.t 135)], none⟩,
    ⟨(some 137), .not (.t 136), none⟩,
    ⟨(some 138), .mv (.t 137), none⟩,
    ⟨(some 139), .mv (.t 16), (some (138, false))⟩,
    ⟨(some 140), .faddr 1 (.t 8), (some (138, false))⟩,
    ⟨(some 141), .load none (.t 140), (some (138, false))⟩,
    ⟨(some 142), .callv (.t 139) [(.t 141)], (some (138, false))⟩,
    ⟨(some 143), .not (.t 142), (some (138, false))⟩,
    ⟨(some 144), .pick (.t 138) (.c (.b true)) (.t 143), none⟩])
  (.cond (.t 144)
  (.seq [2] (.reg [⟨(some 2), .mv (.c (.b false)), none⟩])
  .ret)
  .skip))
  (.seq [1, 11, 17] (.reg [⟨(some 145), .call 26 [(.c (.i .i64 0))], none⟩,
    ⟨(some 17), .alloc [(.i .i64 0), (.i .i64 0)], none⟩,
    ⟨none, .store 2 (.t 17) (.t 145), none⟩])
  (.seq [1, 11, 17] (.seq [1, 11, 17, 148] (.reg [⟨(some 146), .load none (.t 1), none⟩,
    ⟨(some 147), .len (.t 146), none⟩,
    ⟨(some 148), .bin .gtr (.t 147) (.c (.i .i64 1)), none⟩])
  (.cond (.t 148)
  (.reg [⟨(some 150), .load none (.t 1), none⟩,
    ⟨(some 151), .load none (.t 1), none⟩,
    ⟨(some 152), .len (.t 151), none⟩,
    ⟨(some 153), .bin .sub (.t 152) (.c (.i .i64 1)), none⟩,
    ⟨(some 154), .slice 2 (.t 150) none (some (.t 153)) none, none⟩,
    ⟨(some 155), .call 21 [(.c (.i .i64 2)), (.t 154)], none⟩,
    ⟨(some 149), .mv (.t 155), none⟩,
    ⟨(some 156), .extract 0 (.t 149), none⟩,
    ⟨(some 157), .extract 1 (.t 149), none⟩,
    ⟨(some 158), .extract 2 (.t 149), none⟩,
    ⟨none, .store 2 (.t 17) (.t 156), none⟩])
  .skip))
  (.seq [1] (.seq [1, 168] (.dreg [1, 168] [⟨0, ⟨(some 159), .load (some 2) (.t 11), none⟩, [], []⟩,
    ⟨1, ⟨(some 160), .load (some 2) (.t 17), none⟩, [], []⟩,
    ⟨2, ⟨(some 161), .load none (.t 1), none⟩, [], []⟩,
    ⟨3, ⟨(some 162), .load none (.t 1), none⟩, [], []⟩,
    ⟨4, ⟨(some 163), .len (.t 162), none⟩, [], []⟩,
    ⟨5, ⟨(some 164), .bin .sub (.t 163) (.c (.i .i64 1)), none⟩, [], []⟩,
    ⟨6, ⟨(some 165), .iaddr 2 none (.t 161) (.t 164), none⟩, [], []⟩,
    ⟨7, ⟨(some 166), .load (some 2) (.t 165), none⟩, [], []⟩,
    ⟨8, ⟨(some 167), .call 27 [(.c (.i .i64 12)), (.t 160), (.t 166)], none⟩, [0], [⟨(some 159), .load (some 2) (.t 11), none⟩]⟩,
    ⟨9, ⟨(some 168), .eqf 2 true (.t 159) (.t 167), none⟩, [], []⟩])
  (.cond (.t 168)
  (.seq [2] (.reg [⟨(some 2), .mv (.c (.b false)), none⟩])
  .ret)
  .skip))
  (.seq [] (.seq [1, 169, 170, 171] (.reg [⟨(some 169), .bslice 1 2 [(.i .i64 0)] [(0, (.c (.i .i64 5))), (1, (.c (.i .i64 6)))], none⟩,
    ⟨(some 170), .len (.t 169), none⟩,
    ⟨(some 171), .mv (.c (.i .i64 0)), none⟩])
  (.block 2 (.loop [1, 169, 170, 171] (.seq [1, 169, 170, 171, 172] (.reg [⟨(some 172), .bin .lss (.t 171) (.t 170), none⟩])
  (.seq [1, 169, 170, 171] (.cond (.t 172)
  .skip
  (.exit 2))
  (.seq [1, 169, 170, 171] (.block 3 (.seq [1, 19, 169, 170, 171] (.reg [⟨(some 173), .iaddr 1 none (.t 169) (.t 171), none⟩,
    ⟨(some 174), .load none (.t 173), none⟩,
    ⟨(some 19), .alloc [(.i .i64 0)], none⟩,
    ⟨none, .store 1 (.t 19) (.t 174), none⟩])
  (.seq [1, 19, 20, 21, 22, 169, 170, 171] (.reg [⟨(some 176), .load none (.t 19), none⟩,
    ⟨(some 177), .load none (.t 1), none⟩,
    ⟨(some 178), .call 21 [(.t 176), (.t 177)], none⟩,
    ⟨(some 175), .mv (.t 178), none⟩,
    ⟨(some 179), .extract 0 (.t 175), none⟩,
    ⟨(some 180), .extract 1 (.t 175), none⟩,
    ⟨(some 181), .extract 2 (.t 175), none⟩,
    ⟨(some 20), .alloc [(.i .i64 0), (.i .i64 0)], none⟩,
    ⟨none, .store 2 (.t 20) (.t 179), none⟩,
    ⟨(some 21), .mv (.t 180), none⟩,
    ⟨(some 22), .mv (.t 181), none⟩])
  (.seq [1, 19, 20, 21, 169, 170, 171] (.seq [1, 19, 20, 21, 169, 170, 171, 202] (.dreg [1, 19, 20, 21, 169, 170, 171, 202] [⟨0, ⟨(some 182), .mv (.t 22), none⟩, [], []⟩,
    ⟨1, ⟨(some 183), .bin .neq (.t 182) (.c (.i .i64 0)), none⟩, [], []⟩,
    ⟨2, ⟨(some 184), .mv (.t 183), none⟩, [], []⟩,
    ⟨3, ⟨(some 185), .mv (.t 21), (some (184, false))⟩, [], []⟩,
    ⟨4, ⟨(some 186), .bin .lss (.t 185) (.c (.i .i64 1)), (some (184, false))⟩, [], []⟩,
    ⟨5, ⟨(some 187), .pick (.t 184) (.c (.b true)) (.t 186), none⟩, [], []⟩,
    ⟨6, ⟨(some 188), .mv (.t 187), none⟩, [], []⟩,
    ⟨7, ⟨(some 189), .mv (.t 21), (some (188, false))⟩, [], []⟩,
    ⟨8, ⟨(some 190), .load none (.t 1), (some (188, false))⟩, [], []⟩,
    ⟨9, ⟨(some 191), .len (.t 190), (some (188, false))⟩, [], []⟩,
    ⟨10, ⟨(some 192), .bin .gtr (.t 189) (.t 191), (some (188, false))⟩, [], []⟩,
    ⟨11, ⟨(some 193), .pick (.t 188) (.c (.b true)) (.t 192), none⟩, [], []⟩,
    ⟨12, ⟨(some 194), .mv (.t 193), none⟩, [], []⟩,
    ⟨13, ⟨(some 195), .load (some 2) (.t 20), (some (194, false))⟩, [], []⟩,
    ⟨14, ⟨(some 196), .load none (.t 1), (some (194, false))⟩, [], []⟩,
    ⟨15, ⟨(some 197), .mv (.t 21), (some (194, false))⟩, [], []⟩,
    ⟨16, ⟨(some 198), .bin .sub (.t 197) (.c (.i .i64 1)), (some (194, false))⟩, [], []⟩,
    ⟨17, ⟨(some 199), .iaddr 2 none (.t 196) (.t 198), (some (194, false))⟩, [], []⟩,
    ⟨18, ⟨(some 200), .load (some 2) (.t 199), (some (194, false))⟩, [], []⟩,
    ⟨19, ⟨(some 201), .eqf 2 true (.t 195) (.t 200), (some (194, false))⟩, [], []⟩,
    ⟨20, ⟨(some 202), .pick (.t 194) (.c (.b true)) (.t 201), none⟩, [], []⟩])
  (.cond (.t 202)
  (.seq [2] (.reg [⟨(some 2), .mv (.c (.b false)), none⟩])
  .ret)
  .skip))
  (.seq [1, 20, 21, 23, 169, 170, 171] (.reg [⟨(some 203), .mkf (.func 28) [] [(.t 19)], none⟩,
    ⟨(some 23), .mvf (.t 203), none⟩])
  (.seq [1, 169, 170, 171, 221] (.reg [⟨(some 204), .load none (.t 1), none⟩,
    ⟨(some 205), .mv (.t 21), none⟩,
    ⟨(some 206), .bin .sub (.t 205) (.c (.i .i64 1)), none⟩,
    ⟨(some 207), .slice 2 (.t 204) none (some (.t 206)) none, none⟩,
    ⟨(some 208), .mv (.t 23), none⟩,
    ⟨(some 209), .call 24 [(.t 207), (.t 208)], none⟩,
    ⟨(some 210), .mv (.t 209), none⟩,
    ⟨(some 211), .mv (.t 21), (some (210, false))⟩,
    ⟨(some 212), .load none (.t 1), (some (210, false))⟩,
    ⟨(some 213), .len (.t 212), (some (210, false))⟩,
    ⟨(some 214), .bin .lss (.t 211) (.t 213), (some (210, false))⟩,
    ⟨(some 215), .mv (.t 214), (some (210, false))⟩,
    ⟨(some 216), .mv (.t 23), (some (215, true))⟩,
    ⟨(some 217), .load (some 2) (.t 20), (some (215, true))⟩,
    ⟨(some 218), .callv (.t 216) [(.t 217)], (some (215, true))⟩,
    ⟨(some 219), .not (.t 218), (some (215, true))⟩,
    ⟨(some 220), .pick (.t 215) (.t 219) (.c (.b false)), (some (210, false))⟩,
    ⟨(some 221), .pick (.t 210) (.c (.b true)) (.t 220), none⟩])
  (.cond (.t 221)
  (.seq [2] (.reg [⟨(some 2), .mv (.c (.b false)), none⟩])
  .ret)
  .skip)))))))
  (.reg [⟨(some 222), .bin .add (.t 171) (.c (.i .i64 1)), none⟩,
    ⟨(some 171), .mv (.t 222), none⟩])))))))
  (.seq [2] (.reg [⟨(some 223), .call 20 [], none⟩,
    ⟨(some 2), .mv (.t 223), none⟩])
  .ret))))))))))))))))
theorem res4 : Tryz.f4.body.bind (res Tryz.prog Tryz.f4.ntmps [] [1, 23]) = some (erase ac4) := by kernel_rfl
theorem ctr4 {args : List V} (hn : args.length ≤ 224) {σ : Store} {Q : R → Store → Prop} (h : W Tryz.prog ac4 (RetP [2] Q) (argEnv 0 args) σ) : Ctr Tryz.prog 4 args σ Q :=
  ctr_of_res Tryz.func4 (by kernel_rfl) res4 rfl hn (T_W h)

/-- consort meta_Fold$1; parameters 1, free 0, calls [78] -/
abbrev ac77 : ACode := (.seq [1] (.reg [⟨(some 1), .boxf (.t 0), none⟩,
    ⟨(some 2), .mv (.c (.b false)), none⟩])
  (.seq [2] (.reg [⟨(some 3), .load (some 2) (.t 1), none⟩,
    ⟨(some 4), .call 78 [(.t 3)], none⟩,
    ⟨(some 5), .not (.t 4), none⟩,
    ⟨(some 2), .mv (.t 5), none⟩])
  .ret))
theorem res77 : Tryz.f77.body.bind (res Tryz.prog Tryz.f77.ntmps [] [1]) = some (erase ac77) := by kernel_rfl
theorem ctr77 {args : List V} (hn : args.length ≤ 6) {σ : Store} {Q : R → Store → Prop} (h : W Tryz.prog ac77 (RetP [2] Q) (argEnv 0 args) σ) : Ctr Tryz.prog 77 args σ Q :=
  ctr_of_res Tryz.func77 (by kernel_rfl) res77 rfl hn (T_W h)

/-- consort meta_formed; parameters 1, free 0, calls [] -/
abbrev ac78 : ACode := (.seq [1] (.reg [⟨(some 1), .boxf (.t 0), none⟩,
    ⟨(some 2), .mv (.c (.b false)), none⟩])
  (.seq [1] (.seq [1, 4] (.reg [⟨(some 3), .faddr 0 (.t 1), none⟩,
    ⟨(some 4), .load none (.t 3), none⟩])
  (.block 0 (.seq [1, 4, 5] (.reg [⟨(some 6), .bin .eql (.t 4) (.c (.i .i64 1)), none⟩,
    ⟨(some 5), .mv (.t 6), none⟩])
  (.cond (.t 5)
  (.seq [2] (.reg [⟨(some 7), .faddr 1 (.t 1), none⟩,
    ⟨(some 8), .load none (.t 7), none⟩,
    ⟨(some 9), .bin .geq (.t 8) (.c (.i .i64 (-1000000000))), none⟩,
    ⟨(some 10), .mv (.t 9), none⟩,
    ⟨(some 11), .faddr 1 (.t 1), (some (10, true))⟩,
    ⟨(some 12), .load none (.t 11), (some (10, true))⟩,
    ⟨(some 13), .bin .leq (.t 12) (.c (.i .i64 1000000000)), (some (10, true))⟩,
    ⟨(some 14), .pick (.t 10) (.t 13) (.c (.b false)), none⟩,
    ⟨(some 2), .mv (.t 14), none⟩])
  .ret)
  (.seq [1, 15] (.reg [⟨(some 16), .bin .eql (.t 4) (.c (.i .i64 2)), none⟩,
    ⟨(some 15), .mv (.t 16), none⟩])
  (.cond (.t 15)
  (.seq [2] (.reg [⟨(some 17), .faddr 1 (.t 1), none⟩,
    ⟨(some 18), .load none (.t 17), none⟩,
    ⟨(some 19), .bin .eql (.t 18) (.c (.i .i64 0)), none⟩,
    ⟨(some 2), .mv (.t 19), none⟩])
  .ret)
  .skip))))))
  (.seq [2] (.reg [⟨(some 20), .faddr 0 (.t 1), none⟩,
    ⟨(some 21), .load none (.t 20), none⟩,
    ⟨(some 22), .bin .eql (.t 21) (.c (.i .i64 3)), none⟩,
    ⟨(some 23), .mv (.t 22), none⟩,
    ⟨(some 24), .faddr 1 (.t 1), (some (23, true))⟩,
    ⟨(some 25), .load none (.t 24), (some (23, true))⟩,
    ⟨(some 26), .bin .geq (.t 25) (.c (.i .i64 0)), (some (23, true))⟩,
    ⟨(some 27), .pick (.t 23) (.t 26) (.c (.b false)), none⟩,
    ⟨(some 28), .mv (.t 27), none⟩,
    ⟨(some 29), .faddr 1 (.t 1), (some (28, true))⟩,
    ⟨(some 30), .load none (.t 29), (some (28, true))⟩,
    ⟨(some 31), .bin .lss (.t 30) (.c (.i .i64 40)), (some (28, true))⟩,
    ⟨(some 32), .pick (.t 28) (.t 31) (.c (.b false)), none⟩,
    ⟨(some 2), .mv (.t 32), none⟩])
  .ret)))
theorem res78 : Tryz.f78.body.bind (res Tryz.prog Tryz.f78.ntmps [] [1]) = some (erase ac78) := by kernel_rfl
theorem ctr78 {args : List V} (hn : args.length ≤ 33) {σ : Store} {Q : R → Store → Prop} (h : W Tryz.prog ac78 (RetP [2] Q) (argEnv 0 args) σ) : Ctr Tryz.prog 78 args σ Q :=
  ctr_of_res Tryz.func78 (by kernel_rfl) res78 rfl hn (T_W h)

/-- consort meta_Fold$2; parameters 1, free 1, calls [81] -/
abbrev ac80 : ACode := (.seq [1, 2] (.reg [⟨(some 2), .boxf (.t 0), none⟩,
    ⟨(some 3), .mv (.c (.b false)), none⟩])
  (.seq [3] (.reg [⟨(some 4), .load none (.t 1), none⟩,
    ⟨(some 5), .load (some 2) (.t 2), none⟩,
    ⟨(some 6), .call 81 [(.t 4), (.t 5)], none⟩,
    ⟨(some 3), .mv (.t 6), none⟩])
  .ret))
theorem res80 : Tryz.f80.body.bind (res Tryz.prog Tryz.f80.ntmps [] [2]) = some (erase ac80) := by kernel_rfl
theorem ctr80 {args : List V} (hn : args.length ≤ 7) {σ : Store} {Q : R → Store → Prop} (h : W Tryz.prog ac80 (RetP [3] Q) (argEnv 0 args) σ) : Ctr Tryz.prog 80 args σ Q :=
  ctr_of_res Tryz.func80 (by kernel_rfl) res80 rfl hn (T_W h)

/-- consort meta_fold$1; parameters 2, free 0, calls [126] -/
abbrev ac125 : ACode := (.seq [0, 1] (.reg [⟨(some 4), .mv (.c (.i .i64 0)), none⟩])
  (.seq [4] (.reg [⟨(some 5), .mv (.t 0), none⟩,
    ⟨(some 6), .mv (.t 1), none⟩,
    ⟨(some 7), .bin .add (.t 5) (.t 6), none⟩,
    ⟨(some 8), .call 126 [(.t 7)], none⟩,
    ⟨(some 9), .field none 1 (.t 8), none⟩,
    ⟨(some 4), .mv (.t 9), none⟩])
  .ret))
theorem res125 : Tryz.f125.body.bind (res Tryz.prog Tryz.f125.ntmps [] []) = some (erase ac125) := by kernel_rfl
theorem ctr125 {args : List V} (hn : args.length ≤ 10) {σ : Store} {Q : R → Store → Prop} (h : W Tryz.prog ac125 (RetP [4] Q) (argEnv 0 args) σ) : Ctr Tryz.prog 125 args σ Q :=
  ctr_of_res Tryz.func125 (by kernel_rfl) res125 rfl hn (T_W h)

/-- consort meta_fold$2; parameters 2, free 0, calls [] -/
abbrev ac127 : ACode := (.seq [0, 1] (.reg [⟨(some 4), .mv (.c (.i .i64 0)), none⟩])
  (.seq [4] (.reg [⟨(some 5), .mv (.t 0), none⟩,
    ⟨(some 6), .mv (.t 1), none⟩,
    ⟨(some 7), .mmin (.t 5) (.t 6), none⟩,
    ⟨(some 4), .mv (.t 7), none⟩])
  .ret))
theorem res127 : Tryz.f127.body.bind (res Tryz.prog Tryz.f127.ntmps [] []) = some (erase ac127) := by kernel_rfl
theorem ctr127 {args : List V} (hn : args.length ≤ 8) {σ : Store} {Q : R → Store → Prop} (h : W Tryz.prog ac127 (RetP [4] Q) (argEnv 0 args) σ) : Ctr Tryz.prog 127 args σ Q :=
  ctr_of_res Tryz.func127 (by kernel_rfl) res127 rfl hn (T_W h)

/-- consort meta_fold$3; parameters 2, free 0, calls [] -/
abbrev ac128 : ACode := (.seq [0, 1] (.reg [⟨(some 4), .mv (.c (.i .i64 0)), none⟩])
  (.seq [4] (.reg [⟨(some 5), .mv (.t 0), none⟩,
    ⟨(some 6), .mv (.t 1), none⟩,
    ⟨(some 7), .mmax (.t 5) (.t 6), none⟩,
    ⟨(some 4), .mv (.t 7), none⟩])
  .ret))
theorem res128 : Tryz.f128.body.bind (res Tryz.prog Tryz.f128.ntmps [] []) = some (erase ac128) := by kernel_rfl
theorem ctr128 {args : List V} (hn : args.length ≤ 8) {σ : Store} {Q : R → Store → Prop} (h : W Tryz.prog ac128 (RetP [4] Q) (argEnv 0 args) σ) : Ctr Tryz.prog 128 args σ Q :=
  ctr_of_res Tryz.func128 (by kernel_rfl) res128 rfl hn (T_W h)

end Go.Gl
