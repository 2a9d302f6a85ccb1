import Derived.Test.YtijbpgdmpejgoaaGreatProg
import Derived.KernelRfl
import Derived.WalkKit
import Derived.ProofKit
import Derived.OpenShut
import Derived.ChangeOld
import Derived.Below
import Derived.Carry
import Derived.ChangeArms
import Derived.Deep.Slices
import Derived.Test.YtijbpgdmpejgoaaGreatQ4
import Derived.Test.YtijbpgdmpejgoaaGreatQ8
import Derived.Test.YtijbpgdmpejgoaaGreatQ10
import Derived.Test.YtijbpgdmpejgoaaGreatQ27
set_option linter.all false
set_option linter.unusedVariables false
set_option linter.unusedSimpArgs false
namespace Go.Gl
open Go.Proofs
noncomputable abbrev ABl:=unB qh
noncomputable def nq:BN:= .fn 110 ABl [.t 8]
theorem jA:AZ Tryz.prog 181 nq:=kT Tryz.func181
noncomputable abbrev ABF:=unB qS
noncomputable def m7:BN:= .fn 8 ABF [.t 3]
theorem iG:AZ Tryz.prog 219 m7:=kT Tryz.func219
abbrev ABG:=qT
def m8:BN:= .fn 9 ABG [.t 4]
theorem iH:AZ Tryz.prog 218 m8:=kT Tryz.func218
abbrev ABg:AK:=(sr [1,2] [oB 2 0,A0 3 false] (sr [3] [A2 4 2 2,oL 5 1,oE 6 5,CK 7 149 4 6,oM 3 7] .ret))
def ng:BN:= .fn 8 ABg [.t 3]
theorem ir:AZ Tryz.prog 189 ng:=kT Tryz.func189
abbrev AA2:AK:=(sr [1,2] [oB 2 0,A0 3 false] (sr [3] [oL 4 1,A2 5 2 2,oo 6 (.CC (.t 4) [(.t 5)]),oN 7 6,oM 3 7] .ret))
def mg:BN:= .fn 8 AA2 [.t 3]
theorem gu:AZ Tryz.prog 238 mg:=kT Tryz.func238
abbrev AA3:AK:=(sr [0,1] [A0 4 false] (sr [4] [oM 5 0,oM 6 1,CK 7 267 5 6,AV 8 .geq 7 0,oM 4 8] .ret))
def mh:BN:= .fn 9 AA3 [.t 4]
theorem gv:AZ Tryz.prog 237 mh:=kT Tryz.func237
abbrev AA1:AK:=(sr [0,1] [BD 4 0] (.seq [] (sr [0,1,7,8] [oM 6 0,oE 7 6,BD 8 0] (.block 0 (.loop [0,1,7,8] (sr [0,1,7,8,9] [oG 9 .lss 8 7] (.seq [0,1,7,8] (.cond (.t 9) .skip (.exit 0)) (.seq [0,1,7,8] (.block 1 (sr [0,1,5,7,8] [oM 10 8,oM 5 10] (sr [0,1,5,7,8,16] [oM 11 1,oM 12 0,oM 13 5,oI 14 2 12 13,A2 15 2 14,oo 16 (.CC (.t 11) [(.t 15)])] (.cond (.t 16) (sr [4] [oM 17 5,oM 4 17] .ret) .skip)))) (.Am [AV 18 .add 8 1,oM 8 18]))))))) (sr [4] [BD 4 (-1)] .ret)))
def mf:BN:= .fn 19 AA1 [.t 4]
theorem gr:AZ Tryz.prog 239 mf:=kT Tryz.func239
abbrev ABS:AK:=(sr [0,2] [BD 2 0] (.seq [0,2] (sr [0,2,4] [oM 3 0,oo 4 (.bin .geq (.t 3) (.c (.i .u32 65536)))] (.cond (.t 4) (sr [0] [oM 5 0,oo 6 (.bin .shr (.t 5) (.c (.i .u64 16))),oM 0 6] (.Am [BD 2 16])) .skip)) (.seq [0,2] (sr [0,2,8] [oM 7 0,oo 8 (.bin .geq (.t 7) (.c (.i .u32 256)))] (.cond (.t 8) (sr [0,2] [oM 9 0,oo 10 (.bin .shr (.t 9) (.c (.i .u64 8))),oM 0 10] (.Am [oM 11 2,AV 12 .add 11 8,oM 2 12])) .skip)) (sr [2] [oM 13 2,oM 14 0,oo 15 (.conv .u8 (.t 14)),⟨(some 16),.Pe (.c (.s ⟨#[0,1,2,2,3,3,3,3,4,4,4,4,4,4,4,4,5,5,5,5,5,5,5,5,5,5,5,5,5,5,5,5,6,6,6,6,6,6,6,6,6,6,6,6,6,6,6,6,6,6,6,6,6,6,6,6,6,6,6,6,6,6,6,6,7,7,7,7,7,7,7,7,7,7,7,7,7,7,7,7,7,7,7,7,7,7,7,7,7,7,7,7,7,7,7,7,7,7,7,7,7,7,7,7,7,7,7,7,7,7,7,7,7,7,7,7,7,7,7,7,7,7,7,7,7,7,7,7,8,8,8,8,8,8,8,8,8,8,8,8,8,8,8,8,8,8,8,8,8,8,8,8,8,8,8,8,8,8,8,8,8,8,8,8,8,8,8,8,8,8,8,8,8,8,8,8,8,8,8,8,8,8,8,8,8,8,8,8,8,8,8,8,8,8,8,8,8,8,8,8,8,8,8,8,8,8,8,8,8,8,8,8,8,8,8,8,8,8,8,8,8,8,8,8,8,8,8,8,8,8,8,8,8,8,8,8,8,8,8,8,8,8,8,8,8,8,8,8,8,8,8,8,8,8,8,8]⟩)) (.t 15),none⟩,oo 17 (.conv .i64 (.t 16)),oG 18 .add 13 17,oM 2 18] .ret))))
def nN:BN:= .fn 19 ABS [.t 2]
theorem iV:AZ Tryz.prog 205 nN:=kT Tryz.func205
abbrev ABR:=qd
def nM:BN:= .fn 25 ABR [.t 2]
theorem iU:AZ Tryz.prog 206 nM:=kT Tryz.func206
abbrev ABb:=qe
def nY:BN:= .fn 49 ABb []
theorem ig:AZ Tryz.prog 196 nY:=kT Tryz.func196
abbrev ABa:AK:=(sr [0,1,2,6] [oM 11 1,oM 6 11] (sr [0,1,2,6,7] [BD 7 0] (sr [0,6,7,8] [oM 12 2,oM 13 1,oG 14 .sub 12 13,oM 8 14] (.seq [0,6,7,8] (sr [0,6,7,8,9] [oM 15 8,AV 16 .sub 15 1,AV 17 .quo 16 2,oM 9 17] (.block 0 (.loop [0,6,7,8,9] (.seq [0,6,7,8,9] (sr [0,6,7,8,9,19] [oM 18 9,AV 19 .geq 18 0] (.cond (.t 19) .skip (.exit 0))) (.seq [0,6,7,8,9] (.block 1 (.Am [oM 22 0,oM 23 9,oM 24 8,oM 25 6,Q1 26 243 22 23 24 25])) (.Am [oM 20 9,AV 21 .sub 20 1,oM 9 21])))))) (sr [0,6,7,10] [oM 27 8,AV 28 .sub 27 1,oM 10 28] (.block 2 (.loop [0,6,7,10] (.seq [0,6,7,10] (sr [0,6,7,10,30] [oM 29 10,AV 30 .geq 29 0] (.cond (.t 30) .skip (.exit 2))) (.seq [0,6,7,10] (.block 3 (.seq [0,6,7,10] (.A9 [0,6,7,10] [dO 0 (oM 33 0),dO 1 (oM 34 6),dO 2 (oM 35 0),dO 3 (oM 36 6),dO 4 (oM 37 10),dO 5 (oG 38 .add 36 37),dO 6 (oM 39 0),dO 7 (oM 40 6),dO 8 (oM 41 10),dO 9 (oG 42 .add 40 41),dO 10 (oI 43 1 39 42),dO 11 (oL 44 43),dO 12 (oM 45 0),dO 13 (oM 46 6),dO 14 (oI 47 1 45 46),dO 15 (oL 48 47),dO 16 (oI 49 1 33 34),dO 17 (oS 1 49 44),dO 18 (oI 50 1 35 38),dO 19 (oS 1 50 48)]) (.Am [oM 51 0,oM 52 7,oM 53 10,oM 54 6,Q1 55 243 51 52 53 54]))) (.Am [oM 31 10,AV 32 .sub 31 1,oM 10 32]))))))))))
def nX:BN:= .fn 56 ABa []
theorem ie:AZ Tryz.prog 197 nX:=kT Tryz.func197
abbrev ABZ:AK:=(sr [0,1,6] [oM 11 2,oM 12 1,oG 13 .sub 11 12,oM 6 13] (sr [0,1,6,15] [oM 14 6,AV 15 .geq 14 8] (.cond (.t 15) (sr [0,1,6,7] [oM 16 6,oo 17 (.conv .u64 (.t 16)),oo 7 (.alloc [(.i .u64 0)]),oS 1 7 17] (sr [0,1,6,7,8] [oM 18 6,oC 19 244 18,oM 8 19] (sr [0,1,6,7,8,9] [oM 20 1,oM 21 6,AV 22 .quo 21 4,AV 23 .mul 22 2,oG 24 .add 20 23,AV 25 .sub 24 1,oM 9 25] (.block 0 (.loop [0,1,6,7,8,9] (.seq [0,1,6,7,8,9] (sr [0,1,6,7,8,9,33] [oM 26 9,oM 27 1,oM 28 6,AV 29 .quo 28 4,AV 30 .mul 29 2,oG 31 .add 27 30,AV 32 .add 31 1,oG 33 .leq 26 32] (.cond (.t 33) .skip (.exit 0))) (.seq [0,1,6,7,8,9] (.block 1 (sr [0,1,6,7,8,9,10] [oC 36 245 7,oM 37 8,oo 38 (.bin .sub (.t 37) (.c (.i .u64 1))),oG 39 .and 36 38,oo 40 (.conv .i64 (.t 39)),oM 10 40] (.seq [0,1,6,7,8,9,10] (sr [0,1,6,7,8,9,10,43] [oM 41 10,oM 42 6,oG 43 .geq 41 42] (.cond (.t 43) (.Am [oM 44 10,oM 45 6,oG 46 .sub 44 45,oM 10 46]) .skip)) (.A9 [0,1,6,7,8,9] [dO 0 (oM 47 0),dO 1 (oM 48 9),dO 2 (oM 49 0),dO 3 (oM 50 1),dO 4 (oM 51 10),dO 5 (oG 52 .add 50 51),dO 6 (oM 53 0),dO 7 (oM 54 1),dO 8 (oM 55 10),dO 9 (oG 56 .add 54 55),dO 10 (oI 57 1 53 56),dO 11 (oL 58 57),dO 12 (oM 59 0),dO 13 (oM 60 9),dO 14 (oI 61 1 59 60),dO 15 (oL 62 61),dO 16 (oI 63 1 47 48),dO 17 (oS 1 63 58),dO 18 (oI 64 1 49 52),dO 19 (oS 1 64 62)])))) (.Am [oM 34 9,AV 35 .add 34 1,oM 9 35])))))))) .skip)))
def nV:BN:= .fn 65 ABZ []
theorem ic:AZ Tryz.prog 198 nV:=kT Tryz.func198
abbrev ABY:AK:=(sr [0,1,2] [BD 6 0,BD 7 0] (sr [0,1,8] [oM 13 2,oM 14 1,oG 15 .sub 13 14,oM 8 15] (sr [0,1,8,9] [oo 9 (.alloc [(.i .i64 0)])] (sr [0,1,8,9,10] [oM 16 1,oM 17 8,AV 18 .quo 17 4,AV 19 .mul 18 1,oG 20 .add 16 19,oM 10 20] (sr [0,1,8,9,10,11] [oM 21 1,oM 22 8,AV 23 .quo 22 4,AV 24 .mul 23 2,oG 25 .add 21 24,oM 11 25] (sr [0,8,9,10,11,12] [oM 26 1,oM 27 8,AV 28 .quo 27 4,AV 29 .mul 28 3,oG 30 .add 26 29,oM 12 30] (.seq [9,11] (sr [0,8,9,10,11,12,32] [oM 31 8,AV 32 .geq 31 8] (.cond (.t 32) (.seq [0,9,10,11,12] (sr [0,9,10,11,12,34] [oM 33 8,AV 34 .geq 33 50] (.cond (.t 34) (sr [0,9,10,11,12] [oM 35 0,oM 36 10,NI 37 246 35 36 9,oM 10 37] (sr [0,9,10,11,12] [oM 38 0,oM 39 11,NI 40 246 38 39 9,oM 11 40] (.Am [oM 41 0,oM 42 12,NI 43 246 41 42 9,oM 12 43]))) .skip)) (.Am [oM 44 0,oM 45 10,oM 46 11,oM 47 12,oo 48 (.call 247 [(.t 44),(.t 45),(.t 46),(.t 47),(.t 9)]),oM 11 48])) .skip)) (sr [11,49] [oL 49 9] (.block 0 (sr [11,49,51] [AV 52 .eql 49 0,oM 51 52] (.cond (.t 51) (sr [6,7] [oM 53 11,oM 6 53,BD 7 1] .ret) (sr [11,54] [AV 55 .eql 49 12,oM 54 55] (.cond (.t 54) (sr [6,7] [oM 56 11,oM 6 56,BD 7 2] .ret) (sr [6,7] [oM 50 11,oM 6 50,BD 7 0] .ret))))))))))))))
def nU:BN:= .fn 57 ABY [.t 6,.t 7]
theorem ib:AZ Tryz.prog 199 nU:=kT Tryz.func199
abbrev ABX:AK:=(sr [0,2,6] [oM 8 1,oM 6 8] (sr [0,6,7] [oM 9 2,AV 10 .sub 9 1,oM 7 10] (.block 0 (.loop [0,6,7] (.seq [0,6,7] (sr [0,6,7,13] [oM 11 6,oM 12 7,oG 13 .lss 11 12] (.cond (.t 13) .skip (.exit 0))) (.block 1 (.seq [0,6,7] (.A9 [0,6,7] [dO 0 (oM 14 0),dO 1 (oM 15 6),dO 2 (oM 16 0),dO 3 (oM 17 7),dO 4 (oM 18 0),dO 5 (oM 19 7),dO 6 (oI 20 1 18 19),dO 7 (oL 21 20),dO 8 (oM 22 0),dO 9 (oM 23 6),dO 10 (oI 24 1 22 23),dO 11 (oL 25 24),dO 12 (oI 26 1 14 15),dO 13 (oS 1 26 21),dO 14 (oI 27 1 16 17),dO 15 (oS 1 27 25)]) (sr [0,6,7] [oM 28 6,AV 29 .add 28 1,oM 6 29] (.Am [oM 30 7,AV 31 .sub 30 1,oM 7 31])))))))))
def nT:BN:= .fn 32 ABX []
theorem ia:AZ Tryz.prog 200 nT:=kT Tryz.func200
abbrev ABW:AK:=(sr [0,1,2] [A0 6 false] (sr [0,1,2,7] [oM 11 1,AV 12 .add 11 1,oM 7 12] (.seq [] (sr [0,1,2,7,8] [BD 8 0] (.block 0 (.loop [0,1,2,7,8] (.seq [0,1,2,7,8] (sr [0,1,2,7,8,14] [oM 13 8,AV 14 .lss 13 5] (.cond (.t 14) .skip (.exit 0))) (.seq [0,1,2,7,8] (.block 1 (.seq [0,1,2,7,8] (.block 2 (.loop [0,1,2,7,8] (.seq [0,1,2,7,8] (.seq [0,1,2,7,8,32] (.A9 [0,1,2,7,8,32] [dO 0 (oM 17 7),dO 1 (oM 18 2),dO 2 (oG 19 .lss 17 18),dO 3 (oM 20 19),dO 4 (Aw 21 0 20),dO 5 (Aw 22 7 20),dO 6 (FB 23 1 21 22 20),dO 7 (Au 24 23 20),dO 8 (Aw 25 0 20),dO 9 (Aw 26 7 20),dO 10 (EF 27 .sub 26 1 20),dO 11 (FB 28 1 25 27 20),dO 12 (Au 29 28 20),dO 13 (C7 30 (.call 202 [(.t 24),(.t 29)]) 20),dO 14 (JZ 31 30 20),dO 15 (oP 32 20 31)]) (.cond (.t 32) .skip (.exit 2))) (.block 3 (.Am [oM 33 7,AV 34 .add 33 1,oM 7 34]))))) (.seq [0,1,2,7,8] (sr [0,1,2,7,8,37] [oM 35 7,oM 36 2,oG 37 .eql 35 36] (.cond (.t 37) (sr [6] [A0 6 true] .ret) .skip)) (.seq [0,1,2,7,8] (sr [0,1,2,7,8,41] [oM 38 2,oM 39 1,oG 40 .sub 38 39,AV 41 .lss 40 50] (.cond (.t 41) (sr [6] [A0 6 false] .ret) .skip)) (.seq [0,1,2,7,8] (.A9 [0,1,2,7,8] [dO 0 (oM 42 0),dO 1 (oM 43 7),dO 2 (oM 44 0),dO 3 (oM 45 7),dO 4 (AV 46 .sub 45 1),dO 5 (oM 47 0),dO 6 (oM 48 7),dO 7 (AV 49 .sub 48 1),dO 8 (oI 50 1 47 49),dO 9 (oL 51 50),dO 10 (oM 52 0),dO 11 (oM 53 7),dO 12 (oI 54 1 52 53),dO 13 (oL 55 54),dO 14 (oI 56 1 42 43),dO 15 (oS 1 56 51),dO 16 (oI 57 1 44 46),dO 17 (oS 1 57 55)]) (.seq [0,1,2,7,8] (sr [0,1,2,7,8,61] [oM 58 7,oM 59 1,oG 60 .sub 58 59,AV 61 .geq 60 2] (.cond (.t 61) (sr [0,1,2,7,8,9] [oM 62 7,AV 63 .sub 62 1,oM 9 63] (.block 4 (.loop [0,1,2,7,8,9] (.seq [0,1,2,7,8,9] (sr [0,1,2,7,8,9,65] [oM 64 9,AV 65 .geq 64 1] (.cond (.t 65) .skip (.exit 4))) (.seq [0,1,2,7,8,9] (.block 5 (.seq [0,1,2,7,8,9] (.seq [0,1,2,7,8,9,78] (.A9 [0,1,2,7,8,9,78] [dO 0 (oM 68 0),dO 1 (oM 69 9),dO 2 (oI 70 1 68 69),dO 3 (oL 71 70),dO 4 (oM 72 0),dO 5 (oM 73 9),dO 6 (AV 74 .sub 73 1),dO 7 (oI 75 1 72 74),dO 8 (oL 76 75),dO 9 (CK 77 202 71 76),dO 10 (oN 78 77)]) (.cond (.t 78) (.exit 4) .skip)) (.A9 [0,1,2,7,8,9] [dO 0 (oM 79 0),dO 1 (oM 80 9),dO 2 (oM 81 0),dO 3 (oM 82 9),dO 4 (AV 83 .sub 82 1),dO 5 (oM 84 0),dO 6 (oM 85 9),dO 7 (AV 86 .sub 85 1),dO 8 (oI 87 1 84 86),dO 9 (oL 88 87),dO 10 (oM 89 0),dO 11 (oM 90 9),dO 12 (oI 91 1 89 90),dO 13 (oL 92 91),dO 14 (oI 93 1 79 80),dO 15 (oS 1 93 88),dO 16 (oI 94 1 81 83),dO 17 (oS 1 94 92)]))) (.Am [oM 66 9,AV 67 .sub 66 1,oM 9 67])))))) .skip)) (sr [0,1,2,7,8,98] [oM 95 2,oM 96 7,oG 97 .sub 95 96,AV 98 .geq 97 2] (.cond (.t 98) (sr [0,1,2,7,8,10] [oM 99 7,AV 100 .add 99 1,oM 10 100] (.block 6 (.loop [0,1,2,7,8,10] (.seq [0,1,2,7,8,10] (sr [0,1,2,7,8,10,103] [oM 101 10,oM 102 2,oG 103 .lss 101 102] (.cond (.t 103) .skip (.exit 6))) (.seq [0,1,2,7,8,10] (.block 7 (.seq [0,1,2,7,8,10] (.seq [0,1,2,7,8,10,116] (.A9 [0,1,2,7,8,10,116] [dO 0 (oM 106 0),dO 1 (oM 107 10),dO 2 (oI 108 1 106 107),dO 3 (oL 109 108),dO 4 (oM 110 0),dO 5 (oM 111 10),dO 6 (AV 112 .sub 111 1),dO 7 (oI 113 1 110 112),dO 8 (oL 114 113),dO 9 (CK 115 202 109 114),dO 10 (oN 116 115)]) (.cond (.t 116) (.exit 6) .skip)) (.A9 [0,1,2,7,8,10] [dO 0 (oM 117 0),dO 1 (oM 118 10),dO 2 (oM 119 0),dO 3 (oM 120 10),dO 4 (AV 121 .sub 120 1),dO 5 (oM 122 0),dO 6 (oM 123 10),dO 7 (AV 124 .sub 123 1),dO 8 (oI 125 1 122 124),dO 9 (oL 126 125),dO 10 (oM 127 0),dO 11 (oM 128 10),dO 12 (oI 129 1 127 128),dO 13 (oL 130 129),dO 14 (oI 131 1 117 118),dO 15 (oS 1 131 126),dO 16 (oI 132 1 119 121),dO 17 (oS 1 132 130)]))) (.Am [oM 104 10,AV 105 .add 104 1,oM 10 105])))))) .skip)))))))) (.Am [oM 15 8,AV 16 .add 15 1,oM 8 16])))))) (sr [6] [A0 6 false] .ret))))
def nS:BN:= .fn 133 ABW [.t 6]
theorem iZ:AZ Tryz.prog 201 nS:=kT Tryz.func201
abbrev ABV:AK:=(sr [0,1] [A0 4 false] (sr [4] [oM 5 0,oC 6 248 5,oM 7 6,Aw 8 1 7,C7 9 (.call 248 [(.t 8)]) 7,JZ 10 9 7,oP 11 7 10,oM 12 11,BW 13 0 12,BW 14 1 12,Gu 15 .lss 13 14 12,oQ 16 12 15,oM 4 16] .ret))
def nR:BN:= .fn 17 ABV [.t 4]
theorem iY:AZ Tryz.prog 202 nR:=kT Tryz.func202
abbrev ABU:AK:=(sr [0,1,2,3] [BD 8 0] (.seq [0,1,2] (.A9 [0,1,2] [dO 0 (oM 11 0),dO 1 (oM 12 1),dO 2 (oM 13 0),dO 3 (oM 14 3),dO 4 (oM 15 0),dO 5 (oM 16 3),dO 6 (oI 17 1 15 16),dO 7 (oL 18 17),dO 8 (oM 19 0),dO 9 (oM 20 1),dO 10 (oI 21 1 19 20),dO 11 (oL 22 21),dO 12 (oI 23 1 11 12),dO 13 (oS 1 23 18),dO 14 (oI 24 1 13 14),dO 15 (oS 1 24 22)]) (sr [0,1,9,10] [oM 25 1,AV 26 .add 25 1,oM 27 2,AV 28 .sub 27 1,oM 9 26,oM 10 28] (.seq [9] (.block 0 (.loop [0,1,9,10] (.block 1 (.seq [0,1,9,10] (.block 2 (.loop [0,1,9,10] (.seq [0,1,9,10] (.seq [0,1,9,10,43] (.A9 [0,1,9,10,43] [dO 0 (oM 29 9),dO 1 (oM 30 10),dO 2 (oG 31 .leq 29 30),dO 3 (oM 32 31),dO 4 (Aw 33 0 32),dO 5 (Aw 34 1 32),dO 6 (FB 35 1 33 34 32),dO 7 (Au 36 35 32),dO 8 (Aw 37 0 32),dO 9 (Aw 38 9 32),dO 10 (FB 39 1 37 38 32),dO 11 (Au 40 39 32),dO 12 (C7 41 (.call 202 [(.t 36),(.t 40)]) 32),dO 13 (JZ 42 41 32),dO 14 (oP 43 32 42)]) (.cond (.t 43) .skip (.exit 2))) (.block 3 (.Am [oM 44 9,AV 45 .add 44 1,oM 9 45]))))) (.seq [0,1,9,10] (.block 4 (.loop [0,1,9,10] (.seq [0,1,9,10] (.seq [0,1,9,10,59] (.A9 [0,1,9,10,59] [dO 0 (oM 46 9),dO 1 (oM 47 10),dO 2 (oG 48 .leq 46 47),dO 3 (oM 49 48),dO 4 (Aw 50 0 49),dO 5 (Aw 51 1 49),dO 6 (FB 52 1 50 51 49),dO 7 (Au 53 52 49),dO 8 (Aw 54 0 49),dO 9 (Aw 55 10 49),dO 10 (FB 56 1 54 55 49),dO 11 (Au 57 56 49),dO 12 (C7 58 (.call 202 [(.t 53),(.t 57)]) 49),dO 13 (oP 59 49 58)]) (.cond (.t 59) .skip (.exit 4))) (.block 5 (.Am [oM 60 10,AV 61 .sub 60 1,oM 10 61]))))) (.seq [0,1,9,10] (sr [0,1,9,10,64] [oM 62 9,oM 63 10,oG 64 .gtr 62 63] (.cond (.t 64) (.exit 0) .skip)) (.seq [0,1,9,10] (.A9 [0,1,9,10] [dO 0 (oM 65 0),dO 1 (oM 66 9),dO 2 (oM 67 0),dO 3 (oM 68 10),dO 4 (oM 69 0),dO 5 (oM 70 10),dO 6 (oI 71 1 69 70),dO 7 (oL 72 71),dO 8 (oM 73 0),dO 9 (oM 74 9),dO 10 (oI 75 1 73 74),dO 11 (oL 76 75),dO 12 (oI 77 1 65 66),dO 13 (oS 1 77 72),dO 14 (oI 78 1 67 68),dO 15 (oS 1 78 76)]) (sr [0,1,9,10] [oM 79 9,AV 80 .add 79 1,oM 9 80] (.Am [oM 81 10,AV 82 .sub 81 1,oM 10 82]))))))))) (sr [8] [oM 83 9,oM 8 83] .ret)))))
def nQ:BN:= .fn 84 ABU [.t 8]
theorem iX:AZ Tryz.prog 203 nQ:=kT Tryz.func203
abbrev ABT:AK:=(sr [0,1,2,3] [BD 8 0,A0 9 false] (.seq [0,1,2] (.A9 [0,1,2] [dO 0 (oM 12 0),dO 1 (oM 13 1),dO 2 (oM 14 0),dO 3 (oM 15 3),dO 4 (oM 16 0),dO 5 (oM 17 3),dO 6 (oI 18 1 16 17),dO 7 (oL 19 18),dO 8 (oM 20 0),dO 9 (oM 21 1),dO 10 (oI 22 1 20 21),dO 11 (oL 23 22),dO 12 (oI 24 1 12 13),dO 13 (oS 1 24 19),dO 14 (oI 25 1 14 15),dO 15 (oS 1 25 23)]) (sr [0,1,10,11] [oM 26 1,AV 27 .add 26 1,oM 28 2,AV 29 .sub 28 1,oM 10 27,oM 11 29] (.seq [0,1,10,11] (.block 0 (.loop [0,1,10,11] (.seq [0,1,10,11] (.seq [0,1,10,11,43] (.A9 [0,1,10,11,43] [dO 0 (oM 30 10),dO 1 (oM 31 11),dO 2 (oG 32 .leq 30 31),dO 3 (oM 33 32),dO 4 (Aw 34 0 33),dO 5 (Aw 35 10 33),dO 6 (FB 36 1 34 35 33),dO 7 (Au 37 36 33),dO 8 (Aw 38 0 33),dO 9 (Aw 39 1 33),dO 10 (FB 40 1 38 39 33),dO 11 (Au 41 40 33),dO 12 (C7 42 (.call 202 [(.t 37),(.t 41)]) 33),dO 13 (oP 43 33 42)]) (.cond (.t 43) .skip (.exit 0))) (.block 1 (.Am [oM 44 10,AV 45 .add 44 1,oM 10 45]))))) (.seq [0,1,10,11] (.block 2 (.loop [0,1,10,11] (.seq [0,1,10,11] (.seq [0,1,10,11,60] (.A9 [0,1,10,11,60] [dO 0 (oM 46 10),dO 1 (oM 47 11),dO 2 (oG 48 .leq 46 47),dO 3 (oM 49 48),dO 4 (Aw 50 0 49),dO 5 (Aw 51 11 49),dO 6 (FB 52 1 50 51 49),dO 7 (Au 53 52 49),dO 8 (Aw 54 0 49),dO 9 (Aw 55 1 49),dO 10 (FB 56 1 54 55 49),dO 11 (Au 57 56 49),dO 12 (C7 58 (.call 202 [(.t 53),(.t 57)]) 49),dO 13 (JZ 59 58 49),dO 14 (oP 60 49 59)]) (.cond (.t 60) .skip (.exit 2))) (.block 3 (.Am [oM 61 11,AV 62 .sub 61 1,oM 11 62]))))) (.seq [0,1,10,11] (sr [0,1,10,11,65] [oM 63 10,oM 64 11,oG 65 .gtr 63 64] (.cond (.t 65) (.seq [11] (.A9 [11] [dO 0 (oM 66 0),dO 1 (oM 67 11),dO 2 (oM 68 0),dO 3 (oM 69 1),dO 4 (oM 70 0),dO 5 (oM 71 1),dO 6 (oI 72 1 70 71),dO 7 (oL 73 72),dO 8 (oM 74 0),dO 9 (oM 75 11),dO 10 (oI 76 1 74 75),dO 11 (oL 77 76),dO 12 (oI 78 1 66 67),dO 13 (oS 1 78 73),dO 14 (oI 79 1 68 69),dO 15 (oS 1 79 77)]) (sr [8,9] [oM 80 11,oM 8 80,A0 9 true] .ret)) .skip)) (.seq [0,1,10,11] (.A9 [0,1,10,11] [dO 0 (oM 81 0),dO 1 (oM 82 10),dO 2 (oM 83 0),dO 3 (oM 84 11),dO 4 (oM 85 0),dO 5 (oM 86 11),dO 6 (oI 87 1 85 86),dO 7 (oL 88 87),dO 8 (oM 89 0),dO 9 (oM 90 10),dO 10 (oI 91 1 89 90),dO 11 (oL 92 91),dO 12 (oI 93 1 81 82),dO 13 (oS 1 93 88),dO 14 (oI 94 1 83 84),dO 15 (oS 1 94 92)]) (sr [0,1,10,11] [oM 95 10,AV 96 .add 95 1,oM 10 96] (sr [0,1,10,11] [oM 97 11,AV 98 .sub 97 1,oM 11 98] (.seq [0,1,11] (.block 4 (.loop [0,1,10,11] (.block 5 (.seq [0,1,10,11] (.block 6 (.loop [0,1,10,11] (.seq [0,1,10,11] (.seq [0,1,10,11,112] (.A9 [0,1,10,11,112] [dO 0 (oM 99 10),dO 1 (oM 100 11),dO 2 (oG 101 .leq 99 100),dO 3 (oM 102 101),dO 4 (Aw 103 0 102),dO 5 (Aw 104 10 102),dO 6 (FB 105 1 103 104 102),dO 7 (Au 106 105 102),dO 8 (Aw 107 0 102),dO 9 (Aw 108 1 102),dO 10 (FB 109 1 107 108 102),dO 11 (Au 110 109 102),dO 12 (C7 111 (.call 202 [(.t 106),(.t 110)]) 102),dO 13 (oP 112 102 111)]) (.cond (.t 112) .skip (.exit 6))) (.block 7 (.Am [oM 113 10,AV 114 .add 113 1,oM 10 114]))))) (.seq [0,1,10,11] (.block 8 (.loop [0,1,10,11] (.seq [0,1,10,11] (.seq [0,1,10,11,129] (.A9 [0,1,10,11,129] [dO 0 (oM 115 10),dO 1 (oM 116 11),dO 2 (oG 117 .leq 115 116),dO 3 (oM 118 117),dO 4 (Aw 119 0 118),dO 5 (Aw 120 11 118),dO 6 (FB 121 1 119 120 118),dO 7 (Au 122 121 118),dO 8 (Aw 123 0 118),dO 9 (Aw 124 1 118),dO 10 (FB 125 1 123 124 118),dO 11 (Au 126 125 118),dO 12 (C7 127 (.call 202 [(.t 122),(.t 126)]) 118),dO 13 (JZ 128 127 118),dO 14 (oP 129 118 128)]) (.cond (.t 129) .skip (.exit 8))) (.block 9 (.Am [oM 130 11,AV 131 .sub 130 1,oM 11 131]))))) (.seq [0,1,10,11] (sr [0,1,10,11,134] [oM 132 10,oM 133 11,oG 134 .gtr 132 133] (.cond (.t 134) (.exit 4) .skip)) (.seq [0,1,10,11] (.A9 [0,1,10,11] [dO 0 (oM 135 0),dO 1 (oM 136 10),dO 2 (oM 137 0),dO 3 (oM 138 11),dO 4 (oM 139 0),dO 5 (oM 140 11),dO 6 (oI 141 1 139 140),dO 7 (oL 142 141),dO 8 (oM 143 0),dO 9 (oM 144 10),dO 10 (oI 145 1 143 144),dO 11 (oL 146 145),dO 12 (oI 147 1 135 136),dO 13 (oS 1 147 142),dO 14 (oI 148 1 137 138),dO 15 (oS 1 148 146)]) (sr [0,1,10,11] [oM 149 10,AV 150 .add 149 1,oM 10 150] (.Am [oM 151 11,AV 152 .sub 151 1,oM 11 152]))))))))) (.seq [11] (.A9 [11] [dO 0 (oM 153 0),dO 1 (oM 154 11),dO 2 (oM 155 0),dO 3 (oM 156 1),dO 4 (oM 157 0),dO 5 (oM 158 1),dO 6 (oI 159 1 157 158),dO 7 (oL 160 159),dO 8 (oM 161 0),dO 9 (oM 162 11),dO 10 (oI 163 1 161 162),dO 11 (oL 164 163),dO 12 (oI 165 1 153 154),dO 13 (oS 1 165 160),dO 14 (oI 166 1 155 156),dO 15 (oS 1 166 164)]) (sr [8,9] [oM 167 11,oM 8 167,A0 9 false] .ret))))))))))))
def nP:BN:= .fn 168 ABT [.t 8,.t 9]
theorem iW:AZ Tryz.prog 204 nP:=kT Tryz.func204
abbrev ABA:=qN
def my:BN:= .fn 11 ABA []
theorem iB:AZ Tryz.prog 224 my:=kT Tryz.func224
def aJ:List AW:=[oo 5 (.WW 257 (.a []) true (.t 4)),
    oM 3 5,
    oX 6 0 3,
    oX 7 1 3,
    oo 1 (.alloc []),
    oS 0 1 6,
    oM 2 7]
abbrev Xm:AK:=(sr [0,8] [oM 8 2] (.cond (.t 8) (.Am [⟨none,.store 1 (.t 0) (.c (.b false)),none⟩]) .skip))
theorem eW:Tryz.f229.body.bind (resRec Tryz.prog Tryz.f229.ntmps [] [])=some (4,aJ,erase Xm):=by kernel_rfl
def mo:BN:= .xp 9 4 aJ Xm [0,2]
theorem gy:AZ Tryz.prog 229 mo:=fun _ _ _ _ hn h=>JT Tryz.func229 (by kernel_rfl) eW rfl hn h
noncomputable abbrev AA5:=unB qI
noncomputable def ml:BN:= .fn 23 AA5 [.t 4]
theorem gx:AZ Tryz.prog 230 ml:=kT Tryz.func230
abbrev AA4:=qH
def mj:BN:= .fn 14 AA4 []
theorem gw:AZ Tryz.prog 231 mj:=kT Tryz.func231
abbrev ABQ:=qc
def nJ:BN:= .fn 6 ABQ [.t 2]
theorem iS:AZ Tryz.prog 208 nJ:=kT Tryz.func208
abbrev ABP:=qb
def nI:BN:= .fn 32 ABP [.t 4,.t 5]
theorem iR:AZ Tryz.prog 209 nI:=kT Tryz.func209
noncomputable abbrev ABO:=unB qa
noncomputable def nH:BN:= .fn 49 ABO [.t 4]
theorem iQ:AZ Tryz.prog 210 nH:=kT Tryz.func210
abbrev ABN:=qZ
def nG:BN:= .fn 9 ABN [.t 2]
theorem iP:AZ Tryz.prog 211 nG:=kT Tryz.func211
abbrev ABM:=qY
def nE:BN:= .fn 30 ABM [.t 4,.t 5]
theorem iO:AZ Tryz.prog 212 nE:=kT Tryz.func212
noncomputable abbrev ABy:=unB qw
noncomputable def oO:BN:= .fn 8 ABy [.t 6]
theorem jO:AZ Tryz.prog 167 oO:=kT Tryz.func167
noncomputable abbrev ABx:=unB qv
noncomputable def oJ:BN:= .fn 52 ABx [.t 6]
theorem jN:AZ Tryz.prog 168 oJ:=kT Tryz.func168
abbrev ABw:=qu
def oH:BN:= .fn 33 ABw [.t 2]
theorem jM:AZ Tryz.prog 169 oH:=kT Tryz.func169
noncomputable abbrev AAM:=unB pX
noncomputable def lj:BN:= .fn 8 AAM [.t 6]
theorem fu:AZ Tryz.prog 306 lj:=kT Tryz.func306
noncomputable abbrev AAL:=unB pW
noncomputable def lh:BN:= .fn 13 AAL [.t 6]
theorem ft:AZ Tryz.prog 307 lh:=kT Tryz.func307
abbrev ABJ:=qV
def nB:BN:= .fn 5 ABJ [.t 2]
theorem iK:AZ Tryz.prog 215 nB:=kT Tryz.func215
abbrev ABE:=qR
def m6:BN:= .fn 9 ABE [.t 2]
theorem iF:AZ Tryz.prog 220 m6:=kT Tryz.func220
abbrev ABD:=qQ
def m5:BN:= .fn 14 ABD [.t 4]
theorem iE:AZ Tryz.prog 221 m5:=kT Tryz.func221
abbrev ABC:=qP
def m4:BN:= .fn 18 ABC [.t 4]
theorem iD:AZ Tryz.prog 222 m4:=kT Tryz.func222
noncomputable abbrev ABB:=unB qO
noncomputable def mz:BN:= .fn 12 ABB [.t 5]
theorem iC:AZ Tryz.prog 223 mz:=kT Tryz.func223
abbrev AAq:=qD
def mS:BN:= .fn 19 AAq [.t 4]
theorem gd:AZ Tryz.prog 253 mS:=kT Tryz.func253
abbrev AAj:AK:=(sr [0,1] [BD 4 0] (.seq [] (sr [0,1,7,8] [oM 6 0,oE 7 6,BD 8 0] (.block 0 (.loop [0,1,7,8] (sr [0,1,7,8,9] [oG 9 .lss 8 7] (.seq [0,1,7,8] (.cond (.t 9) .skip (.exit 0)) (.seq [0,1,7,8] (.block 1 (sr [0,1,5,7,8] [oM 10 8,oM 5 10] (sr [0,1,5,7,8,16] [oM 11 1,oM 12 0,oM 13 5,oI 14 2 12 13,A2 15 2 14,oo 16 (.CC (.t 11) [(.t 15)])] (.cond (.t 16) (sr [4] [oM 17 5,oM 4 17] .ret) .skip)))) (.Am [AV 18 .add 8 1,oM 8 18]))))))) (sr [4] [BD 4 (-1)] .ret)))
def mK:BN:= .fn 19 AAj [.t 4]
theorem gU:AZ Tryz.prog 267 mK:=kT Tryz.func267
abbrev AA0:AK:=(sr [0,2,3,8] [oM 10 1,oM 8 10] (.block 0 (.loop [0,2,3,8] (.block 1 (sr [0,2,3,8,9] [oM 11 8,oo 12 (.bin .mul (.c (.i .i64 2)) (.t 11)),AV 13 .add 12 1,oM 9 13] (.seq [0,2,3,8,9] (sr [0,2,3,8,9,16] [oM 14 9,oM 15 2,oG 16 .geq 14 15] (.cond (.t 16) (.exit 0) .skip)) (.seq [0,2,3,8,9] (.seq [0,2,3,8,9,36] (.A9 [0,2,3,8,9,36] [dO 0 (oM 17 9),dO 1 (AV 18 .add 17 1),dO 2 (oM 19 2),dO 3 (oG 20 .lss 18 19),dO 4 (oM 21 20),dO 5 (Aw 22 0 21),dO 6 (Aw 23 3 21),dO 7 (Aw 24 9 21),dO 8 (EG 25 .add 23 24 21),dO 9 (FB 26 1 22 25 21),dO 10 (Au 27 26 21),dO 11 (Aw 28 0 21),dO 12 (Aw 29 3 21),dO 13 (Aw 30 9 21),dO 14 (EG 31 .add 29 30 21),dO 15 (EF 32 .add 31 1 21),dO 16 (FB 33 1 28 32 21),dO 17 (Au 34 33 21),dO 18 (C7 35 (.call 202 [(.t 27),(.t 34)]) 21),dO 19 (oP 36 21 35)]) (.cond (.t 36) (.Am [oM 37 9,AV 38 .add 37 1,oM 9 38]) .skip)) (.seq [0,2,3,8,9] (.seq [0,2,3,8,9,52] (.A9 [0,2,3,8,9,52] [dO 0 (oM 39 0),dO 1 (oM 40 3),dO 2 (oM 41 8),dO 3 (oG 42 .add 40 41),dO 4 (oI 43 1 39 42),dO 5 (oL 44 43),dO 6 (oM 45 0),dO 7 (oM 46 3),dO 8 (oM 47 9),dO 9 (oG 48 .add 46 47),dO 10 (oI 49 1 45 48),dO 11 (oL 50 49),dO 12 (CK 51 202 44 50),dO 13 (oN 52 51)]) (.cond (.t 52) .ret .skip)) (.seq [0,2,3,9] (.A9 [0,2,3,9] [dO 0 (oM 53 0),dO 1 (oM 54 3),dO 2 (oM 55 8),dO 3 (oG 56 .add 54 55),dO 4 (oM 57 0),dO 5 (oM 58 3),dO 6 (oM 59 9),dO 7 (oG 60 .add 58 59),dO 8 (oM 61 0),dO 9 (oM 62 3),dO 10 (oM 63 9),dO 11 (oG 64 .add 62 63),dO 12 (oI 65 1 61 64),dO 13 (oL 66 65),dO 14 (oM 67 0),dO 15 (oM 68 3),dO 16 (oM 69 8),dO 17 (oG 70 .add 68 69),dO 18 (oI 71 1 67 70),dO 19 (oL 72 71),dO 20 (oI 73 1 53 56),dO 21 (oS 1 73 66),dO 22 (oI 74 1 57 60),dO 23 (oS 1 74 72)]) (.Am [oM 75 9,oM 8 75]))))))))))
def mc:BN:= .fn 76 AA0 []
theorem gq:AZ Tryz.prog 243 mc:=kT Tryz.func243
abbrev AAz:AK:=(sr [0] [oo 2 (.mv (.c (.i .u64 0)))] (sr [2] [oM 3 0,oo 4 (.conv .u64 (.t 3)),oC 5 160 4,oo 6 (.bin .shl (.c (.i .u64 1)) (.t 5)),oM 2 6] .ret))
def mb:BN:= .fn 7 AAz [.t 2]
theorem gp:AZ Tryz.prog 244 mb:=kT Tryz.func244
abbrev AAy:AK:=(sr [0] [oo 2 (.mv (.c (.i .u64 0)))] (.seq [0] (.A9 [0] [dO 0 (oM 3 0),dO 1 (oK 4 3),dO 2 (oL 5 4),dO 3 (oM 6 0),dO 4 (oK 7 6),dO 5 (oL 8 7),dO 6 (oo 9 (.bin .shl (.t 8) (.c (.i .u64 13)))),dO 7 (oG 10 .xor 5 9),dO 8 (oK 11 3),dO 9 (oS 1 11 10)]) (.seq [0] (.A9 [0] [dO 0 (oM 12 0),dO 1 (oK 13 12),dO 2 (oL 14 13),dO 3 (oM 15 0),dO 4 (oK 16 15),dO 5 (oL 17 16),dO 6 (oo 18 (.bin .shr (.t 17) (.c (.i .u64 7)))),dO 7 (oG 19 .xor 14 18),dO 8 (oK 20 12),dO 9 (oS 1 20 19)]) (.seq [0] (.A9 [0] [dO 0 (oM 21 0),dO 1 (oK 22 21),dO 2 (oL 23 22),dO 3 (oM 24 0),dO 4 (oK 25 24),dO 5 (oL 26 25),dO 6 (oo 27 (.bin .shl (.t 26) (.c (.i .u64 17)))),dO 7 (oG 28 .xor 23 27),dO 8 (oK 29 21),dO 9 (oS 1 29 28)]) (sr [2] [oM 30 0,oK 31 30,oL 32 31,oM 2 32] .ret)))))
def ma:BN:= .fn 33 AAy [.t 2]
theorem gn:AZ Tryz.prog 245 ma:=kT Tryz.func245
abbrev AAx:AK:=(sr [0,1,2] [BD 6 0] (sr [6] [oM 7 0,oM 8 1,AV 9 .sub 8 1,oM 10 1,oM 11 1,AV 12 .add 11 1,oM 13 2,oo 14 (.call 247 [(.t 7),(.t 9),(.t 10),(.t 12),(.t 13)]),oM 6 14] .ret))
def mZ:BN:= .fn 15 AAx [.t 6]
theorem gm:AZ Tryz.prog 246 mZ:=kT Tryz.func246
abbrev AAw:AK:=(sr [0,1,2,3,4] [BD 10 0] (sr [0,1,2,3,4] [oM 12 0,oM 13 1,oM 14 2,oM 15 4,Q1 16 268 12 13 14 15,oM 11 16,oX 17 0 11,oX 18 1 11,oM 1 17,oM 2 18] (sr [0,1,2,4] [oM 20 0,oM 21 2,oM 22 3,oM 23 4,Q1 24 268 20 21 22 23,oM 19 24,oX 25 0 19,oX 26 1 19,oM 2 25,oM 3 26] (sr [2] [oM 28 0,oM 29 1,oM 30 2,oM 31 4,Q1 32 268 28 29 30 31,oM 27 32,oX 33 0 27,oX 34 1 27,oM 1 33,oM 2 34] (sr [10] [oM 35 2,oM 10 35] .ret)))))
def mY:BN:= .fn 36 AAw [.t 10]
theorem gl:AZ Tryz.prog 247 mY:=kT Tryz.func247
abbrev AAv:AK:=(sr [0] [A0 2 false] (sr [2] [oM 3 0,oM 4 0,oG 5 .neq 3 4,oM 2 5] .ret))
def mX:BN:= .fn 6 AAv [.t 2]
theorem gk:AZ Tryz.prog 248 mX:=kT Tryz.func248
noncomputable abbrev AA9:=unB qM
noncomputable def mw:BN:= .fn 71 AA9 [.t 7]
theorem iA:AZ Tryz.prog 225 mw:=kT Tryz.func225
noncomputable abbrev AAl:=unB p8
noncomputable def mM:BN:= .fn 79 AAl []
theorem gW:AZ Tryz.prog 259 mM:=kT Tryz.func259
noncomputable abbrev AAk:=unB p7
noncomputable def mL:BN:= .fn 28 AAk [.t 4]
theorem gV:AZ Tryz.prog 260 mL:=kT Tryz.func260
abbrev AAu:=qG
def mW:BN:= .fn 44 AAu [.t 2]
theorem gj:AZ Tryz.prog 249 mW:=kT Tryz.func249
abbrev AAt:=qF
def mV:BN:= .fn 104 AAt [.t 4,.t 5]
theorem gi:AZ Tryz.prog 250 mV:=kT Tryz.func250
abbrev AAs:AK:=(sr [0,1] [oo 4 (.mv (.c (.i .u32 0))),oo 5 (.mv (.c (.i .u32 0)))] (sr [6] [oM 7 0,oo 8 (.conv .u64 (.t 7)),oM 9 1,oo 10 (.conv .u64 (.t 9)),oG 11 .mul 8 10,oM 6 11] (sr [4,5] [oM 12 6,oo 13 (.bin .shr (.t 12) (.c (.i .u64 32))),oo 14 (.conv .u32 (.t 13)),oM 15 6,oo 16 (.conv .u32 (.t 15)),oM 4 14,oM 5 16] .ret)))
def mU:BN:= .fn 17 AAs [.t 4,.t 5]
theorem gh:AZ Tryz.prog 251 mU:=kT Tryz.func251
abbrev AAr:=qE
def mT:BN:= .fn 51 AAr [.t 4,.t 5]
theorem gg:AZ Tryz.prog 252 mT:=kT Tryz.func252
noncomputable abbrev ABL:=unB qX
noncomputable def nD:BN:= .fn 11 ABL []
theorem iN:AZ Tryz.prog 213 nD:=kT Tryz.func213
abbrev AAp:=qC
def mR:BN:= .fn 17 AAp [.t 4]
theorem gb:AZ Tryz.prog 254 mR:=kT Tryz.func254
abbrev AAi:AK:=(sr [0,1,2,3] [BD 8 0,BD 9 0] (.seq [1,2] (.seq [1,2,3,18] (.A9 [1,2,3,18] [dO 0 (oM 10 0),dO 1 (oM 11 2),dO 2 (oI 12 1 10 11),dO 3 (oL 13 12),dO 4 (oM 14 0),dO 5 (oM 15 1),dO 6 (oI 16 1 14 15),dO 7 (oL 17 16),dO 8 (CK 18 202 13 17)]) (.cond (.t 18) (sr [1,2] [oM 19 3,oK 20 19,oL 21 20,AV 22 .add 21 1,oK 23 19,oS 1 23 22] (sr [8,9] [oM 24 2,oM 25 1,oM 8 24,oM 9 25] .ret)) .skip)) (sr [8,9] [oM 26 1,oM 27 2,oM 8 26,oM 9 27] .ret)))
def mJ:BN:= .fn 28 AAi [.t 8,.t 9]
theorem gT:AZ Tryz.prog 268 mJ:=kT Tryz.func268
noncomputable abbrev AA8:=unB qL
noncomputable def mu:BN:= .fn 15 AA8 [.t 6]
theorem hZ:AZ Tryz.prog 226 mu:=kT Tryz.func226
abbrev AAb:AK:=(sr [0,3] [oB 3 1,oo 4 (.mv (.c .pn))] (.seq [0,3,5,6] (.A9 [0,3,5,6] [dO 0 (oM 8 0),dO 1 (oK 9 8),dO 2 (oF 10 1 9),dO 3 (oL 11 10),dO 4 (A2 12 4 3),dO 5 (oo 13 (.lookup (.a [.i64,.i64,.i64,.i64]) .pn true (.t 11) (.t 12))),dO 6 (oM 7 13),dO 7 (oX 14 0 7),dO 8 (oX 15 1 7),dO 9 (oM 5 14),dO 10 (oM 6 15)]) (.seq [5] (sr [0,3,5,17] [oM 16 6,oN 17 16] (.cond (.t 17) (sr [0,3,5] [oo 18 (.build [(.i .i64 0),(.i .i64 0),(.l [] true)] [(0,1,(.c (.i .i64 (-1000000000)))),(1,1,(.c (.i .i64 1000000000)))]),oo 19 (.build [(.i .i64 0),(.i .i64 0),(.l [] true),(.i .u64 0),(.i .u64 0),(.b false),(.b false),(.l [] true)] [(0,3,(.t 18))]),oB 20 19,oM 5 20] (.A9 [5] [dO 0 (oM 21 0),dO 1 (oK 22 21),dO 2 (oF 23 1 22),dO 3 (oL 24 23),dO 4 (A2 25 4 3),dO 5 (oM 26 5),⟨6,⟨none,.DO (.a [.i64,.i64,.i64,.i64]) (.t 24) (.t 25) (.t 26),none⟩,[],[]⟩])) .skip)) (sr [4] [oM 27 5,oM 4 27] .ret))))
def mC:BN:= .fn 28 AAb [.t 4]
theorem gM:AZ Tryz.prog 275 mC:=kT Tryz.func275
abbrev AAa:=pv
def mB:BN:= .fn 15 AAa [.c 4 (some 4)]
theorem gL:AZ Tryz.prog 276 mB:=kT Tryz.func276
noncomputable abbrev AAZ:=unB pt
noncomputable def mA:BN:= .fn 130 AAZ []
theorem gK:AZ Tryz.prog 277 mA:=kT Tryz.func277
noncomputable abbrev AAY:=unB pq
noncomputable def l9:BN:= .fn 38 AAY [.t 4,.t 5]
theorem gJ:AZ Tryz.prog 278 l9:=kT Tryz.func278
noncomputable abbrev AAX:=unB po
noncomputable def l8:BN:= .fn 17 AAX [.t 4]
theorem gI:AZ Tryz.prog 279 l8:=kT Tryz.func279
noncomputable abbrev AAW:=unB pj
noncomputable def l7:BN:= .fn 136 AAW [.t 4,.t 5]
theorem gG:AZ Tryz.prog 280 l7:=kT Tryz.func280
abbrev AAh:=p6
def mI:BN:= .fn 12 AAh [.c 4 (some 1)]
theorem gS:AZ Tryz.prog 269 mI:=kT Tryz.func269
noncomputable abbrev AAg:=unB pz
noncomputable def mH:BN:= .fn 12 AAg [.c 4 (some 1)]
theorem gR:AZ Tryz.prog 270 mH:=kT Tryz.func270
abbrev AAf:=py
def mG:BN:= .fn 40 AAf []
theorem gQ:AZ Tryz.prog 271 mG:=kT Tryz.func271
noncomputable abbrev ABK:=unB qW
noncomputable def nC:BN:= .fn 55 ABK [.t 7]
theorem iM:AZ Tryz.prog 214 nC:=kT Tryz.func214
abbrev AA7:=qK
def mr:BN:= .fn 10 AA7 [.t 4]
theorem hX:AZ Tryz.prog 227 mr:=kT Tryz.func227
noncomputable abbrev AAT:=unB pf
noncomputable def lz:BN:= .fn 35 AAT [.t 6]
theorem gD:AZ Tryz.prog 284 lz:=kT Tryz.func284
abbrev AAV:=ph
def l6:BN:= .fn 50 AAV [.t 4,.t 5]
theorem gF:AZ Tryz.prog 282 l6:=kT Tryz.func282
noncomputable abbrev AAU:=unB pg
noncomputable def l5:BN:= .fn 66 AAU [.t 2,.t 3]
theorem gE:AZ Tryz.prog 283 l5:=kT Tryz.func283
abbrev AA6:=qJ
def mq:BN:= .fn 26 AA6 [.t 4]
theorem gz:AZ Tryz.prog 228 mq:=kT Tryz.func228
noncomputable abbrev AAP:=unB pb
noncomputable def lq:BN:= .fn 13 AAP [.t 4]
theorem fy:AZ Tryz.prog 288 lq:=kT Tryz.func288
abbrev AAS:=pd
def ly:BN:= .fn 5 AAS [.t 2]
theorem gC:AZ Tryz.prog 285 ly:=kT Tryz.func285
abbrev AAQ:=Z2
def lr:BN:= .fn 7 AAQ [.t 3]
theorem gA:AZ Tryz.prog 287 lr:=kT Tryz.func287
abbrev AAR:=pc
def lu:BN:= .fn 23 AAR [.t 4]
theorem gB:AZ Tryz.prog 286 lu:=kT Tryz.func286
theorem ed:Tryz.f255.body.bind (res Tryz.prog Tryz.f255.ntmps [] [])=some (erase (Ns 7 88)):=by kernel_rfl
def mQ:BN:= .U9 (Rr 7)
theorem ga:AZ Tryz.prog 255 mQ:=UC (sz:=7) (b:=88) (fun _ _ _ hn h=>Fi Tryz.func255 (by kernel_rfl) ed (by kernel_rfl) hn h) nb
noncomputable abbrev AAn:=unB qA
noncomputable def mO:BN:= .fn 16 AAn [.t 3]
theorem gY:AZ Tryz.prog 257 mO:=kT Tryz.func257
abbrev AAo:=qB
def mP:BN:= .fn 9 AAo [.t 4]
theorem gZ:AZ Tryz.prog 256 mP:=kT Tryz.func256
abbrev AAN:=pY
def lk:BN:= .fn 14 AAN [.t 4]
theorem fv:AZ Tryz.prog 290 lk:=kT Tryz.func290
abbrev AAO:=pZ
def ln:BN:= .fn 5 AAO [.t 2]
theorem fw:AZ Tryz.prog 289 ln:=kT Tryz.func289
noncomputable abbrev AAm:=unB p9
noncomputable def mN:BN:= .fn 45 AAm [.t 4]
theorem gX:AZ Tryz.prog 258 mN:=kT Tryz.func258
abbrev AAe:=px
def mF:BN:= .fn 19 AAe [.t 4]
theorem gP:AZ Tryz.prog 272 mF:=kT Tryz.func272
abbrev AAd:=Z3
def mE:BN:= .fn 26 AAd [.t 4]
theorem gO:AZ Tryz.prog 273 mE:=kT Tryz.func273
abbrev AAc:=pw
def mD:BN:= .fn 32 AAc [.t 6]
theorem gN:AZ Tryz.prog 274 mD:=kT Tryz.func274
noncomputable def Fj:Tr BN:=(.node none (.node none (.node none (.node none (.node (some y2) (.node (some yw) (.node none (.node none (.node (some mQ) .leaf .leaf) .leaf) (.node (some nc) .leaf .leaf)) (.node none (.node (some oa) (.node (some lr) .leaf .leaf) .leaf) (.node (some mz) .leaf .leaf))) (.node none (.node (some yX) (.node (some ot) (.node (some mG) .leaf .leaf) .leaf) (.node (some nK) .leaf .leaf)) (.node none (.node (some nz) .leaf .leaf) (.node (some mf) .leaf .leaf)))) (.node none (.node none (.node (some ye) (.node (some o6) .leaf .leaf) (.node (some nU) .leaf .leaf)) (.node (some pK) (.node (some oO) .leaf .leaf) (.node (some mj) .leaf .leaf))) (.node none (.node none (.node (some oe) (.node (some l8) .leaf .leaf) .leaf) (.node (some nB) .leaf .leaf)) (.node none (.node (some nk) .leaf .leaf) (.node (some mY) .leaf .leaf))))) (.node none (.node (some y0) (.node none (.node (some yg) (.node none (.node (some mM) .leaf .leaf) .leaf) .leaf) (.node (some yP) (.node (some oV) .leaf .leaf) (.node (some mr) .leaf .leaf))) (.node (some ym) (.node (some yT) (.node (some om) (.node (some mC) .leaf .leaf) .leaf) (.node (some nG) .leaf .leaf)) (.node (some pC) (.node (some nt) (.node (some lh) .leaf .leaf) .leaf) (.node (some mc) .leaf .leaf)))) (.node none (.node (some yu) (.node (some ya) (.node (some oy) (.node (some mK) .leaf .leaf) .leaf) (.node (some nQ) .leaf .leaf)) (.node (some pH) (.node (some n9) .leaf .leaf) .leaf)) (.node none (.node none (.node none (.node (some l5) .leaf .leaf) .leaf) (.node (some m7) .leaf .leaf)) (.node none (.node (some ni) .leaf .leaf) (.node (some mU) .leaf .leaf)))))) (.node none (.node none (.node (some y1) (.node none (.node none (.node none (.node (some mO) .leaf .leaf) .leaf) (.node (some nZ) .leaf .leaf)) (.node none (.node (some oY) (.node (some ln) .leaf .leaf) .leaf) (.node (some mw) .leaf .leaf))) (.node (some yo) (.node (some yV) (.node none (.node (some mE) .leaf .leaf) .leaf) (.node (some nI) .leaf .leaf)) (.node none (.node (some nv) .leaf .leaf) .leaf))) (.node none (.node none (.node (some yc) (.node (some o0) .leaf .leaf) (.node (some nS) .leaf .leaf)) (.node (some pI) (.node (some oH) .leaf .leaf) .leaf)) (.node (some yj) (.node none .leaf (.node (some m9) .leaf .leaf)) (.node none .leaf (.node (some mW) .leaf .leaf))))) (.node none (.node none (.node none (.node (some yf) .leaf (.node (some nX) .leaf .leaf)) (.node (some pN) (.node (some oT) .leaf .leaf) (.node (some mo) .leaf .leaf))) (.node none (.node (some yR) (.node (some oh) (.node (some mA) .leaf .leaf) .leaf) (.node (some nD) .leaf .leaf)) (.node (some pA) (.node (some nq) .leaf .leaf) (.node (some ma) .leaf .leaf)))) (.node none (.node (some yq) (.node none (.node (some ow) (.node (some mI) .leaf .leaf) .leaf) (.node (some nN) .leaf .leaf)) (.node (some pF) (.node (some n6) .leaf .leaf) (.node (some mh) .leaf .leaf))) (.node none (.node none (.node none (.node (some ly) .leaf .leaf) .leaf) (.node (some m5) .leaf .leaf)) (.node none (.node (some ng) .leaf .leaf) (.node (some mS) .leaf .leaf))))))) (.node none (.node none (.node none (.node none (.node none (.node none (.node none (.node (some mP) .leaf .leaf) .leaf) (.node (some na) .leaf .leaf)) (.node none (.node (some oZ) (.node (some lq) .leaf .leaf) .leaf) (.node (some my) .leaf .leaf))) (.node (some yp) (.node (some yW) (.node none (.node (some mF) .leaf .leaf) .leaf) (.node (some nJ) .leaf .leaf)) (.node none (.node (some ny) .leaf .leaf) .leaf))) (.node none (.node none (.node (some yd) (.node (some o5) .leaf .leaf) (.node (some nT) .leaf .leaf)) (.node (some pJ) (.node (some oJ) .leaf .leaf) .leaf)) (.node (some yk) (.node none (.node (some od) (.node (some l7) .leaf .leaf) .leaf) (.node (some nA) .leaf .leaf)) (.node none .leaf (.node (some mX) .leaf .leaf))))) (.node (some y4) (.node (some yz) (.node none (.node none (.node (some o7) (.node (some mL) .leaf .leaf) .leaf) (.node (some nY) .leaf .leaf)) (.node none (.node (some oU) .leaf .leaf) (.node (some mq) .leaf .leaf))) (.node none (.node (some yS) (.node (some oj) (.node (some mB) .leaf .leaf) .leaf) (.node (some nE) .leaf .leaf)) (.node (some pB) (.node (some nr) .leaf .leaf) (.node (some mb) .leaf .leaf)))) (.node none (.node (some yr) (.node (some yZ) (.node (some ox) (.node (some mJ) .leaf .leaf) .leaf) (.node (some nP) .leaf .leaf)) (.node (some pG) (.node (some n8) .leaf .leaf) .leaf)) (.node none (.node none (.node none (.node (some lz) .leaf .leaf) .leaf) (.node (some m6) .leaf .leaf)) (.node none (.node (some nh) .leaf .leaf) (.node (some mT) .leaf .leaf)))))) (.node none (.node none (.node none (.node none (.node (some yh) (.node none (.node (some mN) .leaf .leaf) .leaf) .leaf) (.node (some yQ) (.node (some oW) (.node (some lk) .leaf .leaf) .leaf) (.node (some mu) .leaf .leaf))) (.node (some yn) (.node (some yU) (.node (some oq) (.node (some mD) .leaf .leaf) .leaf) (.node (some nH) .leaf .leaf)) (.node (some pD) (.node (some nu) (.node (some lj) .leaf .leaf) .leaf) .leaf))) (.node none (.node (some yv) (.node (some yb) (.node (some oz) .leaf .leaf) (.node (some nR) .leaf .leaf)) (.node none (.node (some oD) .leaf .leaf) .leaf)) (.node (some yi) (.node none (.node none (.node (some l6) .leaf .leaf) .leaf) (.node (some m8) .leaf .leaf)) (.node none (.node (some nj) .leaf .leaf) (.node (some mV) .leaf .leaf))))) (.node (some y3) (.node (some yy) (.node none (.node none .leaf (.node (some nV) .leaf .leaf)) (.node (some pM) (.node (some oR) .leaf .leaf) (.node (some ml) .leaf .leaf))) (.node (some yl) (.node none (.node (some og) (.node (some l9) .leaf .leaf) .leaf) (.node (some nC) .leaf .leaf)) (.node (some o8) (.node (some np) .leaf .leaf) (.node (some mZ) .leaf .leaf)))) (.node (some yx) (.node none (.node (some yY) (.node (some ou) (.node (some mH) .leaf .leaf) .leaf) (.node (some nM) .leaf .leaf)) (.node (some pE) (.node (some n4) .leaf .leaf) (.node (some mg) .leaf .leaf))) (.node none (.node none (.node none (.node (some lu) .leaf .leaf) .leaf) (.node (some m4) .leaf .leaf)) (.node none (.node (some nf) .leaf .leaf) (.node (some mR) .leaf .leaf))))))))
theorem CE:P7 (fun i=>AZ Tryz.prog i) id Fj:=(AJ AT (AJ AT (AJ AT (AJ AT (AJ (AL uP) (AJ (AL uJ) (AJ AT (AJ AT (AJ (AL ga) AI AI) AI) (AJ (AL il) AI AI)) (AJ AT (AJ (AL jW) (AJ (AL gA) AI AI) AI) (AJ (AL iC) AI AI))) (AJ AT (AJ (AL tj) (AJ (AL je) (AJ (AL gQ) AI AI) AI) (AJ (AL iT) AI AI)) (AJ AT (AJ (AL jG) AI AI) (AJ (AL gr) AI AI)))) (AJ AT (AJ AT (AJ (AL ts) (AJ (AL jm) AI AI) (AJ (AL ib) AI AI)) (AJ (AL j0) (AJ (AL jO) AI AI) (AJ (AL gw) AI AI))) (AJ AT (AJ AT (AJ (AL jY) (AJ (AL gI) AI AI) AI) (AJ (AL iK) AI AI)) (AJ AT (AJ (AL iy) AI AI) (AJ (AL gl) AI AI))))) (AJ AT (AJ (AL uN) (AJ AT (AJ (AL tu) (AJ AT (AJ (AL gW) AI AI) AI) AI) (AJ (AL tb) (AJ (AL jS) AI AI) (AJ (AL hX) AI AI))) (AJ (AL uB) (AJ (AL tf) (AJ (AL jc) (AJ (AL gM) AI AI) AI) (AJ (AL iP) AI AI)) (AJ (AL js) (AJ (AL jC) (AJ (AL ft) AI AI) AI) (AJ (AL gq) AI AI)))) (AJ AT (AJ (AL uH) (AJ (AL tn) (AJ (AL ji) (AJ (AL gU) AI AI) AI) (AJ (AL iX) AI AI)) (AJ (AL jx) (AJ (AL jK) AI AI) AI)) (AJ AT (AJ AT (AJ AT (AJ (AL gE) AI AI) AI) (AJ (AL iG) AI AI)) (AJ AT (AJ (AL iv) AI AI) (AJ (AL gh) AI AI)))))) (AJ AT (AJ AT (AJ (AL uO) (AJ AT (AJ AT (AJ AT (AJ (AL gY) AI AI) AI) (AJ (AL ij) AI AI)) (AJ AT (AJ (AL jU) (AJ (AL fw) AI AI) AI) (AJ (AL iA) AI AI))) (AJ (AL uD) (AJ (AL th) (AJ AT (AJ (AL gO) AI AI) AI) (AJ (AL iR) AI AI)) (AJ AT (AJ (AL jE) AI AI) AI))) (AJ AT (AJ AT (AJ (AL tq) (AJ (AL jk) AI AI) (AJ (AL iZ) AI AI)) (AJ (AL jy) (AJ (AL jM) AI AI) AI)) (AJ (AL tx) (AJ AT AI (AJ (AL iI) AI AI)) (AJ AT AI (AJ (AL gj) AI AI))))) (AJ AT (AJ AT (AJ AT (AJ (AL tt) AI (AJ (AL ie) AI AI)) (AJ (AL j4) (AJ (AL jQ) AI AI) (AJ (AL gy) AI AI))) (AJ AT (AJ (AL td) (AJ (AL ja) (AJ (AL gK) AI AI) AI) (AJ (AL iN) AI AI)) (AJ (AL jq) (AJ (AL jA) AI AI) (AJ (AL gn) AI AI)))) (AJ AT (AJ (AL uF) (AJ AT (AJ (AL jg) (AJ (AL gS) AI AI) AI) (AJ (AL iV) AI AI)) (AJ (AL jv) (AJ (AL jI) AI AI) (AJ (AL gv) AI AI))) (AJ AT (AJ AT (AJ AT (AJ (AL gC) AI AI) AI) (AJ (AL iE) AI AI)) (AJ AT (AJ (AL ir) AI AI) (AJ (AL gd) AI AI))))))) (AJ AT (AJ AT (AJ AT (AJ AT (AJ AT (AJ AT (AJ AT (AJ (AL gZ) AI AI) AI) (AJ (AL ik) AI AI)) (AJ AT (AJ (AL jV) (AJ (AL fy) AI AI) AI) (AJ (AL iB) AI AI))) (AJ (AL uE) (AJ (AL ti) (AJ AT (AJ (AL gP) AI AI) AI) (AJ (AL iS) AI AI)) (AJ AT (AJ (AL jF) AI AI) AI))) (AJ AT (AJ AT (AJ (AL tr) (AJ (AL jl) AI AI) (AJ (AL ia) AI AI)) (AJ (AL jz) (AJ (AL jN) AI AI) AI)) (AJ (AL tz) (AJ AT (AJ (AL jX) (AJ (AL gG) AI AI) AI) (AJ (AL iJ) AI AI)) (AJ AT AI (AJ (AL gk) AI AI))))) (AJ (AL uR) (AJ (AL uM) (AJ AT (AJ AT (AJ (AL jn) (AJ (AL gV) AI AI) AI) (AJ (AL ig) AI AI)) (AJ AT (AJ (AL jR) AI AI) (AJ (AL gz) AI AI))) (AJ AT (AJ (AL te) (AJ (AL jb) (AJ (AL gL) AI AI) AI) (AJ (AL iO) AI AI)) (AJ (AL jr) (AJ (AL jB) AI AI) (AJ (AL gp) AI AI)))) (AJ AT (AJ (AL uG) (AJ (AL tl) (AJ (AL jh) (AJ (AL gT) AI AI) AI) (AJ (AL iW) AI AI)) (AJ (AL jw) (AJ (AL jJ) AI AI) AI)) (AJ AT (AJ AT (AJ AT (AJ (AL gD) AI AI) AI) (AJ (AL iF) AI AI)) (AJ AT (AJ (AL iu) AI AI) (AJ (AL gg) AI AI)))))) (AJ AT (AJ AT (AJ AT (AJ AT (AJ (AL tv) (AJ AT (AJ (AL gX) AI AI) AI) AI) (AJ (AL tc) (AJ (AL jT) (AJ (AL fv) AI AI) AI) (AJ (AL hZ) AI AI))) (AJ (AL uC) (AJ (AL tg) (AJ (AL jd) (AJ (AL gN) AI AI) AI) (AJ (AL iQ) AI AI)) (AJ (AL jt) (AJ (AL jD) (AJ (AL fu) AI AI) AI) AI))) (AJ AT (AJ (AL uI) (AJ (AL tp) (AJ (AL jj) AI AI) (AJ (AL iY) AI AI)) (AJ AT (AJ (AL jL) AI AI) AI)) (AJ (AL tw) (AJ AT (AJ AT (AJ (AL gF) AI AI) AI) (AJ (AL iH) AI AI)) (AJ AT (AJ (AL iw) AI AI) (AJ (AL gi) AI AI))))) (AJ (AL uQ) (AJ (AL uL) (AJ AT (AJ AT AI (AJ (AL ic) AI AI)) (AJ (AL j3) (AJ (AL jP) AI AI) (AJ (AL gx) AI AI))) (AJ (AL uA) (AJ AT (AJ (AL jZ) (AJ (AL gJ) AI AI) AI) (AJ (AL iM) AI AI)) (AJ (AL jo) (AJ (AL iz) AI AI) (AJ (AL gm) AI AI)))) (AJ (AL uK) (AJ AT (AJ (AL tk) (AJ (AL jf) (AJ (AL gR) AI AI) AI) (AJ (AL iU) AI AI)) (AJ (AL ju) (AJ (AL jH) AI AI) (AJ (AL gu) AI AI))) (AJ AT (AJ AT (AJ AT (AJ (AL gB) AI AI) AI) (AJ (AL iD) AI AI)) (AJ AT (AJ (AL im) AI AI) (AJ (AL gb) AI AI))))))))
abbrev Em:V:=(.a [(.l [[(.l [] true)],[(.l [[(.i .i64 3)]] false)],[(.l [[(.i .i64 3)]] false)],[(.l [[(.i .i64 4)],[(.i .i64 5)]] false)]] false),(.l [] true)])
abbrev Jg:V:=(.a [(.i .i64 2),(.i .i64 0),(.l [] true),(.i .i64 4),(.i .i64 0),(.l [] true)])
abbrev Na:V:=(.a [(.i .i64 2),(.i .i64 0),(.l [] true),(.i .i64 5),(.i .i64 0),(.l [] true)])
abbrev NZ:V:=(.a [(.i .i64 2),(.i .i64 0),(.l [] true),(.i .i64 3),(.i .i64 0),(.l [] true)])
abbrev U1:V:=(.a [(.i .i64 1),(.i .i64 0),(.l [] true),(.i .i64 0),(.i .i64 0),(.l [] true)])
abbrev Jf:V:=(.t [(.b true),(.i .i64 0)])
abbrev NY:V:=(.t [(.b false),(.i .i64 0)])
abbrev cw7:V:=(.t [(.a [(.l [] true),(.b false),(.l [[(.i .i64 4)],[(.i .i64 3)]] false),(.l [[(.i .i64 1)],[(.i .i64 0)]] false),(.b false),(.l [[(.i .i64 5)],[(.i .i64 6)]] false)]),(.i .i64 0)])
abbrev cw8:V:=(.t [(.a [(.l [] true),(.b false),(.l [[(.i .i64 4)],[(.i .i64 3)]] false),(.l [] true),(.b true),(.l [[(.i .i64 5)],[(.i .i64 6)]] false)]),(.i .i64 0)])
abbrev cw9:V:=(.t [(.a [(.l [] true),(.b false),(.l [] true),(.l [] true),(.b false),(.l [] true)]),(.i .i64 5)])
abbrev dz:V:=(.t [(.l [[(.i .i64 1),(.i .i64 0)],[(.i .i64 2),(.i .i64 0)]] false),(.i .i64 0)])
abbrev S4:V:=(.l [[(.i .i64 3),(.i .i64 0)]] true)
abbrev dy:V:=(.l [[(.i .i64 0)],[(.i .i64 1)],[(.i .i64 2)]] true)
abbrev dx:V:=(.t [(.l [] true),(.b true),(.i .i64 0)])
abbrev dw:V:=(.l [[(.i .i64 6),(.l [] true)]] true)
abbrev dv:V:=(.l [[(.i .i64 4),(.l [] true)]] true)
abbrev du:V:=(.l [[(.i .i64 1),(.i .i64 0)]] true)
abbrev dt:V:=(.t [(.l [] true),(.i .i64 0)])
abbrev dq:V:=(.t [(.b false),(.i .i64 7)])
def EV:V:=(.a [(.l [[(.l [] true),(.l [] true),(.l [] true)],[(.l [[(.i .i64 3)]] true),(.l [] true),(.l [] true)],[(.l [[(.i .i64 3)]] true),(.l [] true),(.l [] true)],[(.l [[(.i .i64 4)],[(.i .i64 5)]] true),(.l [] true),(.l [] true)]] true),(.i .i64 0),(.l [[(.i .i64 1)]] true),(.l [[(.i .i64 1),(.i .i64 0),(.i .i64 2),(.i .i64 0),(.l [] true),(.i .i64 3),(.i .i64 0),(.l [] true),(.i .i64 0)],[(.i .i64 1),(.i .i64 0),(.i .i64 2),(.i .i64 0),(.l [] true),(.i .i64 4),(.i .i64 0),(.l [] true),(.i .i64 1)],[(.i .i64 1),(.i .i64 0),(.i .i64 2),(.i .i64 0),(.l [] true),(.i .i64 5),(.i .i64 0),(.l [] true),(.i .i64 2)],[(.i .i64 2),(.i .i64 0),(.i .i64 1),(.i .i64 0),(.l [] true),(.i .i64 0),(.i .i64 0),(.l [] true),(.i .i64 3)],[(.i .i64 2),(.i .i64 0),(.i .i64 2),(.i .i64 0),(.l [] true),(.i .i64 4),(.i .i64 0),(.l [] true),(.i .i64 4)],[(.i .i64 3),(.i .i64 0),(.i .i64 2),(.i .i64 0),(.l [] true),(.i .i64 3),(.i .i64 0),(.l [] true),(.i .i64 5)],[(.i .i64 3),(.i .i64 0),(.i .i64 2),(.i .i64 0),(.l [] true),(.i .i64 4),(.i .i64 0),(.l [] true),(.i .i64 6)]] false),(.l [[(.i .i64 2),(.i .i64 0),(.l [] true)],[(.i .i64 2),(.i .i64 0),(.l [] true)],[(.i .i64 2),(.i .i64 0),(.l [] true)],[(.i .i64 2),(.i .i64 0),(.l [] true)],[(.i .i64 2),(.i .i64 0),(.l [] true)],[(.i .i64 2),(.i .i64 0),(.l [] true)],[(.i .i64 2),(.i .i64 0),(.l [] true)],[(.i .i64 2),(.i .i64 0),(.l [] true)]] false),(.i .i64 7)])
def NJ:DT:=fun _=>[]
theorem Dt:DJ Tryz.prog NJ:=cH
theorem ce0:FR (Fk Fj) NJ 100000 107 [EV] (.i .i64 0)=true:=by kernel_rfl
theorem ZZ:BX [EV]=true∧A1 (.i .i64 0)=true∧Pure Tryz.prog 107 [EV] (.i .i64 0):=Bd (CG CE) Dt ce0
noncomputable def mk1:DT:=(DB NJ 107 [EV] (.i .i64 0))
theorem zY:DJ Tryz.prog mk1:=(BE Dt ZZ)
theorem ce1:FR (Fk Fj) mk1 100000 71 [EV] (.t [Em,(.i .i64 0)])=true:=by kernel_rfl
theorem dN:BX [EV]=true∧A1 (.t [Em,(.i .i64 0)])=true∧Pure Tryz.prog 71 [EV] (.t [Em,(.i .i64 0)]):=Bd (CG CE) zY ce1
theorem ce2:FR (Fk Fj) NJ 100000 76 [Em,Jg,NZ] Jf=true:=by kernel_rfl
theorem pe2:BX [Em,Jg,NZ]=true∧A1 Jf=true∧Pure Tryz.prog 76 [Em,Jg,NZ] Jf:=Bd (CG CE) Dt ce2
theorem ce3:FR (Fk Fj) NJ 100000 76 [Em,NZ,Jg] NY=true:=by kernel_rfl
theorem pe3:BX [Em,NZ,Jg]=true∧A1 NY=true∧Pure Tryz.prog 76 [Em,NZ,Jg] NY:=Bd (CG CE) Dt ce3
noncomputable def mk4:DT:=(DB (DB NJ 107 [EV] (.i .i64 0)) 71 [EV] (.t [Em,(.i .i64 0)]))
theorem zX:DJ Tryz.prog mk4:=(BE (BE Dt ZZ) dN)
theorem ce4:FR (Fk Fj) mk4 100000 12 [EV,(.i .i64 1),(.i .i64 0)] Jf=true:=by kernel_rfl
theorem pe4:BX [EV,(.i .i64 1),(.i .i64 0)]=true∧A1 Jf=true∧Pure Tryz.prog 12 [EV,(.i .i64 1),(.i .i64 0)] Jf:=Bd (CG CE) zX ce4
theorem ce5:FR (Fk Fj) NJ 100000 76 [Em,Jg,Na] NY=true:=by kernel_rfl
theorem pe5:BX [Em,Jg,Na]=true∧A1 NY=true∧Pure Tryz.prog 76 [Em,Jg,Na] NY:=Bd (CG CE) Dt ce5
noncomputable def mk6:DT:=(DB (DB NJ 107 [EV] (.i .i64 0)) 71 [EV] (.t [Em,(.i .i64 0)]))
theorem zW:DJ Tryz.prog mk6:=(BE (BE Dt ZZ) dN)
theorem ce6:FR (Fk Fj) mk6 100000 12 [EV,(.i .i64 1),(.i .i64 2)] NY=true:=by kernel_rfl
theorem pe6:BX [EV,(.i .i64 1),(.i .i64 2)]=true∧A1 NY=true∧Pure Tryz.prog 12 [EV,(.i .i64 1),(.i .i64 2)] NY:=Bd (CG CE) zW ce6
noncomputable def mk7:DT:=(DB (DB NJ 107 [EV] (.i .i64 0)) 71 [EV] (.t [Em,(.i .i64 0)]))
theorem zV:DJ Tryz.prog mk7:=(BE (BE Dt ZZ) dN)
theorem ce7:FR (Fk Fj) mk7 100000 12 [EV,(.i .i64 0),(.i .i64 3)] dq=true:=by kernel_rfl
theorem pe7:BX [EV,(.i .i64 0),(.i .i64 3)]=true∧A1 dq=true∧Pure Tryz.prog 12 [EV,(.i .i64 0),(.i .i64 3)] dq:=Bd (CG CE) zV ce7
theorem ce8:FR (Fk Fj) NJ 100000 76 [Em,U1,U1] Jf=true:=by kernel_rfl
theorem pe8:BX [Em,U1,U1]=true∧A1 Jf=true∧Pure Tryz.prog 76 [Em,U1,U1] Jf:=Bd (CG CE) Dt ce8
theorem ce9:FR (Fk Fj) NJ 100000 76 [Em,Jg,U1] Jf=true:=by kernel_rfl
theorem pe9:BX [Em,Jg,U1]=true∧A1 Jf=true∧Pure Tryz.prog 76 [Em,Jg,U1] Jf:=Bd (CG CE) Dt ce9
theorem ce10:FR (Fk Fj) NJ 100000 76 [Em,U1,Jg] NY=true:=by kernel_rfl
theorem pe10:BX [Em,U1,Jg]=true∧A1 NY=true∧Pure Tryz.prog 76 [Em,U1,Jg] NY:=Bd (CG CE) Dt ce10
theorem ce11:FR (Fk Fj) NJ 100000 76 [Em,Jg,Jg] Jf=true:=by kernel_rfl
theorem pe11:BX [Em,Jg,Jg]=true∧A1 Jf=true∧Pure Tryz.prog 76 [Em,Jg,Jg] Jf:=Bd (CG CE) Dt ce11
theorem ce12:FR (Fk Fj) NJ 100000 76 [Em,NZ,NZ] Jf=true:=by kernel_rfl
theorem pe12:BX [Em,NZ,NZ]=true∧A1 Jf=true∧Pure Tryz.prog 76 [Em,NZ,NZ] Jf:=Bd (CG CE) Dt ce12
noncomputable def yJ:DT:=(DB (DB NJ 107 [EV] (.i .i64 0)) 71 [EV] (.t [Em,(.i .i64 0)]))
theorem tF:DJ Tryz.prog yJ:=(BE (BE Dt ZZ) dN)
theorem ce13:FR (Fk Fj) yJ 100000 20 [EV,dv,(.i .i64 0),S4] cw7=true:=by kernel_rfl
theorem pe13:BX [EV,dv,(.i .i64 0),S4]=true∧A1 cw7=true∧Pure Tryz.prog 20 [EV,dv,(.i .i64 0),S4] cw7:=Bd (CG CE) tF ce13
theorem ce14:FR (Fk Fj) NJ 100000 76 [Em,Na,NZ] Jf=true:=by kernel_rfl
theorem pe14:BX [Em,Na,NZ]=true∧A1 Jf=true∧Pure Tryz.prog 76 [Em,Na,NZ] Jf:=Bd (CG CE) Dt ce14
theorem ce15:FR (Fk Fj) NJ 100000 76 [Em,NZ,Na] NY=true:=by kernel_rfl
theorem pe15:BX [Em,NZ,Na]=true∧A1 NY=true∧Pure Tryz.prog 76 [Em,NZ,Na] NY:=Bd (CG CE) Dt ce15
theorem ce16:FR (Fk Fj) NJ 100000 76 [Em,Na,Jg] NY=true:=by kernel_rfl
theorem pe16:BX [Em,Na,Jg]=true∧A1 NY=true∧Pure Tryz.prog 76 [Em,Na,Jg] NY:=Bd (CG CE) Dt ce16
noncomputable def yI:DT:=(DB (DB NJ 107 [EV] (.i .i64 0)) 71 [EV] (.t [Em,(.i .i64 0)]))
theorem tE:DJ Tryz.prog yI:=(BE (BE Dt ZZ) dN)
theorem ce17:FR (Fk Fj) yI 100000 20 [EV,dw,(.i .i64 0),S4] cw8=true:=by kernel_rfl
theorem pe17:BX [EV,dw,(.i .i64 0),S4]=true∧A1 cw8=true∧Pure Tryz.prog 20 [EV,dw,(.i .i64 0),S4] cw8:=Bd (CG CE) tE ce17
noncomputable def yH:DT:=(DB (DB NJ 107 [EV] (.i .i64 0)) 71 [EV] (.t [Em,(.i .i64 0)]))
theorem tD:DJ Tryz.prog yH:=(BE (BE Dt ZZ) dN)
theorem ce18:FR (Fk Fj) yH 100000 20 [EV,(.l [] true),(.i .i64 0),du] cw9=true:=by kernel_rfl
theorem pe18:BX [EV,(.l [] true),(.i .i64 0),du]=true∧A1 cw9=true∧Pure Tryz.prog 20 [EV,(.l [] true),(.i .i64 0),du] cw9:=Bd (CG CE) tD ce18
noncomputable def yG:DT:=(DB (DB NJ 107 [EV] (.i .i64 0)) 71 [EV] (.t [Em,(.i .i64 0)]))
theorem tC:DJ Tryz.prog yG:=(BE (BE Dt ZZ) dN)
theorem ce19:FR (Fk Fj) yG 100000 31 [EV,dy] dx=true:=by kernel_rfl
theorem pe19:BX [EV,dy]=true∧A1 dx=true∧Pure Tryz.prog 31 [EV,dy] dx:=Bd (CG CE) tC ce19
theorem ce20:FR (Fk Fj) NJ 100000 76 [Em,Na,Na] Jf=true:=by kernel_rfl
theorem pe20:BX [Em,Na,Na]=true∧A1 Jf=true∧Pure Tryz.prog 76 [Em,Na,Na] Jf:=Bd (CG CE) Dt ce20
noncomputable def yF:DT:=(DB (DB NJ 107 [EV] (.i .i64 0)) 71 [EV] (.t [Em,(.i .i64 0)]))
theorem tB:DJ Tryz.prog yF:=(BE (BE Dt ZZ) dN)
theorem ce21:FR (Fk Fj) yF 100000 15 [EV,(.i .i64 0),(.i .i64 1)] dz=true:=by kernel_rfl
theorem pe21:BX [EV,(.i .i64 0),(.i .i64 1)]=true∧A1 dz=true∧Pure Tryz.prog 15 [EV,(.i .i64 0),(.i .i64 1)] dz:=Bd (CG CE) tB ce21
noncomputable def yE:DT:=(DB (DB NJ 107 [EV] (.i .i64 0)) 71 [EV] (.t [Em,(.i .i64 0)]))
theorem tA:DJ Tryz.prog yE:=(BE (BE Dt ZZ) dN)
theorem ce22:FR (Fk Fj) yE 100000 17 [EV,(.i .i64 0)] dt=true:=by kernel_rfl
theorem pe22:BX [EV,(.i .i64 0)]=true∧A1 dt=true∧Pure Tryz.prog 17 [EV,(.i .i64 0)] dt:=Bd (CG CE) tA ce22
noncomputable def yD:DT:=(DB (DB (DB (DB (DB (DB (DB (DB (DB (DB (DB (DB (DB (DB (DB (DB (DB (DB (DB (DB (DB (DB (DB NJ 107 [EV] (.i .i64 0)) 71 [EV] (.t [Em,(.i .i64 0)])) 76 [Em,Jg,NZ] Jf) 76 [Em,NZ,Jg] NY) 12 [EV,(.i .i64 1),(.i .i64 0)] Jf) 76 [Em,Jg,Na] NY) 12 [EV,(.i .i64 1),(.i .i64 2)] NY) 12 [EV,(.i .i64 0),(.i .i64 3)] dq) 76 [Em,U1,U1] Jf) 76 [Em,Jg,U1] Jf) 76 [Em,U1,Jg] NY) 76 [Em,Jg,Jg] Jf) 76 [Em,NZ,NZ] Jf) 20 [EV,dv,(.i .i64 0),S4] cw7) 76 [Em,Na,NZ] Jf) 76 [Em,NZ,Na] NY) 76 [Em,Na,Jg] NY) 20 [EV,dw,(.i .i64 0),S4] cw8) 20 [EV,(.l [] true),(.i .i64 0),du] cw9) 31 [EV,dy] dx) 76 [Em,Na,Na] Jf) 15 [EV,(.i .i64 0),(.i .i64 1)] dz) 17 [EV,(.i .i64 0)] dt)
theorem s9:DJ Tryz.prog yD:=(BE (BE (BE (BE (BE (BE (BE (BE (BE (BE (BE (BE (BE (BE (BE (BE (BE (BE (BE (BE (BE (BE (BE Dt ZZ) dN) pe2) pe3) pe4) pe5) pe6) pe7) pe8) pe9) pe10) pe11) pe12) pe13) pe14) pe15) pe16) pe17) pe18) pe19) pe20) pe21) pe22)
theorem ce23:FR (Fk Fj) yD 100000 14 [] (.b true)=true:=by kernel_rfl
theorem pe23:BX []=true∧A1 (.b true)=true∧Pure Tryz.prog 14 [] (.b true):=Bd (CG CE) s9 ce23
end Go.Gl
namespace Go.Gl
open Go.ChangeShapes Go.WideShapes Go.ChangeAt Go.RowKit
variable {P:Program}
theorem dA {f:FuncId} {args:List V} {v:V} (h:Pure P f args v) {w:World} {cs:Array Value} (hc:Za (Hh (fun _=>False) emp w) args cs) :
 Calls P f cs w fun e w'=>(∃c,e= .returned c∧Af (Hh (fun _=>False) emp w') v c)∧CY (fun _=>False) emp w emp w':=by
 refine Calls.mono (h.2 (fun _=>False) w cs (Wv _ fun _ h=>h.elim) hc) fun e w' ⟨r,σ',⟨h1,h2⟩,h3,_,h4⟩=>?_
 subst h1;subst h2;exact⟨h3,h4⟩
theorem dC {w w':World} (h:CY (fun _=>False) emp w emp w'):Below w.heap.size w w':=
 ⟨h.os,h.tape,h.output,h.size,fun k hk=>h.frame k hk rfl⟩
theorem tT {w:World} {b o:Nat}:Hh (fun _=>False) emp w b o=w.cell? ⟨b,o,none⟩:=by
 unfold Hh;rw[if_neg (by simp[emp])]
theorem NC {α:Type} {Q:Nat→α→Prop}: ∀(len:Nat),(∀i,i<len→ ∃v,Q i v)→ ∃l:List α,l.length=len∧ ∀i v,l[i]? =some v→Q i v
 | 0,_=>⟨[],rfl,fun i v h=>by simp at h⟩
 | k + 1,h=>by
   obtain⟨l,hl,hl2⟩:=NC k fun i hi=>h i (by omega)
   obtain⟨u,hu⟩:=h k (by omega);refine⟨l++[u],by simp[hl],fun i v hv=>?_⟩;by_cases hi:i<l.length
   ·rw[rZ hi]at hv
    exact hl2 i v hv
   ·rw[List.getElem?_append_right (by omega)]at hv
    have:i - l.length=0:=by
     have:=(List.getElem?_eq_some_iff.1 hv).1;simp at this;omega
    have hik:i=k:=by omega
    subst hik;rw[this]at hv;rw[←Option.some.inj hv];exact hu
section
variable {H:Type} {enc:TypeId×Value→H} {P:Program} {W:World}
def dT {H:Type} (enc:TypeId×Value→H) (P:Program) (W:World) (n:Nat) (t:TypeId) {α:Type} (ea:α→List V):Prop:=
 ∀(cs:List Value) (d:DataW H) (ps:List MemPlace),DataW.trod enc P W 0 (fun _=>true) true n t cs=some (d,ps)→(∀x∈d.weights P t,x≤reachBytes)→ ∃a:α,cs.length=(ea a).length∧Bk (Hh (fun _=>False) emp W) (fun i=>cs[i]?) 0 (ea a)
def U2 {H:Type} (enc:TypeId×Value→H) (P:Program) (W:World) (t:TypeId) {α:Type} (ea:α→List V):Prop:= ∀n,dT enc P W n t ea
theorem LJ {t:TypeId} {α:Type} {ea:α→List V}:dT enc P W 0 t ea:=fun cs d ps h=>by simp[DataW.trod]at h
theorem JC {n:Nat} {t:TypeId} {α β:Type} {ea:α→List V} {eb:β→List V} (h:dT enc P W n t ea) (g:α→β) (hg: ∀a,ea a=eb (g a)):dT enc P W n t eb:=fun cs d ps h1 h2=>by
 obtain⟨a,h3,h4⟩:=h cs d ps h1 h2;exact⟨g a,by rw[←hg];exact h3,by rw[←hg];exact h4⟩
theorem RX {t:TypeId} (ht:P.underlying t=some (.int .i64)):U2 enc P W t fun x:Int=>[V.i .i64 x]:=fun n cs d ps h _=>by
 obtain⟨k,rfl,-,hw⟩:=DataW.trod_int ht h;simp only[Lit.wf,Bn,D8]at hw;refine⟨k,rfl,⟨_,rfl,?_⟩,trivial⟩;simp only[Af]
 first
  | exact⟨rfl,hw⟩
  | exact⟨trivial,hw⟩
  | exact hw
theorem QK {n:Nat} {t e:TypeId} {sz:Nat} {α:Type} {ea:α→List V} (ht:P.underlying t=some (.slice e)) (hc:P.cellsOf e=sz) (hsz:0<sz) (hb:8≤P.bytesOf e) (he: ∀a,(ea a).length=sz) (h:dT enc P W n e ea) :
 dT enc P W (n+1) t fun l:List α=>[V.l (l.map ea) false]:=by
 intro cs d ps htr hw;rcases DataW.trod_slice ht htr with⟨rfl,hx⟩|⟨a,len,cap,elems,rest,n',hn,rfl,hx,-,hl,hm,hlen,hel,-,-⟩
 ·refine⟨[],rfl,⟨_,rfl,?_⟩,trivial⟩
  simp only[List.map_nil,Af];exact⟨none,0,rfl,Nat.le_refl _,fun h=>(by cases h),Nat.zero_le _,fun _=>rfl,fun h=>absurd rfl h⟩
 ·obtain rfl:n'=n:=by omega
  simp only[Prod.mk.injEq]at hx;obtain⟨rfl,-⟩:=hx;simp only[DataW.weights,ht,IF,Fo]at hw;have hwl:=hw _ (.inl rfl)
  have hwe: ∀(l:List (DataW H)) (D:DataW H),D∈l→ ∀x∈D.weights P e,x∈DataW.weightsAll P e l:=by
   intro l
   induction l with
   | nil=>intro D hD;cases hD
   | cons y r ih=>
     intro D hD x hx;simp only[DataW.weightsAll,Fo];rcases IF.1 hD with rfl|hD
     ·exact .inl hx
     ·exact .inr (ih D hD x hx)
  have hM:len≤Ak:=by
   simp only[B2,hlen,reachBytes]at hwl;have h8:(len+rest.length)*8≤(len+rest.length)*P.bytesOf e:=Nat.mul_le_mul_left _ hb;unfold Ak;omega
  have each: ∀i,i<len→ ∃v:α,∃cs',W.cells? 0 (a.add (i*sz)) sz=some cs'∧Bk (Hh (fun _=>False) emp W) (fun j=>cs'[j]?) 0 (ea v):=fun i hi=>by
   have hi':=hel i hi;obtain⟨x,hx⟩: ∃x,elems[i]? =some x:=⟨_,E4 (by omega)⟩
   rw[hx,Option.bind_eq_some_iff,hc]at hi';obtain⟨cs',h1,h2⟩:=hi';obtain⟨v,-,h4⟩:=h cs' x.1 x.2 h2 fun y hy=>hw y (.inr (.inl (hwe _ x.1 (Nv.2 ⟨x,DL hx,rfl⟩) y hy)))
   exact⟨v,cs',h1,h4⟩
  obtain⟨l,hll,hlc⟩:=NC len each;refine⟨l,rfl,⟨_,rfl,?_⟩,trivial⟩;simp only[Af,B2];refine⟨some a,cap,by rw[hll],by omega,fun h=>(by cases h),by omega,fun h=>(by cases h),fun hne=>?_⟩;obtain⟨b,o,spot⟩:=a
  have h0:0<l.length:=by
   rcases l with _|⟨v,r⟩
   ·exact absurd rfl hne
   ·simp
  have hspot:spot=none:=by
   obtain⟨cs',h1,-⟩:=hlc 0 l[0] (E4 h0);obtain⟨-,h3,h4⟩:=World.cells?_some h1;have h5:=h4 0 hsz;rw[E4 (by omega)]at h5;have:=World.cell?_spot h5;simpa[Addr.add]using this
  subst hspot
  have hcell: ∀i v,l[i]? =some v→ ∀k u,(ea v)[k]? =some u→ ∃c,W.cell? ⟨b,o+i*sz+k,none⟩=some c∧Af (Hh (fun _=>False) emp W) u c:=fun i v hv k u hu=>by
   obtain⟨cs',h1,h2⟩:=hlc i v hv;obtain⟨-,h3,h4⟩:=World.cells?_some h1;have hk:k<sz:=by rw[←he v];exact(List.getElem?_eq_some_iff.1 hu).1
   obtain⟨c,hc',hr⟩:=Bu.1 h2 k u hu;have h5:=h4 k hk;simp only[Nat.zero_add]at hc';rw[add_plain,add_plain]at h5;exact⟨c,by rw[←hc',←h5],hr⟩
  refine⟨b,o,sz,rfl,BH.2 fun j e hj=>?_⟩;rw[Pu]at hj;obtain⟨v,hv,rfl⟩:=Option.map_eq_some_iff.1 hj;refine⟨he v,Bu.2 fun k u hu=>?_⟩;obtain⟨c,h1,h2⟩:=hcell j v hv k u hu;exact⟨c,by rw[tT];exact h1,h2⟩
theorem I0 {t e:TypeId} {sz:Nat} {α:Type} {ea:α→List V} (ht:P.underlying t=some (.slice e)) (hc:P.cellsOf e=sz) (hsz:0<sz) (hb:8≤P.bytesOf e) (he: ∀a,(ea a).length=sz) (h:U2 enc P W e ea) :
 U2 enc P W t fun l:List α=>[V.l (l.map ea) false]
 | 0=>LJ
 | n+1=>QK ht hc hsz hb he (h n)
def x4 {H:Type} (enc:TypeId×Value→H) (P:Program) (W:World) (n:Nat) (fs:List Field) (o:Nat) {α:Type} (ea:α→List V):Prop:=
 ∀ (cs:List Value) (xs:List (DataW H×List MemPlace)),xs.length=fs.length→(∀(i:Nat) (f:Field),fs[i]? =some f→DataW.trod enc P W 0 (fun _=>true) true n (Field.type f) ((cs.drop (Field.offset f)).take (P.cellsOf (Field.type f)))=xs[i]?)→
   (∀x∈DataW.weightsEach P (fs.map fun f:Field=>f.type) (xs.map (·.1)),x≤reachBytes)→ ∃a:α,Bk (Hh (fun _=>False) emp W) (fun i=>cs[i]?) o (ea a)
theorem JD {n o:Nat}:x4 enc P W n [] o fun _:Unit=>([]:List V):=fun _ _ _ _ _=>⟨(),trivial⟩
theorem Bv {n o c:Nat} {f:Field} {fs:List Field} {α β:Type} {ea:α→List V} {eb:β→List V} (hf:f.offset=o) (hc:P.cellsOf f.type=c) (he: ∀a,(ea a).length=c) (h1:dT enc P W n f.type ea) (h2:x4 enc P W n fs (o+c) eb) :
 x4 enc P W n (f::fs) o fun p:α×β=>ea p.1++eb p.2:=by
 intro cs xs hl hx hw
 match xs,hl with
 | x ::r,hl=>
   have hx0:=hx 0 f rfl;simp only[rY]at hx0;simp only[List.map_cons,DataW.weightsEach,Fo]at hw;obtain⟨a,ha1,ha2⟩:=h1 _ x.1 x.2 hx0 fun y hy=>hw y (.inl hy)
   obtain⟨b,hb⟩:=h2 cs r (by simpa using hl) (fun i g hg=>by
    have:=hx (i+1) g (by simpa using hg)
    simpa using this) fun y hy=>hw y (.inr hy)
   refine⟨(a,b),Mv (Bu.2 fun k u hu=>?_) (by rw[he];exact hb)⟩;obtain⟨cc,h3,h4⟩:=Bu.1 ha2 k u hu;have hk:k<c:=by rw[←he a];exact(List.getElem?_eq_some_iff.1 hu).1
   refine⟨cc,?_,h4⟩;rw[hf,hc,Nat.zero_add,List.getElem?_take,if_pos hk,xl]at h3;exact h3
theorem O4 {n:Nat} {t:TypeId} {fs:List Field} {α:Type} {ea:α→List V} (ht:P.underlying t=some (.struct fs.toArray)) (h:x4 enc P W n fs 0 ea) (hl: ∀a,(ea a).length=P.cellsOf t):dT enc P W (n+1) t ea:=by
 intro cs d ps htr hw;obtain⟨xs,k,hk,hx,hcl,hxl,hf⟩:=DataW.trod_struct ht htr;obtain rfl:k=n:=by omega
 simp only[Prod.mk.injEq]at hx;obtain⟨rfl,-⟩:=hx;simp only[DataW.weights,ht]at hw;obtain⟨a,ha⟩:=h cs xs (by rw[hxl];simp) (fun i f hfi=>hf i f (by simpa using hfi)) (by simpa using hw);exact⟨a,by rw[hcl,hl],ha⟩
theorem HX {t:TypeId} {fs:List Field} {α:Type} {ea:α→List V} (ht:P.underlying t=some (.struct fs.toArray)) (h: ∀n,x4 enc P W n fs 0 ea) (hl: ∀a,(ea a).length=P.cellsOf t):U2 enc P W t ea
 | 0=>LJ
 | n+1=>O4 ht (h n) hl
end
end Go.Gl
namespace Go.Gl
open Go.Proofs
section
variable {H:Type} {enc:TypeId×Value→H} {W:World}
theorem b8 {n:Nat} (h:Nat.ble 8 n=true):8≤n:=Nat.le_of_ble_eq_true h
theorem N0:U2 enc Tryz.prog W 3 fun x:Int=>[V.i .i64 x]:=RX Tryz.underlying3
theorem TD:U2 enc Tryz.prog W 23 fun l:List Int=>[V.l (iL l) false]:=I0 Tryz.underlying23 (by kernel_rfl) (by decide) (b8 (by kernel_rfl)) (fun _=>rfl) N0
theorem sU:U2 enc Tryz.prog W 169 fun p:Int×Int=>[eI p.1,eI p.2]:=fun n=>
 JC (HX Tryz.underlying169
  (fun n=>Bv (c:=1) rfl (by kernel_rfl) (fun _=>rfl) (N0 n) (Bv (c:=1) rfl (by kernel_rfl) (fun _=>rfl) (N0 n) JD)) (fun _=>(show _=2 from rfl).trans (by kernel_rfl)) n) (fun x=>(x.1,x.2.1)) fun _=>rfl
theorem ep:U2 enc Tryz.prog W 53 fun l:List (Int×Int)=>[V.l (l.map fun p=>[eI p.1,eI p.2]) false]:=I0 (sz:=2) Tryz.underlying53 (by kernel_rfl) (by decide) (b8 (by kernel_rfl)) (fun _=>rfl) sU
theorem zN:U2 enc Tryz.prog W 55 S1:=fun n=>
 JC (HX Tryz.underlying55
  (fun n=>Bv (c:=1) rfl (by kernel_rfl) (fun _=>rfl) (TD n) (Bv (c:=1) rfl (by kernel_rfl) (fun _=>rfl) (TD n)
   (Bv (c:=1) rfl (by kernel_rfl) (fun _=>rfl) (ep n) JD))) (fun _=>(show _=3 from rfl).trans (by kernel_rfl)) n) (fun x=>⟨x.1,x.2.1,x.2.2.1⟩) fun _=>rfl
theorem sS:U2 enc Tryz.prog W 112 It:=fun n=>
 JC (HX Tryz.underlying112
  (fun n=>Bv (c:=1) rfl (by kernel_rfl) (fun _=>rfl) (RX Tryz.underlying110 n) (Bv (c:=1) rfl (by kernel_rfl) (fun _=>rfl) (N0 n)
   (Bv (c:=1) rfl (by kernel_rfl) (fun _=>rfl) (TD n) JD))) (fun _=>(show _=3 from rfl).trans (by kernel_rfl)) n) (fun x=>⟨x.1,x.2.1,x.2.2.1⟩) fun _=>rfl
theorem ei:U2 enc Tryz.prog W 25 fun l:List Node=>[V.l (l.map It) false]:=I0 (sz:=3) Tryz.underlying25 (by kernel_rfl) (by decide) (b8 (by kernel_rfl)) (fun _=>rfl) sS
theorem sW:U2 enc Tryz.prog W 22 fun l:List Pc=>[V.l (l.map S1) false]:=I0 (sz:=3) Tryz.underlying22 (by kernel_rfl) (by decide) (b8 (by kernel_rfl)) (fun _=>rfl) zN
theorem Mb (f:Fact):(Ge f).length=6:=by rw[Bp];rfl
theorem Wx: ∀n,dT enc Tryz.prog W n 89 Ge∧dT enc Tryz.prog W n 87 fun l:List Fact=>[V.l (facts l) false]
 | 0=>⟨LJ,LJ⟩
 | n + 1 =>by
   obtain⟨h1,h2⟩:=Wx n;refine⟨?_,QK Tryz.underlying87 (by kernel_rfl) (by decide) (b8 (by kernel_rfl)) Mb h1⟩
   exact JC (O4 Tryz.underlying89
    (Bv (c:=1) rfl (by kernel_rfl) (fun _=>rfl) (RX Tryz.underlying86 n) (Bv (c:=1) rfl (by kernel_rfl) (fun _=>rfl) (N0 n)
     (Bv (c:=1) rfl (by kernel_rfl) (fun _=>rfl) (TD n) (Bv (c:=1) rfl (by kernel_rfl) (fun _=>rfl) (N0 n)
      (Bv (c:=1) rfl (by kernel_rfl) (fun _=>rfl) (N0 n) (Bv (c:=1) rfl (by kernel_rfl) (fun _=>rfl) h2 JD)))))) (fun _=>(show _=6 from rfl).trans (by kernel_rfl)))
    (fun x=>Fact.mk x.1 x.2.1 x.2.2.1 x.2.2.2.1 x.2.2.2.2.1 x.2.2.2.2.2.1) fun x=>by rw[Bp];rfl
theorem sV:U2 enc Tryz.prog W 89 Ge:=fun n=>(Wx n).1
theorem sT:U2 enc Tryz.prog W 91 Z0:=fun n=>
 JC (HX Tryz.underlying91
  (fun n=>Bv (c:=1) rfl (by kernel_rfl) (fun _=>rfl) (RX Tryz.underlying37 n) (Bv (c:=1) rfl (by kernel_rfl) (fun _=>rfl) (N0 n)
   (Bv (c:=6) rfl (by kernel_rfl) Mb (sV n) (Bv (c:=1) rfl (by kernel_rfl) (fun _=>rfl) (N0 n) JD)))) (fun x=>(show _=9 from by simp only[Sl,Mb];rfl).trans (by kernel_rfl)) n) (fun x=>⟨x.1,x.2.1,x.2.2.1,x.2.2.2.1⟩) fun x=>by rw[Bp];rfl
theorem eo:U2 enc Tryz.prog W 24 fun l:List N8=>[V.l (l.map Z0) false]:=I0 (sz:=9) Tryz.underlying24 (by kernel_rfl) (by decide) (b8 (by kernel_rfl)) (fun _=>rfl) sT
theorem sR:U2 enc Tryz.prog W 27 Br:=fun n=>
 JC (HX Tryz.underlying27
  (fun n=>Bv (c:=1) rfl (by kernel_rfl) (fun _=>rfl) (sW n)
   (Bv (c:=1) rfl (by kernel_rfl) (fun _=>rfl) (N0 n) (Bv (c:=1) rfl (by kernel_rfl) (fun _=>rfl) (TD n)
    (Bv (c:=1) rfl (by kernel_rfl) (fun _=>rfl) (eo n)
     (Bv (c:=1) rfl (by kernel_rfl) (fun _=>rfl) (ei n)
      (Bv (c:=1) rfl (by kernel_rfl) (fun _=>rfl) (N0 n) JD)))))) (fun _=>(show _=6 from rfl).trans (by kernel_rfl)) n) (fun x=>⟨x.1,x.2.1,x.2.2.1,x.2.2.2.1,x.2.2.2.2.1,x.2.2.2.2.2.1⟩) fun _=>rfl
end
end Go.Gl
