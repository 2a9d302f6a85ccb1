import Derived.Test.YtijbpgdmpejgoaaGreatProg
import Derived.KernelRfl
import Derived.WalkKit
import Derived.ProofKit
import Derived.OpenShut
import Derived.ChangeOld
import Derived.Below
import Derived.Carry
import Derived.ChangeArms
import Derived.Deep.Slices
import Derived.Test.YtijbpgdmpejgoaaGreatQ4
import Derived.Test.YtijbpgdmpejgoaaGreatQ8
import Derived.Test.YtijbpgdmpejgoaaGreatQ10
import Derived.Test.YtijbpgdmpejgoaaGreatQ24
set_option linter.all false
set_option linter.unusedVariables false
set_option linter.unusedSimpArgs false
namespace Go.Gl
open Go.Proofs
noncomputable abbrev AAM:=unB qB
noncomputable def m9:BD:= .fn 110 AAM [.t 8]
theorem iR:AV Tryz.prog 181 m9:=kT Tryz.func181
noncomputable abbrev zh:=unB pj
noncomputable def mL:BD:= .fn 8 zh [.t 3]
theorem gh:AV Tryz.prog 219 mL:=kT Tryz.func219
abbrev zi:=po
def mM:BD:= .fn 9 zi [.t 4]
theorem gi:AV Tryz.prog 218 mM:=kT Tryz.func218
abbrev AAH:AJ:=(sr [1,2] [oB 2 0,BY 3 false] (sr [3] [BW 4 2 2,oL 5 1,oE 6 5,CG 7 149 4 6,oM 3 7] .ret))
def mz:BD:= .fn 8 AAH [.t 3]
theorem iK:AV Tryz.prog 189 mz:=kT Tryz.func189
abbrev zT:AJ:=(sr [1,2] [oB 2 0,BY 3 false] (sr [3] [oL 4 1,BW 5 2 2,oo 6 (.Bs (.t 4) [(.t 5)]),oN 7 6,oM 3 7] .ret))
def l7:BD:= .fn 8 zT [.t 3]
theorem gQ:AV Tryz.prog 238 l7:=kT Tryz.func238
abbrev zU:AJ:=(sr [0,1] [BY 4 false] (sr [4] [oM 5 0,oM 6 1,CG 7 267 5 6,Ak 8 .geq 7 0,oM 4 8] .ret))
def l8:BD:= .fn 9 zU [.t 4]
theorem gR:AV Tryz.prog 237 l8:=kT Tryz.func237
abbrev zS:AJ:=(sr [0,1] [Bg 4 0] (.seq [] (sr [0,1,7,8] [oM 6 0,oE 7 6,Bg 8 0] (.block 0 (.loop [0,1,7,8] (sr [0,1,7,8,9] [oG 9 .lss 8 7] (.seq [0,1,7,8] (.cond (.t 9) .skip (.exit 0)) (.seq [0,1,7,8] (.block 1 (sr [0,1,5,7,8] [oM 10 8,oM 5 10] (sr [0,1,5,7,8,16] [oM 11 1,oM 12 0,oM 13 5,oI 14 2 12 13,BW 15 2 14,oo 16 (.Bs (.t 11) [(.t 15)])] (.cond (.t 16) (sr [4] [oM 17 5,oM 4 17] .ret) .skip)))) (.A2 [Ak 18 .add 8 1,oM 8 18]))))))) (sr [4] [Bg 4 (-1)] .ret)))
def l6:BD:= .fn 19 zS [.t 4]
theorem gP:AV Tryz.prog 239 l6:=kT Tryz.func239
abbrev zv:AJ:=(sr [0,2] [Bg 2 0] (.seq [0,2] (sr [0,2,4] [oM 3 0,oo 4 (.bin .geq (.t 3) (.c (.i .u32 65536)))] (.cond (.t 4) (sr [0] [oM 5 0,oo 6 (.bin .shr (.t 5) (.c (.i .u64 16))),oM 0 6] (.A2 [Bg 2 16])) .skip)) (.seq [0,2] (sr [0,2,8] [oM 7 0,oo 8 (.bin .geq (.t 7) (.c (.i .u32 256)))] (.cond (.t 8) (sr [0,2] [oM 9 0,oo 10 (.bin .shr (.t 9) (.c (.i .u64 8))),oM 0 10] (.A2 [oM 11 2,Ak 12 .add 11 8,oM 2 12])) .skip)) (sr [2] [oM 13 2,oM 14 0,oo 15 (.conv .u8 (.t 14)),⟨(some 16),.Oj (.c (.s ⟨#[0,1,2,2,3,3,3,3,4,4,4,4,4,4,4,4,5,5,5,5,5,5,5,5,5,5,5,5,5,5,5,5,6,6,6,6,6,6,6,6,6,6,6,6,6,6,6,6,6,6,6,6,6,6,6,6,6,6,6,6,6,6,6,6,7,7,7,7,7,7,7,7,7,7,7,7,7,7,7,7,7,7,7,7,7,7,7,7,7,7,7,7,7,7,7,7,7,7,7,7,7,7,7,7,7,7,7,7,7,7,7,7,7,7,7,7,7,7,7,7,7,7,7,7,7,7,7,7,8,8,8,8,8,8,8,8,8,8,8,8,8,8,8,8,8,8,8,8,8,8,8,8,8,8,8,8,8,8,8,8,8,8,8,8,8,8,8,8,8,8,8,8,8,8,8,8,8,8,8,8,8,8,8,8,8,8,8,8,8,8,8,8,8,8,8,8,8,8,8,8,8,8,8,8,8,8,8,8,8,8,8,8,8,8,8,8,8,8,8,8,8,8,8,8,8,8,8,8,8,8,8,8,8,8,8,8,8,8,8,8,8,8,8,8,8,8,8,8,8,8,8,8,8,8,8,8]⟩)) (.t 15),none⟩,oo 17 (.conv .i64 (.t 16)),oG 18 .add 13 17,oM 2 18] .ret))))
def mZ:BD:= .fn 19 zv [.t 2]
theorem gy:AV Tryz.prog 205 mZ:=kT Tryz.func205
abbrev zu:=p7
def mY:BD:= .fn 25 zu [.t 2]
theorem gx:AV Tryz.prog 206 mY:=kT Tryz.func206
abbrev AAC:=p8
def mq:BD:= .fn 49 AAC []
theorem iF:AV Tryz.prog 196 mq:=kT Tryz.func196
abbrev AAB:AJ:=(sr [0,1,2,6] [oM 11 1,oM 6 11] (sr [0,1,2,6,7] [Bg 7 0] (sr [0,6,7,8] [oM 12 2,oM 13 1,oG 14 .sub 12 13,oM 8 14] (.seq [0,6,7,8] (sr [0,6,7,8,9] [oM 15 8,Ak 16 .sub 15 1,Ak 17 .quo 16 2,oM 9 17] (.block 0 (.loop [0,6,7,8,9] (.seq [0,6,7,8,9] (sr [0,6,7,8,9,19] [oM 18 9,Ak 19 .geq 18 0] (.cond (.t 19) .skip (.exit 0))) (.seq [0,6,7,8,9] (.block 1 (.A2 [oM 22 0,oM 23 9,oM 24 8,oM 25 6,QE 26 243 22 23 24 25])) (.A2 [oM 20 9,Ak 21 .sub 20 1,oM 9 21])))))) (sr [0,6,7,10] [oM 27 8,Ak 28 .sub 27 1,oM 10 28] (.block 2 (.loop [0,6,7,10] (.seq [0,6,7,10] (sr [0,6,7,10,30] [oM 29 10,Ak 30 .geq 29 0] (.cond (.t 30) .skip (.exit 2))) (.seq [0,6,7,10] (.block 3 (.seq [0,6,7,10] (.BC [0,6,7,10] [dO 0 (oM 33 0),dO 1 (oM 34 6),dO 2 (oM 35 0),dO 3 (oM 36 6),dO 4 (oM 37 10),dO 5 (oG 38 .add 36 37),dO 6 (oM 39 0),dO 7 (oM 40 6),dO 8 (oM 41 10),dO 9 (oG 42 .add 40 41),dO 10 (oI 43 1 39 42),dO 11 (oL 44 43),dO 12 (oM 45 0),dO 13 (oM 46 6),dO 14 (oI 47 1 45 46),dO 15 (oL 48 47),dO 16 (oI 49 1 33 34),dO 17 (oS 1 49 44),dO 18 (oI 50 1 35 38),dO 19 (oS 1 50 48)]) (.A2 [oM 51 0,oM 52 7,oM 53 10,oM 54 6,QE 55 243 51 52 53 54]))) (.A2 [oM 31 10,Ak 32 .sub 31 1,oM 10 32]))))))))))
def mo:BD:= .fn 56 AAB []
theorem iE:AV Tryz.prog 197 mo:=kT Tryz.func197
abbrev AAA:AJ:=(sr [0,1,6] [oM 11 2,oM 12 1,oG 13 .sub 11 12,oM 6 13] (sr [0,1,6,15] [oM 14 6,Ak 15 .geq 14 8] (.cond (.t 15) (sr [0,1,6,7] [oM 16 6,oo 17 (.conv .u64 (.t 16)),oo 7 (.alloc [(.i .u64 0)]),oS 1 7 17] (sr [0,1,6,7,8] [oM 18 6,oC 19 244 18,oM 8 19] (sr [0,1,6,7,8,9] [oM 20 1,oM 21 6,Ak 22 .quo 21 4,Ak 23 .mul 22 2,oG 24 .add 20 23,Ak 25 .sub 24 1,oM 9 25] (.block 0 (.loop [0,1,6,7,8,9] (.seq [0,1,6,7,8,9] (sr [0,1,6,7,8,9,33] [oM 26 9,oM 27 1,oM 28 6,Ak 29 .quo 28 4,Ak 30 .mul 29 2,oG 31 .add 27 30,Ak 32 .add 31 1,oG 33 .leq 26 32] (.cond (.t 33) .skip (.exit 0))) (.seq [0,1,6,7,8,9] (.block 1 (sr [0,1,6,7,8,9,10] [oC 36 245 7,oM 37 8,oo 38 (.bin .sub (.t 37) (.c (.i .u64 1))),oG 39 .and 36 38,oo 40 (.conv .i64 (.t 39)),oM 10 40] (.seq [0,1,6,7,8,9,10] (sr [0,1,6,7,8,9,10,43] [oM 41 10,oM 42 6,oG 43 .geq 41 42] (.cond (.t 43) (.A2 [oM 44 10,oM 45 6,oG 46 .sub 44 45,oM 10 46]) .skip)) (.BC [0,1,6,7,8,9] [dO 0 (oM 47 0),dO 1 (oM 48 9),dO 2 (oM 49 0),dO 3 (oM 50 1),dO 4 (oM 51 10),dO 5 (oG 52 .add 50 51),dO 6 (oM 53 0),dO 7 (oM 54 1),dO 8 (oM 55 10),dO 9 (oG 56 .add 54 55),dO 10 (oI 57 1 53 56),dO 11 (oL 58 57),dO 12 (oM 59 0),dO 13 (oM 60 9),dO 14 (oI 61 1 59 60),dO 15 (oL 62 61),dO 16 (oI 63 1 47 48),dO 17 (oS 1 63 58),dO 18 (oI 64 1 49 52),dO 19 (oS 1 64 62)])))) (.A2 [oM 34 9,Ak 35 .add 34 1,oM 9 35])))))))) .skip)))
def ml:BD:= .fn 65 AAA []
theorem iD:AV Tryz.prog 198 ml:=kT Tryz.func198
abbrev z8:AJ:=(sr [0,1,2] [Bg 6 0,Bg 7 0] (sr [0,1,8] [oM 13 2,oM 14 1,oG 15 .sub 13 14,oM 8 15] (sr [0,1,8,9] [oo 9 (.alloc [(.i .i64 0)])] (sr [0,1,8,9,10] [oM 16 1,oM 17 8,Ak 18 .quo 17 4,Ak 19 .mul 18 1,oG 20 .add 16 19,oM 10 20] (sr [0,1,8,9,10,11] [oM 21 1,oM 22 8,Ak 23 .quo 22 4,Ak 24 .mul 23 2,oG 25 .add 21 24,oM 11 25] (sr [0,8,9,10,11,12] [oM 26 1,oM 27 8,Ak 28 .quo 27 4,Ak 29 .mul 28 3,oG 30 .add 26 29,oM 12 30] (.seq [9,11] (sr [0,8,9,10,11,12,32] [oM 31 8,Ak 32 .geq 31 8] (.cond (.t 32) (.seq [0,9,10,11,12] (sr [0,9,10,11,12,34] [oM 33 8,Ak 34 .geq 33 50] (.cond (.t 34) (sr [0,9,10,11,12] [oM 35 0,oM 36 10,QF 37 246 35 36 9,oM 10 37] (sr [0,9,10,11,12] [oM 38 0,oM 39 11,QF 40 246 38 39 9,oM 11 40] (.A2 [oM 41 0,oM 42 12,QF 43 246 41 42 9,oM 12 43]))) .skip)) (.A2 [oM 44 0,oM 45 10,oM 46 11,oM 47 12,oo 48 (.call 247 [(.t 44),(.t 45),(.t 46),(.t 47),(.t 9)]),oM 11 48])) .skip)) (sr [11,49] [oL 49 9] (.block 0 (sr [11,49,51] [Ak 52 .eql 49 0,oM 51 52] (.cond (.t 51) (sr [6,7] [oM 53 11,oM 6 53,Bg 7 1] .ret) (sr [11,54] [Ak 55 .eql 49 12,oM 54 55] (.cond (.t 54) (sr [6,7] [oM 56 11,oM 6 56,Bg 7 2] .ret) (sr [6,7] [oM 50 11,oM 6 50,Bg 7 0] .ret))))))))))))))
def mh:BD:= .fn 57 z8 [.t 6,.t 7]
theorem iC:AV Tryz.prog 199 mh:=kT Tryz.func199
abbrev z7:AJ:=(sr [0,2,6] [oM 8 1,oM 6 8] (sr [0,6,7] [oM 9 2,Ak 10 .sub 9 1,oM 7 10] (.block 0 (.loop [0,6,7] (.seq [0,6,7] (sr [0,6,7,13] [oM 11 6,oM 12 7,oG 13 .lss 11 12] (.cond (.t 13) .skip (.exit 0))) (.block 1 (.seq [0,6,7] (.BC [0,6,7] [dO 0 (oM 14 0),dO 1 (oM 15 6),dO 2 (oM 16 0),dO 3 (oM 17 7),dO 4 (oM 18 0),dO 5 (oM 19 7),dO 6 (oI 20 1 18 19),dO 7 (oL 21 20),dO 8 (oM 22 0),dO 9 (oM 23 6),dO 10 (oI 24 1 22 23),dO 11 (oL 25 24),dO 12 (oI 26 1 14 15),dO 13 (oS 1 26 21),dO 14 (oI 27 1 16 17),dO 15 (oS 1 27 25)]) (sr [0,6,7] [oM 28 6,Ak 29 .add 28 1,oM 6 29] (.A2 [oM 30 7,Ak 31 .sub 30 1,oM 7 31])))))))))
def mg:BD:= .fn 32 z7 []
theorem iB:AV Tryz.prog 200 mg:=kT Tryz.func200
abbrev z6:AJ:=(sr [0,1,2] [BY 6 false] (sr [0,1,2,7] [oM 11 1,Ak 12 .add 11 1,oM 7 12] (.seq [] (sr [0,1,2,7,8] [Bg 8 0] (.block 0 (.loop [0,1,2,7,8] (.seq [0,1,2,7,8] (sr [0,1,2,7,8,14] [oM 13 8,Ak 14 .lss 13 5] (.cond (.t 14) .skip (.exit 0))) (.seq [0,1,2,7,8] (.block 1 (.seq [0,1,2,7,8] (.block 2 (.loop [0,1,2,7,8] (.seq [0,1,2,7,8] (.seq [0,1,2,7,8,32] (.BC [0,1,2,7,8,32] [dO 0 (oM 17 7),dO 1 (oM 18 2),dO 2 (oG 19 .lss 17 18),dO 3 (oM 20 19),dO 4 (Aw 21 0 20),dO 5 (Aw 22 7 20),dO 6 (E4 23 1 21 22 20),dO 7 (Av 24 23 20),dO 8 (Aw 25 0 20),dO 9 (Aw 26 7 20),dO 10 (EX 27 .sub 26 1 20),dO 11 (E4 28 1 25 27 20),dO 12 (Av 29 28 20),dO 13 (Cs 30 (.call 202 [(.t 24),(.t 29)]) 20),dO 14 (Ik 31 30 20),dO 15 (oP 32 20 31)]) (.cond (.t 32) .skip (.exit 2))) (.block 3 (.A2 [oM 33 7,Ak 34 .add 33 1,oM 7 34]))))) (.seq [0,1,2,7,8] (sr [0,1,2,7,8,37] [oM 35 7,oM 36 2,oG 37 .eql 35 36] (.cond (.t 37) (sr [6] [BY 6 true] .ret) .skip)) (.seq [0,1,2,7,8] (sr [0,1,2,7,8,41] [oM 38 2,oM 39 1,oG 40 .sub 38 39,Ak 41 .lss 40 50] (.cond (.t 41) (sr [6] [BY 6 false] .ret) .skip)) (.seq [0,1,2,7,8] (.BC [0,1,2,7,8] [dO 0 (oM 42 0),dO 1 (oM 43 7),dO 2 (oM 44 0),dO 3 (oM 45 7),dO 4 (Ak 46 .sub 45 1),dO 5 (oM 47 0),dO 6 (oM 48 7),dO 7 (Ak 49 .sub 48 1),dO 8 (oI 50 1 47 49),dO 9 (oL 51 50),dO 10 (oM 52 0),dO 11 (oM 53 7),dO 12 (oI 54 1 52 53),dO 13 (oL 55 54),dO 14 (oI 56 1 42 43),dO 15 (oS 1 56 51),dO 16 (oI 57 1 44 46),dO 17 (oS 1 57 55)]) (.seq [0,1,2,7,8] (sr [0,1,2,7,8,61] [oM 58 7,oM 59 1,oG 60 .sub 58 59,Ak 61 .geq 60 2] (.cond (.t 61) (sr [0,1,2,7,8,9] [oM 62 7,Ak 63 .sub 62 1,oM 9 63] (.block 4 (.loop [0,1,2,7,8,9] (.seq [0,1,2,7,8,9] (sr [0,1,2,7,8,9,65] [oM 64 9,Ak 65 .geq 64 1] (.cond (.t 65) .skip (.exit 4))) (.seq [0,1,2,7,8,9] (.block 5 (.seq [0,1,2,7,8,9] (.seq [0,1,2,7,8,9,78] (.BC [0,1,2,7,8,9,78] [dO 0 (oM 68 0),dO 1 (oM 69 9),dO 2 (oI 70 1 68 69),dO 3 (oL 71 70),dO 4 (oM 72 0),dO 5 (oM 73 9),dO 6 (Ak 74 .sub 73 1),dO 7 (oI 75 1 72 74),dO 8 (oL 76 75),dO 9 (CG 77 202 71 76),dO 10 (oN 78 77)]) (.cond (.t 78) (.exit 4) .skip)) (.BC [0,1,2,7,8,9] [dO 0 (oM 79 0),dO 1 (oM 80 9),dO 2 (oM 81 0),dO 3 (oM 82 9),dO 4 (Ak 83 .sub 82 1),dO 5 (oM 84 0),dO 6 (oM 85 9),dO 7 (Ak 86 .sub 85 1),dO 8 (oI 87 1 84 86),dO 9 (oL 88 87),dO 10 (oM 89 0),dO 11 (oM 90 9),dO 12 (oI 91 1 89 90),dO 13 (oL 92 91),dO 14 (oI 93 1 79 80),dO 15 (oS 1 93 88),dO 16 (oI 94 1 81 83),dO 17 (oS 1 94 92)]))) (.A2 [oM 66 9,Ak 67 .sub 66 1,oM 9 67])))))) .skip)) (sr [0,1,2,7,8,98] [oM 95 2,oM 96 7,oG 97 .sub 95 96,Ak 98 .geq 97 2] (.cond (.t 98) (sr [0,1,2,7,8,10] [oM 99 7,Ak 100 .add 99 1,oM 10 100] (.block 6 (.loop [0,1,2,7,8,10] (.seq [0,1,2,7,8,10] (sr [0,1,2,7,8,10,103] [oM 101 10,oM 102 2,oG 103 .lss 101 102] (.cond (.t 103) .skip (.exit 6))) (.seq [0,1,2,7,8,10] (.block 7 (.seq [0,1,2,7,8,10] (.seq [0,1,2,7,8,10,116] (.BC [0,1,2,7,8,10,116] [dO 0 (oM 106 0),dO 1 (oM 107 10),dO 2 (oI 108 1 106 107),dO 3 (oL 109 108),dO 4 (oM 110 0),dO 5 (oM 111 10),dO 6 (Ak 112 .sub 111 1),dO 7 (oI 113 1 110 112),dO 8 (oL 114 113),dO 9 (CG 115 202 109 114),dO 10 (oN 116 115)]) (.cond (.t 116) (.exit 6) .skip)) (.BC [0,1,2,7,8,10] [dO 0 (oM 117 0),dO 1 (oM 118 10),dO 2 (oM 119 0),dO 3 (oM 120 10),dO 4 (Ak 121 .sub 120 1),dO 5 (oM 122 0),dO 6 (oM 123 10),dO 7 (Ak 124 .sub 123 1),dO 8 (oI 125 1 122 124),dO 9 (oL 126 125),dO 10 (oM 127 0),dO 11 (oM 128 10),dO 12 (oI 129 1 127 128),dO 13 (oL 130 129),dO 14 (oI 131 1 117 118),dO 15 (oS 1 131 126),dO 16 (oI 132 1 119 121),dO 17 (oS 1 132 130)]))) (.A2 [oM 104 10,Ak 105 .add 104 1,oM 10 105])))))) .skip)))))))) (.A2 [oM 15 8,Ak 16 .add 15 1,oM 8 16])))))) (sr [6] [BY 6 false] .ret))))
def mf:BD:= .fn 133 z6 [.t 6]
theorem iA:AV Tryz.prog 201 mf:=kT Tryz.func201
abbrev zy:AJ:=(sr [0,1] [BY 4 false] (sr [4] [oM 5 0,oC 6 248 5,oM 7 6,Aw 8 1 7,Cs 9 (.call 248 [(.t 8)]) 7,Ik 10 9 7,oP 11 7 10,oM 12 11,B0 13 0 12,B0 14 1 12,M0 15 .lss 13 14 12,oQ 16 12 15,oM 4 16] .ret))
def me:BD:= .fn 17 zy [.t 4]
theorem hZ:AV Tryz.prog 202 me:=kT Tryz.func202
abbrev zx:AJ:=(sr [0,1,2,3] [Bg 8 0] (.seq [0,1,2] (.BC [0,1,2] [dO 0 (oM 11 0),dO 1 (oM 12 1),dO 2 (oM 13 0),dO 3 (oM 14 3),dO 4 (oM 15 0),dO 5 (oM 16 3),dO 6 (oI 17 1 15 16),dO 7 (oL 18 17),dO 8 (oM 19 0),dO 9 (oM 20 1),dO 10 (oI 21 1 19 20),dO 11 (oL 22 21),dO 12 (oI 23 1 11 12),dO 13 (oS 1 23 18),dO 14 (oI 24 1 13 14),dO 15 (oS 1 24 22)]) (sr [0,1,9,10] [oM 25 1,Ak 26 .add 25 1,oM 27 2,Ak 28 .sub 27 1,oM 9 26,oM 10 28] (.seq [9] (.block 0 (.loop [0,1,9,10] (.block 1 (.seq [0,1,9,10] (.block 2 (.loop [0,1,9,10] (.seq [0,1,9,10] (.seq [0,1,9,10,43] (.BC [0,1,9,10,43] [dO 0 (oM 29 9),dO 1 (oM 30 10),dO 2 (oG 31 .leq 29 30),dO 3 (oM 32 31),dO 4 (Aw 33 0 32),dO 5 (Aw 34 1 32),dO 6 (E4 35 1 33 34 32),dO 7 (Av 36 35 32),dO 8 (Aw 37 0 32),dO 9 (Aw 38 9 32),dO 10 (E4 39 1 37 38 32),dO 11 (Av 40 39 32),dO 12 (Cs 41 (.call 202 [(.t 36),(.t 40)]) 32),dO 13 (Ik 42 41 32),dO 14 (oP 43 32 42)]) (.cond (.t 43) .skip (.exit 2))) (.block 3 (.A2 [oM 44 9,Ak 45 .add 44 1,oM 9 45]))))) (.seq [0,1,9,10] (.block 4 (.loop [0,1,9,10] (.seq [0,1,9,10] (.seq [0,1,9,10,59] (.BC [0,1,9,10,59] [dO 0 (oM 46 9),dO 1 (oM 47 10),dO 2 (oG 48 .leq 46 47),dO 3 (oM 49 48),dO 4 (Aw 50 0 49),dO 5 (Aw 51 1 49),dO 6 (E4 52 1 50 51 49),dO 7 (Av 53 52 49),dO 8 (Aw 54 0 49),dO 9 (Aw 55 10 49),dO 10 (E4 56 1 54 55 49),dO 11 (Av 57 56 49),dO 12 (Cs 58 (.call 202 [(.t 53),(.t 57)]) 49),dO 13 (oP 59 49 58)]) (.cond (.t 59) .skip (.exit 4))) (.block 5 (.A2 [oM 60 10,Ak 61 .sub 60 1,oM 10 61]))))) (.seq [0,1,9,10] (sr [0,1,9,10,64] [oM 62 9,oM 63 10,oG 64 .gtr 62 63] (.cond (.t 64) (.exit 0) .skip)) (.seq [0,1,9,10] (.BC [0,1,9,10] [dO 0 (oM 65 0),dO 1 (oM 66 9),dO 2 (oM 67 0),dO 3 (oM 68 10),dO 4 (oM 69 0),dO 5 (oM 70 10),dO 6 (oI 71 1 69 70),dO 7 (oL 72 71),dO 8 (oM 73 0),dO 9 (oM 74 9),dO 10 (oI 75 1 73 74),dO 11 (oL 76 75),dO 12 (oI 77 1 65 66),dO 13 (oS 1 77 72),dO 14 (oI 78 1 67 68),dO 15 (oS 1 78 76)]) (sr [0,1,9,10] [oM 79 9,Ak 80 .add 79 1,oM 9 80] (.A2 [oM 81 10,Ak 82 .sub 81 1,oM 10 82]))))))))) (sr [8] [oM 83 9,oM 8 83] .ret)))))
def mb:BD:= .fn 84 zx [.t 8]
theorem hX:AV Tryz.prog 203 mb:=kT Tryz.func203
abbrev zw:AJ:=(sr [0,1,2,3] [Bg 8 0,BY 9 false] (.seq [0,1,2] (.BC [0,1,2] [dO 0 (oM 12 0),dO 1 (oM 13 1),dO 2 (oM 14 0),dO 3 (oM 15 3),dO 4 (oM 16 0),dO 5 (oM 17 3),dO 6 (oI 18 1 16 17),dO 7 (oL 19 18),dO 8 (oM 20 0),dO 9 (oM 21 1),dO 10 (oI 22 1 20 21),dO 11 (oL 23 22),dO 12 (oI 24 1 12 13),dO 13 (oS 1 24 19),dO 14 (oI 25 1 14 15),dO 15 (oS 1 25 23)]) (sr [0,1,10,11] [oM 26 1,Ak 27 .add 26 1,oM 28 2,Ak 29 .sub 28 1,oM 10 27,oM 11 29] (.seq [0,1,10,11] (.block 0 (.loop [0,1,10,11] (.seq [0,1,10,11] (.seq [0,1,10,11,43] (.BC [0,1,10,11,43] [dO 0 (oM 30 10),dO 1 (oM 31 11),dO 2 (oG 32 .leq 30 31),dO 3 (oM 33 32),dO 4 (Aw 34 0 33),dO 5 (Aw 35 10 33),dO 6 (E4 36 1 34 35 33),dO 7 (Av 37 36 33),dO 8 (Aw 38 0 33),dO 9 (Aw 39 1 33),dO 10 (E4 40 1 38 39 33),dO 11 (Av 41 40 33),dO 12 (Cs 42 (.call 202 [(.t 37),(.t 41)]) 33),dO 13 (oP 43 33 42)]) (.cond (.t 43) .skip (.exit 0))) (.block 1 (.A2 [oM 44 10,Ak 45 .add 44 1,oM 10 45]))))) (.seq [0,1,10,11] (.block 2 (.loop [0,1,10,11] (.seq [0,1,10,11] (.seq [0,1,10,11,60] (.BC [0,1,10,11,60] [dO 0 (oM 46 10),dO 1 (oM 47 11),dO 2 (oG 48 .leq 46 47),dO 3 (oM 49 48),dO 4 (Aw 50 0 49),dO 5 (Aw 51 11 49),dO 6 (E4 52 1 50 51 49),dO 7 (Av 53 52 49),dO 8 (Aw 54 0 49),dO 9 (Aw 55 1 49),dO 10 (E4 56 1 54 55 49),dO 11 (Av 57 56 49),dO 12 (Cs 58 (.call 202 [(.t 53),(.t 57)]) 49),dO 13 (Ik 59 58 49),dO 14 (oP 60 49 59)]) (.cond (.t 60) .skip (.exit 2))) (.block 3 (.A2 [oM 61 11,Ak 62 .sub 61 1,oM 11 62]))))) (.seq [0,1,10,11] (sr [0,1,10,11,65] [oM 63 10,oM 64 11,oG 65 .gtr 63 64] (.cond (.t 65) (.seq [11] (.BC [11] [dO 0 (oM 66 0),dO 1 (oM 67 11),dO 2 (oM 68 0),dO 3 (oM 69 1),dO 4 (oM 70 0),dO 5 (oM 71 1),dO 6 (oI 72 1 70 71),dO 7 (oL 73 72),dO 8 (oM 74 0),dO 9 (oM 75 11),dO 10 (oI 76 1 74 75),dO 11 (oL 77 76),dO 12 (oI 78 1 66 67),dO 13 (oS 1 78 73),dO 14 (oI 79 1 68 69),dO 15 (oS 1 79 77)]) (sr [8,9] [oM 80 11,oM 8 80,BY 9 true] .ret)) .skip)) (.seq [0,1,10,11] (.BC [0,1,10,11] [dO 0 (oM 81 0),dO 1 (oM 82 10),dO 2 (oM 83 0),dO 3 (oM 84 11),dO 4 (oM 85 0),dO 5 (oM 86 11),dO 6 (oI 87 1 85 86),dO 7 (oL 88 87),dO 8 (oM 89 0),dO 9 (oM 90 10),dO 10 (oI 91 1 89 90),dO 11 (oL 92 91),dO 12 (oI 93 1 81 82),dO 13 (oS 1 93 88),dO 14 (oI 94 1 83 84),dO 15 (oS 1 94 92)]) (sr [0,1,10,11] [oM 95 10,Ak 96 .add 95 1,oM 10 96] (sr [0,1,10,11] [oM 97 11,Ak 98 .sub 97 1,oM 11 98] (.seq [0,1,11] (.block 4 (.loop [0,1,10,11] (.block 5 (.seq [0,1,10,11] (.block 6 (.loop [0,1,10,11] (.seq [0,1,10,11] (.seq [0,1,10,11,112] (.BC [0,1,10,11,112] [dO 0 (oM 99 10),dO 1 (oM 100 11),dO 2 (oG 101 .leq 99 100),dO 3 (oM 102 101),dO 4 (Aw 103 0 102),dO 5 (Aw 104 10 102),dO 6 (E4 105 1 103 104 102),dO 7 (Av 106 105 102),dO 8 (Aw 107 0 102),dO 9 (Aw 108 1 102),dO 10 (E4 109 1 107 108 102),dO 11 (Av 110 109 102),dO 12 (Cs 111 (.call 202 [(.t 106),(.t 110)]) 102),dO 13 (oP 112 102 111)]) (.cond (.t 112) .skip (.exit 6))) (.block 7 (.A2 [oM 113 10,Ak 114 .add 113 1,oM 10 114]))))) (.seq [0,1,10,11] (.block 8 (.loop [0,1,10,11] (.seq [0,1,10,11] (.seq [0,1,10,11,129] (.BC [0,1,10,11,129] [dO 0 (oM 115 10),dO 1 (oM 116 11),dO 2 (oG 117 .leq 115 116),dO 3 (oM 118 117),dO 4 (Aw 119 0 118),dO 5 (Aw 120 11 118),dO 6 (E4 121 1 119 120 118),dO 7 (Av 122 121 118),dO 8 (Aw 123 0 118),dO 9 (Aw 124 1 118),dO 10 (E4 125 1 123 124 118),dO 11 (Av 126 125 118),dO 12 (Cs 127 (.call 202 [(.t 122),(.t 126)]) 118),dO 13 (Ik 128 127 118),dO 14 (oP 129 118 128)]) (.cond (.t 129) .skip (.exit 8))) (.block 9 (.A2 [oM 130 11,Ak 131 .sub 130 1,oM 11 131]))))) (.seq [0,1,10,11] (sr [0,1,10,11,134] [oM 132 10,oM 133 11,oG 134 .gtr 132 133] (.cond (.t 134) (.exit 4) .skip)) (.seq [0,1,10,11] (.BC [0,1,10,11] [dO 0 (oM 135 0),dO 1 (oM 136 10),dO 2 (oM 137 0),dO 3 (oM 138 11),dO 4 (oM 139 0),dO 5 (oM 140 11),dO 6 (oI 141 1 139 140),dO 7 (oL 142 141),dO 8 (oM 143 0),dO 9 (oM 144 10),dO 10 (oI 145 1 143 144),dO 11 (oL 146 145),dO 12 (oI 147 1 135 136),dO 13 (oS 1 147 142),dO 14 (oI 148 1 137 138),dO 15 (oS 1 148 146)]) (sr [0,1,10,11] [oM 149 10,Ak 150 .add 149 1,oM 10 150] (.A2 [oM 151 11,Ak 152 .sub 151 1,oM 11 152]))))))))) (.seq [11] (.BC [11] [dO 0 (oM 153 0),dO 1 (oM 154 11),dO 2 (oM 155 0),dO 3 (oM 156 1),dO 4 (oM 157 0),dO 5 (oM 158 1),dO 6 (oI 159 1 157 158),dO 7 (oL 160 159),dO 8 (oM 161 0),dO 9 (oM 162 11),dO 10 (oI 163 1 161 162),dO 11 (oL 164 163),dO 12 (oI 165 1 153 154),dO 13 (oS 1 165 160),dO 14 (oI 166 1 155 156),dO 15 (oS 1 166 164)]) (sr [8,9] [oM 167 11,oM 8 167,BY 9 false] .ret))))))))))))
def ma:BD:= .fn 168 zw [.t 8,.t 9]
theorem gz:AV Tryz.prog 204 ma:=kT Tryz.func204
abbrev zb:=pc
def mG:BD:= .fn 11 zb []
theorem gZ:AV Tryz.prog 224 mG:=kT Tryz.func224
def Z3:List AS:=[oo 5 (.V2 257 (.a []) true (.t 4)),
    oM 3 5,
    oX 6 0 3,
    oX 7 1 3,
    oo 1 (.alloc []),
    oS 0 1 6,
    oM 2 7]
abbrev XO:AJ:=(sr [0,8] [oM 8 2] (.cond (.t 8) (.A2 [⟨none,.store 1 (.t 0) (.c (.b false)),none⟩]) .skip))
theorem dw:Tryz.f229.body.bind (resRec Tryz.prog Tryz.f229.ntmps [] [])=some (4,Z3,erase XO):=by kernel_rfl
def mB:BD:= .wI 9 4 Z3 XO [0,2]
theorem gU:AV Tryz.prog 229 mB:=fun _ _ _ _ hn h=>IZ Tryz.func229 (by kernel_rfl) dw rfl hn h
noncomputable abbrev zW:=unB pW
noncomputable def mA:BD:= .fn 23 zW [.t 4]
theorem gT:AV Tryz.prog 230 mA:=kT Tryz.func230
abbrev zV:=pV
def l9:BD:= .fn 14 zV []
theorem gS:AV Tryz.prog 231 l9:=kT Tryz.func231
abbrev zt:=p6
def mW:BD:= .fn 6 zt [.t 2]
theorem gv:AV Tryz.prog 208 mW:=kT Tryz.func208
abbrev zr:=pz
def mV:BD:= .fn 32 zr [.t 4,.t 5]
theorem gu:AV Tryz.prog 209 mV:=kT Tryz.func209
noncomputable abbrev zq:=unB py
noncomputable def mU:BD:= .fn 49 zq [.t 4]
theorem gr:AV Tryz.prog 210 mU:=kT Tryz.func210
abbrev zp:=px
def mT:BD:= .fn 9 zp [.t 2]
theorem gq:AV Tryz.prog 211 mT:=kT Tryz.func211
abbrev zo:=pw
def mS:BD:= .fn 30 zo [.t 4,.t 5]
theorem gp:AV Tryz.prog 212 mS:=kT Tryz.func212
noncomputable abbrev AAZ:=unB qO
noncomputable def nQ:BD:= .fn 8 AAZ [.t 6]
theorem ij:AV Tryz.prog 167 nQ:=kT Tryz.func167
noncomputable abbrev AAY:=unB qN
noncomputable def nP:BD:= .fn 52 AAY [.t 6]
theorem ig:AV Tryz.prog 168 nP:=kT Tryz.func168
abbrev AAX:=qM
def nN:BD:= .fn 33 AAX [.t 2]
theorem ie:AV Tryz.prog 169 nN:=kT Tryz.func169
noncomputable abbrev yl:=unB ot
noncomputable def k8:BD:= .fn 8 yl [.t 6]
theorem fP:AV Tryz.prog 306 k8:=kT Tryz.func306
noncomputable abbrev yk:=unB oq
noncomputable def k7:BD:= .fn 13 yk [.t 6]
theorem fO:AV Tryz.prog 307 k7:=kT Tryz.func307
abbrev zl:=pr
def mP:BD:= .fn 5 zl [.t 2]
theorem gl:AV Tryz.prog 215 mP:=kT Tryz.func215
abbrev zg:=ph
def mK:BD:= .fn 9 zg [.t 2]
theorem gg:AV Tryz.prog 220 mK:=kT Tryz.func220
abbrev zf:=pg
def mJ:BD:= .fn 14 zf [.t 4]
theorem gd:AV Tryz.prog 221 mJ:=kT Tryz.func221
abbrev ze:=pf
def mI:BD:= .fn 18 ze [.t 4]
theorem gb:AV Tryz.prog 222 mI:=kT Tryz.func222
noncomputable abbrev zd:=unB pd
noncomputable def mH:BD:= .fn 12 zd [.t 5]
theorem ga:AV Tryz.prog 223 mH:=kT Tryz.func223
abbrev zH:=pR
def lh:BD:= .fn 19 zH [.t 4]
theorem gD:AV Tryz.prog 253 lh:=kT Tryz.func253
abbrev zA:AJ:=(sr [0,1] [Bg 4 0] (.seq [] (sr [0,1,7,8] [oM 6 0,oE 7 6,Bg 8 0] (.block 0 (.loop [0,1,7,8] (sr [0,1,7,8,9] [oG 9 .lss 8 7] (.seq [0,1,7,8] (.cond (.t 9) .skip (.exit 0)) (.seq [0,1,7,8] (.block 1 (sr [0,1,5,7,8] [oM 10 8,oM 5 10] (sr [0,1,5,7,8,16] [oM 11 1,oM 12 0,oM 13 5,oI 14 2 12 13,BW 15 2 14,oo 16 (.Bs (.t 11) [(.t 15)])] (.cond (.t 16) (sr [4] [oM 17 5,oM 4 17] .ret) .skip)))) (.A2 [Ak 18 .add 8 1,oM 8 18]))))))) (sr [4] [Bg 4 (-1)] .ret)))
def lV:BD:= .fn 19 zA [.t 4]
theorem ft:AV Tryz.prog 267 lV:=kT Tryz.func267
abbrev zR:AJ:=(sr [0,2,3,8] [oM 10 1,oM 8 10] (.block 0 (.loop [0,2,3,8] (.block 1 (sr [0,2,3,8,9] [oM 11 8,oo 12 (.bin .mul (.c (.i .i64 2)) (.t 11)),Ak 13 .add 12 1,oM 9 13] (.seq [0,2,3,8,9] (sr [0,2,3,8,9,16] [oM 14 9,oM 15 2,oG 16 .geq 14 15] (.cond (.t 16) (.exit 0) .skip)) (.seq [0,2,3,8,9] (.seq [0,2,3,8,9,36] (.BC [0,2,3,8,9,36] [dO 0 (oM 17 9),dO 1 (Ak 18 .add 17 1),dO 2 (oM 19 2),dO 3 (oG 20 .lss 18 19),dO 4 (oM 21 20),dO 5 (Aw 22 0 21),dO 6 (Aw 23 3 21),dO 7 (Aw 24 9 21),dO 8 (F8 25 .add 23 24 21),dO 9 (E4 26 1 22 25 21),dO 10 (Av 27 26 21),dO 11 (Aw 28 0 21),dO 12 (Aw 29 3 21),dO 13 (Aw 30 9 21),dO 14 (F8 31 .add 29 30 21),dO 15 (EX 32 .add 31 1 21),dO 16 (E4 33 1 28 32 21),dO 17 (Av 34 33 21),dO 18 (Cs 35 (.call 202 [(.t 27),(.t 34)]) 21),dO 19 (oP 36 21 35)]) (.cond (.t 36) (.A2 [oM 37 9,Ak 38 .add 37 1,oM 9 38]) .skip)) (.seq [0,2,3,8,9] (.seq [0,2,3,8,9,52] (.BC [0,2,3,8,9,52] [dO 0 (oM 39 0),dO 1 (oM 40 3),dO 2 (oM 41 8),dO 3 (oG 42 .add 40 41),dO 4 (oI 43 1 39 42),dO 5 (oL 44 43),dO 6 (oM 45 0),dO 7 (oM 46 3),dO 8 (oM 47 9),dO 9 (oG 48 .add 46 47),dO 10 (oI 49 1 45 48),dO 11 (oL 50 49),dO 12 (CG 51 202 44 50),dO 13 (oN 52 51)]) (.cond (.t 52) .ret .skip)) (.seq [0,2,3,9] (.BC [0,2,3,9] [dO 0 (oM 53 0),dO 1 (oM 54 3),dO 2 (oM 55 8),dO 3 (oG 56 .add 54 55),dO 4 (oM 57 0),dO 5 (oM 58 3),dO 6 (oM 59 9),dO 7 (oG 60 .add 58 59),dO 8 (oM 61 0),dO 9 (oM 62 3),dO 10 (oM 63 9),dO 11 (oG 64 .add 62 63),dO 12 (oI 65 1 61 64),dO 13 (oL 66 65),dO 14 (oM 67 0),dO 15 (oM 68 3),dO 16 (oM 69 8),dO 17 (oG 70 .add 68 69),dO 18 (oI 71 1 67 70),dO 19 (oL 72 71),dO 20 (oI 73 1 53 56),dO 21 (oS 1 73 66),dO 22 (oI 74 1 57 60),dO 23 (oS 1 74 72)]) (.A2 [oM 75 9,oM 8 75]))))))))))
def l5:BD:= .fn 76 zR []
theorem gO:AV Tryz.prog 243 l5:=kT Tryz.func243
abbrev zQ:AJ:=(sr [0] [oo 2 (.mv (.c (.i .u64 0)))] (sr [2] [oM 3 0,oo 4 (.conv .u64 (.t 3)),oC 5 160 4,oo 6 (.bin .shl (.c (.i .u64 1)) (.t 5)),oM 2 6] .ret))
def lz:BD:= .fn 7 zQ [.t 2]
theorem gN:AV Tryz.prog 244 lz:=kT Tryz.func244
abbrev zP:AJ:=(sr [0] [oo 2 (.mv (.c (.i .u64 0)))] (.seq [0] (.BC [0] [dO 0 (oM 3 0),dO 1 (oK 4 3),dO 2 (oL 5 4),dO 3 (oM 6 0),dO 4 (oK 7 6),dO 5 (oL 8 7),dO 6 (oo 9 (.bin .shl (.t 8) (.c (.i .u64 13)))),dO 7 (oG 10 .xor 5 9),dO 8 (oK 11 3),dO 9 (oS 1 11 10)]) (.seq [0] (.BC [0] [dO 0 (oM 12 0),dO 1 (oK 13 12),dO 2 (oL 14 13),dO 3 (oM 15 0),dO 4 (oK 16 15),dO 5 (oL 17 16),dO 6 (oo 18 (.bin .shr (.t 17) (.c (.i .u64 7)))),dO 7 (oG 19 .xor 14 18),dO 8 (oK 20 12),dO 9 (oS 1 20 19)]) (.seq [0] (.BC [0] [dO 0 (oM 21 0),dO 1 (oK 22 21),dO 2 (oL 23 22),dO 3 (oM 24 0),dO 4 (oK 25 24),dO 5 (oL 26 25),dO 6 (oo 27 (.bin .shl (.t 26) (.c (.i .u64 17)))),dO 7 (oG 28 .xor 23 27),dO 8 (oK 29 21),dO 9 (oS 1 29 28)]) (sr [2] [oM 30 0,oK 31 30,oL 32 31,oM 2 32] .ret)))))
def ly:BD:= .fn 33 zP [.t 2]
theorem gM:AV Tryz.prog 245 ly:=kT Tryz.func245
abbrev zO:AJ:=(sr [0,1,2] [Bg 6 0] (sr [6] [oM 7 0,oM 8 1,Ak 9 .sub 8 1,oM 10 1,oM 11 1,Ak 12 .add 11 1,oM 13 2,oo 14 (.call 247 [(.t 7),(.t 9),(.t 10),(.t 12),(.t 13)]),oM 6 14] .ret))
def lx:BD:= .fn 15 zO [.t 6]
theorem gL:AV Tryz.prog 246 lx:=kT Tryz.func246
abbrev zN:AJ:=(sr [0,1,2,3,4] [Bg 10 0] (sr [0,1,2,3,4] [oM 12 0,oM 13 1,oM 14 2,oM 15 4,QE 16 268 12 13 14 15,oM 11 16,oX 17 0 11,oX 18 1 11,oM 1 17,oM 2 18] (sr [0,1,2,4] [oM 20 0,oM 21 2,oM 22 3,oM 23 4,QE 24 268 20 21 22 23,oM 19 24,oX 25 0 19,oX 26 1 19,oM 2 25,oM 3 26] (sr [2] [oM 28 0,oM 29 1,oM 30 2,oM 31 4,QE 32 268 28 29 30 31,oM 27 32,oX 33 0 27,oX 34 1 27,oM 1 33,oM 2 34] (sr [10] [oM 35 2,oM 10 35] .ret)))))
def lu:BD:= .fn 36 zN [.t 10]
theorem gK:AV Tryz.prog 247 lu:=kT Tryz.func247
abbrev zM:AJ:=(sr [0] [BY 2 false] (sr [2] [oM 3 0,oM 4 0,oG 5 .neq 3 4,oM 2 5] .ret))
def lr:BD:= .fn 6 zM [.t 2]
theorem gJ:AV Tryz.prog 248 lr:=kT Tryz.func248
noncomputable abbrev za:=unB pb
noncomputable def mF:BD:= .fn 71 za [.t 7]
theorem gY:AV Tryz.prog 225 mF:=kT Tryz.func225
noncomputable abbrev zC:=unB pK
noncomputable def lX:BD:= .fn 79 zC []
theorem fv:AV Tryz.prog 259 lX:=kT Tryz.func259
noncomputable abbrev zB:=unB pJ
noncomputable def lW:BD:= .fn 28 zB [.t 4]
theorem fu:AV Tryz.prog 260 lW:=kT Tryz.func260
abbrev zL:=pU
def lq:BD:= .fn 44 zL [.t 2]
theorem gI:AV Tryz.prog 249 lq:=kT Tryz.func249
abbrev zK:=pT
def ln:BD:= .fn 104 zK [.t 4,.t 5]
theorem gG:AV Tryz.prog 250 ln:=kT Tryz.func250
abbrev zJ:AJ:=(sr [0,1] [oo 4 (.mv (.c (.i .u32 0))),oo 5 (.mv (.c (.i .u32 0)))] (sr [6] [oM 7 0,oo 8 (.conv .u64 (.t 7)),oM 9 1,oo 10 (.conv .u64 (.t 9)),oG 11 .mul 8 10,oM 6 11] (sr [4,5] [oM 12 6,oo 13 (.bin .shr (.t 12) (.c (.i .u64 32))),oo 14 (.conv .u32 (.t 13)),oM 15 6,oo 16 (.conv .u32 (.t 15)),oM 4 14,oM 5 16] .ret)))
def lk:BD:= .fn 17 zJ [.t 4,.t 5]
theorem gF:AV Tryz.prog 251 lk:=kT Tryz.func251
abbrev zI:=pS
def lj:BD:= .fn 51 zI [.t 4,.t 5]
theorem gE:AV Tryz.prog 252 lj:=kT Tryz.func252
noncomputable abbrev zn:=unB pv
noncomputable def mR:BD:= .fn 11 zn []
theorem gn:AV Tryz.prog 213 mR:=kT Tryz.func213
abbrev zG:=pQ
def lg:BD:= .fn 17 zG [.t 4]
theorem gC:AV Tryz.prog 254 lg:=kT Tryz.func254
abbrev y9:AJ:=(sr [0,1,2,3] [Bg 8 0,Bg 9 0] (.seq [1,2] (.seq [1,2,3,18] (.BC [1,2,3,18] [dO 0 (oM 10 0),dO 1 (oM 11 2),dO 2 (oI 12 1 10 11),dO 3 (oL 13 12),dO 4 (oM 14 0),dO 5 (oM 15 1),dO 6 (oI 16 1 14 15),dO 7 (oL 17 16),dO 8 (CG 18 202 13 17)]) (.cond (.t 18) (sr [1,2] [oM 19 3,oK 20 19,oL 21 20,Ak 22 .add 21 1,oK 23 19,oS 1 23 22] (sr [8,9] [oM 24 2,oM 25 1,oM 8 24,oM 9 25] .ret)) .skip)) (sr [8,9] [oM 26 1,oM 27 2,oM 8 26,oM 9 27] .ret)))
def lU:BD:= .fn 28 y9 [.t 8,.t 9]
theorem fq:AV Tryz.prog 268 lU:=kT Tryz.func268
noncomputable abbrev zZ:=unB pZ
noncomputable def mE:BD:= .fn 15 zZ [.t 6]
theorem gX:AV Tryz.prog 226 mE:=kT Tryz.func226
abbrev y2:AJ:=(sr [0,3] [oB 3 1,oo 4 (.mv (.c .pn))] (.seq [0,3,5,6] (.BC [0,3,5,6] [dO 0 (oM 8 0),dO 1 (oK 9 8),dO 2 (oF 10 1 9),dO 3 (oL 11 10),dO 4 (BW 12 4 3),dO 5 (oo 13 (.lookup (.a [.i64,.i64,.i64,.i64]) .pn true (.t 11) (.t 12))),dO 6 (oM 7 13),dO 7 (oX 14 0 7),dO 8 (oX 15 1 7),dO 9 (oM 5 14),dO 10 (oM 6 15)]) (.seq [5] (sr [0,3,5,17] [oM 16 6,oN 17 16] (.cond (.t 17) (sr [0,3,5] [oo 18 (.build [(.i .i64 0),(.i .i64 0),(.l [] true)] [(0,1,(.c (.i .i64 (-1000000000)))),(1,1,(.c (.i .i64 1000000000)))]),oo 19 (.build [(.i .i64 0),(.i .i64 0),(.l [] true),(.i .u64 0),(.i .u64 0),(.b false),(.b false),(.l [] true)] [(0,3,(.t 18))]),oB 20 19,oM 5 20] (.BC [5] [dO 0 (oM 21 0),dO 1 (oK 22 21),dO 2 (oF 23 1 22),dO 3 (oL 24 23),dO 4 (BW 25 4 3),dO 5 (oM 26 5),⟨6,⟨none,.Cw (.a [.i64,.i64,.i64,.i64]) (.t 24) (.t 25) (.t 26),none⟩,[],[]⟩])) .skip)) (sr [4] [oM 27 5,oM 4 27] .ret))))
def lN:BD:= .fn 28 y2 [.t 4]
theorem fh:AV Tryz.prog 275 lN:=kT Tryz.func275
abbrev y1:=pC
def lM:BD:= .fn 15 y1 [.c 4 (some 4)]
theorem fg:AV Tryz.prog 276 lM:=kT Tryz.func276
noncomputable abbrev y0:=unB pB
noncomputable def lL:BD:= .fn 130 y0 []
theorem ff:AV Tryz.prog 277 lL:=kT Tryz.func277
noncomputable abbrev yz:=unB pA
noncomputable def lK:BD:= .fn 38 yz [.t 4,.t 5]
theorem fe:AV Tryz.prog 278 lK:=kT Tryz.func278
noncomputable abbrev yy:=unB o8
noncomputable def lJ:BD:= .fn 17 yy [.t 4]
theorem fb:AV Tryz.prog 279 lJ:=kT Tryz.func279
noncomputable abbrev yx:=unB o7
noncomputable def lI:BD:= .fn 136 yx [.t 4,.t 5]
theorem fZ:AV Tryz.prog 280 lI:=kT Tryz.func280
abbrev y8:=pH
def lT:BD:= .fn 12 y8 [.c 4 (some 1)]
theorem fp:AV Tryz.prog 269 lT:=kT Tryz.func269
noncomputable abbrev y7:=unB pG
noncomputable def lS:BD:= .fn 12 y7 [.c 4 (some 1)]
theorem fo:AV Tryz.prog 270 lS:=kT Tryz.func270
abbrev y6:=pF
def lR:BD:= .fn 40 y6 []
theorem fm:AV Tryz.prog 271 lR:=kT Tryz.func271
noncomputable abbrev zm:=unB pt
noncomputable def mQ:BD:= .fn 55 zm [.t 7]
theorem gm:AV Tryz.prog 214 mQ:=kT Tryz.func214
abbrev zY:=pY
def mD:BD:= .fn 10 zY [.t 4]
theorem gW:AV Tryz.prog 227 mD:=kT Tryz.func227
noncomputable abbrev yu:=unB o0
noncomputable def lF:BD:= .fn 35 yu [.t 6]
theorem fW:AV Tryz.prog 284 lF:=kT Tryz.func284
abbrev yw:=o6
def lH:BD:= .fn 50 yw [.t 4,.t 5]
theorem fY:AV Tryz.prog 282 lH:=kT Tryz.func282
noncomputable abbrev yv:=unB o5
noncomputable def lG:BD:= .fn 66 yv [.t 2,.t 3]
theorem fX:AV Tryz.prog 283 lG:=kT Tryz.func283
abbrev zX:=pX
def mC:BD:= .fn 26 zX [.t 4]
theorem gV:AV Tryz.prog 228 mC:=kT Tryz.func228
noncomputable abbrev yo:=unB ox
noncomputable def lB:BD:= .fn 13 yo [.t 4]
theorem fS:AV Tryz.prog 288 lB:=kT Tryz.func288
abbrev yr:=oz
def lE:BD:= .fn 5 yr [.t 2]
theorem fV:AV Tryz.prog 285 lE:=kT Tryz.func285
abbrev yp:=Zp
def lC:BD:= .fn 7 yp [.t 3]
theorem fT:AV Tryz.prog 287 lC:=kT Tryz.func287
abbrev yq:=oy
def lD:BD:= .fn 23 yq [.t 4]
theorem fU:AV Tryz.prog 286 lD:=kT Tryz.func286
theorem eE:Tryz.f255.body.bind (res Tryz.prog Tryz.f255.ntmps [] [])=some (erase (Mq 7 88)):=by kernel_rfl
def lf:BD:= .UZ (Qp 7)
theorem gB:AV Tryz.prog 255 lf:=TS (sz:=7) (b:=88) (fun _ _ _ hn h=>Ez Tryz.func255 (by kernel_rfl) eE (by kernel_rfl) hn h) nb
noncomputable abbrev zE:=unB pN
noncomputable def lZ:BD:= .fn 16 zE [.t 3]
theorem fy:AV Tryz.prog 257 lZ:=kT Tryz.func257
abbrev zF:=pO
def la:BD:= .fn 9 zF [.t 4]
theorem gA:AV Tryz.prog 256 la:=kT Tryz.func256
abbrev ym:=ou
def k9:BD:= .fn 14 ym [.t 4]
theorem fQ:AV Tryz.prog 290 k9:=kT Tryz.func290
abbrev yn:=ow
def lA:BD:= .fn 5 yn [.t 2]
theorem fR:AV Tryz.prog 289 lA:=kT Tryz.func289
noncomputable abbrev zD:=unB pM
noncomputable def lY:BD:= .fn 45 zD [.t 4]
theorem fw:AV Tryz.prog 258 lY:=kT Tryz.func258
abbrev y5:=pE
def lQ:BD:= .fn 19 y5 [.t 4]
theorem fl:AV Tryz.prog 272 lQ:=kT Tryz.func272
abbrev y4:=Zq
def lP:BD:= .fn 26 y4 [.t 4]
theorem fk:AV Tryz.prog 273 lP:=kT Tryz.func273
abbrev y3:=pD
def lO:BD:= .fn 32 y3 [.t 6]
theorem fj:AV Tryz.prog 274 lO:=kT Tryz.func274
noncomputable def E2:Tr BD:=(.node none (.node none (.node none (.node none (.node (some xi) (.node (some xc) (.node none (.node none (.node (some lf) .leaf .leaf) .leaf) (.node (some mw) .leaf .leaf)) (.node none (.node (some nZ) (.node (some lC) .leaf .leaf) .leaf) (.node (some mH) .leaf .leaf))) (.node none (.node (some xE) (.node (some nj) (.node (some lR) .leaf .leaf) .leaf) (.node (some mX) .leaf .leaf)) (.node none (.node (some nG) .leaf .leaf) (.node (some l6) .leaf .leaf)))) (.node none (.node none (.node (some xM) (.node (some nz) .leaf .leaf) (.node (some mh) .leaf .leaf)) (.node (some oW) (.node (some nQ) .leaf .leaf) (.node (some l9) .leaf .leaf))) (.node none (.node none (.node (some nc) (.node (some lJ) .leaf .leaf) .leaf) (.node (some mP) .leaf .leaf)) (.node none (.node (some m7) .leaf .leaf) (.node (some lu) .leaf .leaf))))) (.node none (.node (some xg) (.node none (.node (some xO) (.node none (.node (some lX) .leaf .leaf) .leaf) .leaf) (.node (some wz) (.node (some nU) .leaf .leaf) (.node (some mD) .leaf .leaf))) (.node (some xU) (.node (some xA) (.node (some nh) (.node (some lN) .leaf .leaf) .leaf) (.node (some mT) .leaf .leaf)) (.node (some oD) (.node (some nB) (.node (some k7) .leaf .leaf) .leaf) (.node (some l5) .leaf .leaf)))) (.node none (.node (some xa) (.node (some xI) (.node (some nt) (.node (some lV) .leaf .leaf) .leaf) (.node (some mb) .leaf .leaf)) (.node (some oT) (.node (some nK) .leaf .leaf) .leaf)) (.node none (.node none (.node none (.node (some lG) .leaf .leaf) .leaf) (.node (some mL) .leaf .leaf)) (.node none (.node (some m5) .leaf .leaf) (.node (some lk) .leaf .leaf)))))) (.node none (.node none (.node (some xh) (.node none (.node none (.node none (.node (some lZ) .leaf .leaf) .leaf) (.node (some mr) .leaf .leaf)) (.node none (.node (some nX) (.node (some lA) .leaf .leaf) .leaf) (.node (some mF) .leaf .leaf))) (.node (some xW) (.node (some xC) (.node none (.node (some lP) .leaf .leaf) .leaf) (.node (some mV) .leaf .leaf)) (.node none (.node (some nD) .leaf .leaf) .leaf))) (.node none (.node none (.node (some xK) (.node (some nv) .leaf .leaf) (.node (some mf) .leaf .leaf)) (.node (some oU) (.node (some nN) .leaf .leaf) .leaf)) (.node (some xR) (.node none .leaf (.node (some mN) .leaf .leaf)) (.node none .leaf (.node (some lq) .leaf .leaf))))) (.node none (.node none (.node none (.node (some xN) .leaf (.node (some mo) .leaf .leaf)) (.node (some oZ) (.node (some nS) .leaf .leaf) (.node (some mB) .leaf .leaf))) (.node none (.node (some w8) (.node (some nf) (.node (some lL) .leaf .leaf) .leaf) (.node (some mR) .leaf .leaf)) (.node (some n8) (.node (some m9) .leaf .leaf) (.node (some ly) .leaf .leaf)))) (.node none (.node (some xY) (.node none (.node (some np) (.node (some lT) .leaf .leaf) .leaf) (.node (some mZ) .leaf .leaf)) (.node (some oO) (.node (some nI) .leaf .leaf) (.node (some l8) .leaf .leaf))) (.node none (.node none (.node none (.node (some lE) .leaf .leaf) .leaf) (.node (some mJ) .leaf .leaf)) (.node none (.node (some mz) .leaf .leaf) (.node (some lh) .leaf .leaf))))))) (.node none (.node none (.node none (.node none (.node none (.node none (.node none (.node (some la) .leaf .leaf) .leaf) (.node (some mu) .leaf .leaf)) (.node none (.node (some nY) (.node (some lB) .leaf .leaf) .leaf) (.node (some mG) .leaf .leaf))) (.node (some xX) (.node (some xD) (.node none (.node (some lQ) .leaf .leaf) .leaf) (.node (some mW) .leaf .leaf)) (.node none (.node (some nE) .leaf .leaf) .leaf))) (.node none (.node none (.node (some xL) (.node (some ny) .leaf .leaf) (.node (some mg) .leaf .leaf)) (.node (some oV) (.node (some nP) .leaf .leaf) .leaf)) (.node (some xS) (.node none (.node (some na) (.node (some lI) .leaf .leaf) .leaf) (.node (some mO) .leaf .leaf)) (.node none .leaf (.node (some lr) .leaf .leaf))))) (.node (some xk) (.node (some xf) (.node none (.node none (.node (some n4) (.node (some lW) .leaf .leaf) .leaf) (.node (some mq) .leaf .leaf)) (.node none (.node (some nT) .leaf .leaf) (.node (some mC) .leaf .leaf))) (.node none (.node (some w9) (.node (some ng) (.node (some lM) .leaf .leaf) .leaf) (.node (some mS) .leaf .leaf)) (.node (some n9) (.node (some nA) .leaf .leaf) (.node (some lz) .leaf .leaf)))) (.node none (.node (some xZ) (.node (some xH) (.node (some nq) (.node (some lU) .leaf .leaf) .leaf) (.node (some ma) .leaf .leaf)) (.node (some oR) (.node (some nJ) .leaf .leaf) .leaf)) (.node none (.node none (.node none (.node (some lF) .leaf .leaf) .leaf) (.node (some mK) .leaf .leaf)) (.node none (.node (some m4) .leaf .leaf) (.node (some lj) .leaf .leaf)))))) (.node none (.node none (.node none (.node none (.node (some xP) (.node none (.node (some lY) .leaf .leaf) .leaf) .leaf) (.node (some w7) (.node (some nV) (.node (some k9) .leaf .leaf) .leaf) (.node (some mE) .leaf .leaf))) (.node (some xV) (.node (some xB) (.node (some ni) (.node (some lO) .leaf .leaf) .leaf) (.node (some mU) .leaf .leaf)) (.node (some oH) (.node (some nC) (.node (some k8) .leaf .leaf) .leaf) .leaf))) (.node none (.node (some xb) (.node (some xJ) (.node (some nu) .leaf .leaf) (.node (some me) .leaf .leaf)) (.node none (.node (some nM) .leaf .leaf) .leaf)) (.node (some xQ) (.node none (.node none (.node (some lH) .leaf .leaf) .leaf) (.node (some mM) .leaf .leaf)) (.node none (.node (some m6) .leaf .leaf) (.node (some ln) .leaf .leaf))))) (.node (some xj) (.node (some xe) (.node none (.node none .leaf (.node (some ml) .leaf .leaf)) (.node (some oY) (.node (some nR) .leaf .leaf) (.node (some mA) .leaf .leaf))) (.node (some xT) (.node none (.node (some nd) (.node (some lK) .leaf .leaf) .leaf) (.node (some mQ) .leaf .leaf)) (.node (some n6) (.node (some m8) .leaf .leaf) (.node (some lx) .leaf .leaf)))) (.node (some xd) (.node none (.node (some xG) (.node (some nk) (.node (some lS) .leaf .leaf) .leaf) (.node (some mY) .leaf .leaf)) (.node (some oJ) (.node (some nH) .leaf .leaf) (.node (some l7) .leaf .leaf))) (.node none (.node none (.node none (.node (some lD) .leaf .leaf) .leaf) (.node (some mI) .leaf .leaf)) (.node none (.node (some my) .leaf .leaf) (.node (some lg) .leaf .leaf))))))))
theorem Bu:PK (fun i=>AV Tryz.prog i) id E2:=(AI AP (AI AP (AI AP (AI AP (AI (AK td) (AI (AK tX) (AI AP (AI AP (AI (AK gB) AH AH) AH) (AI (AK iI) AH AH)) (AI AP (AI (AK iy) (AI (AK fT) AH AH) AH) (AI (AK ga) AH AH))) (AI AP (AI (AK s9) (AI (AK jG) (AI (AK fm) AH AH) AH) (AI (AK gw) AH AH)) (AI AP (AI (AK iX) AH AH) (AI (AK gP) AH AH)))) (AI AP (AI AP (AI (AK tG) (AI (AK jO) AH AH) (AI (AK iC) AH AH)) (AI (AK jb) (AI (AK ij) AH AH) (AI (AK gS) AH AH))) (AI AP (AI AP (AI (AK jA) (AI (AK fb) AH AH) AH) (AI (AK gl) AH AH)) (AI AP (AI (AK iP) AH AH) (AI (AK gK) AH AH))))) (AI AP (AI (AK tb) (AI AP (AI (AK tI) (AI AP (AI (AK fv) AH AH) AH) AH) (AI (AK sw) (AI (AK ir) AH AH) (AI (AK gW) AH AH))) (AI (AK tP) (AI (AK s5) (AI (AK jE) (AI (AK fh) AH AH) AH) (AI (AK gq) AH AH)) (AI (AK jT) (AI (AK iT) (AI (AK fO) AH AH) AH) (AI (AK gO) AH AH)))) (AI AP (AI (AK tV) (AI (AK tC) (AI (AK jK) (AI (AK ft) AH AH) AH) (AI (AK hX) AH AH)) (AI (AK jY) (AI (AK ib) AH AH) AH)) (AI AP (AI AP (AI AP (AI (AK fX) AH AH) AH) (AI (AK gh) AH AH)) (AI AP (AI (AK iN) AH AH) (AI (AK gF) AH AH)))))) (AI AP (AI AP (AI (AK tc) (AI AP (AI AP (AI AP (AI (AK fy) AH AH) AH) (AI (AK iG) AH AH)) (AI AP (AI (AK iv) (AI (AK fR) AH AH) AH) (AI (AK gY) AH AH))) (AI (AK tR) (AI (AK s7) (AI AP (AI (AK fk) AH AH) AH) (AI (AK gu) AH AH)) (AI AP (AI (AK iV) AH AH) AH))) (AI AP (AI AP (AI (AK tE) (AI (AK jM) AH AH) (AI (AK iA) AH AH)) (AI (AK jZ) (AI (AK ie) AH AH) AH)) (AI (AK tL) (AI AP AH (AI (AK gj) AH AH)) (AI AP AH (AI (AK gI) AH AH))))) (AI AP (AI AP (AI AP (AI (AK tH) AH (AI (AK iE) AH AH)) (AI (AK jd) (AI (AK il) AH AH) (AI (AK gU) AH AH))) (AI AP (AI (AK sy) (AI (AK jC) (AI (AK ff) AH AH) AH) (AI (AK gn) AH AH)) (AI (AK jR) (AI (AK iR) AH AH) (AI (AK gM) AH AH)))) (AI AP (AI (AK tT) (AI AP (AI (AK jI) (AI (AK fp) AH AH) AH) (AI (AK gy) AH AH)) (AI (AK jW) (AI (AK iZ) AH AH) (AI (AK gR) AH AH))) (AI AP (AI AP (AI AP (AI (AK fV) AH AH) AH) (AI (AK gd) AH AH)) (AI AP (AI (AK iK) AH AH) (AI (AK gD) AH AH))))))) (AI AP (AI AP (AI AP (AI AP (AI AP (AI AP (AI AP (AI (AK gA) AH AH) AH) (AI (AK iH) AH AH)) (AI AP (AI (AK iw) (AI (AK fS) AH AH) AH) (AI (AK gZ) AH AH))) (AI (AK tS) (AI (AK s8) (AI AP (AI (AK fl) AH AH) AH) (AI (AK gv) AH AH)) (AI AP (AI (AK iW) AH AH) AH))) (AI AP (AI AP (AI (AK tF) (AI (AK jN) AH AH) (AI (AK iB) AH AH)) (AI (AK ja) (AI (AK ig) AH AH) AH)) (AI (AK tM) (AI AP (AI (AK iz) (AI (AK fZ) AH AH) AH) (AI (AK gk) AH AH)) (AI AP AH (AI (AK gJ) AH AH))))) (AI (AK tf) (AI (AK ta) (AI AP (AI AP (AI (AK jP) (AI (AK fu) AH AH) AH) (AI (AK iF) AH AH)) (AI AP (AI (AK im) AH AH) (AI (AK gV) AH AH))) (AI AP (AI (AK s4) (AI (AK jD) (AI (AK fg) AH AH) AH) (AI (AK gp) AH AH)) (AI (AK jS) (AI (AK iS) AH AH) (AI (AK gN) AH AH)))) (AI AP (AI (AK tU) (AI (AK tB) (AI (AK jJ) (AI (AK fq) AH AH) AH) (AI (AK gz) AH AH)) (AI (AK jX) (AI (AK ia) AH AH) AH)) (AI AP (AI AP (AI AP (AI (AK fW) AH AH) AH) (AI (AK gg) AH AH)) (AI AP (AI (AK iM) AH AH) (AI (AK gE) AH AH)))))) (AI AP (AI AP (AI AP (AI AP (AI (AK tJ) (AI AP (AI (AK fw) AH AH) AH) AH) (AI (AK sx) (AI (AK iu) (AI (AK fQ) AH AH) AH) (AI (AK gX) AH AH))) (AI (AK tQ) (AI (AK s6) (AI (AK jF) (AI (AK fj) AH AH) AH) (AI (AK gr) AH AH)) (AI (AK jU) (AI (AK iU) (AI (AK fP) AH AH) AH) AH))) (AI AP (AI (AK tW) (AI (AK tD) (AI (AK jL) AH AH) (AI (AK hZ) AH AH)) (AI AP (AI (AK ic) AH AH) AH)) (AI (AK tK) (AI AP (AI AP (AI (AK fY) AH AH) AH) (AI (AK gi) AH AH)) (AI AP (AI (AK iO) AH AH) (AI (AK gG) AH AH))))) (AI (AK te) (AI (AK tZ) (AI AP (AI AP AH (AI (AK iD) AH AH)) (AI (AK jc) (AI (AK ik) AH AH) (AI (AK gT) AH AH))) (AI (AK tN) (AI AP (AI (AK jB) (AI (AK fe) AH AH) AH) (AI (AK gm) AH AH)) (AI (AK jQ) (AI (AK iQ) AH AH) (AI (AK gL) AH AH)))) (AI (AK tY) (AI AP (AI (AK tA) (AI (AK jH) (AI (AK fo) AH AH) AH) (AI (AK gx) AH AH)) (AI (AK jV) (AI (AK iY) AH AH) (AI (AK gQ) AH AH))) (AI AP (AI AP (AI AP (AI (AK fU) AH AH) AH) (AI (AK gb) AH AH)) (AI AP (AI (AK iJ) AH AH) (AI (AK gC) AH AH))))))))
abbrev D7:V:=(.a [(.l [[(.l [] true)],[(.l [[(.i .i64 3)]] false)],[(.l [[(.i .i64 3)]] false)],[(.l [[(.i .i64 4)],[(.i .i64 5)]] false)]] false),(.l [] true)])
abbrev Io:V:=(.a [(.i .i64 2),(.i .i64 0),(.l [] true),(.i .i64 4),(.i .i64 0),(.l [] true)])
abbrev Md:V:=(.a [(.i .i64 2),(.i .i64 0),(.l [] true),(.i .i64 5),(.i .i64 0),(.l [] true)])
abbrev Mc:V:=(.a [(.i .i64 2),(.i .i64 0),(.l [] true),(.i .i64 3),(.i .i64 0),(.l [] true)])
abbrev UO:V:=(.a [(.i .i64 1),(.i .i64 0),(.l [] true),(.i .i64 0),(.i .i64 0),(.l [] true)])
abbrev Im:V:=(.t [(.b true),(.i .i64 0)])
abbrev Mb:V:=(.t [(.b false),(.i .i64 0)])
abbrev cw7:V:=(.t [(.a [(.l [] true),(.b false),(.l [[(.i .i64 4)],[(.i .i64 3)]] false),(.l [[(.i .i64 1)],[(.i .i64 0)]] false),(.b false),(.l [[(.i .i64 5)],[(.i .i64 6)]] false)]),(.i .i64 0)])
abbrev cw8:V:=(.t [(.a [(.l [] true),(.b false),(.l [[(.i .i64 4)],[(.i .i64 3)]] false),(.l [] true),(.b true),(.l [[(.i .i64 5)],[(.i .i64 6)]] false)]),(.i .i64 0)])
abbrev cw9:V:=(.t [(.a [(.l [] true),(.b false),(.l [] true),(.l [] true),(.b false),(.l [] true)]),(.i .i64 5)])
abbrev dW:V:=(.t [(.l [[(.i .i64 1),(.i .i64 0)],[(.i .i64 2),(.i .i64 0)]] false),(.i .i64 0)])
abbrev SE:V:=(.l [[(.i .i64 3),(.i .i64 0)]] true)
abbrev dV:V:=(.l [[(.i .i64 0)],[(.i .i64 1)],[(.i .i64 2)]] true)
abbrev dU:V:=(.t [(.l [] true),(.b true),(.i .i64 0)])
abbrev dT:V:=(.l [[(.i .i64 6),(.l [] true)]] true)
abbrev dS:V:=(.l [[(.i .i64 4),(.l [] true)]] true)
abbrev dR:V:=(.l [[(.i .i64 1),(.i .i64 0)]] true)
abbrev dQ:V:=(.t [(.l [] true),(.i .i64 0)])
abbrev dN:V:=(.t [(.b false),(.i .i64 7)])
def Ds:V:=(.a [(.l [[(.l [] true),(.l [] true),(.l [] true)],[(.l [[(.i .i64 3)]] true),(.l [] true),(.l [] true)],[(.l [[(.i .i64 3)]] true),(.l [] true),(.l [] true)],[(.l [[(.i .i64 4)],[(.i .i64 5)]] true),(.l [] true),(.l [] true)]] true),(.i .i64 0),(.l [[(.i .i64 1)]] true),(.l [[(.i .i64 1),(.i .i64 0),(.i .i64 2),(.i .i64 0),(.l [] true),(.i .i64 3),(.i .i64 0),(.l [] true),(.i .i64 0)],[(.i .i64 1),(.i .i64 0),(.i .i64 2),(.i .i64 0),(.l [] true),(.i .i64 4),(.i .i64 0),(.l [] true),(.i .i64 1)],[(.i .i64 1),(.i .i64 0),(.i .i64 2),(.i .i64 0),(.l [] true),(.i .i64 5),(.i .i64 0),(.l [] true),(.i .i64 2)],[(.i .i64 2),(.i .i64 0),(.i .i64 1),(.i .i64 0),(.l [] true),(.i .i64 0),(.i .i64 0),(.l [] true),(.i .i64 3)],[(.i .i64 2),(.i .i64 0),(.i .i64 2),(.i .i64 0),(.l [] true),(.i .i64 4),(.i .i64 0),(.l [] true),(.i .i64 4)],[(.i .i64 3),(.i .i64 0),(.i .i64 2),(.i .i64 0),(.l [] true),(.i .i64 3),(.i .i64 0),(.l [] true),(.i .i64 5)],[(.i .i64 3),(.i .i64 0),(.i .i64 2),(.i .i64 0),(.l [] true),(.i .i64 4),(.i .i64 0),(.l [] true),(.i .i64 6)]] false),(.l [[(.i .i64 2),(.i .i64 0),(.l [] true)],[(.i .i64 2),(.i .i64 0),(.l [] true)],[(.i .i64 2),(.i .i64 0),(.l [] true)],[(.i .i64 2),(.i .i64 0),(.l [] true)],[(.i .i64 2),(.i .i64 0),(.l [] true)],[(.i .i64 2),(.i .i64 0),(.l [] true)],[(.i .i64 2),(.i .i64 0),(.l [] true)],[(.i .i64 2),(.i .i64 0),(.l [] true)]] false),(.i .i64 7)])
def ML:C3:=fun _=>[]
theorem DR:Cq Tryz.prog ML:=bk
theorem ce0:En (E3 E2) ML 100000 107 [Ds] (.i .i64 0)=true:=by kernel_rfl
theorem ZE:BK [Ds]=true∧Aq (.i .i64 0)=true∧Pure Tryz.prog 107 [Ds] (.i .i64 0):=BN (Bv Bu) DR ce0
noncomputable def mk1:C3:=(Cj ML 107 [Ds] (.i .i64 0))
theorem yN:Cq Tryz.prog mk1:=(A1 DR ZE)
theorem ce1:En (E3 E2) mk1 100000 71 [Ds] (.t [D7,(.i .i64 0)])=true:=by kernel_rfl
theorem cu:BK [Ds]=true∧Aq (.t [D7,(.i .i64 0)])=true∧Pure Tryz.prog 71 [Ds] (.t [D7,(.i .i64 0)]):=BN (Bv Bu) yN ce1
theorem ce2:En (E3 E2) ML 100000 76 [D7,Io,Mc] Im=true:=by kernel_rfl
theorem pe2:BK [D7,Io,Mc]=true∧Aq Im=true∧Pure Tryz.prog 76 [D7,Io,Mc] Im:=BN (Bv Bu) DR ce2
theorem ce3:En (E3 E2) ML 100000 76 [D7,Mc,Io] Mb=true:=by kernel_rfl
theorem pe3:BK [D7,Mc,Io]=true∧Aq Mb=true∧Pure Tryz.prog 76 [D7,Mc,Io] Mb:=BN (Bv Bu) DR ce3
noncomputable def mk4:C3:=(Cj (Cj ML 107 [Ds] (.i .i64 0)) 71 [Ds] (.t [D7,(.i .i64 0)]))
theorem yM:Cq Tryz.prog mk4:=(A1 (A1 DR ZE) cu)
theorem ce4:En (E3 E2) mk4 100000 12 [Ds,(.i .i64 1),(.i .i64 0)] Im=true:=by kernel_rfl
theorem pe4:BK [Ds,(.i .i64 1),(.i .i64 0)]=true∧Aq Im=true∧Pure Tryz.prog 12 [Ds,(.i .i64 1),(.i .i64 0)] Im:=BN (Bv Bu) yM ce4
theorem ce5:En (E3 E2) ML 100000 76 [D7,Io,Md] Mb=true:=by kernel_rfl
theorem pe5:BK [D7,Io,Md]=true∧Aq Mb=true∧Pure Tryz.prog 76 [D7,Io,Md] Mb:=BN (Bv Bu) DR ce5
noncomputable def mk6:C3:=(Cj (Cj ML 107 [Ds] (.i .i64 0)) 71 [Ds] (.t [D7,(.i .i64 0)]))
theorem yL:Cq Tryz.prog mk6:=(A1 (A1 DR ZE) cu)
theorem ce6:En (E3 E2) mk6 100000 12 [Ds,(.i .i64 1),(.i .i64 2)] Mb=true:=by kernel_rfl
theorem pe6:BK [Ds,(.i .i64 1),(.i .i64 2)]=true∧Aq Mb=true∧Pure Tryz.prog 12 [Ds,(.i .i64 1),(.i .i64 2)] Mb:=BN (Bv Bu) yL ce6
noncomputable def mk7:C3:=(Cj (Cj ML 107 [Ds] (.i .i64 0)) 71 [Ds] (.t [D7,(.i .i64 0)]))
theorem yK:Cq Tryz.prog mk7:=(A1 (A1 DR ZE) cu)
theorem ce7:En (E3 E2) mk7 100000 12 [Ds,(.i .i64 0),(.i .i64 3)] dN=true:=by kernel_rfl
theorem pe7:BK [Ds,(.i .i64 0),(.i .i64 3)]=true∧Aq dN=true∧Pure Tryz.prog 12 [Ds,(.i .i64 0),(.i .i64 3)] dN:=BN (Bv Bu) yK ce7
theorem ce8:En (E3 E2) ML 100000 76 [D7,UO,UO] Im=true:=by kernel_rfl
theorem pe8:BK [D7,UO,UO]=true∧Aq Im=true∧Pure Tryz.prog 76 [D7,UO,UO] Im:=BN (Bv Bu) DR ce8
theorem ce9:En (E3 E2) ML 100000 76 [D7,Io,UO] Im=true:=by kernel_rfl
theorem pe9:BK [D7,Io,UO]=true∧Aq Im=true∧Pure Tryz.prog 76 [D7,Io,UO] Im:=BN (Bv Bu) DR ce9
theorem ce10:En (E3 E2) ML 100000 76 [D7,UO,Io] Mb=true:=by kernel_rfl
theorem pe10:BK [D7,UO,Io]=true∧Aq Mb=true∧Pure Tryz.prog 76 [D7,UO,Io] Mb:=BN (Bv Bu) DR ce10
theorem ce11:En (E3 E2) ML 100000 76 [D7,Io,Io] Im=true:=by kernel_rfl
theorem pe11:BK [D7,Io,Io]=true∧Aq Im=true∧Pure Tryz.prog 76 [D7,Io,Io] Im:=BN (Bv Bu) DR ce11
theorem ce12:En (E3 E2) ML 100000 76 [D7,Mc,Mc] Im=true:=by kernel_rfl
theorem pe12:BK [D7,Mc,Mc]=true∧Aq Im=true∧Pure Tryz.prog 76 [D7,Mc,Mc] Im:=BN (Bv Bu) DR ce12
noncomputable def wj:C3:=(Cj (Cj ML 107 [Ds] (.i .i64 0)) 71 [Ds] (.t [D7,(.i .i64 0)]))
theorem sV:Cq Tryz.prog wj:=(A1 (A1 DR ZE) cu)
theorem ce13:En (E3 E2) wj 100000 20 [Ds,dS,(.i .i64 0),SE] cw7=true:=by kernel_rfl
theorem pe13:BK [Ds,dS,(.i .i64 0),SE]=true∧Aq cw7=true∧Pure Tryz.prog 20 [Ds,dS,(.i .i64 0),SE] cw7:=BN (Bv Bu) sV ce13
theorem ce14:En (E3 E2) ML 100000 76 [D7,Md,Mc] Im=true:=by kernel_rfl
theorem pe14:BK [D7,Md,Mc]=true∧Aq Im=true∧Pure Tryz.prog 76 [D7,Md,Mc] Im:=BN (Bv Bu) DR ce14
theorem ce15:En (E3 E2) ML 100000 76 [D7,Mc,Md] Mb=true:=by kernel_rfl
theorem pe15:BK [D7,Mc,Md]=true∧Aq Mb=true∧Pure Tryz.prog 76 [D7,Mc,Md] Mb:=BN (Bv Bu) DR ce15
theorem ce16:En (E3 E2) ML 100000 76 [D7,Md,Io] Mb=true:=by kernel_rfl
theorem pe16:BK [D7,Md,Io]=true∧Aq Mb=true∧Pure Tryz.prog 76 [D7,Md,Io] Mb:=BN (Bv Bu) DR ce16
noncomputable def wi:C3:=(Cj (Cj ML 107 [Ds] (.i .i64 0)) 71 [Ds] (.t [D7,(.i .i64 0)]))
theorem sU:Cq Tryz.prog wi:=(A1 (A1 DR ZE) cu)
theorem ce17:En (E3 E2) wi 100000 20 [Ds,dT,(.i .i64 0),SE] cw8=true:=by kernel_rfl
theorem pe17:BK [Ds,dT,(.i .i64 0),SE]=true∧Aq cw8=true∧Pure Tryz.prog 20 [Ds,dT,(.i .i64 0),SE] cw8:=BN (Bv Bu) sU ce17
noncomputable def wh:C3:=(Cj (Cj ML 107 [Ds] (.i .i64 0)) 71 [Ds] (.t [D7,(.i .i64 0)]))
theorem sT:Cq Tryz.prog wh:=(A1 (A1 DR ZE) cu)
theorem ce18:En (E3 E2) wh 100000 20 [Ds,(.l [] true),(.i .i64 0),dR] cw9=true:=by kernel_rfl
theorem pe18:BK [Ds,(.l [] true),(.i .i64 0),dR]=true∧Aq cw9=true∧Pure Tryz.prog 20 [Ds,(.l [] true),(.i .i64 0),dR] cw9:=BN (Bv Bu) sT ce18
noncomputable def wg:C3:=(Cj (Cj ML 107 [Ds] (.i .i64 0)) 71 [Ds] (.t [D7,(.i .i64 0)]))
theorem sS:Cq Tryz.prog wg:=(A1 (A1 DR ZE) cu)
theorem ce19:En (E3 E2) wg 100000 31 [Ds,dV] dU=true:=by kernel_rfl
theorem pe19:BK [Ds,dV]=true∧Aq dU=true∧Pure Tryz.prog 31 [Ds,dV] dU:=BN (Bv Bu) sS ce19
theorem ce20:En (E3 E2) ML 100000 76 [D7,Md,Md] Im=true:=by kernel_rfl
theorem pe20:BK [D7,Md,Md]=true∧Aq Im=true∧Pure Tryz.prog 76 [D7,Md,Md] Im:=BN (Bv Bu) DR ce20
noncomputable def we:C3:=(Cj (Cj ML 107 [Ds] (.i .i64 0)) 71 [Ds] (.t [D7,(.i .i64 0)]))
theorem sR:Cq Tryz.prog we:=(A1 (A1 DR ZE) cu)
theorem ce21:En (E3 E2) we 100000 15 [Ds,(.i .i64 0),(.i .i64 1)] dW=true:=by kernel_rfl
theorem pe21:BK [Ds,(.i .i64 0),(.i .i64 1)]=true∧Aq dW=true∧Pure Tryz.prog 15 [Ds,(.i .i64 0),(.i .i64 1)] dW:=BN (Bv Bu) sR ce21
noncomputable def wc:C3:=(Cj (Cj ML 107 [Ds] (.i .i64 0)) 71 [Ds] (.t [D7,(.i .i64 0)]))
theorem sQ:Cq Tryz.prog wc:=(A1 (A1 DR ZE) cu)
theorem ce22:En (E3 E2) wc 100000 17 [Ds,(.i .i64 0)] dQ=true:=by kernel_rfl
theorem pe22:BK [Ds,(.i .i64 0)]=true∧Aq dQ=true∧Pure Tryz.prog 17 [Ds,(.i .i64 0)] dQ:=BN (Bv Bu) sQ ce22
noncomputable def wb:C3:=(Cj (Cj (Cj (Cj (Cj (Cj (Cj (Cj (Cj (Cj (Cj (Cj (Cj (Cj (Cj (Cj (Cj (Cj (Cj (Cj (Cj (Cj (Cj ML 107 [Ds] (.i .i64 0)) 71 [Ds] (.t [D7,(.i .i64 0)])) 76 [D7,Io,Mc] Im) 76 [D7,Mc,Io] Mb) 12 [Ds,(.i .i64 1),(.i .i64 0)] Im) 76 [D7,Io,Md] Mb) 12 [Ds,(.i .i64 1),(.i .i64 2)] Mb) 12 [Ds,(.i .i64 0),(.i .i64 3)] dN) 76 [D7,UO,UO] Im) 76 [D7,Io,UO] Im) 76 [D7,UO,Io] Mb) 76 [D7,Io,Io] Im) 76 [D7,Mc,Mc] Im) 20 [Ds,dS,(.i .i64 0),SE] cw7) 76 [D7,Md,Mc] Im) 76 [D7,Mc,Md] Mb) 76 [D7,Md,Io] Mb) 20 [Ds,dT,(.i .i64 0),SE] cw8) 20 [Ds,(.l [] true),(.i .i64 0),dR] cw9) 31 [Ds,dV] dU) 76 [D7,Md,Md] Im) 15 [Ds,(.i .i64 0),(.i .i64 1)] dW) 17 [Ds,(.i .i64 0)] dQ)
theorem sP:Cq Tryz.prog wb:=(A1 (A1 (A1 (A1 (A1 (A1 (A1 (A1 (A1 (A1 (A1 (A1 (A1 (A1 (A1 (A1 (A1 (A1 (A1 (A1 (A1 (A1 (A1 DR ZE) cu) pe2) pe3) pe4) pe5) pe6) pe7) pe8) pe9) pe10) pe11) pe12) pe13) pe14) pe15) pe16) pe17) pe18) pe19) pe20) pe21) pe22)
theorem ce23:En (E3 E2) wb 100000 14 [] (.b true)=true:=by kernel_rfl
theorem pe23:BK []=true∧Aq (.b true)=true∧Pure Tryz.prog 14 [] (.b true):=BN (Bv Bu) sP ce23
end Go.Gl
namespace Go.Gl
open Go.ChangeShapes Go.WideShapes Go.ChangeAt Go.RowKit
variable {P:Program}
theorem cV {f:FuncId} {args:List V} {v:V} (h:Pure P f args v) {w:World} {cs:Array Value} (hc:ZH (Hh (fun _=>False) emp w) args cs) :
 Calls P f cs w fun e w'=>(∃c,e= .returned c∧AZ (Hh (fun _=>False) emp w') v c)∧B5 (fun _=>False) emp w emp w':=by
 refine Calls.mono (h.2 (fun _=>False) w cs (Wb _ fun _ h=>h.elim) hc) fun e w' ⟨r,σ',⟨h1,h2⟩,h3,_,h4⟩=>?_
 subst h1;subst h2;exact⟨h3,h4⟩
theorem cX {w w':World} (h:B5 (fun _=>False) emp w emp w'):Below w.heap.size w w':=
 ⟨h.os,h.tape,h.output,h.size,fun k hk=>h.frame k hk rfl⟩
theorem sj {w:World} {b o:Nat}:Hh (fun _=>False) emp w b o=w.cell? ⟨b,o,none⟩:=by
 unfold Hh;rw[if_neg (by simp[emp])]
theorem MG {α:Type} {Q:Nat→α→Prop}: ∀(len:Nat),(∀i,i<len→ ∃v,Q i v)→ ∃l:List α,l.length=len∧ ∀i v,l[i]? =some v→Q i v
 | 0,_=>⟨[],rfl,fun i v h=>by simp at h⟩
 | k + 1,h=>by
   obtain⟨l,hl,hl2⟩:=MG k fun i hi=>h i (by omega)
   obtain⟨u,hu⟩:=h k (by omega);refine⟨l++[u],by simp[hl],fun i v hv=>?_⟩;by_cases hi:i<l.length
   ·rw[qv hi]at hv
    exact hl2 i v hv
   ·rw[List.getElem?_append_right (by omega)]at hv
    have:i - l.length=0:=by
     have:=(List.getElem?_eq_some_iff.1 hv).1;simp at this;omega
    have hik:i=k:=by omega
    subst hik;rw[this]at hv;rw[←Option.some.inj hv];exact hu
section
variable {H:Type} {enc:TypeId×Value→H} {P:Program} {W:World}
def c7 {H:Type} (enc:TypeId×Value→H) (P:Program) (W:World) (n:Nat) (t:TypeId) {α:Type} (ea:α→List V):Prop:=
 ∀(cs:List Value) (d:DataW H) (ps:List MemPlace),DataW.trod enc P W 0 (fun _=>true) true n t cs=some (d,ps)→(∀x∈d.weights P t,x≤reachBytes)→ ∃a:α,cs.length=(ea a).length∧BV (Hh (fun _=>False) emp W) (fun i=>cs[i]?) 0 (ea a)
def UP {H:Type} (enc:TypeId×Value→H) (P:Program) (W:World) (t:TypeId) {α:Type} (ea:α→List V):Prop:= ∀n,c7 enc P W n t ea
theorem KI {t:TypeId} {α:Type} {ea:α→List V}:c7 enc P W 0 t ea:=fun cs d ps h=>by simp[DataW.trod]at h
theorem H8 {n:Nat} {t:TypeId} {α β:Type} {ea:α→List V} {eb:β→List V} (h:c7 enc P W n t ea) (g:α→β) (hg: ∀a,ea a=eb (g a)):c7 enc P W n t eb:=fun cs d ps h1 h2=>by
 obtain⟨a,h3,h4⟩:=h cs d ps h1 h2;exact⟨g a,by rw[←hg];exact h3,by rw[←hg];exact h4⟩
theorem QY {t:TypeId} (ht:P.underlying t=some (.int .i64)):UP enc P W t fun x:Int=>[V.i .i64 x]:=fun n cs d ps h _=>by
 obtain⟨k,rfl,-,hw⟩:=DataW.trod_int ht h;simp only[Lit.wf,BO,DU]at hw;refine⟨k,rfl,⟨_,rfl,?_⟩,trivial⟩;simp only[AZ]
 first
  | exact⟨rfl,hw⟩
  | exact⟨trivial,hw⟩
  | exact hw
theorem PY {n:Nat} {t e:TypeId} {sz:Nat} {α:Type} {ea:α→List V} (ht:P.underlying t=some (.slice e)) (hc:P.cellsOf e=sz) (hsz:0<sz) (hb:8≤P.bytesOf e) (he: ∀a,(ea a).length=sz) (h:c7 enc P W n e ea) :
 c7 enc P W (n+1) t fun l:List α=>[V.l (l.map ea) false]:=by
 intro cs d ps htr hw;rcases DataW.trod_slice ht htr with⟨rfl,hx⟩|⟨a,len,cap,elems,rest,n',hn,rfl,hx,-,hl,hm,hlen,hel,-,-⟩
 ·refine⟨[],rfl,⟨_,rfl,?_⟩,trivial⟩
  simp only[List.map_nil,AZ];exact⟨none,0,rfl,Nat.le_refl _,fun h=>(by cases h),Nat.zero_le _,fun _=>rfl,fun h=>absurd rfl h⟩
 ·obtain rfl:n'=n:=by omega
  simp only[Prod.mk.injEq]at hx;obtain⟨rfl,-⟩:=hx;simp only[DataW.weights,ht,G3,FQ]at hw;have hwl:=hw _ (.inl rfl)
  have hwe: ∀(l:List (DataW H)) (D:DataW H),D∈l→ ∀x∈D.weights P e,x∈DataW.weightsAll P e l:=by
   intro l
   induction l with
   | nil=>intro D hD;cases hD
   | cons y r ih=>
     intro D hD x hx;simp only[DataW.weightsAll,FQ];rcases G3.1 hD with rfl|hD
     ·exact .inl hx
     ·exact .inr (ih D hD x hx)
  have hM:len≤Ax:=by
   simp only[Ce,hlen,reachBytes]at hwl;have h8:(len+rest.length)*8≤(len+rest.length)*P.bytesOf e:=Nat.mul_le_mul_left _ hb;unfold Ax;omega
  have each: ∀i,i<len→ ∃v:α,∃cs',W.cells? 0 (a.add (i*sz)) sz=some cs'∧BV (Hh (fun _=>False) emp W) (fun j=>cs'[j]?) 0 (ea v):=fun i hi=>by
   have hi':=hel i hi;obtain⟨x,hx⟩: ∃x,elems[i]? =some x:=⟨_,Fs (by omega)⟩
   rw[hx,Option.bind_eq_some_iff,hc]at hi';obtain⟨cs',h1,h2⟩:=hi';obtain⟨v,-,h4⟩:=h cs' x.1 x.2 h2 fun y hy=>hw y (.inr (.inl (hwe _ x.1 (Oe.2 ⟨x,Fo hx,rfl⟩) y hy)))
   exact⟨v,cs',h1,h4⟩
  obtain⟨l,hll,hlc⟩:=MG len each;refine⟨l,rfl,⟨_,rfl,?_⟩,trivial⟩;simp only[AZ,Ce];refine⟨some a,cap,by rw[hll],by omega,fun h=>(by cases h),by omega,fun h=>(by cases h),fun hne=>?_⟩;obtain⟨b,o,spot⟩:=a
  have h0:0<l.length:=by
   rcases l with _|⟨v,r⟩
   ·exact absurd rfl hne
   ·simp
  have hspot:spot=none:=by
   obtain⟨cs',h1,-⟩:=hlc 0 l[0] (Fs h0);obtain⟨-,h3,h4⟩:=World.cells?_some h1;have h5:=h4 0 hsz;rw[Fs (by omega)]at h5;have:=World.cell?_spot h5;simpa[Addr.add]using this
  subst hspot
  have hcell: ∀i v,l[i]? =some v→ ∀k u,(ea v)[k]? =some u→ ∃c,W.cell? ⟨b,o+i*sz+k,none⟩=some c∧AZ (Hh (fun _=>False) emp W) u c:=fun i v hv k u hu=>by
   obtain⟨cs',h1,h2⟩:=hlc i v hv;obtain⟨-,h3,h4⟩:=World.cells?_some h1;have hk:k<sz:=by rw[←he v];exact(List.getElem?_eq_some_iff.1 hu).1
   obtain⟨c,hc',hr⟩:=Bb.1 h2 k u hu;have h5:=h4 k hk;simp only[Nat.zero_add]at hc';rw[add_plain,add_plain]at h5;exact⟨c,by rw[←hc',←h5],hr⟩
  refine⟨b,o,sz,rfl,A7.2 fun j e hj=>?_⟩;rw[Rv]at hj;obtain⟨v,hv,rfl⟩:=Option.map_eq_some_iff.1 hj;refine⟨he v,Bb.2 fun k u hu=>?_⟩;obtain⟨c,h1,h2⟩:=hcell j v hv k u hu;exact⟨c,by rw[sj];exact h1,h2⟩
theorem Hz {t e:TypeId} {sz:Nat} {α:Type} {ea:α→List V} (ht:P.underlying t=some (.slice e)) (hc:P.cellsOf e=sz) (hsz:0<sz) (hb:8≤P.bytesOf e) (he: ∀a,(ea a).length=sz) (h:UP enc P W e ea) :
 UP enc P W t fun l:List α=>[V.l (l.map ea) false]
 | 0=>KI
 | n+1=>PY ht hc hsz hb he (h n)
def wU {H:Type} (enc:TypeId×Value→H) (P:Program) (W:World) (n:Nat) (fs:List Field) (o:Nat) {α:Type} (ea:α→List V):Prop:=
 ∀ (cs:List Value) (xs:List (DataW H×List MemPlace)),xs.length=fs.length→(∀(i:Nat) (f:Field),fs[i]? =some f→DataW.trod enc P W 0 (fun _=>true) true n (Field.type f) ((cs.drop (Field.offset f)).take (P.cellsOf (Field.type f)))=xs[i]?)→
   (∀x∈DataW.weightsEach P (fs.map fun f:Field=>f.type) (xs.map (·.1)),x≤reachBytes)→ ∃a:α,BV (Hh (fun _=>False) emp W) (fun i=>cs[i]?) o (ea a)
theorem H9 {n o:Nat}:wU enc P W n [] o fun _:Unit=>([]:List V):=fun _ _ _ _ _=>⟨(),trivial⟩
theorem Bc {n o c:Nat} {f:Field} {fs:List Field} {α β:Type} {ea:α→List V} {eb:β→List V} (hf:f.offset=o) (hc:P.cellsOf f.type=c) (he: ∀a,(ea a).length=c) (h1:c7 enc P W n f.type ea) (h2:wU enc P W n fs (o+c) eb) :
 wU enc P W n (f::fs) o fun p:α×β=>ea p.1++eb p.2:=by
 intro cs xs hl hx hw
 match xs,hl with
 | x ::r,hl=>
   have hx0:=hx 0 f rfl;simp only[qu]at hx0;simp only[List.map_cons,DataW.weightsEach,FQ]at hw;obtain⟨a,ha1,ha2⟩:=h1 _ x.1 x.2 hx0 fun y hy=>hw y (.inl hy)
   obtain⟨b,hb⟩:=h2 cs r (by simpa using hl) (fun i g hg=>by
    have:=hx (i+1) g (by simpa using hg)
    simpa using this) fun y hy=>hw y (.inr hy)
   refine⟨(a,b),L3 (Bb.2 fun k u hu=>?_) (by rw[he];exact hb)⟩;obtain⟨cc,h3,h4⟩:=Bb.1 ha2 k u hu;have hk:k<c:=by rw[←he a];exact(List.getElem?_eq_some_iff.1 hu).1
   refine⟨cc,?_,h4⟩;rw[hf,hc,Nat.zero_add,List.getElem?_take,if_pos hk,wF]at h3;exact h3
theorem N9 {n:Nat} {t:TypeId} {fs:List Field} {α:Type} {ea:α→List V} (ht:P.underlying t=some (.struct fs.toArray)) (h:wU enc P W n fs 0 ea) (hl: ∀a,(ea a).length=P.cellsOf t):c7 enc P W (n+1) t ea:=by
 intro cs d ps htr hw;obtain⟨xs,k,hk,hx,hcl,hxl,hf⟩:=DataW.trod_struct ht htr;obtain rfl:k=n:=by omega
 simp only[Prod.mk.injEq]at hx;obtain⟨rfl,-⟩:=hx;simp only[DataW.weights,ht]at hw;obtain⟨a,ha⟩:=h cs xs (by rw[hxl];simp) (fun i f hfi=>hf i f (by simpa using hfi)) (by simpa using hw);exact⟨a,by rw[hcl,hl],ha⟩
theorem Gv {t:TypeId} {fs:List Field} {α:Type} {ea:α→List V} (ht:P.underlying t=some (.struct fs.toArray)) (h: ∀n,wU enc P W n fs 0 ea) (hl: ∀a,(ea a).length=P.cellsOf t):UP enc P W t ea
 | 0=>KI
 | n+1=>N9 ht (h n) hl
end
end Go.Gl
namespace Go.Gl
open Go.Proofs
section
variable {H:Type} {enc:TypeId×Value→H} {W:World}
theorem b8 {n:Nat} (h:Nat.ble 8 n=true):8≤n:=Nat.le_of_ble_eq_true h
theorem Mz:UP enc Tryz.prog W 3 fun x:Int=>[V.i .i64 x]:=QY Tryz.underlying3
theorem SN:UP enc Tryz.prog W 23 fun l:List Int=>[V.l (iL l) false]:=Hz Tryz.underlying23 (by kernel_rfl) (by decide) (b8 (by kernel_rfl)) (fun _=>rfl) Mz
theorem rn:UP enc Tryz.prog W 169 fun p:Int×Int=>[eI p.1,eI p.2]:=fun n=>
 H8 (Gv Tryz.underlying169
  (fun n=>Bc (c:=1) rfl (by kernel_rfl) (fun _=>rfl) (Mz n) (Bc (c:=1) rfl (by kernel_rfl) (fun _=>rfl) (Mz n) H9)) (fun _=>(show _=2 from rfl).trans (by kernel_rfl)) n) (fun x=>(x.1,x.2.1)) fun _=>rfl
theorem eK:UP enc Tryz.prog W 53 fun l:List (Int×Int)=>[V.l (l.map fun p=>[eI p.1,eI p.2]) false]:=Hz (sz:=2) Tryz.underlying53 (by kernel_rfl) (by decide) (b8 (by kernel_rfl)) (fun _=>rfl) rn
theorem yC:UP enc Tryz.prog W 55 SB:=fun n=>
 H8 (Gv Tryz.underlying55
  (fun n=>Bc (c:=1) rfl (by kernel_rfl) (fun _=>rfl) (SN n) (Bc (c:=1) rfl (by kernel_rfl) (fun _=>rfl) (SN n)
   (Bc (c:=1) rfl (by kernel_rfl) (fun _=>rfl) (eK n) H9))) (fun _=>(show _=3 from rfl).trans (by kernel_rfl)) n) (fun x=>⟨x.1,x.2.1,x.2.2.1⟩) fun _=>rfl
theorem rl:UP enc Tryz.prog W 112 Ly:=fun n=>
 H8 (Gv Tryz.underlying112
  (fun n=>Bc (c:=1) rfl (by kernel_rfl) (fun _=>rfl) (QY Tryz.underlying110 n) (Bc (c:=1) rfl (by kernel_rfl) (fun _=>rfl) (Mz n)
   (Bc (c:=1) rfl (by kernel_rfl) (fun _=>rfl) (SN n) H9))) (fun _=>(show _=3 from rfl).trans (by kernel_rfl)) n) (fun x=>⟨x.1,x.2.1,x.2.2.1⟩) fun _=>rfl
theorem eH:UP enc Tryz.prog W 25 fun l:List Node=>[V.l (l.map Ly) false]:=Hz (sz:=3) Tryz.underlying25 (by kernel_rfl) (by decide) (b8 (by kernel_rfl)) (fun _=>rfl) rl
theorem ru:UP enc Tryz.prog W 22 fun l:List Of=>[V.l (l.map SB) false]:=Hz (sz:=3) Tryz.underlying22 (by kernel_rfl) (by decide) (b8 (by kernel_rfl)) (fun _=>rfl) yC
theorem Lj (f:Fact):(Gb f).length=6:=by rw[CO];rfl
theorem Wd: ∀n,c7 enc Tryz.prog W n 89 Gb∧c7 enc Tryz.prog W n 87 fun l:List Fact=>[V.l (facts l) false]
 | 0=>⟨KI,KI⟩
 | n + 1 =>by
   obtain⟨h1,h2⟩:=Wd n;refine⟨?_,PY Tryz.underlying87 (by kernel_rfl) (by decide) (b8 (by kernel_rfl)) Lj h1⟩
   exact H8 (N9 Tryz.underlying89
    (Bc (c:=1) rfl (by kernel_rfl) (fun _=>rfl) (QY Tryz.underlying86 n) (Bc (c:=1) rfl (by kernel_rfl) (fun _=>rfl) (Mz n)
     (Bc (c:=1) rfl (by kernel_rfl) (fun _=>rfl) (SN n) (Bc (c:=1) rfl (by kernel_rfl) (fun _=>rfl) (Mz n)
      (Bc (c:=1) rfl (by kernel_rfl) (fun _=>rfl) (Mz n) (Bc (c:=1) rfl (by kernel_rfl) (fun _=>rfl) h2 H9)))))) (fun _=>(show _=6 from rfl).trans (by kernel_rfl)))
    (fun x=>Fact.mk x.1 x.2.1 x.2.2.1 x.2.2.2.1 x.2.2.2.2.1 x.2.2.2.2.2.1) fun x=>by rw[CO];rfl
theorem rq:UP enc Tryz.prog W 89 Gb:=fun n=>(Wd n).1
theorem rm:UP enc Tryz.prog W 91 Zm:=fun n=>
 H8 (Gv Tryz.underlying91
  (fun n=>Bc (c:=1) rfl (by kernel_rfl) (fun _=>rfl) (QY Tryz.underlying37 n) (Bc (c:=1) rfl (by kernel_rfl) (fun _=>rfl) (Mz n)
   (Bc (c:=6) rfl (by kernel_rfl) Lj (rq n) (Bc (c:=1) rfl (by kernel_rfl) (fun _=>rfl) (Mz n) H9)))) (fun x=>(show _=9 from by simp only[UE,Lj];rfl).trans (by kernel_rfl)) n) (fun x=>⟨x.1,x.2.1,x.2.2.1,x.2.2.2.1⟩) fun x=>by rw[CO];rfl
theorem eJ:UP enc Tryz.prog W 24 fun l:List Ov=>[V.l (l.map Zm) false]:=Hz (sz:=9) Tryz.underlying24 (by kernel_rfl) (by decide) (b8 (by kernel_rfl)) (fun _=>rfl) rm
theorem rj:UP enc Tryz.prog W 27 Bz:=fun n=>
 H8 (Gv Tryz.underlying27
  (fun n=>Bc (c:=1) rfl (by kernel_rfl) (fun _=>rfl) (ru n)
   (Bc (c:=1) rfl (by kernel_rfl) (fun _=>rfl) (Mz n) (Bc (c:=1) rfl (by kernel_rfl) (fun _=>rfl) (SN n)
    (Bc (c:=1) rfl (by kernel_rfl) (fun _=>rfl) (eJ n)
     (Bc (c:=1) rfl (by kernel_rfl) (fun _=>rfl) (eH n)
      (Bc (c:=1) rfl (by kernel_rfl) (fun _=>rfl) (Mz n) H9)))))) (fun _=>(show _=6 from rfl).trans (by kernel_rfl)) n) (fun x=>⟨x.1,x.2.1,x.2.2.1,x.2.2.2.1,x.2.2.2.2.1,x.2.2.2.2.2.1⟩) fun _=>rfl
end
end Go.Gl
