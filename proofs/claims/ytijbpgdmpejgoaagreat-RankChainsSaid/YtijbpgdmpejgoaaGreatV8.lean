import Derived.Test.YtijbpgdmpejgoaaGreatProg
import Derived.KernelRfl
import Derived.Test.YtijbpgdmpejgoaaGreatV5
import Derived.Test.YtijbpgdmpejgoaaGreatV6
import Derived.Test.YtijbpgdmpejgoaaGreatV7
set_option linter.all false
noncomputable section
namespace Go.Gl
open Go.Proofs
abbrev sh:AJ:=(sr [0,2] [BD 2 0] (.seq [0,2] (sr [0,2,4] [oM 3 0,oo 4 (.bin .geq (.t 3) (.c (.i .u64 4294967296)))] (.cond (.t 4) (sr [0] [oM 5 0,oo 6 (.bin .shr (.t 5) (.c (.i .u64 32))),oM 0 6] (.Av [BD 2 32])) .skip)) (.seq [0,2] (sr [0,2,8] [oM 7 0,oo 8 (.bin .geq (.t 7) (.c (.i .u64 65536)))] (.cond (.t 8) (sr [0,2] [oM 9 0,oo 10 (.bin .shr (.t 9) (.c (.i .u64 16))),oM 0 10] (.Av [oM 11 2,Aa 12 .add 11 16,oM 2 12])) .skip)) (.seq [0,2] (sr [0,2,14] [oM 13 0,oo 14 (.bin .geq (.t 13) (.c (.i .u64 256)))] (.cond (.t 14) (sr [0,2] [oM 15 0,oo 16 (.bin .shr (.t 15) (.c (.i .u64 8))),oM 0 16] (.Av [oM 17 2,Aa 18 .add 17 8,oM 2 18])) .skip)) (sr [2] [oM 19 2,oM 20 0,oo 21 (.conv .u8 (.t 20)),⟨(some 22),.XZ (.c (.s ⟨#[0,1,2,2,3,3,3,3,4,4,4,4,4,4,4,4,5,5,5,5,5,5,5,5,5,5,5,5,5,5,5,5,6,6,6,6,6,6,6,6,6,6,6,6,6,6,6,6,6,6,6,6,6,6,6,6,6,6,6,6,6,6,6,6,7,7,7,7,7,7,7,7,7,7,7,7,7,7,7,7,7,7,7,7,7,7,7,7,7,7,7,7,7,7,7,7,7,7,7,7,7,7,7,7,7,7,7,7,7,7,7,7,7,7,7,7,7,7,7,7,7,7,7,7,7,7,7,7,8,8,8,8,8,8,8,8,8,8,8,8,8,8,8,8,8,8,8,8,8,8,8,8,8,8,8,8,8,8,8,8,8,8,8,8,8,8,8,8,8,8,8,8,8,8,8,8,8,8,8,8,8,8,8,8,8,8,8,8,8,8,8,8,8,8,8,8,8,8,8,8,8,8,8,8,8,8,8,8,8,8,8,8,8,8,8,8,8,8,8,8,8,8,8,8,8,8,8,8,8,8,8,8,8,8,8,8,8,8,8,8,8,8,8,8,8,8,8,8,8,8,8,8,8,8,8,8]⟩)) (.t 21),none⟩,oo 23 (.conv .i64 (.t 22)),oG 24 .add 19 23,oM 2 24] .ret)))))
theorem lz:CT 206 25 sh [2]:=cT Tryz.func206
def gT:List Af:=[oM 1 4]
abbrev aX:AJ:=(sr [0,1,6] [oM 5 1,oo 6 (.ZE 2 true (.t 5))] (.cond (.t 6) (.seq [0] (sr [0,1,3] [oM 8 1,oo 9 (.dR 242 (.a []) true (.t 8)),oM 7 9,oX 10 0 7,oX 11 1 7,oo 2 (.alloc []),oS 0 2 10,oM 3 11] (sr [0,1,13] [oM 12 3,oN 13 12] (.cond (.t 13) (.Av [oM 14 1,⟨none,.panic (.t 14),none⟩]) .skip))) (.Av [⟨none,.store 1 (.t 0) (.c (.b false)),none⟩])) .skip))
theorem jC:Tryz.f207.body.bind (resRec Tryz.prog Tryz.f207.ntmps [] [])=some (4,gT,erase aX):=by kernel_rfl
theorem XH {args:List V} (hn:args.length≤15) {m:Option V} {σ:AH} {Q:AH→Prop} (h:W Tryz.prog (.seq [0,1] (.Av gT) aX) (Pg Q) (put (some 4) (m.getD .Ie) (C6 0 args)) σ):M5 Tryz.prog 207 args m σ Q:=
 Qq Tryz.func207 (by kernel_rfl) jC rfl hn (iO h)
abbrev sg:AJ:=(sr [0] [BD 2 0] (.seq [] (sr [5] [oM 3 0,oC 4 249 3,oN 5 4] (.cond (.t 5) (sr [2] [BD 2 2] .ret) .skip)) (sr [2] [BD 2 0] .ret)))
theorem ly:CT 208 6 sg [2]:=cT Tryz.func208
abbrev sf:AJ:=(sr [0,1] [CP 4,BD 5 0] (sr [1,6,7] [oM 9 0,oM 10 1,oo 11 (.AY 1 1 [(.i .i64 0)] [(0,(.t 10))]),Bo 12 250 9 11,oM 8 12,oX 13 0 8,oX 14 1 8,oM 6 13,oM 7 14] (.seq [1,6] (sr [1,6,16] [oM 15 7,oN 16 15] (.cond (.t 16) (sr [4,5] [CP 4,BD 5 2] .ret) .skip)) (.seq [1,6] (sr [1,6,24] [oM 17 6,oK 18 17,oF 19 2 18,oL 20 19,oM 21 1,oo 22 (.lookup (.i .i64) (.l [] true) false (.t 20) (.t 21)),oE 23 22,Aa 24 .eql 23 0] (.cond (.t 24) (sr [4,5] [CP 4,BD 5 7] .ret) .skip)) (sr [4,5] [oM 25 6,oK 26 25,oF 27 2 26,oL 28 27,oM 29 1,oo 30 (.lookup (.i .i64) (.l [] true) false (.t 28) (.t 29)),oC 31 175 30,oM 4 31,BD 5 0] .ret)))))
theorem lu:CT 209 32 sf [4,5]:=cT Tryz.func209
abbrev se:AJ:=(sr [1,2] [Bb 2 0,CP 4] (sr [1,2,5] [oo 10 (.Iq),oM 11 1,⟨none,.EI (.i .i64) (.t 10) (.t 11) (.c (.b true)),none⟩,oM 12 10,oM 5 12] (sr [1,2,5,6] [CP 6] (.seq [6] (sr [2,5,6,7] [oM 13 1,oM 7 13] (.block 0 (.loop [2,5,6,7] (.seq [2,5,6,7] (sr [2,5,6,7,15] [oM 14 7,Aa 15 .geq 14 3] (.cond (.t 15) .skip (.exit 0))) (.seq [2,5,6,7] (.block 1 (sr [2,5,6,7,20] [oM 18 5,oM 19 7,oo 20 (.lookup (.i .i64) (.b false) false (.t 18) (.t 19))] (.cond (.t 20) (sr [2,5,6,7] [oM 21 6,oF 22 0 2,oL 23 22,oM 24 7,Aa 25 .sub 24 3,oI 26 3 23 25,oF 27 1 26,oL 28 27,oA 29 1 8 21 28,oM 6 29] (sr [2,5,6,7,36,37,38] [oF 30 0 2,oL 31 30,oM 32 7,Aa 33 .sub 32 3,oI 34 3 31 33,oF 35 0 34,oL 36 35,oE 37 36,BD 38 0] (.block 2 (.loop [2,5,6,7,36,37,38] (sr [2,5,6,7,36,37,38,39] [oG 39 .lss 38 37] (.seq [2,5,6,7,36,37,38] (.cond (.t 39) .skip (.exit 2)) (.seq [2,5,6,7,36,37,38] (.block 3 (sr [2,5,6,7,9,36,37,38] [oI 40 1 36 38,oL 41 40,oM 9 41] (.Av [oM 42 5,oM 43 9,⟨none,.EI (.i .i64) (.t 42) (.t 43) (.c (.b true)),none⟩]))) (.Av [Aa 44 .add 38 1,oM 38 44])))))))) .skip))) (.Av [oM 16 7,Aa 17 .sub 16 1,oM 7 17])))))) (sr [6] [oM 45 6,oC 46 135 45] (sr [4] [oM 47 6,oC 48 99 47,oM 4 48] .ret))))))
theorem lr:CT 210 49 se [4]:=cT Tryz.func210 [2]
abbrev sd:AJ:=(sr [0] [Ay 2 false] (sr [2] [oM 3 0,Aa 4 .geq 3 (-1000000000),oM 5 4,A3 6 0 5,EZ 7 .leq 6 1000000000 5,oP 8 5 7,oM 2 8] .ret))
theorem lq:CT 211 9 sd [2]:=cT Tryz.func211
abbrev sc:AJ:=(sr [0,1] [oo 4 (.mv (.c (.i .u64 0))),oo 5 (.mv (.c (.i .u64 0)))] (.seq [0,1] (.cond (.c (.b false)) (sr [6,7] [oM 11 0,oo 12 (.conv .u32 (.t 11)),oM 13 1,oo 14 (.conv .u32 (.t 13)),Bo 15 251 12 14,oM 10 15,oX 16 0 10,oX 17 1 10,oM 6 16,oM 7 17] (sr [4,5] [oM 18 6,oo 19 (.conv .u64 (.t 18)),oM 20 7,oo 21 (.conv .u64 (.t 20)),oM 4 19,oM 5 21] .ret)) .skip) (sr [8,9] [oM 23 0,oM 24 1,Bo 25 252 23 24,oM 22 25,oX 26 0 22,oX 27 1 22,oM 8 26,oM 9 27] (sr [4,5] [oM 28 8,oM 29 9,oM 4 28,oM 5 29] .ret))))
theorem lk:CT 212 30 sc [4,5]:=cT Tryz.func212
abbrev sb:AJ:=(sr [1,2,3,4] [Bb 4 0] (sr [1,2,3,4,5] [oo 5 (.alloc [.Ng])] (sr [2,3,5] [oo 6 (.IU (.func 214) [] [(.t 4),(.t 1),(.t 5)]),oS 1 5 6] (.Av [oL 7 5,oL 8 2,Au 9 2 3,oo 10 (.CJ (.t 7) [(.t 8),(.t 9)])]))))
theorem lj:CT 213 11 sb []:=cT Tryz.func213 [4]
abbrev sa:AJ:=(sr [0,2,3,4,6] [Bb 6 1,Ay 7 false] (.seq [0,3,4,6] (sr [0,3,4,6,15] [oL 11 2,oM 12 0,Au 13 2 6,oo 14 (.CJ (.t 11) [(.t 12),(.t 13)]),oN 15 14] (.cond (.t 15) (sr [7] [Ay 7 false] .ret) .skip)) (.seq [] (sr [0,3,4,6,21,22,23] [oF 16 4 3,oL 17 16,oM 18 0,oI 19 3 17 18,oF 20 2 19,oL 21 20,oE 22 21,BD 23 0] (.block 0 (.loop [0,3,4,6,21,22,23] (sr [0,3,4,6,21,22,23,24] [oG 24 .lss 23 22] (.seq [0,3,4,6,21,22,23] (.cond (.t 24) .skip (.exit 0)) (.seq [0,3,4,6,21,22,23] (.block 1 (sr [0,3,4,6,8,9,21,22,23] [oM 25 23,oI 26 1 21 23,oL 27 26,oM 8 25,oM 9 27] (sr [0,3,4,6,8,9,10,21,22,23] [oF 28 0 6,oL 29 28,oF 30 1 6,oL 31 30,Aa 32 .add 31 1,oo 33 (.build [(.i .i64 0),(.i .i64 0)] [(0,1,(.t 29)),(1,1,(.t 32))]),oo 10 (.alloc [(.i .i64 0),(.i .i64 0)]),oS 2 10 33] (.seq [0,3,4,6,9,10,21,22,23] (sr [0,3,4,6,9,10,21,22,23,44] [oF 34 4 3,oL 35 34,oM 36 0,oI 37 3 35 36,oF 38 0 37,oL 39 38,Aa 40 .eql 39 9,oM 41 40,A3 42 8 41,EZ 43 .eql 42 1 41,oP 44 41 43] (.cond (.t 44) (.Av [oF 45 0 10,oL 46 45,Aa 47 .add 46 1,oF 48 0 10,oS 1 48 47]) .skip)) (sr [0,3,4,6,21,22,23,53] [oL 49 4,oM 50 9,Au 51 2 10,oo 52 (.CJ (.t 49) [(.t 50),(.t 51)]),oN 53 52] (.cond (.t 53) (sr [7] [Ay 7 false] .ret) .skip)))))) (.Av [Aa 54 .add 23 1,oM 23 54]))))))) (sr [7] [Ay 7 true] .ret))))
theorem aD:CT 214 55 sa [7]:=cT Tryz.func214 [6]
abbrev sZ:AJ:=(sr [0] [BD 2 0] (.seq [] (sr [4] [oM 3 0,oN 4 3] (.cond (.t 4) (sr [2] [BD 2 2] .ret) .skip)) (sr [2] [BD 2 0] .ret)))
theorem lh:CT 215 5 sZ [2]:=cT Tryz.func215
abbrev sY:AJ:=(sr [0] [CP 2] (sr [2] [oM 3 0,oM 4 0,oE 5 4,oM 6 0,oE 7 6,oo 8 (.slice 1 (.t 3) none (some (.t 5)) (some (.t 7))),oM 2 8] .ret))
theorem lg:CT 216 9 sY [2]:=cT Tryz.func216
abbrev sX:AJ:=(sr [0,1] [Ay 3 false] (sr [3] [oL 4 1,oM 5 0,oo 6 (.CJ (.t 4) [(.t 5)]),oN 7 6,oM 3 7] .ret))
theorem aB:CT 217 8 sX [3]:=cT Tryz.func217
abbrev sW:AJ:=(sr [0,1] [Ay 4 false] (sr [4] [oM 5 0,oM 6 1,Bo 7 253 5 6,Aa 8 .geq 7 0,oM 4 8] .ret))
theorem lZ:CT 218 9 sW [4]:=cT Tryz.func218
abbrev sV:AJ:=(sr [1,2] [Bb 2 0,Ay 3 false] (sr [3] [oL 4 1,Au 5 6 2,oo 6 (.CJ (.t 4) [(.t 5)]),oN 7 6,oM 3 7] .ret))
theorem lY:CT 219 8 sV [3]:=cT Tryz.func219 [2]
abbrev sU:AJ:=(sr [0] [BD 2 0] (.seq [] (sr [3] [oM 3 0] (.block 0 (sr [3,4] [Aa 5 .eql 3 5,oM 4 5] (.cond (.t 4) (sr [2] [BD 2 1] .ret) (.seq [6] (sr [3,6] [Aa 7 .eql 3 6,oM 6 7] (.cond (.t 6) .skip (.Av [Aa 8 .eql 3 7,oM 6 8]))) (.cond (.t 6) (sr [2] [BD 2 2] .ret) .skip)))))) (sr [2] [BD 2 0] .ret)))
theorem lX:CT 220 9 sU [2]:=cT Tryz.func220
abbrev sT:AJ:=(sr [0,1] [Ay 4 false] (sr [4] [oM 5 1,oE 6 5,Aa 7 .leq 6 2,oM 8 7,A3 9 1 8,A3 10 0 8,C3 11 (.IU (.func 254) [(.t 10)] []) 8,C3 12 (.call 177 [(.t 9),(.t 11)]) 8,oP 13 8 12,oM 4 13] .ret))
theorem lW:CT 221 14 sT [4]:=cT Tryz.func221
abbrev sS:AJ:=(sr [0,1] [Ay 4 false] (sr [4] [oM 5 1,Aa 6 .geq 5 0,oM 7 6,A3 8 1 7,A3 9 0 7,C3 10 (.Fb (.t 9)) 7,BU 11 0 10 7,BU 12 0 11 7,Aw 13 12 7,G9 14 13 7,C3 15 (.bin .add (.c (.i .i64 3)) (.t 14)) 7,Dp 16 .lss 8 15 7,oP 17 7 16,oM 4 17] .ret))
theorem lV:CT 222 18 sS [4]:=cT Tryz.func222
abbrev sR:AJ:=(sr [1,2,3,4] [Bb 4 0,Ay 5 false] (sr [5] [oL 6 1,Au 7 6 4,oL 8 2,oL 9 3,Aa 10 .sub 9 1,XY 11 181 6 7 8 10,oM 5 11] .ret))
theorem lU:CT 223 12 sR [5]:=cT Tryz.func223 [4]
abbrev sQ:AJ:=(sr [0,1,2,4] [oo 4 (.alloc [.Ng])] (sr [0,1,2,4] [oo 5 (.IU (.func 225) [] [(.t 4)]),oS 1 4 5] (.Av [oL 6 4,Au 7 6 1,oL 8 2,oM 9 0,oo 10 (.CJ (.t 6) [(.t 7),(.t 8),(.t 9)])])))
theorem lT:CT 224 11 sQ []:=cT Tryz.func224
abbrev sP:AJ:=(sr [3,4,5,6] [Bb 4 0,Bb 5 1,Bb 6 2,Ay 7 false] (.seq [3,4,5,6] (.block 0 (sr [3,4,5,6,8] [oF 9 0 4,oL 10 9,Aa 11 .eql 10 1,oM 8 11] (.cond (.t 8) (sr [7] [oL 12 5,oM 13 12,BN 14 6 13,FY 15 (.CJ (.t 14) [(.c (.l [] true))]) 13,oQ 16 13 15,oM 7 16] .ret) (sr [3,4,5,6,17] [oF 18 0 4,oL 19 18,Aa 20 .eql 19 5,oM 17 20] (.cond (.t 17) (.seq [7] (.BX [7] [dO 0 (oL 21 3),dO 1 (oF 22 5 4),dO 2 (oL 23 22),dO 3 (oo 24 (.Bg 6 none (.t 23) (.c (.i .i64 0)))),dO 4 (Au 25 6 24),dO 5 (oL 26 5),dO 6 (oN 27 26),dO 7 (oL 28 6),dO 8 (oo 29 (.CJ (.t 21) [(.t 25),(.t 27),(.t 28)])),dO 9 (oM 7 29)]) .ret) (sr [3,4,5,6,30] [Au 31 6 4,oC 32 150 31,oM 30 32] (.cond (.t 30) (sr [7] [oL 33 6,Au 34 6 4,oL 35 5,oo 36 (.build [(.i .i64 0),(.i .i64 0),(.l [] true),(.i .i64 0),(.i .i64 0),(.l [] true),(.b false)] [(0,6,(.t 34)),(6,1,(.t 35))]),oo 37 (.AY 7 1 [(.i .i64 0),(.i .i64 0),(.l [] true),(.i .i64 0),(.i .i64 0),(.l [] true),(.b false)] [(0,(.t 36))]),oo 38 (.CJ (.t 33) [(.t 37)]),oM 7 38] .ret) (sr [3,4,5,6,39] [oL 40 5,oF 41 0 4,oL 42 41,Aa 43 .eql 42 6,oo 44 (.UY false (.t 40) (.t 43)),oM 39 44] (.cond (.t 39) (.seq [7] (.BX [7] [dO 0 (oL 45 3),dO 1 (oF 46 5 4),dO 2 (oL 47 46),dO 3 (oo 48 (.Bg 6 none (.t 47) (.c (.i .i64 0)))),dO 4 (Au 49 6 48),dO 5 (oL 50 5),dO 6 (oL 51 6),dO 7 (oo 52 (.CJ (.t 45) [(.t 49),(.t 50),(.t 51)])),dO 8 (oM 53 52),dO 9 (Aw 54 3 53),dO 10 (BU 55 5 4 53),dO 11 (Aw 56 55 53),dO 12 (C3 57 (.Bg 6 none (.t 56) (.c (.i .i64 1))) 53),dO 13 (Jp 58 6 57 53),dO 14 (Aw 59 5 53),dO 15 (Aw 60 6 53),dO 16 (C3 61 (.CJ (.t 54) [(.t 58),(.t 59),(.t 60)]) 53),dO 17 (oP 62 53 61),dO 18 (oM 7 62)]) .ret) .skip))))))))) (.seq [7] (.BX [7] [dO 0 (oL 63 3),dO 1 (oF 64 5 4),dO 2 (oL 65 64),dO 3 (oo 66 (.Bg 6 none (.t 65) (.c (.i .i64 0)))),dO 4 (Au 67 6 66),dO 5 (oL 68 5),dO 6 (oo 69 (.IU (.func 226) [] [(.t 3),(.t 4),(.t 5),(.t 6)])),dO 7 (oo 70 (.CJ (.t 63) [(.t 67),(.t 68),(.t 69)])),dO 8 (oM 7 70)]) .ret)))
theorem lS:CT 225 71 sP [7]:=cT Tryz.func225 [4,5,6]
abbrev sO:AJ:=(sr [1,2,3,4,5] [Bb 5 0,Ay 6 false] (.seq [6] (.BX [6] [dO 0 (oL 7 1),dO 1 (oF 8 5 2),dO 2 (oL 9 8),dO 3 (oo 10 (.Bg 6 none (.t 9) (.c (.i .i64 1)))),dO 4 (Au 11 6 10),dO 5 (oL 12 3),dO 6 (oo 13 (.IU (.func 227) [] [(.t 4),(.t 5)])),dO 7 (oo 14 (.CJ (.t 7) [(.t 11),(.t 12),(.t 13)])),dO 8 (oM 6 14)]) .ret))
theorem lR:CT 226 15 sO [6]:=cT Tryz.func226 [5]
abbrev sN:AJ:=(sr [0,1,2] [Ay 4 false] (.seq [4] (.BX [4] [dO 0 (oL 5 1),dO 1 (oL 6 2),dO 2 (oM 7 0),⟨3,Bo 8 228 6 7,[0],[oL 5 1]⟩,dO 4 (oo 9 (.CJ (.t 5) [(.t 8)])),dO 5 (oM 4 9)]) .ret))
theorem lQ:CT 227 10 sN [4]:=cT Tryz.func227
abbrev sM:AJ:=(sr [0,1] [CP 4] (sr [1,5] [oM 8 0,oC 9 255 8,oM 5 9] (.seq [5] (sr [5,10,11,12] [oM 10 1,oE 11 10,BD 12 0] (.block 0 (.loop [5,10,11,12] (sr [5,10,11,12,13] [oG 13 .lss 12 11] (.seq [5,10,11,12] (.cond (.t 13) .skip (.exit 0)) (.seq [5,10,11,12] (.block 1 (sr [5,7,10,11,12] [oI 14 7 10 12,Au 15 7 14,oo 7 (.alloc [(.i .i64 0),(.i .i64 0),(.l [] true),(.i .i64 0),(.i .i64 0),(.l [] true),(.b false)]),oS 7 7 15] (sr [5,7,10,11,12,19] [oM 16 5,oo 17 (.IU (.func 257) [] [(.t 7)]),Bo 18 256 16 17,oN 19 18] (.cond (.t 19) (.Av [oM 20 5,Au 21 7 7,oo 22 (.AY 7 1 [(.i .i64 0),(.i .i64 0),(.l [] true),(.i .i64 0),(.i .i64 0),(.l [] true),(.b false)] [(0,(.t 21))]),oA 23 7 88 20 22,oM 5 23]) .skip)))) (.Av [Aa 24 .add 12 1,oM 12 24]))))))) (sr [4] [oM 25 5,oM 4 25] .ret))))
theorem lP:CT 228 26 sM [4]:=cT Tryz.func228
def gS:List Af:=[oo 5 (.dR 257 (.a []) true (.t 4)),
    oM 3 5,
    oX 6 0 3,
    oX 7 1 3,
    oo 1 (.alloc []),
    oS 0 1 6,
    oM 2 7]
abbrev aW:AJ:=(sr [0,8] [oM 8 2] (.cond (.t 8) (.Av [⟨none,.store 1 (.t 0) (.c (.b false)),none⟩]) .skip))
theorem jB:Tryz.f229.body.bind (resRec Tryz.prog Tryz.f229.ntmps [] [])=some (4,gS,erase aW):=by kernel_rfl
theorem XG {args:List V} (hn:args.length≤9) {m:Option V} {σ:AH} {Q:AH→Prop} (h:W Tryz.prog (.seq [0,2] (.Av gS) aW) (Pg Q) (put (some 4) (m.getD .Ie) (C6 0 args)) σ):M5 Tryz.prog 229 args m σ Q:=
 Qq Tryz.func229 (by kernel_rfl) jB rfl hn (iO h)
abbrev sL:AJ:=(sr [0,1] [oo 4 (.mv (.c .pn))] (sr [1,5] [oM 8 0,oo 9 (.Iq),oo 10 (.build [.pn,.mn] [(0,1,(.t 8)),(1,1,(.t 9))]),Bb 11 10,oM 5 11] (.seq [5] (sr [5,12,13,14] [oM 12 1,oE 13 12,BD 14 0] (.block 0 (.loop [5,12,13,14] (sr [5,12,13,14,15] [oG 15 .lss 14 13] (.seq [5,12,13,14] (.cond (.t 15) .skip (.exit 0)) (.seq [5,12,13,14] (.block 1 (sr [5,7,12,13,14] [oI 16 7 12 14,Au 17 7 16,oo 7 (.alloc [(.i .i64 0),(.i .i64 0),(.l [] true),(.i .i64 0),(.i .i64 0),(.l [] true),(.b false)]),oS 7 7 17] (.Av [oM 18 5,Au 19 7 7,Bo 20 259 18 19]))) (.Av [Aa 21 .add 14 1,oM 14 21]))))))) (sr [4] [oM 22 5,oM 4 22] .ret))))
theorem lO:CT 230 23 sL [4]:=cT Tryz.func230 [11]
abbrev sK:AJ:=(sr [0,3] [BD 3 0] (.block 0 (.loop [0,3] (sr [0,3,4] [Aa 4 .lss 3 3] (.seq [0,3] (.cond (.t 4) .skip (.exit 0)) (.seq [0,3] (.block 1 (sr [0,2,3] [oM 5 3,oM 2 5] (sr [0,3,10] [oM 6 0,oM 7 2,oo 8 (.build [(.i .i64 0),(.i .i64 0),(.i .i64 0),(.i .i64 0)] [(0,1,(.t 7))]),Bo 9 260 6 8,oN 10 9] (.cond (.t 10) (.Av [oo 11 (.build [] []),oo 12 (.Gb 257 (.t 11)),⟨none,.panic (.t 12),none⟩]) .skip)))) (.Av [Aa 13 .add 3 1,oM 3 13])))))))
theorem lN:CT 231 14 sK []:=cT Tryz.func231
abbrev sJ:AJ:=(sr [2,3] [Bb 2 0,Bb 3 1,Ay 4 false] (.seq [2,3] (.seq [2,3,48] (.Av (oF 6 0 2::oL 7 6::oF 8 0 3::oL 9 8::oG 10 .neq 7 9::oM 11 10::Bf 12 1 2 11::BN 13 12 11::Bf 14 1 3 11::BN 15 14 11::Gv 16 .neq 13 15 11::oQ 17 11 16::oM 18 17::Bf 19 3 2 18::BN 20 19 18::Bf 21 3 3 18::BN 22 21 18::Gv 23 .neq 20 22 18::oQ 24 18 23::oM 25 24::Bf 26 4 2 25::BN 27 26 25::Bf 28 4 3 25::BN 29 28 25::Gv 30 .neq 27 29 25::oQ 31 25 30::oM 32 31::Bf 33 2 2 32::BN 34 33 32::Bf 35 2 3 32::BN 36 35 32::FY 37 (.call 30 [(.t 34),(.t 36)]) 32::IZ 38 37 32::oQ 39 32 38::oM 40 39::Bf 41 5 2 40::BN 42 41 40::GX 43 42 40::Bf 44 5 3 40::BN 45 44 40::GX 46 45 40::Gv 47 .neq 43 46 40::oQ 48 40 47:: [])) (.cond (.t 48) (sr [4] [Ay 4 false] .ret) .skip)) (.seq [] (sr [2,3,51,52] [oF 49 5 2,oL 50 49,oE 51 50,BD 52 0] (.block 0 (.loop [2,3,51,52] (sr [2,3,51,52,53] [oG 53 .lss 52 51] (.seq [2,3,51,52] (.cond (.t 53) .skip (.exit 0)) (.seq [2,3,51,52] (.block 1 (sr [2,3,5,51,52] [oM 54 52,oM 5 54] (.seq [2,3,51,52,66] (.BX [2,3,51,52,66] [dO 0 (oF 55 5 2),dO 1 (oL 56 55),dO 2 (oM 57 5),dO 3 (oI 58 6 56 57),dO 4 (Au 59 6 58),dO 5 (oF 60 5 3),dO 6 (oL 61 60),dO 7 (oM 62 5),dO 8 (oI 63 6 61 62),dO 9 (Au 64 6 63),dO 10 (Bo 65 232 59 64),dO 11 (oN 66 65)]) (.cond (.t 66) (sr [4] [Ay 4 false] .ret) .skip)))) (.Av [Aa 67 .add 52 1,oM 52 67]))))))) (sr [4] [Ay 4 true] .ret))))
theorem lM:CT 232 68 sJ [4]:=cT Tryz.func232 [2,3]
abbrev sI:AJ:=(sr [1] [Bb 1 0,BD 2 0,Ay 3 false] (sr [1,4,5] [BD 4 (-1000000000),BD 5 1000000000] (sr [1,4,5,6] [CP 6] (.seq [1,4,5,6] (sr [1,4,5,6,16,17,18] [Au 15 6 1,oC 16 261 15,oE 17 16,BD 18 0] (.block 0 (.loop [1,4,5,6,16,17,18] (sr [1,4,5,6,16,17,18,19] [oG 19 .lss 18 17] (.seq [1,4,5,6,16,17,18] (.cond (.t 19) .skip (.exit 0)) (.seq [1,4,5,6,16,17,18] (.block 1 (sr [1,4,5,6,8,16,17,18] [oI 20 6 16 18,Au 21 6 20,oo 8 (.alloc [(.i .i64 0),(.i .i64 0),(.l [] true),(.i .i64 0),(.i .i64 0),(.l [] true)]),oS 6 8 21] (sr [1,4,5,6,9,10,16,17,18] [Au 23 6 8,oC 24 262 23,oM 22 24,oX 25 0 22,oX 26 1 22,oo 9 (.alloc [(.i .i64 0),(.i .i64 0),(.l [] true),(.i .i64 0),(.i .i64 0),(.l [] true)]),oS 6 9 25,oM 10 26] (.block 2 (sr [1,4,5,6,9,10,16,17,18,35] [oF 36 0 9,oL 37 36,Aa 38 .eql 37 2,oM 35 38] (.cond (.t 35) (sr [1,4,5,6,16,17,18,43] [oF 39 3 9,oL 40 39,Aa 41 .gtr 40 1,oM 42 10,oo 43 (.UY true (.t 41) (.t 42))] (.cond (.t 43) (sr [2,3] [BD 2 0,Ay 3 false] .ret) .skip)) (sr [1,4,5,6,9,10,16,17,18,44] [oF 45 0 9,oL 46 45,Aa 47 .eql 46 3,oM 48 47,A3 49 10 48,oP 50 48 49,oM 44 50] (.cond (.t 44) (.Av [oM 51 4,oF 52 4 9,oL 53 52,oo 54 (.Li (.t 51) (.t 53)),oM 4 54]) (sr [1,4,5,6,9,10,16,17,18,55] [oF 56 0 9,oL 57 56,Aa 58 .eql 57 3,oM 55 58] (.cond (.t 55) (.Av [oM 59 5,oF 60 4 9,oL 61 60,Aa 62 .sub 61 1,oo 63 (.RC (.t 59) (.t 62)),oM 5 63]) (sr [1,4,5,6,9,16,17,18,64] [oM 65 10,oM 64 65] (.cond (.t 64) (.Av [oM 66 6,oF 67 4 9,oL 68 67,oo 69 (.AY 1 1 [(.i .i64 0)] [(0,(.t 68))]),oA 70 1 8 66 69,oM 6 70]) (.BX [1,4,5,6,16,17,18] [dO 0 (oM 27 4),dO 1 (oF 28 4 9),dO 2 (oL 29 28),dO 3 (oo 30 (.Li (.t 27) (.t 29))),dO 4 (oM 31 5),dO 5 (oF 32 4 9),dO 6 (oL 33 32),dO 7 (oo 34 (.RC (.t 31) (.t 33))),dO 8 (oM 4 30),dO 9 (oM 5 34)]))))))))))))) (.Av [Aa 71 .add 18 1,oM 18 71]))))))) (.seq [] (sr [1,5,6,11] [oM 72 4,oM 11 72] (.block 3 (.loop [1,5,6,11] (.seq [1,5,6,11] (sr [1,5,6,11,75] [oM 73 11,oM 74 5,oG 75 .leq 73 74] (.cond (.t 75) .skip (.exit 3))) (.seq [1,5,6,11] (.block 4 (sr [1,5,6,11,12] [Ay 12 true] (.seq [1,5,6,11,12] (sr [1,5,6,11,12,78,79,80] [oM 78 6,oE 79 78,BD 80 0] (.block 5 (.loop [1,5,6,11,12,78,79,80] (sr [1,5,6,11,12,78,79,80,81] [oG 81 .lss 80 79] (.seq [1,5,6,11,12,78,79,80] (.cond (.t 81) .skip (.exit 5)) (.seq [1,5,6,11,12,78,79,80] (.block 6 (sr [1,5,6,11,12,14,78,79,80] [oI 82 1 78 80,oL 83 82,oM 14 83] (.Av [oM 84 12,oM 85 84,A3 86 14 85,A3 87 11 85,Dp 88 .neq 86 87 85,oP 89 85 88,oM 12 89]))) (.Av [Aa 90 .add 80 1,oM 80 90]))))))) (sr [1,5,6,11,91] [oM 91 12] (.cond (.t 91) (sr [2,3] [oM 92 11,Au 93 6 1,oC 94 263 93,oM 2 92,oM 3 94] .ret) .skip))))) (.Av [oM 76 11,Aa 77 .add 76 1,oM 11 77])))))) (sr [2,3] [BD 2 0,Ay 3 false] .ret))))))
theorem lL:CT 233 95 sI [2,3]:=cT Tryz.func233 [1]
abbrev sH:AJ:=(sr [1] [Bb 1 0,Ay 2 false] (.seq [1] (sr [1,9,10,11] [Au 8 6 1,oC 9 261 8,oE 10 9,BD 11 0] (.block 0 (.loop [1,9,10,11] (sr [1,9,10,11,12] [oG 12 .lss 11 10] (.seq [1,9,10,11] (.cond (.t 12) .skip (.exit 0)) (.seq [1,9,10,11] (.block 1 (sr [1,4,9,10,11] [oI 13 6 9 11,Au 14 6 13,oo 4 (.alloc [(.i .i64 0),(.i .i64 0),(.l [] true),(.i .i64 0),(.i .i64 0),(.l [] true)]),oS 6 4 14] (sr [1,5,6,9,10,11] [Au 16 6 4,oC 17 262 16,oM 15 17,oX 18 0 15,oX 19 1 15,oo 5 (.alloc [(.i .i64 0),(.i .i64 0),(.l [] true),(.i .i64 0),(.i .i64 0),(.l [] true)]),oS 6 5 18,oM 6 19] (sr [1,6,7,9,10,11] [oF 20 0 5,oL 21 20,Aa 22 .eql 21 2,oM 23 22,BU 24 3 5 23,Aw 25 24 23,EZ 26 .eql 25 0 23,A3 27 26 23,Bf 28 3 5 27,BN 29 28 27,Ch 30 .eql 29 2 27,C3 31 (.pick (.t 27) (.c (.b true)) (.t 30)) 23,oP 32 23 31,oM 7 32] (sr [1,9,10,11,35] [oM 33 7,oM 34 6,oo 35 (.UY false (.t 33) (.t 34))] (.cond (.t 35) (sr [2] [Ay 2 false] .ret) .skip)))))) (.Av [Aa 36 .add 11 1,oM 11 36]))))))) (sr [2] [Au 37 6 1,oC 38 263 37,oM 2 38] .ret)))
theorem lK:CT 234 39 sH [2]:=cT Tryz.func234 [1]
abbrev sG:AJ:=(sr [1] [Bb 1 0,CP 2,Ay 3 false] (sr [1,4] [oF 19 0 1,oF 20 0 19,oL 21 20,oE 22 21,oo 23 (.bin .add (.c (.i .i64 3)) (.t 22)),oo 24 (.D6 1 1 [(.b false)] (.t 23) (.t 23)),oM 4 24] (sr [1,4,5] [oF 25 0 1,oF 26 0 25,oL 27 26,oE 28 27,oo 29 (.bin .add (.c (.i .i64 3)) (.t 28)),oo 30 (.D6 1 1 [(.b false)] (.t 29) (.t 29)),oM 5 30] (.seq [1,4,5] (sr [1,4,5,32,33,34] [Au 31 6 1,oC 32 261 31,oE 33 32,BD 34 0] (.block 0 (.loop [1,4,5,32,33,34] (sr [1,4,5,32,33,34,35] [oG 35 .lss 34 33] (.seq [1,4,5,32,33,34] (.cond (.t 35) .skip (.exit 0)) (.seq [1,4,5,32,33,34] (.block 1 (sr [1,4,5,7,32,33,34] [oI 36 6 32 34,Au 37 6 36,oo 7 (.alloc [(.i .i64 0),(.i .i64 0),(.l [] true),(.i .i64 0),(.i .i64 0),(.l [] true)]),oS 6 7 37] (sr [1,4,5,8,9,32,33,34] [Au 39 6 7,oC 40 262 39,oM 38 40,oX 41 0 38,oX 42 1 38,oo 8 (.alloc [(.i .i64 0),(.i .i64 0),(.l [] true),(.i .i64 0),(.i .i64 0),(.l [] true)]),oS 6 8 41,oM 9 42] (.block 2 (sr [1,4,5,8,9,32,33,34,47] [oF 48 0 8,oL 49 48,Aa 50 .neq 49 2,oM 51 50,Bf 52 3 8 51,BN 53 52 51,Ch 54 .eql 53 1 51,oQ 55 51 54,oM 56 55,Bf 57 3 8 56,BN 58 57 56,Ch 59 .eql 58 2 56,oQ 60 56 59,oM 47 60] (.cond (.t 47) (sr [1,4,5,32,33,34,62] [oM 61 9,oN 62 61] (.cond (.t 62) (sr [2,3] [CP 2,Ay 3 false] .ret) .skip)) (sr [1,4,5,8,32,33,34,63] [oM 64 9,oM 63 64] (.cond (.t 63) (.Av [oM 65 5,oF 66 3 8,oL 67 66,oI 68 1 65 67,⟨none,.store 1 (.t 68) (.c (.b true)),none⟩]) (.Av [oM 43 4,oF 44 3 8,oL 45 44,oI 46 1 43 45,⟨none,.store 1 (.t 46) (.c (.b true)),none⟩]))))))))) (.Av [Aa 69 .add 34 1,oM 34 69]))))))) (.seq [1,4,5] (sr [1,4,5,71,72,73] [Au 70 6 1,oC 71 264 70,oE 72 71,BD 73 0] (.block 3 (.loop [1,4,5,71,72,73] (sr [1,4,5,71,72,73,74] [oG 74 .lss 73 72] (.seq [1,4,5,71,72,73] (.cond (.t 74) .skip (.exit 3)) (.seq [1,4,5,71,72,73] (.block 4 (sr [1,4,5,11,71,72,73] [oI 75 1 71 73,oL 76 75,oM 11 76] (sr [1,4,5,11,12,71,72,73] [Au 77 6 1,oM 78 11,Bo 79 265 77 78,oo 12 (.alloc [(.l [] true),(.l [] true),(.l [] true),(.i .i64 0),(.l [] true),(.b false)]),oS 6 12 79] (.seq [1,4,5,11,13,14,71,72,73] (.BX [1,4,5,11,13,14,71,72,73] [dO 0 (Au 80 6 12),dO 2 (Au 82 6 12),⟨1,oC 81 266 80,[2],[Au 82 6 12]⟩,dO 3 (oC 83 185 82),dO 4 (oM 13 81),dO 5 (oM 14 83)]) (.seq [1,4,5,11,13,14,71,72,73] (sr [1,4,5,11,13,14,71,72,73,89] [oM 84 13,oN 85 84,oM 86 85,A3 87 14 86,Lg 88 87 86,oP 89 86 88] (.cond (.t 89) (sr [2,3] [CP 2,Ay 3 false] .ret) .skip)) (.seq [1,4,5,11,14,71,72,73] (sr [1,4,5,11,14,71,72,73,91] [oM 90 13,oN 91 90] (.cond (.t 91) (.Av [oM 92 4,oF 93 0 1,oF 94 1 93,oL 95 94,oM 96 11,oI 97 1 95 96,oL 98 97,oI 99 1 92 98,⟨none,.store 1 (.t 99) (.c (.b true)),none⟩]) .skip)) (sr [1,4,5,11,71,72,73,101] [oM 100 14,oN 101 100] (.cond (.t 101) (.Av [oM 102 5,oF 103 0 1,oF 104 1 103,oL 105 104,oM 106 11,oI 107 1 105 106,oL 108 107,oI 109 1 102 108,⟨none,.store 1 (.t 109) (.c (.b true)),none⟩]) .skip)))))))) (.Av [Aa 110 .add 73 1,oM 73 110]))))))) (sr [1,4,5] [oM 111 4,oo 112 (.Bg 1 none (.t 111) (.c (.i .i64 0))),⟨none,.store 1 (.t 112) (.c (.b false)),none⟩] (.seq [1,4,5] (sr [1,4,5,115] [oM 113 5,oo 114 (.Bg 1 none (.t 113) (.c (.i .i64 0))),oL 115 114] (.cond (.t 115) (sr [2,3] [CP 2,Ay 3 false] .ret) .skip)) (.seq [4,5] (sr [1,4,5,15] [oM 116 4,oE 117 116,Aa 118 .sub 117 1,oM 15 118] (.block 5 (.loop [1,4,5,15] (.seq [1,4,5,15] (sr [1,4,5,15,120] [oM 119 15,Aa 120 .geq 119 3] (.cond (.t 120) .skip (.exit 5))) (.seq [1,4,5,15] (.block 6 (sr [1,4,5,15,126] [oM 123 4,oM 124 15,oI 125 1 123 124,oL 126 125] (.cond (.t 126) (sr [1,4,5,15,133,134,135] [oF 127 0 1,oF 128 0 127,oL 129 128,oM 130 15,Aa 131 .sub 130 3,oI 132 1 129 131,oL 133 132,oE 134 133,BD 135 0] (.block 7 (.loop [1,4,5,15,133,134,135] (sr [1,4,5,15,133,134,135,136] [oG 136 .lss 135 134] (.seq [1,4,5,15,133,134,135] (.cond (.t 136) .skip (.exit 7)) (.seq [1,4,5,15,133,134,135] (.block 8 (sr [1,4,5,15,17,133,134,135] [oI 137 1 133 135,oL 138 137,oM 17 138] (.Av [oM 139 4,oM 140 17,oI 141 1 139 140,⟨none,.store 1 (.t 141) (.c (.b true)),none⟩]))) (.Av [Aa 142 .add 135 1,oM 135 142]))))))) .skip))) (.Av [oM 121 15,Aa 122 .sub 121 1,oM 15 122])))))) (.seq [4] (sr [4,5,144,145] [oM 143 4,oE 144 143,BD 145 0] (.block 9 (.loop [4,5,144,145] (sr [4,5,144,145,146] [oG 146 .lss 145 144] (.seq [4,5,144,145] (.cond (.t 146) .skip (.exit 9)) (.seq [4,5,144,145] (.block 10 (sr [4,5,18,144,145] [oM 147 145,oM 18 147] (sr [4,5,144,145,157] [oM 148 4,oM 149 18,oI 150 1 148 149,oL 151 150,oM 152 151,A3 153 5 152,A3 154 18 152,G8 155 1 153 154 152,Aw 156 155 152,oP 157 152 156] (.cond (.t 157) (sr [2,3] [CP 2,Ay 3 false] .ret) .skip)))) (.Av [Aa 158 .add 145 1,oM 145 158]))))))) (sr [2,3] [oM 159 4,oM 2 159,Ay 3 true] .ret))))))))))
theorem lJ:CT 236 160 sG [2,3]:=cT Tryz.func236 [1]
abbrev sF:AJ:=(sr [0,1] [Ay 4 false] (sr [4] [oM 5 0,oM 6 1,Bo 7 267 5 6,Aa 8 .geq 7 0,oM 4 8] .ret))
theorem lI:CT 237 9 sF [4]:=cT Tryz.func237
abbrev sE:AJ:=(sr [1,2] [Bb 2 0,Ay 3 false] (sr [3] [oL 4 1,Au 5 2 2,oo 6 (.CJ (.t 4) [(.t 5)]),oN 7 6,oM 3 7] .ret))
theorem lH:CT 238 8 sE [3]:=cT Tryz.func238 [2]
abbrev sD:AJ:=(sr [0,1] [BD 4 0] (.seq [] (sr [0,1,7,8] [oM 6 0,oE 7 6,BD 8 0] (.block 0 (.loop [0,1,7,8] (sr [0,1,7,8,9] [oG 9 .lss 8 7] (.seq [0,1,7,8] (.cond (.t 9) .skip (.exit 0)) (.seq [0,1,7,8] (.block 1 (sr [0,1,5,7,8] [oM 10 8,oM 5 10] (sr [0,1,5,7,8,16] [oM 11 1,oM 12 0,oM 13 5,oI 14 2 12 13,Au 15 2 14,oo 16 (.CJ (.t 11) [(.t 15)])] (.cond (.t 16) (sr [4] [oM 17 5,oM 4 17] .ret) .skip)))) (.Av [Aa 18 .add 8 1,oM 8 18]))))))) (sr [4] [BD 4 (-1)] .ret)))
theorem lG:CT 239 19 sD [4]:=cT Tryz.func239
abbrev sC:AJ:=(sr [0,1] [CP 4] (.seq [0,1] (sr [0,1,6] [oM 5 1,Aa 6 .lss 5 3] (.cond (.t 6) (sr [4] [CP 4] .ret) .skip)) (sr [4] [oM 7 0,oM 8 1,Aa 9 .sub 8 3,oI 10 1 7 9,oL 11 10,oM 4 11] .ret)))
theorem lF:CT 240 12 sC [4]:=cT Tryz.func240
abbrev sB:AJ:=(sr [0,1] [CP 4] (sr [0,1,5] [CP 5] (.seq [5] (sr [0,1,5,6] [BD 6 0] (.block 0 (.loop [0,1,5,6] (.seq [0,1,5,6] (sr [0,1,5,6,10] [oM 7 6,oM 8 0,oE 9 8,oG 10 .lss 7 9] (.cond (.t 10) .skip (.exit 0))) (.seq [0,1,5,6] (.block 1 (sr [0,1,5,6,18] [oM 13 0,oM 14 6,oI 15 1 13 14,oL 16 15,oM 17 1,oG 18 .neq 16 17] (.cond (.t 18) (.Av [oM 19 5,oM 20 0,oM 21 6,oI 22 1 20 21,oL 23 22,oo 24 (.AY 1 1 [(.i .i64 0)] [(0,(.t 23))]),oA 25 1 8 19 24,oM 5 25]) .skip))) (.Av [oM 11 6,Aa 12 .add 11 1,oM 6 12])))))) (sr [4] [oM 26 5,oM 4 26] .ret))))
theorem lE:CT 241 27 sB [4]:=cT Tryz.func241
abbrev sA:AJ:=(sr [0,1] [Ay 4 false] (.seq [] (sr [0,1,5] [BD 5 0] (.block 0 (.loop [0,1,5] (.seq [0,1,5] (sr [0,1,5,9] [oM 6 5,oM 7 0,oE 8 7,oG 9 .lss 6 8] (.cond (.t 9) .skip (.exit 0))) (.seq [0,1,5] (.block 1 (sr [0,1,5,26] [oM 12 0,oM 13 5,oI 14 1 12 13,oL 15 14,oE 16 15,Aa 17 .gtr 16 0,oM 18 17,A3 19 0 18,A3 20 5 18,G8 21 1 19 20 18,Aw 22 21 18,C3 23 (.slice 1 (.t 22) (some (.c (.i .i64 1))) none none) 18,A3 24 1 18,C3 25 (.call 154 [(.t 23),(.t 24)]) 18,oP 26 18 25] (.cond (.t 26) (sr [4] [Ay 4 false] .ret) .skip))) (.Av [oM 10 5,Aa 11 .add 10 1,oM 5 11])))))) (sr [4] [Ay 4 true] .ret)))
theorem lD:CT 242 27 sA [4]:=cT Tryz.func242
abbrev r9:AJ:=(sr [0] [Ay 2 false] (.seq [0] (sr [0,9] [oM 7 0,oE 8 7,Aa 9 .gtr 8 16] (.cond (.t 9) (sr [2] [Ay 2 false] .ret) .skip)) (.seq [] (sr [10,11,12] [oM 10 0,oE 11 10,BD 12 0] (.block 0 (.loop [10,11,12] (sr [10,11,12,13] [oG 13 .lss 12 11] (.seq [10,11,12] (.cond (.t 13) .skip (.exit 0)) (.seq [10,11,12] (.block 1 (sr [3,4,10,11,12] [oM 14 12,oI 15 1 10 12,oL 16 15,oM 3 14,oM 4 16] (.seq [3,4,10,11,12] (sr [3,4,10,11,12,19] [oM 17 4,oE 18 17,Aa 19 .gtr 18 3] (.cond (.t 19) (sr [2] [Ay 2 false] .ret) .skip)) (sr [3,4,10,11,12,20,21,22] [oM 20 4,oE 21 20,BD 22 0] (.block 2 (.loop [3,4,10,11,12,20,21,22] (sr [3,4,10,11,12,20,21,22,23] [oG 23 .lss 22 21] (.seq [3,4,10,11,12,20,21,22] (.cond (.t 23) .skip (.exit 2)) (.seq [3,4,10,11,12,20,21,22] (.block 3 (sr [3,4,5,6,10,11,12,20,21,22] [oM 24 22,oI 25 1 20 22,oL 26 25,oM 5 24,oM 6 26] (sr [3,4,10,11,12,20,21,22,41] [oM 27 6,Aa 28 .lss 27 3,oM 29 28,BR 30 6 29,BR 31 3 29,FY 32 (.bin .add (.c (.i .i64 3)) (.t 31)) 29,Gv 33 .geq 30 32 29,oQ 34 29 33,oM 35 34,BR 36 4 35,BR 37 5 35,FY 38 (.slice 1 (.t 36) none (some (.t 37)) none) 35,BR 39 6 35,FY 40 (.call 172 [(.t 38),(.t 39)]) 35,oQ 41 35 40] (.cond (.t 41) (sr [2] [Ay 2 false] .ret) .skip)))) (.Av [Aa 42 .add 22 1,oM 22 42])))))))))) (.Av [Aa 43 .add 12 1,oM 12 43]))))))) (sr [2] [Ay 2 true] .ret))))
theorem lC:CT 249 44 r9 [2]:=cT Tryz.func249
abbrev r8:AJ:=(sr [0,1] [oo 4 (.mv (.c .pn)),Ay 5 false] (.seq [0,1] (sr [0,1,17] [oM 15 0,oC 16 249 15,oN 17 16] (.cond (.t 17) (sr [4,5] [oo 4 (.mv (.c .pn)),Ay 5 false] .ret) .skip)) (.seq [0] (sr [0,18,19,20] [oM 18 1,oE 19 18,BD 20 0] (.block 0 (.loop [0,18,19,20] (sr [0,18,19,20,21] [oG 21 .lss 20 19] (.seq [0,18,19,20] (.cond (.t 21) .skip (.exit 0)) (.seq [0,18,19,20] (.block 1 (sr [0,7,18,19,20] [oI 22 1 18 20,oL 23 22,oM 7 23] (sr [0,18,19,20,32] [oM 24 7,Aa 25 .lss 24 0,oM 26 25,BR 27 7 26,BR 28 0 26,GX 29 28 26,FY 30 (.bin .add (.c (.i .i64 3)) (.t 29)) 26,Gv 31 .geq 27 30 26,oQ 32 26 31] (.cond (.t 32) (sr [4,5] [oo 4 (.mv (.c .pn)),Ay 5 false] .ret) .skip)))) (.Av [Aa 33 .add 20 1,oM 20 33]))))))) (sr [0,8] [oM 34 0,oE 35 34,oo 36 (.bin .add (.c (.i .i64 3)) (.t 35)),oo 37 (.D6 1 24 [(.l [] true)] (.c (.i .i64 3)) (.t 36)),oo 38 (.Iq),oo 39 (.build [(.l [] true),(.l [] true),.mn] [(0,1,(.t 37)),(2,1,(.t 38))]),oB 40 39,oM 8 40] (sr [8] [oM 41 8,oM 42 8,oK 43 42,oF 44 0 43,oL 45 44,oM 46 0,oA 47 1 24 45 46,oK 48 41,oF 49 0 48,oS 1 49 47] (.seq [8] (sr [8,53,54,55] [oM 50 8,oK 51 50,oF 52 0 51,oL 53 52,oE 54 53,BD 55 0] (.block 2 (.loop [8,53,54,55] (sr [8,53,54,55,56] [oG 56 .lss 55 54] (.seq [8,53,54,55] (.cond (.t 56) .skip (.exit 2)) (.seq [8,53,54,55] (.block 3 (sr [8,9,10,53,54,55] [oM 57 55,oI 58 1 53 55,oL 59 58,oM 9 57,oM 10 59] (sr [8,10,11,53,54,55] [oo 60 (.build [(.i .u64 0)] []),oM 61 9,Bo 62 269 60 61,oo 63 (.call 269 [(.t 62),(.c (.i .i64 0))]),oo 11 (.alloc [(.i .u64 0)]),oS 1 11 63] (.seq [8,11,53,54,55] (sr [8,11,53,54,55,64,65,66] [oM 64 10,oE 65 64,BD 66 0] (.block 4 (.loop [8,11,53,54,55,64,65,66] (sr [8,11,53,54,55,64,65,66,67] [oG 67 .lss 66 65] (.seq [8,11,53,54,55,64,65,66] (.cond (.t 67) .skip (.exit 4)) (.seq [8,11,53,54,55,64,65,66] (.block 5 (sr [8,11,13,53,54,55,64,65,66] [oI 68 1 64 66,oL 69 68,oM 13 69] (.BX [8,11,53,54,55,64,65,66] [dO 0 (Au 70 1 11),dO 1 (oM 71 8),dO 2 (oK 72 71),dO 3 (oF 73 1 72),dO 4 (oL 74 73),dO 5 (oM 75 13),dO 6 (oI 76 1 74 75),dO 7 (Au 77 1 76),dO 8 (Bo 78 270 70 77),dO 9 (oS 1 11 78)]))) (.Av [Aa 79 .add 66 1,oM 66 79]))))))) (.BX [8,53,54,55] [dO 0 (oM 80 8),dO 1 (oM 81 8),dO 2 (oK 82 81),dO 3 (oF 83 1 82),dO 4 (oL 84 83),dO 5 (Au 85 1 11),dO 6 (oo 86 (.AY 1 1 [(.i .u64 0)] [(0,(.t 85))])),dO 7 (oA 87 1 8 84 86),dO 8 (oK 88 80),dO 9 (oF 89 1 88),dO 10 (oS 1 89 87)]))))) (.Av [Aa 90 .add 55 1,oM 55 90]))))))) (.seq [8] (sr [8,95,96] [oM 91 8,oK 92 91,oF 93 0 92,oL 94 93,oE 95 94,BD 96 0] (.block 6 (.loop [8,95,96] (sr [8,95,96,97] [oG 97 .lss 96 95] (.seq [8,95,96] (.cond (.t 97) .skip (.exit 6)) (.seq [8,95,96] (.block 7 (sr [8,14,95,96] [oM 98 96,oM 14 98] (.Av [oM 99 8,oM 100 14,Bo 101 271 99 100]))) (.Av [Aa 102 .add 96 1,oM 96 102]))))))) (sr [4,5] [oM 103 8,oM 4 103,Ay 5 true] .ret))))))))
theorem lB:CT 250 104 r8 [4,5]:=cT Tryz.func250
abbrev r5:AJ:=(sr [0,1] [oo 4 (.mv (.c (.i .u64 0))),oo 5 (.mv (.c (.i .u64 0)))] (sr [0,1,6] [oM 14 0,oo 15 (.bin .and (.t 14) (.c (.i .u64 4294967295))),oM 6 15] (sr [0,1,6,7] [oM 16 0,oo 17 (.bin .shr (.t 16) (.c (.i .u64 32))),oM 7 17] (sr [0,1,6,7,8] [oM 18 1,oo 19 (.bin .and (.t 18) (.c (.i .u64 4294967295))),oM 8 19] (sr [0,1,6,7,8,9] [oM 20 1,oo 21 (.bin .shr (.t 20) (.c (.i .u64 32))),oM 9 21] (sr [0,1,6,7,8,9,10] [oM 22 6,oM 23 8,oG 24 .mul 22 23,oM 10 24] (sr [0,1,6,7,9,11] [oM 25 7,oM 26 8,oG 27 .mul 25 26,oM 28 10,oo 29 (.bin .shr (.t 28) (.c (.i .u64 32))),oG 30 .add 27 29,oM 11 30] (sr [0,1,6,7,9,11,12] [oM 31 11,oo 32 (.bin .and (.t 31) (.c (.i .u64 4294967295))),oM 12 32] (sr [0,1,6,7,9,12,13] [oM 33 11,oo 34 (.bin .shr (.t 33) (.c (.i .u64 32))),oM 13 34] (sr [0,1,7,9,12,13] [oM 35 12,oM 36 6,oM 37 9,oG 38 .mul 36 37,oG 39 .add 35 38,oM 12 39] (sr [0,1,4] [oM 40 7,oM 41 9,oG 42 .mul 40 41,oM 43 13,oG 44 .add 42 43,oM 45 12,oo 46 (.bin .shr (.t 45) (.c (.i .u64 32))),oG 47 .add 44 46,oM 4 47] (sr [4,5] [oM 48 0,oM 49 1,oG 50 .mul 48 49,oM 5 50] .ret))))))))))))
theorem lA:CT 252 51 r5 [4,5]:=cT Tryz.func252
abbrev rz:AJ:=(sr [0,1] [BD 4 0] (.seq [] (sr [0,1,7,8] [oM 6 0,oE 7 6,BD 8 0] (.block 0 (.loop [0,1,7,8] (sr [0,1,7,8,9] [oG 9 .lss 8 7] (.seq [0,1,7,8] (.cond (.t 9) .skip (.exit 0)) (.seq [0,1,7,8] (.block 1 (sr [0,1,5,7,8] [oM 10 8,oM 5 10] (sr [0,1,5,7,8,16] [oM 11 1,oM 12 0,oM 13 5,oI 14 6 12 13,Au 15 6 14,oo 16 (.CJ (.t 11) [(.t 15)])] (.cond (.t 16) (sr [4] [oM 17 5,oM 4 17] .ret) .skip)))) (.Av [Aa 18 .add 8 1,oM 8 18]))))))) (sr [4] [BD 4 (-1)] .ret)))
theorem k9:CT 253 19 rz [4]:=cT Tryz.func253
abbrev ry:AJ:=(sr [0,1] [Ay 4 false] (sr [4] [oM 5 1,Aa 6 .geq 5 0,oM 7 6,A3 8 1 7,A3 9 0 7,C3 10 (.Fb (.t 9)) 7,BU 11 0 10 7,BU 12 1 11 7,Aw 13 12 7,G9 14 13 7,Dp 15 .lss 8 14 7,oP 16 7 15,oM 4 16] .ret))
theorem k8:CT 254 17 ry [4]:=cT Tryz.func254
abbrev ru:AJ:=(sr [0] [CP 2] (.seq [0] (sr [0,4] [oM 3 0,oo 4 (.ZE 1 false (.t 3))] (.cond (.t 4) (sr [2] [CP 2] .ret) .skip)) (sr [2] [oo 5 (.AY 1 0 [] []),oM 6 0,oA 7 7 88 5 6,oM 2 7] .ret)))
theorem k7:CT 255 8 ru [2]:=cT Tryz.func255
abbrev rn:AJ:=(sr [0,1] [Ay 4 false] (sr [4] [oM 5 0,oM 6 1,Bo 7 272 5 6,Aa 8 .geq 7 0,oM 4 8] .ret))
theorem kz:CT 256 9 rn [4]:=cT Tryz.func256
abbrev rm:AJ:=(sr [1,2] [Bb 2 0,Ay 3 false] (sr [3] [oF 4 6 1,oL 5 4,oF 6 6 2,oL 7 6,oo 8 (.UY false (.t 5) (.t 7)),oM 9 8,BU 10 0 1 9,Jp 11 6 10 9,BU 12 0 2 9,Jp 13 6 12 9,C3 14 (.call 258 [(.t 11),(.t 13)]) 9,oP 15 9 14,oM 3 15] .ret))
theorem ky:CT 257 16 rm [3]:=cT Tryz.func257 [2]
abbrev rl:AJ:=(sr [2,3] [Bb 2 0,Bb 3 1,Ay 4 false] (.seq [4] (.Av (oF 5 0 2::oL 6 5::oF 7 0 3::oL 8 7::oG 9 .eql 6 8::oM 10 9::BU 11 1 2 10::Aw 12 11 10::BU 13 1 3 10::Aw 14 13 10::Dp 15 .eql 12 14 10::oP 16 10 15::oM 17 16::BU 18 3 2 17::Aw 19 18 17::BU 20 3 3 17::Aw 21 20 17::Dp 22 .eql 19 21 17::oP 23 17 22::oM 24 23::BU 25 4 2 24::Aw 26 25 24::BU 27 4 3 24::Aw 28 27 24::Dp 29 .eql 26 28 24::oP 30 24 29::oM 31 30::BU 32 2 2 31::Aw 33 32 31::BU 34 2 3 31::Aw 35 34 31::C3 36 (.call 273 [(.t 33),(.t 35)]) 31::oP 37 31 36::oM 38 37::BU 39 5 2 38::Aw 40 39 38::BU 41 5 3 38::Aw 42 41 38::C3 43 (.call 274 [(.t 40),(.t 42),(.c (.f (.func 258) [] []))]) 38::oP 44 38 43::oM 4 44:: [])) .ret))
theorem kx:CT 258 45 rl [4]:=cT Tryz.func258 [2,3]
abbrev rj:AJ:=(sr [0,3] [Bb 3 1] (sr [0,3,4] [oF 8 0 3,oF 9 1 8,oL 10 9,oo 11 (.build [(.i .i64 0),(.i .i64 0),(.i .i64 0),(.i .i64 0)] [(0,1,(.t 10))]),oo 4 (.alloc [(.i .i64 0),(.i .i64 0),(.i .i64 0),(.i .i64 0)]),oS 4 4 11] (sr [0,3,4,5] [oM 12 0,Au 13 4 4,Bo 14 275 12 13,oM 5 14] (sr [0,3,4,5] [oM 15 5,oM 16 5,oK 17 16,oF 18 6 17,oL 19 18,oM 20 19,Bf 21 6 3 20,BN 22 21 20,IZ 23 22 20,oQ 24 20 23,oK 25 15,oF 26 6 25,oS 1 26 24] (.seq [3,5] (sr [0,3,4,5,29,30,31] [oF 27 0 3,oF 28 2 27,oL 29 28,oE 30 29,BD 31 0] (.block 0 (.loop [0,3,4,5,29,30,31] (sr [0,3,4,5,29,30,31,32] [oG 32 .lss 31 30] (.seq [0,3,4,5,29,30,31] (.cond (.t 32) .skip (.exit 0)) (.seq [0,3,4,5,29,30,31] (.block 1 (sr [0,3,4,5,7,29,30,31] [oI 33 1 29 31,oL 34 33,oM 7 34] (.seq [0,3,4,7,29,30,31] (sr [0,3,4,5,7,29,30,31,41] [oM 35 5,oK 36 35,oF 37 7 36,oL 38 37,oM 39 7,Bo 40 172 38 39,oN 41 40] (.cond (.t 41) (sr [0,3,4,5,7,29,30,31] [oM 42 5,oM 43 5,oK 44 43,oF 45 7 44,oL 46 45,oM 47 7,oo 48 (.AY 1 1 [(.i .i64 0)] [(0,(.t 47))]),oA 49 1 8 46 48,oK 50 42,oF 51 7 50,oS 1 51 49] (.Av [oM 52 5,oK 53 52,oF 54 7 53,oL 55 54,oC 56 135 55])) .skip)) (sr [0,3,4,29,30,31] [Au 57 4 4,oM 58 7,Bo 59 276 57 58,oS 4 4 59] (sr [0,3,4,5,29,30,31] [oM 60 0,Au 61 4 4,Bo 62 275 60 61,oM 5 62] (.Av [oM 63 5,oM 64 5,oK 65 64,oF 66 6 65,oL 67 66,oM 68 67,Bf 69 6 3 68,BN 70 69 68,IZ 71 70 68,oQ 72 68 71,oK 73 63,oF 74 6 73,oS 1 74 72])))))) (.Av [Aa 75 .add 31 1,oM 31 75]))))))) (.Av [oM 76 5,Au 77 7 3,Bo 78 277 76 77]))))))
theorem ku:CT 259 79 rj []:=cT Tryz.func259 [3]
abbrev ri:AJ:=(sr [0,3] [Bb 3 1,Ay 4 false] (.seq [0,3] (sr [0,3,6] [oM 10 0,Au 11 4 3,Bo 12 278 10 11,oM 9 12,oX 13 0 9,oX 14 1 9,oM 5 13,oM 6 14] (sr [0,3,20] [oM 15 6,oM 16 15,BR 17 0 16,Ik 18 4 3 16,FY 19 (.call 279 [(.t 17),(.t 18)]) 16,oQ 20 16 19] (.cond (.t 20) (sr [4] [Ay 4 true] .ret) .skip))) (sr [8] [oM 22 0,Au 23 4 3,Bo 24 280 22 23,oM 21 24,oX 25 0 21,oX 26 1 21,oM 7 25,oM 8 26] (sr [4] [oM 27 8,oM 4 27] .ret))))
theorem Z9:CT 260 28 ri [4]:=cT Tryz.func260 [3]
abbrev rh:AJ:=(sr [1] [Bb 1 0,CP 2] (sr [1,3] [CP 3] (.seq [3] (sr [1,3,9,10,11] [oF 8 2 1,oL 9 8,oE 10 9,BD 11 0] (.block 0 (.loop [1,3,9,10,11] (sr [1,3,9,10,11,12] [oG 12 .lss 11 10] (.seq [1,3,9,10,11] (.cond (.t 12) .skip (.exit 0)) (.seq [1,3,9,10,11] (.block 1 (sr [1,3,5,9,10,11] [oI 13 6 9 11,Au 14 6 13,oo 5 (.alloc [(.i .i64 0),(.i .i64 0),(.l [] true),(.i .i64 0),(.i .i64 0),(.l [] true)]),oS 6 5 14] (sr [1,3,5,6,9,10,11] [Au 16 6 5,oC 17 262 16,oM 15 17,oX 18 0 15,oX 19 1 15,oo 6 (.alloc [(.i .i64 0),(.i .i64 0),(.l [] true),(.i .i64 0),(.i .i64 0),(.l [] true)]),oS 6 6 18,oM 7 19] (sr [1,3,5,9,10,11,31] [oF 20 1 6,oL 21 20,oF 22 3 1,oL 23 22,oG 24 .eql 21 23,oM 25 24,BU 26 2 6 25,Aw 27 26 25,BU 28 4 1 25,Aw 29 28 25,C3 30 (.call 30 [(.t 27),(.t 29)]) 25,oP 31 25 30] (.cond (.t 31) (.Av [oM 32 3,Au 33 6 5,oo 34 (.AY 6 1 [(.i .i64 0),(.i .i64 0),(.l [] true),(.i .i64 0),(.i .i64 0),(.l [] true)] [(0,(.t 33))]),oA 35 6 80 32 34,oM 3 35]) .skip))))) (.Av [Aa 36 .add 11 1,oM 11 36]))))))) (sr [2] [oM 37 3,oM 2 37] .ret))))
theorem kr:CT 261 38 rh [2]:=cT Tryz.func261 [1]
abbrev rf:AJ:=(sr [1,2] [Bb 1 0,oo 2 (.alloc [(.i .i64 0),(.i .i64 0),(.l [] true),(.i .i64 0),(.i .i64 0),(.l [] true)]),Ay 3 false] (.seq [1,2] (sr [1,2,6] [oF 4 0 1,oL 5 4,Aa 6 .eql 5 5] (.cond (.t 6) (sr [2,3] [oF 7 5 1,oL 8 7,oo 9 (.Bg 6 none (.t 8) (.c (.i .i64 0))),Au 10 6 9,oS 6 2 10,Ay 3 true] .ret) .skip)) (sr [2,3] [Au 11 6 1,oS 6 2 11,Ay 3 false] .ret)))
theorem kq:CU 262 12 rf [.c 2 (some 6),.t 3]:=cU Tryz.func262 [1]
abbrev rZ:AJ:=(sr [1] [Bb 1 0,Ay 2 false] (.seq [] (sr [1,6,7,8] [Au 5 6 1,oC 6 264 5,oE 7 6,BD 8 0] (.block 0 (.loop [1,6,7,8] (sr [1,6,7,8,9] [oG 9 .lss 8 7] (.seq [1,6,7,8] (.cond (.t 9) .skip (.exit 0)) (.seq [1,6,7,8] (.block 1 (sr [1,4,6,7,8] [oI 10 1 6 8,oL 11 10,oM 4 11] (sr [1,6,7,8,16] [Au 12 6 1,oM 13 4,Bo 14 265 12 13,oC 15 266 14,oN 16 15] (.cond (.t 16) (sr [2] [Ay 2 false] .ret) .skip)))) (.Av [Aa 17 .add 8 1,oM 8 17]))))))) (sr [2] [Ay 2 true] .ret)))
theorem ko:CT 263 18 rZ [2]:=cT Tryz.func263 [1]
abbrev rY:AJ:=(sr [1] [Bb 1 0,CP 2] (sr [1,3] [CP 3] (.seq [3] (sr [1,3,13,14] [oF 10 0 1,oF 11 1 10,oL 12 11,oE 13 12,BD 14 0] (.block 0 (.loop [1,3,13,14] (sr [1,3,13,14,15] [oG 15 .lss 14 13] (.seq [1,3,13,14] (.cond (.t 15) .skip (.exit 0)) (.seq [1,3,13,14] (.block 1 (sr [1,3,4,13,14] [oM 16 14,oM 4 16] (sr [1,3,4,5,13,14] [Ay 5 false] (.seq [1,3,4,5,13,14] (sr [1,3,4,5,13,14,18,19,20] [oF 17 2 1,oL 18 17,oE 19 18,BD 20 0] (.block 2 (.loop [1,3,4,5,13,14,18,19,20] (sr [1,3,4,5,13,14,18,19,20,21] [oG 21 .lss 20 19] (.seq [1,3,4,5,13,14,18,19,20] (.cond (.t 21) .skip (.exit 2)) (.seq [1,3,4,5,13,14,18,19,20] (.block 3 (sr [1,3,4,5,7,13,14,18,19,20] [oI 22 6 18 20,Au 23 6 22,oo 7 (.alloc [(.i .i64 0),(.i .i64 0),(.l [] true),(.i .i64 0),(.i .i64 0),(.l [] true)]),oS 6 7 23] (sr [1,3,4,5,8,13,14,18,19,20] [Au 25 6 7,oC 26 262 25,oM 24 26,oX 27 0 24,oX 28 1 24,oo 8 (.alloc [(.i .i64 0),(.i .i64 0),(.l [] true),(.i .i64 0),(.i .i64 0),(.l [] true)]),oS 6 8 27,oM 9 28] (.BX [1,3,4,5,13,14,18,19,20] [dO 0 (oM 29 5),dO 1 (oM 30 29),dO 2 (Bf 31 1 8 30),dO 3 (BN 32 31 30),dO 4 (Bf 33 3 1 30),dO 5 (BN 34 33 30),dO 6 (Gv 35 .eql 32 34 30),dO 7 (BR 36 35 30),dO 8 (BU 37 2 8 36),dO 9 (Aw 38 37 36),dO 10 (Jp 39 6 1 36),dO 11 (A3 40 4 36),⟨12,C3 41 (.call 265 [(.t 39),(.t 40)]) 36,[9],[Aw 38 37 36]⟩,dO 13 (C3 42 (.field none 4 (.t 41)) 36),dO 14 (C3 43 (.call 281 [(.t 38),(.t 42)]) 36),dO 15 (FY 44 (.pick (.t 36) (.t 43) (.c (.b false))) 30),dO 16 (oQ 45 30 44),dO 17 (oM 5 45)])))) (.Av [Aa 46 .add 20 1,oM 20 46]))))))) (sr [1,3,4,13,14,47] [oM 47 5] (.cond (.t 47) (.Av [oM 48 3,oM 49 4,oo 50 (.AY 1 1 [(.i .i64 0)] [(0,(.t 49))]),oA 51 1 8 48 50,oM 3 51]) .skip)))))) (.Av [Aa 52 .add 14 1,oM 14 52]))))))) (sr [2] [oM 53 3,oM 2 53] .ret))))
theorem kk:CT 264 54 rY [2]:=cT Tryz.func264 [1]
abbrev rX:AJ:=(sr [1,2,4] [Bb 2 0,oo 4 (.alloc [(.l [] true),(.l [] true),(.l [] true),(.i .i64 0),(.l [] true),(.b false)])] (.seq [4] (.BX [4] [dO 0 (oF 5 0 2),dO 1 (Au 6 2 5),dO 2 (oF 7 2 2),dO 3 (oL 8 7),dO 4 (oF 9 3 2),dO 5 (oL 10 9),dO 6 (oF 11 4 2),dO 7 (oL 12 11),dO 9 (oM 14 1),dO 10 (oo 15 (.AY 1 1 [(.i .i64 0)] [(0,(.t 14))])),dO 12 (oF 17 5 2),dO 13 (oL 18 17),dO 8 (oo 13 (.append 1 8 (.c (.l [] true)) (.t 12))),⟨11,oA 16 1 8 13 15,[13,5,3,1],[oL 18 17,oL 10 9,oL 8 7,Au 6 2 5]⟩,dO 14 (oo 19 (.build [(.l [] true),(.l [] true),(.l [] true),(.i .i64 0),(.l [] true),(.b false)] [(0,2,(.t 6)),(2,1,(.t 8)),(3,1,(.t 10)),(4,1,(.t 16)),(5,1,(.t 18))])),dO 15 (oS 6 4 19)]) .ret))
theorem kg:CU 265 20 rX [.c 4 (some 6)]:=cU Tryz.func265 [2]
abbrev rW:AJ:=(sr [1] [Bb 1 0,Ay 2 false] (.seq [] (sr [1,8,9,10] [oF 7 2 1,oL 8 7,oE 9 8,BD 10 0] (.block 0 (.loop [1,8,9,10] (sr [1,8,9,10,11] [oG 11 .lss 10 9] (.seq [1,8,9,10] (.cond (.t 11) .skip (.exit 0)) (.seq [1,8,9,10] (.block 1 (sr [1,4,8,9,10] [oI 12 6 8 10,Au 13 6 12,oo 4 (.alloc [(.i .i64 0),(.i .i64 0),(.l [] true),(.i .i64 0),(.i .i64 0),(.l [] true)]),oS 6 4 13] (sr [1,5,6,8,9,10] [Au 15 6 4,oC 16 262 15,oM 14 16,oX 17 0 14,oX 18 1 14,oo 5 (.alloc [(.i .i64 0),(.i .i64 0),(.l [] true),(.i .i64 0),(.i .i64 0),(.l [] true)]),oS 6 5 17,oM 6 18] (sr [1,8,9,10,34] [oM 19 6,oN 20 19,oM 21 20,BU 22 1 5 21,Aw 23 22 21,BU 24 3 1 21,Aw 25 24 21,Dp 26 .eql 23 25 21,oP 27 21 26,oM 28 27,BU 29 2 5 28,Aw 30 29 28,BU 31 4 1 28,Aw 32 31 28,C3 33 (.call 281 [(.t 30),(.t 32)]) 28,oP 34 28 33] (.cond (.t 34) (sr [2] [Ay 2 false] .ret) .skip))))) (.Av [Aa 35 .add 10 1,oM 10 35]))))))) (sr [2] [Ay 2 true] .ret)))
theorem ke:CT 266 36 rW [2]:=cT Tryz.func266 [1]
abbrev rV:AJ:=(sr [0,1] [BD 4 0] (.seq [] (sr [0,1,7,8] [oM 6 0,oE 7 6,BD 8 0] (.block 0 (.loop [0,1,7,8] (sr [0,1,7,8,9] [oG 9 .lss 8 7] (.seq [0,1,7,8] (.cond (.t 9) .skip (.exit 0)) (.seq [0,1,7,8] (.block 1 (sr [0,1,5,7,8] [oM 10 8,oM 5 10] (sr [0,1,5,7,8,16] [oM 11 1,oM 12 0,oM 13 5,oI 14 2 12 13,Au 15 2 14,oo 16 (.CJ (.t 11) [(.t 15)])] (.cond (.t 16) (sr [4] [oM 17 5,oM 4 17] .ret) .skip)))) (.Av [Aa 18 .add 8 1,oM 8 18]))))))) (sr [4] [BD 4 (-1)] .ret)))
theorem kZ:CT 267 19 rV [4]:=cT Tryz.func267
abbrev rU:AJ:=(sr [1,2,4] [oB 2 0,oo 4 (.alloc [(.i .u64 0)])] (.seq [2,4] (.BX [2,4] [dO 0 (oo 5 (.Bg 1 (some 1) (.t 2) (.c (.i .i64 0)))),dO 1 (oL 6 5),dO 2 (oM 7 1),dO 3 (oo 8 (.bin .shl (.c (.i .u64 1)) (.t 7))),dO 4 (oG 9 .or 6 8),dO 5 (oo 10 (.Bg 1 (some 1) (.t 2) (.c (.i .i64 0)))),dO 6 (oS 1 10 9)]) (sr [4] [Au 11 1 2,oS 1 4 11] .ret)))
theorem kY:CU 269 12 rU [.c 4 (some 1)]:=cU Tryz.func269
abbrev rT:AJ:=(sr [2,3,4] [oB 2 0,Bb 3 1,oo 4 (.alloc [(.i .u64 0)])] (sr [2,4] [oo 5 (.Bg 1 (some 1) (.t 2) (.c (.i .i64 0))),oL 6 5,oo 7 (.Bg 1 (some 1) (.t 3) (.c (.i .i64 0))),oL 8 7,oG 9 .or 6 8,oo 10 (.Bg 1 (some 1) (.t 2) (.c (.i .i64 0))),oS 1 10 9] (sr [4] [Au 11 1 2,oS 1 4 11] .ret)))
theorem kX:CU 270 12 rT [.c 4 (some 1)]:=cU Tryz.func270 [3]
abbrev rS:AJ:=(.seq [0,1] (sr [0,1,9] [oM 8 1,Aa 9 .eql 8 0] (.cond (.t 9) (sr [] [oM 10 0,oK 11 10,oF 12 2 11,oL 13 12,oo 14 (.AY 1 1 [(.i .i64 0)] [(0,(.c (.i .i64 0)))]),⟨none,.EI (.i .i64) (.t 13) (.c (.i .i64 0)) (.t 14),none⟩] .ret) .skip)) (sr [0,1,4,5] [oM 16 0,oM 17 1,Bo 18 282 16 17,oM 15 18,oX 19 0 15,oX 20 1 15,oM 4 19,oM 5 20] (.seq [0,1,4] (sr [0,1,4,22] [oM 21 5,oN 22 21] (.cond (.t 22) .ret .skip)) (sr [0,1,6,7] [oM 24 4,oC 25 283 24,oM 23 25,oX 26 0 23,oX 27 1 23,oM 6 26,oM 7 27] (sr [0,1,6,28] [oM 28 7] (.cond (.t 28) (.BX [] [dO 0 (oM 29 0),dO 1 (oK 30 29),dO 2 (oF 31 2 30),dO 3 (oL 32 31),dO 4 (oM 33 1),dO 5 (oM 34 1),dO 6 (oo 35 (.AY 1 1 [(.i .i64 0)] [(0,(.t 34))])),dO 7 (oM 36 6),dO 9 (oo 38 (.AY 1 1 [(.i .i64 0)] [(0,(.c (.i .i64 0)))])),⟨8,oA 37 1 8 35 36,[3],[oL 32 31]⟩,⟨10,oA 39 1 8 37 38,[3],[oL 32 31]⟩,⟨11,⟨none,.EI (.i .i64) (.t 32) (.t 33) (.t 39),none⟩,[],[]⟩]) .skip))))))
theorem kW:CT 271 40 rS []:=cT Tryz.func271
abbrev rR:AJ:=(sr [0,1] [BD 4 0] (.seq [] (sr [0,1,7,8] [oM 6 0,oE 7 6,BD 8 0] (.block 0 (.loop [0,1,7,8] (sr [0,1,7,8,9] [oG 9 .lss 8 7] (.seq [0,1,7,8] (.cond (.t 9) .skip (.exit 0)) (.seq [0,1,7,8] (.block 1 (sr [0,1,5,7,8] [oM 10 8,oM 5 10] (sr [0,1,5,7,8,16] [oM 11 1,oM 12 0,oM 13 5,oI 14 7 12 13,Au 15 7 14,oo 16 (.CJ (.t 11) [(.t 15)])] (.cond (.t 16) (sr [4] [oM 17 5,oM 4 17] .ret) .skip)))) (.Av [Aa 18 .add 8 1,oM 8 18]))))))) (sr [4] [BD 4 (-1)] .ret)))
theorem kV:CT 272 19 rR [4]:=cT Tryz.func272
abbrev rQ:AJ:=(sr [0,1] [Ay 4 false] (.seq [0,1] (sr [0,1,10] [oM 6 0,oE 7 6,oM 8 1,oE 9 8,oG 10 .neq 7 9] (.cond (.t 10) (sr [4] [Ay 4 false] .ret) .skip)) (.seq [] (sr [0,1,12,13] [oM 11 0,oE 12 11,BD 13 0] (.block 0 (.loop [0,1,12,13] (sr [0,1,12,13,14] [oG 14 .lss 13 12] (.seq [0,1,12,13] (.cond (.t 14) .skip (.exit 0)) (.seq [0,1,12,13] (.block 1 (sr [0,1,5,12,13] [oM 15 13,oM 5 15] (.seq [0,1,12,13,24] (.BX [0,1,12,13,24] [dO 0 (oM 16 0),dO 1 (oM 17 5),dO 2 (oI 18 1 16 17),dO 3 (oL 19 18),dO 4 (oM 20 1),dO 5 (oM 21 5),dO 6 (oI 22 1 20 21),dO 7 (oL 23 22),dO 8 (oG 24 .neq 19 23)]) (.cond (.t 24) (sr [4] [Ay 4 false] .ret) .skip)))) (.Av [Aa 25 .add 13 1,oM 13 25]))))))) (sr [4] [Ay 4 true] .ret))))
theorem kU:CT 273 26 rQ [4]:=cT Tryz.func273
abbrev rP:AJ:=(sr [0,1,2] [Ay 6 false] (.seq [0,1,2] (sr [0,1,2,14] [oM 10 0,oE 11 10,oM 12 1,oE 13 12,oG 14 .neq 11 13] (.cond (.t 14) (sr [6] [Ay 6 false] .ret) .skip)) (.seq [] (sr [1,2,15,16,17] [oM 15 0,oE 16 15,BD 17 0] (.block 0 (.loop [1,2,15,16,17] (sr [1,2,15,16,17,18] [oG 18 .lss 17 16] (.seq [1,2,15,16,17] (.cond (.t 18) .skip (.exit 0)) (.seq [1,2,15,16,17] (.block 1 (sr [1,2,7,8,15,16,17] [oM 19 17,oI 20 6 15 17,Au 21 6 20,oo 8 (.alloc [(.i .i64 0),(.i .i64 0),(.l [] true),(.i .i64 0),(.i .i64 0),(.l [] true)]),oM 7 19,oS 6 8 21] (sr [1,2,8,9,15,16,17] [oM 22 1,oM 23 7,oI 24 6 22 23,Au 25 6 24,oo 9 (.alloc [(.i .i64 0),(.i .i64 0),(.l [] true),(.i .i64 0),(.i .i64 0),(.l [] true)]),oS 6 9 25] (sr [1,2,15,16,17,30] [oM 26 2,Au 27 6 8,Au 28 6 9,oo 29 (.CJ (.t 26) [(.t 27),(.t 28)]),oN 30 29] (.cond (.t 30) (sr [6] [Ay 6 false] .ret) .skip))))) (.Av [Aa 31 .add 17 1,oM 17 31]))))))) (sr [6] [Ay 6 true] .ret))))
theorem kT:CT 274 32 rP [6]:=cT Tryz.func274
abbrev rO:AJ:=(sr [1,2,4] [oB 2 0,oo 4 (.alloc [(.i .i64 0),(.i .i64 0),(.i .i64 0),(.i .i64 0)])] (sr [2,4] [oF 5 1 2,oL 6 5,oM 7 1,oF 8 2 2,oo 9 (.Bg 1 (some 2) (.t 8) (.t 6)),oS 1 9 7] (sr [2,4] [oF 10 1 2,oL 11 10,Aa 12 .add 11 1,oF 13 1 2,oS 1 13 12] (sr [4] [Au 14 4 2,oS 4 4 14] .ret))))
theorem kS:CU 276 15 rO [.c 4 (some 4)]:=cU Tryz.func276
abbrev rN:AJ:=(sr [0,3] [Bb 3 1] (.block 0 (sr [0,3,33] [oF 34 0 3,oF 35 0 34,oL 36 35,Aa 37 .eql 36 2,oM 38 37,BU 39 6 3 38,Aw 40 39 38,oP 41 38 40,oM 33 41] (.cond (.t 33) (.BX [] [dO 0 (oM 42 0),dO 1 (oM 43 0),dO 2 (oK 44 43),dO 3 (oF 45 4 44),dO 4 (oL 46 45),dO 5 (oF 47 0 3),dO 6 (oF 48 3 47),dO 7 (oL 49 48),dO 8 (Bo 50 176 46 49),dO 9 (oK 51 42),dO 10 (oF 52 4 51),dO 11 (oS 1 52 50)]) (sr [0,3,53] [oF 54 0 3,oF 55 0 54,oL 56 55,Aa 57 .eql 56 2,oM 53 57] (.cond (.t 53) (.BX [] [dO 0 (oM 58 0),dO 1 (oM 59 0),dO 2 (oK 60 59),dO 3 (oF 61 3 60),dO 4 (oL 62 61),dO 5 (oF 63 0 3),dO 6 (oF 64 3 63),dO 7 (oL 65 64),dO 8 (Bo 66 176 62 65),dO 9 (oK 67 58),dO 10 (oF 68 3 67),dO 11 (oS 1 68 66)]) (sr [0,3,69] [oF 70 0 3,oF 71 0 70,oL 72 71,Aa 73 .eql 72 3,oM 74 73,BU 75 6 3 74,Aw 76 75 74,oP 77 74 76,oM 69 77] (.cond (.t 69) (.BX [] [dO 0 (oM 78 0),dO 1 (oM 79 0),dO 2 (oK 80 79),dO 3 (oF 81 0 80),dO 4 (oF 82 0 81),dO 5 (oL 83 82),dO 6 (oF 84 0 3),dO 7 (oF 85 4 84),dO 8 (oL 86 85),dO 9 (oo 87 (.Li (.t 83) (.t 86))),dO 10 (oK 88 78),dO 11 (oF 89 0 88),dO 12 (oF 90 0 89),dO 13 (oS 1 90 87)]) (sr [0,3,91] [oF 92 0 3,oF 93 0 92,oL 94 93,Aa 95 .eql 94 3,oM 91 95] (.cond (.t 91) (.BX [] [dO 0 (oM 96 0),dO 1 (oM 97 0),dO 2 (oM 98 0),dO 3 (oK 99 98),dO 4 (oF 100 0 99),dO 5 (oF 101 1 100),dO 6 (oL 102 101),dO 7 (oF 103 0 3),dO 8 (oF 104 4 103),dO 9 (oL 105 104),dO 10 (Aa 106 .sub 105 1),dO 11 (oo 107 (.RC (.t 102) (.t 106))),dO 12 (oK 108 96),dO 13 (oF 109 0 108),dO 14 (oF 110 1 109),dO 15 (oS 1 110 107),dO 16 (oK 111 97),dO 17 (oF 112 5 111),⟨18,⟨none,.store 1 (.t 112) (.c (.b true)),none⟩,[],[]⟩]) (sr [0,3,113] [oF 114 6 3,oL 115 114,oM 113 115] (.cond (.t 113) (.BX [] [dO 0 (oM 116 0),dO 1 (oM 117 0),dO 2 (oK 118 117),dO 3 (oF 119 0 118),dO 4 (oF 120 2 119),dO 5 (oL 121 120),dO 6 (oF 122 0 3),dO 7 (oF 123 4 122),dO 8 (oL 124 123),dO 9 (oo 125 (.AY 1 1 [(.i .i64 0)] [(0,(.t 124))])),dO 10 (oA 126 1 8 121 125),dO 11 (oK 127 116),dO 12 (oF 128 0 127),dO 13 (oF 129 2 128),dO 14 (oS 1 129 126)]) (.BX [] (dO 0 (oM 4 0)::dO 1 (oM 5 0)::dO 2 (oM 6 0)::dO 3 (oM 7 0)::dO 4 (oK 8 7)::dO 5 (oF 9 0 8)::dO 6 (oF 10 0 9)::dO 7 (oL 11 10)::dO 8 (oF 12 0 3)::dO 9 (oF 13 4 12)::dO 10 (oL 14 13)::dO 11 (oo 15 (.Li (.t 11) (.t 14)))::dO 12 (oM 16 0)::dO 13 (oK 17 16)::dO 14 (oF 18 0 17)::dO 15 (oF 19 1 18)::dO 16 (oL 20 19)::dO 17 (oF 21 0 3)::dO 18 (oF 22 4 21)::dO 19 (oL 23 22)::dO 20 (oo 24 (.RC (.t 20) (.t 23)))::dO 21 (oK 25 4)::dO 22 (oF 26 0 25)::dO 23 (oF 27 0 26)::⟨24,oS 1 27 15,[19],[oL 23 22]⟩::dO 25 (oK 28 5)::dO 26 (oF 29 0 28)::dO 27 (oF 30 1 29)::dO 28 (oS 1 30 24)::dO 29 (oK 31 6)::dO 30 (oF 32 5 31)::⟨31,⟨none,.store 1 (.t 32) (.c (.b true)),none⟩,[],[]⟩:: []))))))))))))))
theorem kR:CT 277 130 rN []:=cT Tryz.func277 [3]
abbrev rM:AJ:=(sr [0,3] [Bb 3 1,BD 4 0,Ay 5 false] (sr [0,3,6] [oM 8 0,Au 9 4 3,Bo 10 275 8 9,oM 6 10] (sr [0,3,6,7] [oM 11 6,oK 12 11,oF 13 0 12,oF 14 0 13,oL 15 14,oM 7 15] (.seq [0,3,6,7] (.block 0 (.loop [0,3,6,7] (.seq [0,3,6,7] (sr [0,3,6,7,22] [oM 16 6,oK 17 16,oF 18 0 17,oF 19 2 18,oL 20 19,oM 21 7,Bo 22 172 20 21] (.cond (.t 22) .skip (.exit 0))) (.block 1 (.Av [oM 23 7,Aa 24 .add 23 1,oM 7 24]))))) (sr [4,5] [oM 25 7,oM 26 7,oM 27 6,oK 28 27,oF 29 0 28,oF 30 1 29,oL 31 30,oG 32 .leq 26 31,oM 33 32,A3 34 0 33,Jp 35 4 3 33,C3 36 (.call 284 [(.t 34),(.t 35),(.c (.i .i64 1))]) 33,oP 37 33 36,oM 4 25,oM 5 37] .ret)))))
theorem kQ:CT 278 38 rM [4,5]:=cT Tryz.func278 [3]
abbrev rL:AJ:=(sr [0,3] [Bb 3 1,Ay 4 false] (sr [4] [oM 5 0,Au 6 4 3,Bo 7 275 5 6,oK 8 7,oF 9 5 8,oL 10 9,oN 11 10,oM 12 11,A3 13 0 12,Jp 14 4 3 12,C3 15 (.call 284 [(.t 13),(.t 14),(.c (.i .i64 2))]) 12,oP 16 12 15,oM 4 16] .ret))
theorem kP:CT 279 17 rL [4]:=cT Tryz.func279 [3]
abbrev rK:AJ:=(sr [0,3] [Bb 3 1,oo 4 (.mv (.c (.i .u64 0))),Ay 5 false] (sr [0,3,6] [oM 15 0,Au 16 4 3,Bo 17 275 15 16,oM 6 17] (.seq [0,3,6,7,8] (.BX [0,3,6,7,8] [dO 0 (oM 18 6),dO 1 (oK 19 18),dO 2 (oF 20 3 19),dO 3 (oL 21 20),dO 4 (oM 22 6),dO 5 (oK 23 22),dO 6 (oF 24 4 23),dO 7 (oL 25 24),dO 8 (oM 7 21),dO 9 (oM 8 25)]) (.seq [0,3,6,7,8] (sr [0,3,6,7,8,41] [oM 26 6,oK 27 26,oF 28 5 27,oL 29 28,oM 30 29,BR 31 7 30,FY 32 (.call 152 [(.t 31),(.c (.i .i64 1))]) 30,oQ 33 30 32,oM 34 33,BR 35 7 34,FY 36 (.call 152 [(.t 35),(.c (.i .i64 2))]) 34,oQ 37 34 36,oM 38 37,BR 39 8 38,FY 40 (.call 152 [(.t 39),(.c (.i .i64 0))]) 38,oQ 41 38 40] (.cond (.t 41) (sr [4,5] [oo 4 (.mv (.c (.i .u64 0))),Ay 5 false] .ret) .skip)) (.seq [0,7,8] (sr [0,3,7,8,45,46,47] [oM 42 6,oK 43 42,oF 44 7 43,oL 45 44,oE 46 45,BD 47 0] (.block 0 (.loop [0,3,7,8,45,46,47] (sr [0,3,7,8,45,46,47,48] [oG 48 .lss 47 46] (.seq [0,3,7,8,45,46,47] (.cond (.t 48) .skip (.exit 0)) (.seq [0,3,7,8,45,46,47] (.block 1 (sr [0,3,7,8,10,45,46,47] [oI 49 1 45 47,oL 50 49,oM 10 50] (sr [0,3,7,8,10,11,45,46,47] [Au 51 4 3,oM 52 10,Bo 53 276 51 52,oo 11 (.alloc [(.i .i64 0),(.i .i64 0),(.i .i64 0),(.i .i64 0)]),oS 4 11 53] (.seq [0,3,7,8,10,12,13,45,46,47] (.BX [0,3,7,8,10,12,13,45,46,47] [dO 0 (oM 54 0),dO 1 (Au 55 4 11),dO 6 (oM 60 0),dO 7 (Au 61 4 11),⟨2,Bo 56 275 54 55,[7],[Au 61 4 11]⟩,dO 3 (oK 57 56),dO 4 (oF 58 6 57),dO 5 (oL 59 58),⟨8,Bo 62 260 60 61,[5],[oL 59 58]⟩,dO 9 (oM 12 59),dO 10 (oM 13 62)]) (.block 2 (sr [0,3,7,8,10,12,13,45,46,47,63] [oM 64 12,oM 65 64,A3 66 13 65,Lg 67 66 65,oP 68 65 67,oM 63 68] (.cond (.t 63) (sr [4,5] [oo 4 (.mv (.c (.i .u64 0))),Ay 5 false] .ret) (sr [0,3,7,8,10,13,45,46,47,69] [oM 70 12,oM 69 70] (.cond (.t 69) (.Av [oM 71 7,oM 72 0,oK 73 72,oF 74 0 73,oL 75 74,oK 76 75,oF 77 0 76,oF 78 1 77,oL 79 78,oM 80 10,oI 81 1 79 80,oL 82 81,Bo 83 176 71 82,oM 7 83]) (sr [0,3,7,8,10,45,46,47,84] [oM 85 13,oN 86 85,oM 84 86] (.cond (.t 84) (.Av [oM 87 8,oM 88 0,oK 89 88,oF 90 0 89,oL 91 90,oK 92 91,oF 93 0 92,oF 94 1 93,oL 95 94,oM 96 10,oI 97 1 95 96,oL 98 97,Bo 99 176 87 98,oM 8 99]) .skip))))))))))) (.Av [Aa 100 .add 47 1,oM 47 100]))))))) (.seq [7,8] (sr [0,7,8,14] [BD 14 3] (.block 3 (.loop [0,7,8,14] (.seq [0,7,8,14] (sr [0,7,8,14,112] [oM 101 14,oM 102 0,oK 103 102,oF 104 0 103,oL 105 104,oK 106 105,oF 107 0 106,oF 108 0 107,oL 109 108,oE 110 109,oo 111 (.bin .add (.c (.i .i64 3)) (.t 110)),oG 112 .lss 101 111] (.cond (.t 112) .skip (.exit 3))) (.seq [0,7,8,14] (.block 4 (sr [0,7,8,14,117] [oM 115 7,oM 116 14,Bo 117 152 115 116] (.cond (.t 117) (.Av [oM 118 7,oM 119 0,oK 120 119,oF 121 0 120,oL 122 121,oM 123 14,oK 124 122,oF 125 2 124,oo 126 (.Bg 1 (some 63) (.t 125) (.t 123)),oL 127 126,oG 128 .or 118 127,oM 7 128]) .skip))) (.Av [oM 113 14,Aa 114 .add 113 1,oM 14 114])))))) (sr [7,8] [oM 129 7,oo 130 (.bin .andNot (.t 129) (.c (.i .u64 1))),oM 7 130] (sr [4,5] [oM 131 7,oM 132 7,oM 133 8,oG 134 .and 132 133,oo 135 (.bin .eql (.t 134) (.c (.i .u64 0))),oM 4 131,oM 5 135] .ret))))))))
theorem kO:CT 280 136 rK [4,5]:=cT Tryz.func280 [3]
abbrev rJ:AJ:=(sr [0,1] [Ay 4 false] (sr [4] [oM 5 0,oE 6 5,oM 7 1,oE 8 7,oG 9 .geq 6 8,oM 10 9,A3 11 0 10,A3 12 1 10,G9 13 12 10,C3 14 (.slice 1 (.t 11) none (some (.t 13)) none) 10,A3 15 1 10,C3 16 (.call 30 [(.t 14),(.t 15)]) 10,oP 17 10 16,oM 4 17] .ret))
theorem kN:CT 281 18 rJ [4]:=cT Tryz.func281
abbrev rI:AJ:=(sr [0,1] [CP 4,Ay 5 false] (sr [0,1,6] [CP 6] (.seq [0,1,6] (sr [0,1,6,15,16,17] [oM 9 0,oK 10 9,oF 11 0 10,oL 12 11,oM 13 1,oI 14 1 12 13,oL 15 14,oE 16 15,BD 17 0] (.block 0 (.loop [0,1,6,15,16,17] (sr [0,1,6,15,16,17,18] [oG 18 .lss 17 16] (.seq [0,1,6,15,16,17] (.cond (.t 18) .skip (.exit 0)) (.seq [0,1,6,15,16,17] (.block 1 (sr [0,1,6,8,15,16,17] [oI 19 1 15 17,oL 20 19,oM 8 20] (.seq [0,1,6,8,15,16,17] (sr [0,1,6,8,15,16,17,28] [oM 21 0,oK 22 21,oF 23 2 22,oL 24 23,oM 25 8,oo 26 (.lookup (.i .i64) (.l [] true) false (.t 24) (.t 25)),oE 27 26,Aa 28 .eql 27 0] (.cond (.t 28) (sr [4,5] [CP 4,Ay 5 false] .ret) .skip)) (.Av [oM 29 6,oM 30 0,oK 31 30,oF 32 2 31,oL 33 32,oM 34 8,oo 35 (.lookup (.i .i64) (.l [] true) false (.t 33) (.t 34)),oC 36 285 35,oo 37 (.AY 1 1 [(.l [] true)] [(0,(.t 36))]),oA 38 1 24 29 37,oM 6 38])))) (.Av [Aa 39 .add 17 1,oM 17 39]))))))) (sr [4,5] [oM 40 6,oM 41 0,oK 42 41,oF 43 0 42,oL 44 43,oM 45 1,oI 46 1 44 45,oL 47 46,oo 48 (.AY 1 1 [(.l [] true)] [(0,(.t 47))]),oA 49 1 24 40 48,oM 4 49,Ay 5 true] .ret))))
theorem kL:CT 282 50 rI [4,5]:=cT Tryz.func282
abbrev rH:AJ:=(sr [0] [CP 2,Ay 3 false] (.scope (sr [0,4] [CP 4] (.seq [0,4] .skip (.block 0 (.loop [0,4] (.block 1 (.scope (sr [0,4,5] [Ay 5 false] (.seq [0,4,5] .skip (.seq [4,5] (sr [0,4,5,14,15,16] [oM 14 0,oE 15 14,BD 16 0] (.block 2 (.loop [0,4,5,14,15,16] (sr [0,4,5,14,15,16,17] [oG 17 .lss 16 15] (.seq [0,4,5,14,15,16] (.cond (.t 17) .skip (.exit 2)) (.seq [0,4,5,14,15,16] (.block 3 (sr [0,4,5,7,14,15,16] [oI 18 1 14 16,oL 19 18,oM 7 19] (.seq [0,4,7,14,15,16] (sr [0,4,5,7,14,15,16,22] [oM 20 7,oE 21 20,Aa 22 .eql 21 0] (.cond (.t 22) (.exit 3) .skip)) (sr [0,4,5,7,14,15,16] [Ay 5 true] (.seq [0,4,7] (sr [0,4,5,7,14,15,16,23,24,25] [oM 23 0,oE 24 23,BD 25 0] (.block 4 (.loop [0,4,5,7,14,15,16,23,24,25] (sr [0,4,5,7,14,15,16,23,24,25,26] [oG 26 .lss 25 24] (.seq [0,4,5,7,14,15,16,23,24,25] (.cond (.t 26) .skip (.exit 4)) (.seq [0,4,5,7,14,15,16,23,24,25] (.block 5 (sr [0,4,5,7,9,14,15,16,23,24,25] [oI 27 1 23 25,oL 28 27,oM 9 28] (.seq [0,4,5,7,14,15,16,23,24,25,39] (.BX [0,4,5,7,14,15,16,23,24,25,39] [dO 0 (oM 29 9),dO 1 (oE 30 29),dO 2 (Aa 31 .gtr 30 0),dO 3 (oM 32 31),dO 4 (A3 33 9 32),dO 5 (C3 34 (.slice 1 (.t 33) (some (.c (.i .i64 1))) none none) 32),dO 6 (A3 35 7 32),dO 7 (C3 36 (.Bg 1 none (.t 35) (.c (.i .i64 0))) 32),dO 8 (Aw 37 36 32),dO 9 (C3 38 (.call 172 [(.t 34),(.t 37)]) 32),dO 10 (oP 39 32 38)]) (.cond (.t 39) (.exit 3) .skip)))) (.Av [Aa 40 .add 25 1,oM 25 40]))))))) (sr [0,4,10] [oM 41 7,oo 42 (.Bg 1 none (.t 41) (.c (.i .i64 0))),oL 43 42,oo 10 (.alloc [(.i .i64 0)]),oS 1 10 43] (sr [0,4,10] [oM 44 4,oL 45 10,oo 46 (.AY 1 1 [(.i .i64 0)] [(0,(.t 45))]),oA 47 1 8 44 46,oM 4 47] (sr [0,4,10,11] [CP 11] (.seq [4,11] (sr [4,10,11,48,49,50] [oM 48 0,oE 49 48,BD 50 0] (.block 6 (.loop [4,10,11,48,49,50] (sr [4,10,11,48,49,50,51] [oG 51 .lss 50 49] (.seq [4,10,11,48,49,50] (.cond (.t 51) .skip (.exit 6)) (.seq [4,10,11,48,49,50] (.block 7 (sr [4,10,11,13,48,49,50] [oI 52 1 48 50,oL 53 52,oM 13 53] (.Av [oM 54 11,oM 55 13,oo 56 (.IU (.func 287) [] [(.t 10)]),Bo 57 286 55 56,oo 58 (.AY 1 1 [(.l [] true)] [(0,(.t 57))]),oA 59 1 24 54 58,oM 11 59]))) (.Av [Aa 60 .add 50 1,oM 50 60]))))))) (sr [0,4] [oM 61 11,oo 0 (.ZA (.t 61))] (.exit 1))))))))))) (.Av [Aa 62 .add 16 1,oM 16 62]))))))) (sr [2,3] [oM 63 4,oM 64 5,oN 65 64,oM 2 63,oM 3 65] .ret))))))))))))
theorem kK:CT 283 66 rH [2,3]:=cT Tryz.func283 [0]
abbrev rG:AJ:=(sr [0,2,4] [Bb 4 1,Ay 6 false] (sr [0,2,4,7] [oM 9 0,Au 10 4 4,Bo 11 275 9 10,oM 7 11] (sr [0,4,7,8] [oM 12 2,oo 13 (.call 176 [(.c (.i .u64 1)),(.t 12)]),oM 8 13] (sr [6] [oM 14 7,oK 15 14,oF 16 3 15,oL 17 16,oM 18 8,oG 19 .andNot 17 18,oo 20 (.bin .eql (.t 19) (.c (.i .u64 0))),oM 21 20,A3 22 7 21,C3 23 (.Fb (.t 22)) 21,BU 24 4 23 21,Aw 25 24 21,A3 26 8 21,Dp 27 .and 25 26 21,C3 28 (.bin .eql (.t 27) (.c (.i .u64 0))) 21,oP 29 21 28,oM 30 29,A3 31 0 30,Jp 32 4 4 30,C3 33 (.call 288 [(.t 31),(.t 32)]) 30,oP 34 30 33,oM 6 34] .ret))))
theorem kJ:CT 284 35 rG [6]:=cT Tryz.func284 [4]
abbrev rF:AJ:=(sr [0] [CP 2] (sr [2] [oM 3 0,oo 4 (.call 286 [(.t 3),(.c (.f (.func 289) [] []))]),oM 2 4] .ret))
theorem kI:CT 285 5 rF [2]:=cT Tryz.func285
abbrev rE:AJ:=(sr [0,1] [CP 4] (sr [0,1,5] [CP 5] (.seq [5] (sr [1,5,8,9,10] [oM 8 0,oE 9 8,BD 10 0] (.block 0 (.loop [1,5,8,9,10] (sr [1,5,8,9,10,11] [oG 11 .lss 10 9] (.seq [1,5,8,9,10] (.cond (.t 11) .skip (.exit 0)) (.seq [1,5,8,9,10] (.block 1 (sr [1,5,7,8,9,10] [oI 12 1 8 10,oL 13 12,oM 7 13] (sr [1,5,7,8,9,10,16] [oM 14 1,oM 15 7,oo 16 (.CJ (.t 14) [(.t 15)])] (.cond (.t 16) (.Av [oM 17 5,oM 18 7,oo 19 (.AY 1 1 [(.i .i64 0)] [(0,(.t 18))]),oA 20 1 8 17 19,oM 5 20]) .skip)))) (.Av [Aa 21 .add 10 1,oM 10 21]))))))) (sr [4] [oM 22 5,oM 4 22] .ret))))
theorem Z8:CT 286 23 rE [4]:=cT Tryz.func286
abbrev rD:AJ:=(sr [0,1] [Ay 3 false] (sr [3] [oM 4 0,oL 5 1,oG 6 .neq 4 5,oM 3 6] .ret))
theorem kH:CT 287 7 rD [3]:=cT Tryz.func287
abbrev rC:AJ:=(sr [2,3] [Bb 2 0,Bb 3 1,Ay 4 false] (sr [4] [oL 5 2,Au 6 4 3,Bo 7 275 5 6,oK 8 7,oF 9 7 8,oL 10 9,oo 11 (.IU (.func 290) [] [(.t 2),(.t 3)]),Bo 12 177 10 11,oM 4 12] .ret))
theorem kG:CT 288 13 rC [4]:=cT Tryz.func288 [2,3]
abbrev rB:AJ:=(sr [0] [Ay 2 false] (sr [2] [oM 3 0,Aa 4 .neq 3 0,oM 2 4] .ret))
theorem kF:CT 289 5 rB [2]:=cT Tryz.func289
abbrev rA:AJ:=(sr [0,1,2] [Ay 4 false] (.seq [4] (.BX [4] [dO 0 (oL 5 1),dO 1 (Au 6 4 2),dO 2 (oM 7 0),⟨3,Bo 8 276 6 7,[0],[oL 5 1]⟩,dO 4 (Bo 9 275 5 8),dO 5 (oK 10 9),dO 6 (oF 11 6 10),dO 7 (oL 12 11),dO 8 (oN 13 12),dO 9 (oM 4 13)]) .ret))
theorem kE:CT 290 14 rA [4]:=cT Tryz.func290
abbrev q9:AJ:=(sr [0] [Bb 4 1,Bb 5 2,BD 6 0] (sr [6] [oM 7 0,oM 6 7] .ret))
theorem kD:CT 306 8 q9 [6]:=cT Tryz.func306 [4,5]
abbrev q8:AJ:=(sr [4,5] [Bb 3 0,Bb 4 1,Bb 5 2,BD 6 0] (sr [6] [oF 7 2 4,oL 8 7,oF 9 1 5,oL 10 9,oI 11 1 8 10,oL 12 11,oM 6 12] .ret))
theorem kC:CT 307 13 q8 [6]:=cT Tryz.func307 [3,4,5]
end Go.Gl
namespace Go.Gl
open Go.Proofs
attribute [local irreducible] BL A4 Aj AW AM Ai AV AX AN Ah AS AU A8 BJ Sat Ac BF Ak W
def A7 (p:Prog):List (List Int):=p.AQ.map (·.parents)
def ig (p:Prog):Prop:=p.AQ.length≤Ad∧ ∀c∈p.AQ,c.parents.length≤Ad∧c.AT.length≤Ad∧c.inits.length≤Ad
theorem Wy (p:Prog) (hp:ig p) (hk0:p.AQ.length≤1000):Pure Tryz.prog 91 [.a (BK p)] (.l (En (A7 p)) false):=by
 refine qD nb ?_
 conv=>whnf
 repeat((first|(refine Ax ?_;intro K U)|(refine AZ ?_;intro I C G F)|(apply G;clear F C G I)|refine Bk ?_|refine Dk ?_|(apply U;clear U K)|fail);conv=>whnf)
 refine B4 p.AQ.length (fun k v=>[(3,v),(4,eI (A6 k))]) (fun k v=>[.own v 1 (En ((p.AQ.take k).map (·.parents)))]) (fun _ _=>True) (.l [] true) rfl trivial (Ey Sat.nil 1) ?_;rintro k v σ hk - hs
 conv=>whnf
 repeat((first|refine⟨rfl,?_⟩|refine Bz ?_|refine FG ?_|(refine Ax ?_;intro K U)|(refine AZ ?_;intro I C G F)|(apply G;clear F C G I)|refine B1 ?_|(apply U;clear U K)|fail);conv=>whnf)
 refine GI hk hp.1 (fun c hc hlt=>?_) fun hk=>?_
 ·have hcm:=hp.2 c (B2 hc)
  conv=>whnf
  repeat((first|refine Bz ?_|(refine Ax ?_;intro K U)|(refine AZ ?_;intro I C G F)|refine B3 ?_|refine Bk ?_|(apply U;clear U K)|fail);conv=>whnf)
  refine Io hc hp.1 rfl ?_
  conv=>whnf
  repeat((first|refine Bz ?_|fail);conv=>whnf)
  refine Z5 Bq (by have:=hcm.1;have hM:=Mx;omega) ?_
  conv=>whnf
  refine Ft hs 0 (x:=c.parents) rfl (by have hM:=Mx;simp only[BE,LW];omega) DJ fun v' σ' hs'=>?_
  conv=>whnf
  repeat((first|refine⟨rfl,?_⟩|(refine AZ ?_;intro I C G F)|(apply G;clear F C G I)|(apply U;clear U K)|(clear U K));conv=>whnf)
  refine⟨hlt,v',rfl,trivial,?_⟩;rw[AR hc,SN];exact hs'
 ·conv=>whnf
  repeat((first|(refine Ax ?_;intro K U)|(refine AZ ?_;intro I C G F)|(apply G;clear F C G I)|refine Dl ?_|refine EM ?_|(apply U;clear U K)|(clear U K));conv=>whnf)
  exact EX hs 0 rfl (by rw[Ar hk];rfl)
def BY (i:Nat):List PW→List Int
 | []=>[]
 | c::r=>List.replicate c.AT.length ((i:Int)+3)++BY (i+1) r
def AP (p:Prog):AK:=⟨A7 p,BY 0 p.AQ⟩
theorem IS (i:Nat) (a b:List PW):BY i (a++b)=BY i a++BY (i+a.length) b:=by
 induction a generalizing i with
 | nil=>simp[BY]
 | cons c r ih=>
   simp only[List.cons_append,BY,ih,SS,LX];rw[show i+1+r.length=i+(r.length+1) by omega]
def Bx (cs:List PW):Nat:=(cs.map (·.AT.length)).sum
theorem Cc (i:Nat) (cs:List PW):(BY i cs).length=Bx cs:=by
 induction cs generalizing i with
 | nil=>rfl
 | cons c r ih=>simp[BY,ih,Bx]
theorem O5 {cs:List PW} {k:Nat} {c:PW} (h:cs[k]? =some c):Bx (cs.take k)+c.AT.length≤Bx cs:=by
 induction cs generalizing k with
 | nil=>cases h
 | cons d r ih=>
   cases k with
   | zero=>simp at h;subst h;simp[Bx]
   | succ k=>simp at h;have:=ih h;simp only[Bx,List.take_succ_cons,FC,List.sum_cons]at *;omega
theorem Rb (p:Prog) (hp:ig p) (hk0:p.AQ.length≤1000) (hm:Bx p.AQ≤Ad):Pure Tryz.prog 62 [.a (BK p)] (.a (A2 (AP p))):=by
 refine qV nb ?_
 conv=>whnf
 repeat((first|(refine Ax ?_;intro K U)|(refine AZ ?_;intro I C G F)|fail);conv=>whnf)
 intro n hn;have hs:=ZO (l:=[]) (σ:=emp) Sat.nil hn (o:= .cs [.l [] true,.l [] true])
 conv=>whnf
 repeat((first|refine⟨nb,?_⟩|refine Bz ?_|(refine Ax ?_;intro K U)|(refine AZ ?_;intro I C G F)|(apply G;clear F C G I)|(apply U;clear U K)|fail);conv=>whnf)
 refine(Wy p hp hk0).use ?_
 conv=>whnf
 intro m hm;have hs:=ZO hs hm (o:= .cs [.l [] true,.l [] true])
 conv=>whnf
 refine Ho hs 1 rfl rfl rfl rfl (by decide) fun σ hs=>?_
 conv=>whnf
 repeat((first|(refine Ax ?_;intro K U)|(refine AZ ?_;intro I C G F)|(apply G;clear F C G I)|refine Bk ?_|refine Dk ?_|(apply U;clear U K)|fail);conv=>whnf)
 refine B4 p.AQ.length (fun k _=>[(4,eI (A6 k))]) (fun k v=>[.box n [.l [] true,.l [] true],.box m [.l (En (A7 p)) false,v],.own v 1 (iL (BY 0 (p.AQ.take k)))]) (fun _ _=>True) (.l [] true) rfl trivial (Ey hs 1) ?_;rintro k v σ hk - hs
 conv=>whnf
 repeat((first|refine⟨rfl,?_⟩|refine Bz ?_|refine FG ?_|(refine Ax ?_;intro K U)|(refine AZ ?_;intro I C G F)|(apply G;clear F C G I)|refine B1 ?_|(apply U;clear U K)|fail);conv=>whnf)
 refine GI hk hp.1 (fun c hc hlt=>?_) fun hk=>?_
 ·have hcm:=hp.2 c (B2 hc)
  have htk:=O5 hc
  conv=>whnf
  repeat((first|(refine Ax ?_;intro K U)|(refine AZ ?_;intro I C G F)|(apply G;clear F C G I)|refine B3 ?_|refine Bk ?_|refine Dk ?_|(apply U;clear U K)|fail);conv=>whnf)
  refine B4 c.AT.length (fun j _=>[(5,eI (A6 j))]) (fun j v=>[.box n [.l [] true,.l [] true],.box m [.l (En (A7 p)) false,v],.own v 1 (iL (BY 0 (p.AQ.take k)++List.replicate j ((k:Int)+3)))]) (fun _ _=>True) v rfl trivial (by simpa using hs) ?_;rintro j v σ hj - hs
  conv=>whnf
  repeat((first|refine Bz ?_|(refine Ax ?_;intro K U)|(refine AZ ?_;intro I C G F)|fail);conv=>whnf)
  refine Io hc hp.1 rfl ?_
  conv=>whnf
  repeat((first|refine⟨rfl,?_⟩|refine Bz ?_|refine FG ?_|(apply G;clear F C G I)|refine B1 ?_|(apply U;clear U K)|fail);conv=>whnf)
  refine GI hj hcm.2.1 (fun s hsl hjlt=>?_) fun hj=>?_
  ·conv=>whnf
   repeat((first|(refine Ax ?_;intro K U)|(refine AZ ?_;intro I C G F)|refine B3 ?_|refine Bk ?_|(apply U;clear U K)|fail);conv=>whnf)
   refine Sr hs 1 rfl ?_
   conv=>whnf
   repeat((first|refine⟨rfl,?_⟩|fail);conv=>whnf)
   have he:IntKind.i64.wrap (A6 k+3)=(k:Int)+3:=by
    have:=hp.1;rw[AL (by omega),wrap64 (by omega) (by simp only[Ad]at *;omega)]
   refine Ft hs 2 (x:=IntKind.i64.wrap (A6 k+3)) rfl (by have hM:=Mx;simp only[PT,Cc,List.length_replicate];omega) Bq fun v' σ' hs'=>?_
   conv=>whnf
   refine Kl hs' 1 rfl (Gu hs' 2 rfl) nb fun σ2 hs2=>?_
   conv=>whnf
   repeat((first|refine⟨rfl,?_⟩|(refine AZ ?_;intro I C G F)|(apply G;clear F C G I)|(apply U;clear U K)|(clear U K));conv=>whnf)
   refine⟨hjlt,v',rfl,trivial,?_⟩;rw[List.replicate_succ',←SS];rw[he]at hs2;exact hs2
  ·conv=>whnf
   repeat((first|refine⟨rfl,?_⟩|(refine AZ ?_;intro I C G F)|(apply G;clear F C G I)|refine Dl ?_|(apply U;clear U K)|(clear U K));conv=>whnf)
   refine⟨hlt,v,rfl,trivial,?_⟩;rw[AR hc,IS];have:(p.AQ.take k).length=k:=by simp;omega
   rw[this];simpa[BY,hj]using hs
 ·conv=>whnf
  repeat((first|(refine Ax ?_;intro K U)|(refine AZ ?_;intro I C G F)|refine Dl ?_|(apply U;clear U K)|(clear U K));conv=>whnf)
  refine Sr hs 1 rfl ?_
  conv=>whnf
  repeat((first|refine⟨nb,?_⟩|fail);conv=>whnf)
  refine Ho hs 0 rfl rfl rfl (by simp[Gu hs 2 rfl]) nb fun σ2 hs2=>?_
  conv=>whnf
  repeat((first|(apply G;clear F C G I)|refine EM ?_|(apply U;clear U K)|fail);conv=>whnf)
  refine Sr hs2 0 rfl ?_
  conv=>whnf
  repeat((first|refine⟨nb,?_⟩|fail);conv=>whnf)
  refine BV (.a (.cons (.refl _) (.cons ?_ .nil)));have:=hs2.NC 2 rfl;rw[Ar hk]at this;exact this
theorem Z4 (xs:List Int) (f:Bool) (x:Int) (hx:xs.length≤Ad):Pure Tryz.prog 154 [.l (iL xs) f,.i .i64 x] (.b (xs.contains x)):=by
 refine mj nb ?_
 conv=>whnf
 repeat((first|(refine Ax ?_;intro K U)|(refine AZ ?_;intro I C G F)|(apply G;clear F C G I)|refine Bk ?_|refine Dk ?_|(apply U;clear U K)|fail);conv=>whnf)
 refine B4 xs.length (fun k (_:Unit)=>[(5,eI (A6 k))]) (fun _ _=>[]) (fun k _=>x∉xs.take k) () rfl (by simp) Sat.nil ?_;rintro k - σ hk hn -
 conv=>whnf
 repeat((first|refine⟨rfl,?_⟩|refine FG ?_|(refine Ax ?_;intro K U)|(refine AZ ?_;intro I C G F)|(apply G;clear F C G I)|refine B1 ?_|(apply U;clear U K)|fail);conv=>whnf)
 refine GI hk hx (fun y hy hlt=>?_) fun hk=>?_
 ·conv=>whnf
  repeat((first|(refine Ax ?_;intro K U)|(refine AZ ?_;intro I C G F)|refine B3 ?_|refine Bk ?_|(apply U;clear U K)|fail);conv=>whnf)
  refine Io hy hx rfl ?_
  conv=>whnf
  repeat((first|refine⟨rfl,?_⟩|refine Bz ?_|(apply G;clear F C G I)|refine B1 ?_|(apply U;clear U K)|fail);conv=>whnf)
  refine W7 (fun he=>?_) (fun he=>?_)
  ·conv=>whnf
   repeat((first|(refine Ax ?_;intro K U)|(refine AZ ?_;intro I C G F)|(apply G;clear F C G I)|refine EM ?_|(apply U;clear U K)|(clear U K));conv=>whnf)
   refine AI ?_;have:x∈xs:=he ▸ B2 hy;simp[this]
  ·conv=>whnf
   repeat((first|refine⟨rfl,?_⟩|(refine AZ ?_;intro I C G F)|(apply G;clear F C G I)|refine B3 ?_|(apply U;clear U K)|(clear U K));conv=>whnf)
   refine⟨hlt,(),rfl,?_,Sat.nil⟩;rw[AR hy];simp only[Fk,KN,not_or];exact⟨hn,fun e=>he e.symm⟩
 ·conv=>whnf
  repeat((first|(refine Ax ?_;intro K U)|(refine AZ ?_;intro I C G F)|(apply G;clear F C G I)|refine Dl ?_|refine EM ?_|(apply U;clear U K)|(clear U K));conv=>whnf)
  refine AI ?_;rw[Ar hk]at hn;simp[hn]
theorem Oe (xs:List Int) (f:Bool) (x:Int) (hx:xs.length≤Ad):Pure Tryz.prog 241 [.l (iL xs) f,.i .i64 x] (.l (iL (xs.filter (· != x))) false):=by
 refine lE nb ?_
 conv=>whnf
 repeat((first|(refine Ax ?_;intro K U)|(refine AZ ?_;intro I C G F)|(apply G;clear F C G I)|refine Bk ?_|refine Dk ?_|(apply U;clear U K)|fail);conv=>whnf)
 refine B4 xs.length (fun k v=>[(5,v),(6,eI (A6 k))]) (fun k v=>[.own v 1 (iL ((xs.take k).filter (· != x)))]) (fun _ _=>True) (.l [] true) rfl trivial (Ey Sat.nil 1) ?_;rintro k v σ hk - hs
 conv=>whnf
 repeat((first|refine⟨rfl,?_⟩|refine FG ?_|(refine Ax ?_;intro K U)|(refine AZ ?_;intro I C G F)|(apply G;clear F C G I)|refine B1 ?_|(apply U;clear U K)|fail);conv=>whnf)
 refine GI hk hx (fun y hy hlt=>?_) fun hk=>?_
 ·conv=>whnf
  repeat((first|(refine Ax ?_;intro K U)|(refine AZ ?_;intro I C G F)|refine B3 ?_|refine Bk ?_|(apply U;clear U K)|fail);conv=>whnf)
  refine Io hy hx rfl ?_
  conv=>whnf
  repeat((first|refine⟨rfl,?_⟩|refine Bz ?_|(apply G;clear F C G I)|refine B1 ?_|(apply U;clear U K)|fail);conv=>whnf)
  refine fQ (fun he=>?_) (fun he=>?_)
  ·conv=>whnf
   repeat((first|(refine AZ ?_;intro I C G F)|fail);conv=>whnf)
   refine Io hy hx rfl ?_
   conv=>whnf
   repeat((first|refine Bz ?_|fail);conv=>whnf)
   refine Ft hs 0 (x:=y) rfl (by have:=LV (· != x) (xs.take k);simp only[LW]at this;have hM:=Mx;omega) Bq fun v' σ' hs'=>?_
   conv=>whnf
   repeat((first|refine⟨rfl,?_⟩|(refine AZ ?_;intro I C G F)|(apply G;clear F C G I)|(apply U;clear U K)|(clear U K));conv=>whnf)
   refine⟨hlt,v',rfl,trivial,?_⟩;rw[AR hy,List.filter_append];simpa[he]using hs'
  ·conv=>whnf
   repeat((first|refine⟨rfl,?_⟩|(refine AZ ?_;intro I C G F)|(apply G;clear F C G I)|refine B3 ?_|(apply U;clear U K)|(clear U K));conv=>whnf)
   refine⟨hlt,v,rfl,trivial,?_⟩;rw[AR hy,List.filter_append];simpa[he]using hs
 ·conv=>whnf
  repeat((first|(refine Ax ?_;intro K U)|(refine AZ ?_;intro I C G F)|(apply G;clear F C G I)|refine Dl ?_|refine EM ?_|(apply U;clear U K)|(clear U K));conv=>whnf)
  exact EX hs 0 rfl (by rw[Ar hk])
def free (ls:List (List Int)) (x:Int):Bool:=ls.all fun l=> !(l.drop 1).contains x
theorem fP (ls:List (List Int)) (f:Bool) (x:Int) (hl:ls.length≤Ad) (hls: ∀l∈ls,l.length≤Ad):Pure Tryz.prog 242 [.l (En ls) f,.i .i64 x] (.b (free ls x)):=by
 refine lD nb ?_
 conv=>whnf
 repeat((first|(refine Ax ?_;intro K U)|(refine AZ ?_;intro I C G F)|(apply G;clear F C G I)|refine Bk ?_|refine Dk ?_|(apply U;clear U K)|fail);conv=>whnf)
 refine B4 ls.length (fun k (_:Unit)=>[(5,eI (A6 k))]) (fun _ _=>[]) (fun k _=> ∀l∈ls.take k,x∉l.drop 1) () rfl (by simp) Sat.nil ?_;rintro k - σ hk hn -
 conv=>whnf
 repeat((first|refine⟨rfl,?_⟩|refine FG ?_|(refine Ax ?_;intro K U)|(refine AZ ?_;intro I C G F)|(apply G;clear F C G I)|refine B1 ?_|(apply U;clear U K)|fail);conv=>whnf)
 refine GI hk hl (fun y hy hlt=>?_) fun hk=>?_
 ·have hb:=hls _ (B2 hy)
  have next:(x∉y.drop 1)→ ∀l∈ls.take (k+1),x∉l.drop 1:=fun hc l hm=>by
   rw[AR hy]at hm;rcases Fk.1 hm with hm|hm
   ·exact hn l hm
   ·rw[KN.1 hm];exact hc
  conv=>whnf
  repeat((first|(refine Ax ?_;intro K U)|(refine AZ ?_;intro I C G F)|refine B3 ?_|refine Bk ?_|(apply U;clear U K)|fail);conv=>whnf)
  refine Io hy hl rfl ?_
  conv=>whnf
  repeat((first|refine⟨rfl,?_⟩|refine Bz ?_|refine FG ?_|fail);conv=>whnf)
  refine⟨fun h=>?_,fun h=>?_⟩<;>(try rw[h])
  ·have hp:=of_decide_eq_true h
   simp only[BE]at hp
   conv=>whnf
   repeat((first|refine Lx ?_|fail);conv=>whnf)
   refine Io hy hl rfl ?_
   conv=>whnf
   repeat((first|refine Lx ?_|refine Bz ?_|fail);conv=>whnf)
   refine TD 1 rfl (by omega) (fun _=>rfl) ?_
   conv=>whnf
   repeat((first|refine Lx ?_|fail);conv=>whnf)
   refine(Z4 _ _ _ (by rw[iF];omega)).use ?_
   conv=>whnf
   repeat((first|(apply G;clear F C G I)|refine B1 ?_|(apply U;clear U K)|fail);conv=>whnf)
   refine⟨fun hc=>?_,fun hc=>?_⟩
   ·conv=>whnf
    repeat((first|(refine Ax ?_;intro K U)|(refine AZ ?_;intro I C G F)|(apply G;clear F C G I)|refine EM ?_|(apply U;clear U K)|(clear U K));conv=>whnf)
    refine AI ?_
    have:free ls x=false:=by
     simp only[free,List.all_eq_false];exact⟨y,B2 hy,by simpa using hc⟩
    rw[this]
   ·conv=>whnf
    repeat((first|refine⟨rfl,?_⟩|(refine AZ ?_;intro I C G F)|(apply G;clear F C G I)|refine B3 ?_|(apply U;clear U K)|(clear U K));conv=>whnf)
    exact⟨hlt,(),rfl,next (by simpa using hc),Sat.nil⟩
  ·have hp: ¬_:=of_decide_eq_false h
   simp only[BE]at hp
   conv=>whnf
   repeat((first|refine⟨rfl,?_⟩|refine RY ?_|(refine AZ ?_;intro I C G F)|(apply G;clear F C G I)|refine B1 ?_|refine B3 ?_|(apply U;clear U K)|(clear U K));conv=>whnf)
   refine⟨hlt,(),rfl,next ?_,Sat.nil⟩;rw[List.drop_eq_nil_of_le (by omega)];simp
 ·conv=>whnf
  repeat((first|(refine Ax ?_;intro K U)|(refine AZ ?_;intro I C G F)|(apply G;clear F C G I)|refine Dl ?_|refine EM ?_|(apply U;clear U K)|(clear U K));conv=>whnf)
  rw[Ar hk]at hn;refine AI ?_;have:free ls x=true:=by simpa[free]using hn
  rw[this]
def A5 (ls:List (List Int)) (c:Int):List Int:=if c<3 then []else ls.getD (c - 3).toNat []
theorem VK (ls:List (List Int)) (f:Bool) (c:Int) (hc:c<3+ls.length) (hm:ls.length≤Ad):Pure Tryz.prog 240 [.l (En ls) f,.i .i64 c] (.l (iL (A5 ls c)) false):=by
 refine lF nb ?_
 conv=>whnf
 repeat((first|refine⟨rfl,?_⟩|(refine Ax ?_;intro K U)|(refine AZ ?_;intro I C G F)|(apply G;clear F C G I)|refine B1 ?_|(apply U;clear U K)|fail);conv=>whnf)
 refine fork (fun h=>?_) (fun h=>?_)
 ·conv=>whnf
  repeat((first|(refine Ax ?_;intro K U)|(refine AZ ?_;intro I C G F)|(apply G;clear F C G I)|refine EM ?_|(apply U;clear U K)|(clear U K));conv=>whnf)
  refine BV (.l (fun h=>(by cases h)) ?_);rw[A5,if_pos h];exact .nil
 ·conv=>whnf
  repeat((first|refine⟨rfl,?_⟩|(refine Ax ?_;intro K U)|(refine AZ ?_;intro I C G F)|refine B3 ?_|(apply U;clear U K)|fail);conv=>whnf)
  simp only[Ad]at hm;have hlt:(c - 3).toNat<ls.length:=by omega
  refine Se (c - 3).toNat (Cu hlt) (by rw[wrap64 (by omega) (by omega)];omega) rfl ?_
  conv=>whnf
  repeat((first|refine Bz ?_|(apply G;clear F C G I)|refine EM ?_|(apply U;clear U K)|fail);conv=>whnf)
  refine AI ?_;rw[A5,if_neg h,DL,Cu hlt];rfl
def EY (ls os:List (List Int)) (c:Int):Option (List (List Int)):=
 if(A5 ls c).any fun p=>(os.getD p.toNat []).isEmpty then none else some ((A5 ls c).map (fun p=>(os.getD p.toNat []).filter (· != 0))++[A5 ls c])
def pT (o:Option (List (List Int))):V:=match o with|some l=> .t [.l (En l) false,.b true]|none=> .t [.l [] false,.b false]
theorem bu (ls os:List (List Int)) (f:Bool) (w:V) (c:Int) (hc:c<3+ls.length) (hm:ls.length≤Ad) (hos: ∀o∈os,o.length≤Ad) (hpl:(A5 ls c).length<1000000)
 (hp: ∀p∈A5 ls c,0≤p∧p.toNat<os.length):Bh Tryz.prog 194 [.l (En ls) f,w,.i .i64 c] [.own w 1 (En os)] fun r post=>r= .ret (pT (EY ls os c))∧post= [.own w 1 (En os)]:=by
 have hM:=Mx;intro σ hs;refine l7 nb ?_
 conv=>whnf
 repeat((first|(refine Ax ?_;intro K U)|(refine AZ ?_;intro I C G F)|(apply G;clear F C G I)|(apply U;clear U K)|fail);conv=>whnf)
 refine(VK _ _ _ hc hm).use ?_
 conv=>whnf
 repeat((first|(refine Ax ?_;intro K U)|(refine AZ ?_;intro I C G F)|(apply G;clear F C G I)|refine Bk ?_|refine Dk ?_|(apply U;clear U K)|fail);conv=>whnf)
 refine B4 (A5 ls c).length (fun k v=>[(8,v),(10,eI (A6 k))]) (fun k v=>[.own w 1 (En os),.own v 1 (En (((A5 ls c).take k).map fun p=>(os.getD p.toNat []).filter (· != 0)))]) (fun k _=> ∀p∈(A5 ls c).take k,(os.getD p.toNat []).isEmpty=false)
  (.l [] true) rfl (by simp) (Ey hs 1) ?_
 rintro k v σ hk hne hs
 conv=>whnf
 repeat((first|refine⟨rfl,?_⟩|refine FG ?_|(refine Ax ?_;intro K U)|(refine AZ ?_;intro I C G F)|(apply G;clear F C G I)|refine B1 ?_|(apply U;clear U K)|fail);conv=>whnf)
 refine GI hk (by omega) (fun p hpk hlt=>?_) fun hk=>?_
 ·obtain ⟨hp0,hp1⟩:=hp _ (B2 hpk)
  have hq:=Cu hp1
  have hgd:os.getD p.toNat []=os[p.toNat]:=by
   rw[DL,hq];rfl
  have hqm:(En os)[p.toNat]? =some [.l (iL os[p.toNat]) false]:=by rw[LZ,hq];rfl
  conv=>whnf
  repeat((first|(refine Ax ?_;intro K U)|(refine AZ ?_;intro I C G F)|refine B3 ?_|refine Bk ?_|(apply U;clear U K)|fail);conv=>whnf)
  refine Io hpk (by omega) rfl ?_
  conv=>whnf
  repeat((first|refine Bz ?_|fail);conv=>whnf)
  refine dJ hs 0 p.toNat rfl (by omega) (by simpa using hp1) ?_
  conv=>whnf
  refine Hv hs 0 rfl hqm ?_
  conv=>whnf
  repeat((first|refine⟨rfl,?_⟩|refine FG ?_|(apply G;clear F C G I)|refine B1 ?_|(apply U;clear U K)|fail);conv=>whnf)
  refine W7 (fun he=>?_) (fun he=>?_)
  ·conv=>whnf
   repeat((first|(refine Ax ?_;intro K U)|(refine AZ ?_;intro I C G F)|(apply G;clear F C G I)|refine EM ?_|(apply U;clear U K)|(clear U K));conv=>whnf)
   have hn:EY ls os c=none:=by
    simp only[EY];rw[if_pos];rw[JY];refine⟨p,B2 hpk,?_⟩;rw[hgd];have:(os[p.toNat]).length=0:=by simpa using he
    simp[dD.1 this]
   rw[hn];exact Ao (l':=[.own w 1 (En os)]) hs (by simp) (.t (.cons (.l (fun h=>(by cases h)) .nil) (.cons (.refl _) .nil))) fun σ' hs'=>⟨_,⟨rfl,rfl⟩,hs'⟩
  ·conv=>whnf
   repeat((first|(refine AZ ?_;intro I C G F)|refine B3 ?_|(apply U;clear U K)|fail);conv=>whnf)
   refine Io hpk (by omega) rfl ?_
   conv=>whnf
   repeat((first|refine Bz ?_|fail);conv=>whnf)
   refine dJ hs 0 p.toNat rfl (by omega) (by simpa using hp1) ?_
   conv=>whnf
   refine Hv hs 0 rfl hqm ?_
   conv=>whnf
   refine(Oe _ _ _ (hos _ (List.getElem_mem hp1))).use ?_
   conv=>whnf
   refine Ft hs 1 (x:=os[p.toNat].filter (· != 0)) rfl (by have hM:=Mx;simp;omega) DJ fun v' σ' hs'=>?_
   conv=>whnf
   repeat((first|refine⟨rfl,?_⟩|(refine AZ ?_;intro I C G F)|(apply G;clear F C G I)|(apply U;clear U K)|(clear U K));conv=>whnf)
   refine⟨hlt,v',rfl,fun q hm=>?_,?_⟩
   ·rw [AR hpk]at hm
    rcases Fk.1 hm with hm|hm
    ·exact hne q hm
    ·rw[KN.1 hm,hgd]
     have:(os[p.toNat]).length≠0:=by
      intro e;exact he (by simp[e])
     cases hq:os[p.toNat]with
     | nil=>rw[hq]at this;exact absurd rfl this
     | cons _ _=>rfl
   ·rw[AR hpk,SN,List.map_singleton,hgd]
    exact hs'
 ·rw[Ar hk]at hne hs
  conv=>whnf
  repeat((first|(refine Ax ?_;intro K U)|(refine AZ ?_;intro I C G F)|refine Dl ?_|(apply U;clear U K)|(clear U K));conv=>whnf)
  refine Ft hs 1 (x:=A5 ls c) rfl (by have hM:=Mx;simp;omega) DJ fun v' σ' hs'=>?_
  conv=>whnf
  repeat((first|(apply G;clear F C G I)|refine EM ?_|(apply U;clear U K)|fail);conv=>whnf)
  have hn:EY ls os c=some ((A5 ls c).map (fun p=>(os.getD p.toNat []).filter (· != 0))++[A5 ls c]):=by
   simp only[EY];rw[if_neg];rw[JY];rintro⟨p,h1,h2⟩;rw[hne p h1]at h2;cases h2
  rw[hn];obtain⟨σ2,h1,h2,h3⟩:=Ir hs' 1 rfl;exact F2 h1 (.t (.cons h2 (.cons (.refl _) .nil))) ⟨_,⟨rfl,rfl⟩,h3⟩
end Go.Gl
