import Derived.Test.YtijbpgdmpejgoaaGreatProg
import Derived.KernelRfl
import Derived.Test.YtijbpgdmpejgoaaGreatU5
import Derived.Test.YtijbpgdmpejgoaaGreatU6
import Derived.Test.YtijbpgdmpejgoaaGreatU7
set_option linter.all false
set_option linter.defProp false
noncomputable section
namespace Go.Gl
open Go.Proofs
abbrev sI:AJ:=(sr [0,2] [BI 2 0] (.seq [0,2] (sr [0,2,4] [oM 3 0,oo 4 (.bin .geq (.t 3) (.c (.i .u64 4294967296)))] (.cond (.t 4) (sr [0] [oM 5 0,oo 6 (.bin .shr (.t 5) (.c (.i .u64 32))),oM 0 6] (.Ax [BI 2 32])) .skip)) (.seq [0,2] (sr [0,2,8] [oM 7 0,oo 8 (.bin .geq (.t 7) (.c (.i .u64 65536)))] (.cond (.t 8) (sr [0,2] [oM 9 0,oo 10 (.bin .shr (.t 9) (.c (.i .u64 16))),oM 0 10] (.Ax [oM 11 2,Aa 12 .add 11 16,oM 2 12])) .skip)) (.seq [0,2] (sr [0,2,14] [oM 13 0,oo 14 (.bin .geq (.t 13) (.c (.i .u64 256)))] (.cond (.t 14) (sr [0,2] [oM 15 0,oo 16 (.bin .shr (.t 15) (.c (.i .u64 8))),oM 0 16] (.Ax [oM 17 2,Aa 18 .add 17 8,oM 2 18])) .skip)) (sr [2] [oM 19 2,oM 20 0,oo 21 (.conv .u8 (.t 20)),⟨(some 22),.XE (.c (.s ⟨#[0,1,2,2,3,3,3,3,4,4,4,4,4,4,4,4,5,5,5,5,5,5,5,5,5,5,5,5,5,5,5,5,6,6,6,6,6,6,6,6,6,6,6,6,6,6,6,6,6,6,6,6,6,6,6,6,6,6,6,6,6,6,6,6,7,7,7,7,7,7,7,7,7,7,7,7,7,7,7,7,7,7,7,7,7,7,7,7,7,7,7,7,7,7,7,7,7,7,7,7,7,7,7,7,7,7,7,7,7,7,7,7,7,7,7,7,7,7,7,7,7,7,7,7,7,7,7,7,8,8,8,8,8,8,8,8,8,8,8,8,8,8,8,8,8,8,8,8,8,8,8,8,8,8,8,8,8,8,8,8,8,8,8,8,8,8,8,8,8,8,8,8,8,8,8,8,8,8,8,8,8,8,8,8,8,8,8,8,8,8,8,8,8,8,8,8,8,8,8,8,8,8,8,8,8,8,8,8,8,8,8,8,8,8,8,8,8,8,8,8,8,8,8,8,8,8,8,8,8,8,8,8,8,8,8,8,8,8,8,8,8,8,8,8,8,8,8,8,8,8,8,8,8,8,8,8]⟩)) (.t 21),none⟩,oo 23 (.conv .i64 (.t 22)),oG 24 .add 19 23,oM 2 24] .ret)))))
def lH:CT 206 25 sI [2]:=cT Tryz.func206
def fj:List Ag:=[oM 1 4]
abbrev Z9:AJ:=(sr [0,1,6] [oM 5 1,oo 6 (.Ys 2 true (.t 5))] (.cond (.t 6) (.seq [0] (sr [0,1,3] [oM 8 1,oo 9 (.cd 242 (.a []) true (.t 8)),oM 7 9,oX 10 0 7,oX 11 1 7,oo 2 (.alloc []),oS 0 2 10,oM 3 11] (sr [0,1,13] [oM 12 3,oN 13 12] (.cond (.t 13) (.Ax [oM 14 1,⟨none,.panic (.t 14),none⟩]) .skip))) (.Ax [⟨none,.store 1 (.t 0) (.c (.b false)),none⟩])) .skip))
def iK:Tryz.f207.body.bind (resRec Tryz.prog Tryz.f207.ntmps [] [])=some (4,fj,erase Z9):=by kernel_rfl
def Ws {args:List V} (hn:args.length≤15) {m:Option V} {σ:AH} {Q:AH→Prop} (h:W Tryz.prog (.seq [0,1] (.Ax fj) Z9) (PU Q) (put (some 4) (m.getD .Ie) (C5 0 args)) σ):Ms Tryz.prog 207 args m σ Q:=
 Qg Tryz.func207 (by kernel_rfl) iK rfl hn (gg h)
abbrev sH:AJ:=(sr [0] [BI 2 0] (.seq [] (sr [5] [oM 3 0,oC 4 249 3,oN 5 4] (.cond (.t 5) (sr [2] [BI 2 2] .ret) .skip)) (sr [2] [BI 2 0] .ret)))
def lG:CT 208 6 sH [2]:=cT Tryz.func208
abbrev sG:AJ:=(sr [0,1] [Cl 4,BI 5 0] (sr [1,6,7] [oM 9 0,oM 10 1,oo 11 (.Ab 1 1 [(.i .i64 0)] [(0,(.t 10))]),B3 12 250 9 11,oM 8 12,oX 13 0 8,oX 14 1 8,oM 6 13,oM 7 14] (.seq [1,6] (sr [1,6,16] [oM 15 7,oN 16 15] (.cond (.t 16) (sr [4,5] [Cl 4,BI 5 2] .ret) .skip)) (.seq [1,6] (sr [1,6,24] [oM 17 6,oK 18 17,oF 19 2 18,oL 20 19,oM 21 1,oo 22 (.lookup (.i .i64) (.l [] true) false (.t 20) (.t 21)),oE 23 22,Aa 24 .eql 23 0] (.cond (.t 24) (sr [4,5] [Cl 4,BI 5 7] .ret) .skip)) (sr [4,5] [oM 25 6,oK 26 25,oF 27 2 26,oL 28 27,oM 29 1,oo 30 (.lookup (.i .i64) (.l [] true) false (.t 28) (.t 29)),oC 31 175 30,oM 4 31,BI 5 0] .ret)))))
def lF:CT 209 32 sG [4,5]:=cT Tryz.func209
abbrev sF:AJ:=(sr [1,2] [Bb 2 0,Cl 4] (sr [1,2,5] [oo 10 (.Ip),oM 11 1,⟨none,.D9 (.i .i64) (.t 10) (.t 11) (.c (.b true)),none⟩,oM 12 10,oM 5 12] (sr [1,2,5,6] [Cl 6] (.seq [6] (sr [2,5,6,7] [oM 13 1,oM 7 13] (.block 0 (.loop [2,5,6,7] (.seq [2,5,6,7] (sr [2,5,6,7,15] [oM 14 7,Aa 15 .geq 14 3] (.cond (.t 15) .skip (.exit 0))) (.seq [2,5,6,7] (.block 1 (sr [2,5,6,7,20] [oM 18 5,oM 19 7,oo 20 (.lookup (.i .i64) (.b false) false (.t 18) (.t 19))] (.cond (.t 20) (sr [2,5,6,7] [oM 21 6,oF 22 0 2,oL 23 22,oM 24 7,Aa 25 .sub 24 3,oI 26 3 23 25,oF 27 1 26,oL 28 27,oA 29 1 8 21 28,oM 6 29] (sr [2,5,6,7,36,37,38] [oF 30 0 2,oL 31 30,oM 32 7,Aa 33 .sub 32 3,oI 34 3 31 33,oF 35 0 34,oL 36 35,oE 37 36,BI 38 0] (.block 2 (.loop [2,5,6,7,36,37,38] (sr [2,5,6,7,36,37,38,39] [oG 39 .lss 38 37] (.seq [2,5,6,7,36,37,38] (.cond (.t 39) .skip (.exit 2)) (.seq [2,5,6,7,36,37,38] (.block 3 (sr [2,5,6,7,9,36,37,38] [oI 40 1 36 38,oL 41 40,oM 9 41] (.Ax [oM 42 5,oM 43 9,⟨none,.D9 (.i .i64) (.t 42) (.t 43) (.c (.b true)),none⟩]))) (.Ax [Aa 44 .add 38 1,oM 38 44])))))))) .skip))) (.Ax [oM 16 7,Aa 17 .sub 16 1,oM 7 17])))))) (sr [6] [oM 45 6,oC 46 135 45] (sr [4] [oM 47 6,oC 48 99 47,oM 4 48] .ret))))))
def lE:CT 210 49 sF [4]:=cT Tryz.func210 [2]
abbrev sE:AJ:=(sr [0] [As 2 false] (sr [2] [oM 3 0,Aa 4 .geq 3 (-1000000000),oM 5 4,A7 6 0 5,EE 7 .leq 6 1000000000 5,oP 8 5 7,oM 2 8] .ret))
def lD:CT 211 9 sE [2]:=cT Tryz.func211
abbrev sD:AJ:=(sr [0,1] [oo 4 (.mv (.c (.i .u64 0))),oo 5 (.mv (.c (.i .u64 0)))] (.seq [0,1] (.cond (.c (.b false)) (sr [6,7] [oM 11 0,oo 12 (.conv .u32 (.t 11)),oM 13 1,oo 14 (.conv .u32 (.t 13)),B3 15 251 12 14,oM 10 15,oX 16 0 10,oX 17 1 10,oM 6 16,oM 7 17] (sr [4,5] [oM 18 6,oo 19 (.conv .u64 (.t 18)),oM 20 7,oo 21 (.conv .u64 (.t 20)),oM 4 19,oM 5 21] .ret)) .skip) (sr [8,9] [oM 23 0,oM 24 1,B3 25 252 23 24,oM 22 25,oX 26 0 22,oX 27 1 22,oM 8 26,oM 9 27] (sr [4,5] [oM 28 8,oM 29 9,oM 4 28,oM 5 29] .ret))))
def lC:CT 212 30 sD [4,5]:=cT Tryz.func212
abbrev sC:AJ:=(sr [1,2,3,4] [Bb 4 0] (sr [1,2,3,4,5] [oo 5 (.alloc [.NS])] (sr [2,3,5] [oo 6 (.IW (.func 214) [] [(.t 4),(.t 1),(.t 5)]),oS 1 5 6] (.Ax [oL 7 5,oL 8 2,Az 9 2 3,oo 10 (.CI (.t 7) [(.t 8),(.t 9)])]))))
def lB:CT 213 11 sC []:=cT Tryz.func213 [4]
abbrev sB:AJ:=(sr [0,2,3,4,6] [Bb 6 1,As 7 false] (.seq [0,3,4,6] (sr [0,3,4,6,15] [oL 11 2,oM 12 0,Az 13 2 6,oo 14 (.CI (.t 11) [(.t 12),(.t 13)]),oN 15 14] (.cond (.t 15) (sr [7] [As 7 false] .ret) .skip)) (.seq [] (sr [0,3,4,6,21,22,23] [oF 16 4 3,oL 17 16,oM 18 0,oI 19 3 17 18,oF 20 2 19,oL 21 20,oE 22 21,BI 23 0] (.block 0 (.loop [0,3,4,6,21,22,23] (sr [0,3,4,6,21,22,23,24] [oG 24 .lss 23 22] (.seq [0,3,4,6,21,22,23] (.cond (.t 24) .skip (.exit 0)) (.seq [0,3,4,6,21,22,23] (.block 1 (sr [0,3,4,6,8,9,21,22,23] [oM 25 23,oI 26 1 21 23,oL 27 26,oM 8 25,oM 9 27] (sr [0,3,4,6,8,9,10,21,22,23] [oF 28 0 6,oL 29 28,oF 30 1 6,oL 31 30,Aa 32 .add 31 1,oo 33 (.build [(.i .i64 0),(.i .i64 0)] [(0,1,(.t 29)),(1,1,(.t 32))]),oo 10 (.alloc [(.i .i64 0),(.i .i64 0)]),oS 2 10 33] (.seq [0,3,4,6,9,10,21,22,23] (sr [0,3,4,6,9,10,21,22,23,44] [oF 34 4 3,oL 35 34,oM 36 0,oI 37 3 35 36,oF 38 0 37,oL 39 38,Aa 40 .eql 39 9,oM 41 40,A7 42 8 41,EE 43 .eql 42 1 41,oP 44 41 43] (.cond (.t 44) (.Ax [oF 45 0 10,oL 46 45,Aa 47 .add 46 1,oF 48 0 10,oS 1 48 47]) .skip)) (sr [0,3,4,6,21,22,23,53] [oL 49 4,oM 50 9,Az 51 2 10,oo 52 (.CI (.t 49) [(.t 50),(.t 51)]),oN 53 52] (.cond (.t 53) (sr [7] [As 7 false] .ret) .skip)))))) (.Ax [Aa 54 .add 23 1,oM 23 54]))))))) (sr [7] [As 7 true] .ret))))
def Zq:CT 214 55 sB [7]:=cT Tryz.func214 [6]
abbrev sA:AJ:=(sr [0] [BI 2 0] (.seq [] (sr [4] [oM 3 0,oN 4 3] (.cond (.t 4) (sr [2] [BI 2 2] .ret) .skip)) (sr [2] [BI 2 0] .ret)))
def lA:CT 215 5 sA [2]:=cT Tryz.func215
abbrev r9:AJ:=(sr [0] [Cl 2] (sr [2] [oM 3 0,oM 4 0,oE 5 4,oM 6 0,oE 7 6,oo 8 (.slice 1 (.t 3) none (some (.t 5)) (some (.t 7))),oM 2 8] .ret))
def k9:CT 216 9 r9 [2]:=cT Tryz.func216
abbrev r8:AJ:=(sr [0,1] [As 3 false] (sr [3] [oL 4 1,oM 5 0,oo 6 (.CI (.t 4) [(.t 5)]),oN 7 6,oM 3 7] .ret))
def Zp:CT 217 8 r8 [3]:=cT Tryz.func217
abbrev r7:AJ:=(sr [0,1] [As 4 false] (sr [4] [oM 5 0,oM 6 1,B3 7 253 5 6,Aa 8 .geq 7 0,oM 4 8] .ret))
def k8:CT 218 9 r7 [4]:=cT Tryz.func218
abbrev r6:AJ:=(sr [1,2] [Bb 2 0,As 3 false] (sr [3] [oL 4 1,Az 5 6 2,oo 6 (.CI (.t 4) [(.t 5)]),oN 7 6,oM 3 7] .ret))
def k7:CT 219 8 r6 [3]:=cT Tryz.func219 [2]
abbrev r5:AJ:=(sr [0] [BI 2 0] (.seq [] (sr [3] [oM 3 0] (.block 0 (sr [3,4] [Aa 5 .eql 3 5,oM 4 5] (.cond (.t 4) (sr [2] [BI 2 1] .ret) (.seq [6] (sr [3,6] [Aa 7 .eql 3 6,oM 6 7] (.cond (.t 6) .skip (.Ax [Aa 8 .eql 3 7,oM 6 8]))) (.cond (.t 6) (sr [2] [BI 2 2] .ret) .skip)))))) (sr [2] [BI 2 0] .ret)))
def kz:CT 220 9 r5 [2]:=cT Tryz.func220
abbrev rz:AJ:=(sr [0,1] [As 4 false] (sr [4] [oM 5 1,oE 6 5,Aa 7 .leq 6 2,oM 8 7,A7 9 1 8,A7 10 0 8,Cw 11 (.IW (.func 254) [(.t 10)] []) 8,Cw 12 (.call 177 [(.t 9),(.t 11)]) 8,oP 13 8 12,oM 4 13] .ret))
def ky:CT 221 14 rz [4]:=cT Tryz.func221
abbrev ry:AJ:=(sr [0,1] [As 4 false] (sr [4] [oM 5 1,Aa 6 .geq 5 0,oM 7 6,A7 8 1 7,A7 9 0 7,Cw 10 (.Fa (.t 9)) 7,BM 11 0 10 7,BM 12 0 11 7,Av 13 12 7,F1 14 13 7,Cw 15 (.bin .add (.c (.i .i64 3)) (.t 14)) 7,Dk 16 .lss 8 15 7,oP 17 7 16,oM 4 17] .ret))
def kx:CT 222 18 ry [4]:=cT Tryz.func222
abbrev ru:AJ:=(sr [1,2,3,4] [Bb 4 0,As 5 false] (sr [5] [oL 6 1,Az 7 6 4,oL 8 2,oL 9 3,Aa 10 .sub 9 1,Qx 11 181 6 7 8 10,oM 5 11] .ret))
def ku:CT 223 12 ru [5]:=cT Tryz.func223 [4]
abbrev rq:AJ:=(sr [0,1,2,4] [oo 4 (.alloc [.NS])] (sr [0,1,2,4] [oo 5 (.IW (.func 225) [] [(.t 4)]),oS 1 4 5] (.Ax [oL 6 4,Az 7 6 1,oL 8 2,oM 9 0,oo 10 (.CI (.t 6) [(.t 7),(.t 8),(.t 9)])])))
def kr:CT 224 11 rq []:=cT Tryz.func224
abbrev rn:AJ:=(sr [3,4,5,6] [Bb 4 0,Bb 5 1,Bb 6 2,As 7 false] (.seq [3,4,5,6] (.block 0 (sr [3,4,5,6,8] [oF 9 0 4,oL 10 9,Aa 11 .eql 10 1,oM 8 11] (.cond (.t 8) (sr [7] [oL 12 5,oM 13 12,BH 14 6 13,Eb 15 (.CI (.t 14) [(.c (.l [] true))]) 13,oQ 16 13 15,oM 7 16] .ret) (sr [3,4,5,6,17] [oF 18 0 4,oL 19 18,Aa 20 .eql 19 5,oM 17 20] (.cond (.t 17) (.seq [7] (.BX [7] [dO 0 (oL 21 3),dO 1 (oF 22 5 4),dO 2 (oL 23 22),dO 3 (oo 24 (.Bg 6 none (.t 23) (.c (.i .i64 0)))),dO 4 (Az 25 6 24),dO 5 (oL 26 5),dO 6 (oN 27 26),dO 7 (oL 28 6),dO 8 (oo 29 (.CI (.t 21) [(.t 25),(.t 27),(.t 28)])),dO 9 (oM 7 29)]) .ret) (sr [3,4,5,6,30] [Az 31 6 4,oC 32 150 31,oM 30 32] (.cond (.t 30) (sr [7] [oL 33 6,Az 34 6 4,oL 35 5,oo 36 (.build [(.i .i64 0),(.i .i64 0),(.l [] true),(.i .i64 0),(.i .i64 0),(.l [] true),(.b false)] [(0,6,(.t 34)),(6,1,(.t 35))]),oo 37 (.Ab 7 1 [(.i .i64 0),(.i .i64 0),(.l [] true),(.i .i64 0),(.i .i64 0),(.l [] true),(.b false)] [(0,(.t 36))]),oo 38 (.CI (.t 33) [(.t 37)]),oM 7 38] .ret) (sr [3,4,5,6,39] [oL 40 5,oF 41 0 4,oL 42 41,Aa 43 .eql 42 6,oo 44 (.UG false (.t 40) (.t 43)),oM 39 44] (.cond (.t 39) (.seq [7] (.BX [7] [dO 0 (oL 45 3),dO 1 (oF 46 5 4),dO 2 (oL 47 46),dO 3 (oo 48 (.Bg 6 none (.t 47) (.c (.i .i64 0)))),dO 4 (Az 49 6 48),dO 5 (oL 50 5),dO 6 (oL 51 6),dO 7 (oo 52 (.CI (.t 45) [(.t 49),(.t 50),(.t 51)])),dO 8 (oM 53 52),dO 9 (Av 54 3 53),dO 10 (BM 55 5 4 53),dO 11 (Av 56 55 53),dO 12 (Cw 57 (.Bg 6 none (.t 56) (.c (.i .i64 1))) 53),dO 13 (Hm 58 6 57 53),dO 14 (Av 59 5 53),dO 15 (Av 60 6 53),dO 16 (Cw 61 (.CI (.t 54) [(.t 58),(.t 59),(.t 60)]) 53),dO 17 (oP 62 53 61),dO 18 (oM 7 62)]) .ret) .skip))))))))) (.seq [7] (.BX [7] [dO 0 (oL 63 3),dO 1 (oF 64 5 4),dO 2 (oL 65 64),dO 3 (oo 66 (.Bg 6 none (.t 65) (.c (.i .i64 0)))),dO 4 (Az 67 6 66),dO 5 (oL 68 5),dO 6 (oo 69 (.IW (.func 226) [] [(.t 3),(.t 4),(.t 5),(.t 6)])),dO 7 (oo 70 (.CI (.t 63) [(.t 67),(.t 68),(.t 69)])),dO 8 (oM 7 70)]) .ret)))
def kq:CT 225 71 rn [7]:=cT Tryz.func225 [4,5,6]
abbrev rm:AJ:=(sr [1,2,3,4,5] [Bb 5 0,As 6 false] (.seq [6] (.BX [6] [dO 0 (oL 7 1),dO 1 (oF 8 5 2),dO 2 (oL 9 8),dO 3 (oo 10 (.Bg 6 none (.t 9) (.c (.i .i64 1)))),dO 4 (Az 11 6 10),dO 5 (oL 12 3),dO 6 (oo 13 (.IW (.func 227) [] [(.t 4),(.t 5)])),dO 7 (oo 14 (.CI (.t 7) [(.t 11),(.t 12),(.t 13)])),dO 8 (oM 6 14)]) .ret))
def ko:CT 226 15 rm [6]:=cT Tryz.func226 [5]
abbrev rl:AJ:=(sr [0,1,2] [As 4 false] (.seq [4] (.BX [4] [dO 0 (oL 5 1),dO 1 (oL 6 2),dO 2 (oM 7 0),⟨3,B3 8 228 6 7,[0],[oL 5 1]⟩,dO 4 (oo 9 (.CI (.t 5) [(.t 8)])),dO 5 (oM 4 9)]) .ret))
def kk:CT 227 10 rl [4]:=cT Tryz.func227
abbrev rj:AJ:=(sr [0,1] [Cl 4] (sr [1,5] [oM 8 0,oC 9 255 8,oM 5 9] (.seq [5] (sr [5,10,11,12] [oM 10 1,oE 11 10,BI 12 0] (.block 0 (.loop [5,10,11,12] (sr [5,10,11,12,13] [oG 13 .lss 12 11] (.seq [5,10,11,12] (.cond (.t 13) .skip (.exit 0)) (.seq [5,10,11,12] (.block 1 (sr [5,7,10,11,12] [oI 14 7 10 12,Az 15 7 14,oo 7 (.alloc [(.i .i64 0),(.i .i64 0),(.l [] true),(.i .i64 0),(.i .i64 0),(.l [] true),(.b false)]),oS 7 7 15] (sr [5,7,10,11,12,19] [oM 16 5,oo 17 (.IW (.func 257) [] [(.t 7)]),B3 18 256 16 17,oN 19 18] (.cond (.t 19) (.Ax [oM 20 5,Az 21 7 7,oo 22 (.Ab 7 1 [(.i .i64 0),(.i .i64 0),(.l [] true),(.i .i64 0),(.i .i64 0),(.l [] true),(.b false)] [(0,(.t 21))]),oA 23 7 88 20 22,oM 5 23]) .skip)))) (.Ax [Aa 24 .add 12 1,oM 12 24]))))))) (sr [4] [oM 25 5,oM 4 25] .ret))))
def kg:CT 228 26 rj [4]:=cT Tryz.func228
def fh:List Ag:=[oo 5 (.cd 257 (.a []) true (.t 4)),
    oM 3 5,
    oX 6 0 3,
    oX 7 1 3,
    oo 1 (.alloc []),
    oS 0 1 6,
    oM 2 7]
abbrev Z8:AJ:=(sr [0,8] [oM 8 2] (.cond (.t 8) (.Ax [⟨none,.store 1 (.t 0) (.c (.b false)),none⟩]) .skip))
def iJ:Tryz.f229.body.bind (resRec Tryz.prog Tryz.f229.ntmps [] [])=some (4,fh,erase Z8):=by kernel_rfl
def Wr {args:List V} (hn:args.length≤9) {m:Option V} {σ:AH} {Q:AH→Prop} (h:W Tryz.prog (.seq [0,2] (.Ax fh) Z8) (PU Q) (put (some 4) (m.getD .Ie) (C5 0 args)) σ):Ms Tryz.prog 229 args m σ Q:=
 Qg Tryz.func229 (by kernel_rfl) iJ rfl hn (gg h)
abbrev ri:AJ:=(sr [0,1] [oo 4 (.mv (.c .pn))] (sr [1,5] [oM 8 0,oo 9 (.Ip),oo 10 (.build [.pn,.mn] [(0,1,(.t 8)),(1,1,(.t 9))]),Bb 11 10,oM 5 11] (.seq [5] (sr [5,12,13,14] [oM 12 1,oE 13 12,BI 14 0] (.block 0 (.loop [5,12,13,14] (sr [5,12,13,14,15] [oG 15 .lss 14 13] (.seq [5,12,13,14] (.cond (.t 15) .skip (.exit 0)) (.seq [5,12,13,14] (.block 1 (sr [5,7,12,13,14] [oI 16 7 12 14,Az 17 7 16,oo 7 (.alloc [(.i .i64 0),(.i .i64 0),(.l [] true),(.i .i64 0),(.i .i64 0),(.l [] true),(.b false)]),oS 7 7 17] (.Ax [oM 18 5,Az 19 7 7,B3 20 259 18 19]))) (.Ax [Aa 21 .add 14 1,oM 14 21]))))))) (sr [4] [oM 22 5,oM 4 22] .ret))))
def ke:CT 230 23 ri [4]:=cT Tryz.func230 [11]
abbrev rh:AJ:=(sr [0,3] [BI 3 0] (.block 0 (.loop [0,3] (sr [0,3,4] [Aa 4 .lss 3 3] (.seq [0,3] (.cond (.t 4) .skip (.exit 0)) (.seq [0,3] (.block 1 (sr [0,2,3] [oM 5 3,oM 2 5] (sr [0,3,10] [oM 6 0,oM 7 2,oo 8 (.build [(.i .i64 0),(.i .i64 0),(.i .i64 0),(.i .i64 0)] [(0,1,(.t 7))]),B3 9 260 6 8,oN 10 9] (.cond (.t 10) (.Ax [oo 11 (.build [] []),oo 12 (.Gb 257 (.t 11)),⟨none,.panic (.t 12),none⟩]) .skip)))) (.Ax [Aa 13 .add 3 1,oM 3 13])))))))
def kY:CT 231 14 rh []:=cT Tryz.func231
abbrev rf:AJ:=(sr [2,3] [Bb 2 0,Bb 3 1,As 4 false] (.seq [2,3] (.seq [2,3,48] (.Ax (oF 6 0 2::oL 7 6::oF 8 0 3::oL 9 8::oG 10 .neq 7 9::oM 11 10::BZ 12 1 2 11::BH 13 12 11::BZ 14 1 3 11::BH 15 14 11::GD 16 .neq 13 15 11::oQ 17 11 16::oM 18 17::BZ 19 3 2 18::BH 20 19 18::BZ 21 3 3 18::BH 22 21 18::GD 23 .neq 20 22 18::oQ 24 18 23::oM 25 24::BZ 26 4 2 25::BH 27 26 25::BZ 28 4 3 25::BH 29 28 25::GD 30 .neq 27 29 25::oQ 31 25 30::oM 32 31::BZ 33 2 2 32::BH 34 33 32::BZ 35 2 3 32::BH 36 35 32::Eb 37 (.call 30 [(.t 34),(.t 36)]) 32::HF 38 37 32::oQ 39 32 38::oM 40 39::BZ 41 5 2 40::BH 42 41 40::FJ 43 42 40::BZ 44 5 3 40::BH 45 44 40::FJ 46 45 40::GD 47 .neq 43 46 40::oQ 48 40 47:: [])) (.cond (.t 48) (sr [4] [As 4 false] .ret) .skip)) (.seq [] (sr [2,3,51,52] [oF 49 5 2,oL 50 49,oE 51 50,BI 52 0] (.block 0 (.loop [2,3,51,52] (sr [2,3,51,52,53] [oG 53 .lss 52 51] (.seq [2,3,51,52] (.cond (.t 53) .skip (.exit 0)) (.seq [2,3,51,52] (.block 1 (sr [2,3,5,51,52] [oM 54 52,oM 5 54] (.seq [2,3,51,52,66] (.BX [2,3,51,52,66] [dO 0 (oF 55 5 2),dO 1 (oL 56 55),dO 2 (oM 57 5),dO 3 (oI 58 6 56 57),dO 4 (Az 59 6 58),dO 5 (oF 60 5 3),dO 6 (oL 61 60),dO 7 (oM 62 5),dO 8 (oI 63 6 61 62),dO 9 (Az 64 6 63),dO 10 (B3 65 232 59 64),dO 11 (oN 66 65)]) (.cond (.t 66) (sr [4] [As 4 false] .ret) .skip)))) (.Ax [Aa 67 .add 52 1,oM 52 67]))))))) (sr [4] [As 4 true] .ret))))
def kX:CT 232 68 rf [4]:=cT Tryz.func232 [2,3]
abbrev rb:AJ:=(sr [1] [Bb 1 0,BI 2 0,As 3 false] (sr [1,4,5] [BI 4 (-1000000000),BI 5 1000000000] (sr [1,4,5,6] [Cl 6] (.seq [1,4,5,6] (sr [1,4,5,6,16,17,18] [Az 15 6 1,oC 16 261 15,oE 17 16,BI 18 0] (.block 0 (.loop [1,4,5,6,16,17,18] (sr [1,4,5,6,16,17,18,19] [oG 19 .lss 18 17] (.seq [1,4,5,6,16,17,18] (.cond (.t 19) .skip (.exit 0)) (.seq [1,4,5,6,16,17,18] (.block 1 (sr [1,4,5,6,8,16,17,18] [oI 20 6 16 18,Az 21 6 20,oo 8 (.alloc [(.i .i64 0),(.i .i64 0),(.l [] true),(.i .i64 0),(.i .i64 0),(.l [] true)]),oS 6 8 21] (sr [1,4,5,6,9,10,16,17,18] [Az 23 6 8,oC 24 262 23,oM 22 24,oX 25 0 22,oX 26 1 22,oo 9 (.alloc [(.i .i64 0),(.i .i64 0),(.l [] true),(.i .i64 0),(.i .i64 0),(.l [] true)]),oS 6 9 25,oM 10 26] (.block 2 (sr [1,4,5,6,9,10,16,17,18,35] [oF 36 0 9,oL 37 36,Aa 38 .eql 37 2,oM 35 38] (.cond (.t 35) (sr [1,4,5,6,16,17,18,43] [oF 39 3 9,oL 40 39,Aa 41 .gtr 40 1,oM 42 10,oo 43 (.UG true (.t 41) (.t 42))] (.cond (.t 43) (sr [2,3] [BI 2 0,As 3 false] .ret) .skip)) (sr [1,4,5,6,9,10,16,17,18,44] [oF 45 0 9,oL 46 45,Aa 47 .eql 46 3,oM 48 47,A7 49 10 48,oP 50 48 49,oM 44 50] (.cond (.t 44) (.Ax [oM 51 4,oF 52 4 9,oL 53 52,oo 54 (.Ld (.t 51) (.t 53)),oM 4 54]) (sr [1,4,5,6,9,10,16,17,18,55] [oF 56 0 9,oL 57 56,Aa 58 .eql 57 3,oM 55 58] (.cond (.t 55) (.Ax [oM 59 5,oF 60 4 9,oL 61 60,Aa 62 .sub 61 1,oo 63 (.Q3 (.t 59) (.t 62)),oM 5 63]) (sr [1,4,5,6,9,16,17,18,64] [oM 65 10,oM 64 65] (.cond (.t 64) (.Ax [oM 66 6,oF 67 4 9,oL 68 67,oo 69 (.Ab 1 1 [(.i .i64 0)] [(0,(.t 68))]),oA 70 1 8 66 69,oM 6 70]) (.BX [1,4,5,6,16,17,18] [dO 0 (oM 27 4),dO 1 (oF 28 4 9),dO 2 (oL 29 28),dO 3 (oo 30 (.Ld (.t 27) (.t 29))),dO 4 (oM 31 5),dO 5 (oF 32 4 9),dO 6 (oL 33 32),dO 7 (oo 34 (.Q3 (.t 31) (.t 33))),dO 8 (oM 4 30),dO 9 (oM 5 34)]))))))))))))) (.Ax [Aa 71 .add 18 1,oM 18 71]))))))) (.seq [] (sr [1,5,6,11] [oM 72 4,oM 11 72] (.block 3 (.loop [1,5,6,11] (.seq [1,5,6,11] (sr [1,5,6,11,75] [oM 73 11,oM 74 5,oG 75 .leq 73 74] (.cond (.t 75) .skip (.exit 3))) (.seq [1,5,6,11] (.block 4 (sr [1,5,6,11,12] [As 12 true] (.seq [1,5,6,11,12] (sr [1,5,6,11,12,78,79,80] [oM 78 6,oE 79 78,BI 80 0] (.block 5 (.loop [1,5,6,11,12,78,79,80] (sr [1,5,6,11,12,78,79,80,81] [oG 81 .lss 80 79] (.seq [1,5,6,11,12,78,79,80] (.cond (.t 81) .skip (.exit 5)) (.seq [1,5,6,11,12,78,79,80] (.block 6 (sr [1,5,6,11,12,14,78,79,80] [oI 82 1 78 80,oL 83 82,oM 14 83] (.Ax [oM 84 12,oM 85 84,A7 86 14 85,A7 87 11 85,Dk 88 .neq 86 87 85,oP 89 85 88,oM 12 89]))) (.Ax [Aa 90 .add 80 1,oM 80 90]))))))) (sr [1,5,6,11,91] [oM 91 12] (.cond (.t 91) (sr [2,3] [oM 92 11,Az 93 6 1,oC 94 263 93,oM 2 92,oM 3 94] .ret) .skip))))) (.Ax [oM 76 11,Aa 77 .add 76 1,oM 11 77])))))) (sr [2,3] [BI 2 0,As 3 false] .ret))))))
def kW:CT 233 95 rb [2,3]:=cT Tryz.func233 [1]
abbrev ra:AJ:=(sr [1] [Bb 1 0,As 2 false] (.seq [1] (sr [1,9,10,11] [Az 8 6 1,oC 9 261 8,oE 10 9,BI 11 0] (.block 0 (.loop [1,9,10,11] (sr [1,9,10,11,12] [oG 12 .lss 11 10] (.seq [1,9,10,11] (.cond (.t 12) .skip (.exit 0)) (.seq [1,9,10,11] (.block 1 (sr [1,4,9,10,11] [oI 13 6 9 11,Az 14 6 13,oo 4 (.alloc [(.i .i64 0),(.i .i64 0),(.l [] true),(.i .i64 0),(.i .i64 0),(.l [] true)]),oS 6 4 14] (sr [1,5,6,9,10,11] [Az 16 6 4,oC 17 262 16,oM 15 17,oX 18 0 15,oX 19 1 15,oo 5 (.alloc [(.i .i64 0),(.i .i64 0),(.l [] true),(.i .i64 0),(.i .i64 0),(.l [] true)]),oS 6 5 18,oM 6 19] (sr [1,6,7,9,10,11] [oF 20 0 5,oL 21 20,Aa 22 .eql 21 2,oM 23 22,BM 24 3 5 23,Av 25 24 23,EE 26 .eql 25 0 23,A7 27 26 23,BZ 28 3 5 27,BH 29 28 27,CX 30 .eql 29 2 27,Cw 31 (.pick (.t 27) (.c (.b true)) (.t 30)) 23,oP 32 23 31,oM 7 32] (sr [1,9,10,11,35] [oM 33 7,oM 34 6,oo 35 (.UG false (.t 33) (.t 34))] (.cond (.t 35) (sr [2] [As 2 false] .ret) .skip)))))) (.Ax [Aa 36 .add 11 1,oM 11 36]))))))) (sr [2] [Az 37 6 1,oC 38 263 37,oM 2 38] .ret)))
def kV:CT 234 39 ra [2]:=cT Tryz.func234 [1]
abbrev rZ:AJ:=(sr [1] [Bb 1 0,Cl 2,As 3 false] (sr [1,4] [oF 19 0 1,oF 20 0 19,oL 21 20,oE 22 21,oo 23 (.bin .add (.c (.i .i64 3)) (.t 22)),oo 24 (.Ex 1 1 [(.b false)] (.t 23) (.t 23)),oM 4 24] (sr [1,4,5] [oF 25 0 1,oF 26 0 25,oL 27 26,oE 28 27,oo 29 (.bin .add (.c (.i .i64 3)) (.t 28)),oo 30 (.Ex 1 1 [(.b false)] (.t 29) (.t 29)),oM 5 30] (.seq [1,4,5] (sr [1,4,5,32,33,34] [Az 31 6 1,oC 32 261 31,oE 33 32,BI 34 0] (.block 0 (.loop [1,4,5,32,33,34] (sr [1,4,5,32,33,34,35] [oG 35 .lss 34 33] (.seq [1,4,5,32,33,34] (.cond (.t 35) .skip (.exit 0)) (.seq [1,4,5,32,33,34] (.block 1 (sr [1,4,5,7,32,33,34] [oI 36 6 32 34,Az 37 6 36,oo 7 (.alloc [(.i .i64 0),(.i .i64 0),(.l [] true),(.i .i64 0),(.i .i64 0),(.l [] true)]),oS 6 7 37] (sr [1,4,5,8,9,32,33,34] [Az 39 6 7,oC 40 262 39,oM 38 40,oX 41 0 38,oX 42 1 38,oo 8 (.alloc [(.i .i64 0),(.i .i64 0),(.l [] true),(.i .i64 0),(.i .i64 0),(.l [] true)]),oS 6 8 41,oM 9 42] (.block 2 (sr [1,4,5,8,9,32,33,34,47] [oF 48 0 8,oL 49 48,Aa 50 .neq 49 2,oM 51 50,BZ 52 3 8 51,BH 53 52 51,CX 54 .eql 53 1 51,oQ 55 51 54,oM 56 55,BZ 57 3 8 56,BH 58 57 56,CX 59 .eql 58 2 56,oQ 60 56 59,oM 47 60] (.cond (.t 47) (sr [1,4,5,32,33,34,62] [oM 61 9,oN 62 61] (.cond (.t 62) (sr [2,3] [Cl 2,As 3 false] .ret) .skip)) (sr [1,4,5,8,32,33,34,63] [oM 64 9,oM 63 64] (.cond (.t 63) (.Ax [oM 65 5,oF 66 3 8,oL 67 66,oI 68 1 65 67,⟨none,.store 1 (.t 68) (.c (.b true)),none⟩]) (.Ax [oM 43 4,oF 44 3 8,oL 45 44,oI 46 1 43 45,⟨none,.store 1 (.t 46) (.c (.b true)),none⟩]))))))))) (.Ax [Aa 69 .add 34 1,oM 34 69]))))))) (.seq [1,4,5] (sr [1,4,5,71,72,73] [Az 70 6 1,oC 71 264 70,oE 72 71,BI 73 0] (.block 3 (.loop [1,4,5,71,72,73] (sr [1,4,5,71,72,73,74] [oG 74 .lss 73 72] (.seq [1,4,5,71,72,73] (.cond (.t 74) .skip (.exit 3)) (.seq [1,4,5,71,72,73] (.block 4 (sr [1,4,5,11,71,72,73] [oI 75 1 71 73,oL 76 75,oM 11 76] (sr [1,4,5,11,12,71,72,73] [Az 77 6 1,oM 78 11,B3 79 265 77 78,oo 12 (.alloc [(.l [] true),(.l [] true),(.l [] true),(.i .i64 0),(.l [] true),(.b false)]),oS 6 12 79] (.seq [1,4,5,11,13,14,71,72,73] (.BX [1,4,5,11,13,14,71,72,73] [dO 0 (Az 80 6 12),dO 2 (Az 82 6 12),⟨1,oC 81 266 80,[2],[Az 82 6 12]⟩,dO 3 (oC 83 185 82),dO 4 (oM 13 81),dO 5 (oM 14 83)]) (.seq [1,4,5,11,13,14,71,72,73] (sr [1,4,5,11,13,14,71,72,73,89] [oM 84 13,oN 85 84,oM 86 85,A7 87 14 86,Lb 88 87 86,oP 89 86 88] (.cond (.t 89) (sr [2,3] [Cl 2,As 3 false] .ret) .skip)) (.seq [1,4,5,11,14,71,72,73] (sr [1,4,5,11,14,71,72,73,91] [oM 90 13,oN 91 90] (.cond (.t 91) (.Ax [oM 92 4,oF 93 0 1,oF 94 1 93,oL 95 94,oM 96 11,oI 97 1 95 96,oL 98 97,oI 99 1 92 98,⟨none,.store 1 (.t 99) (.c (.b true)),none⟩]) .skip)) (sr [1,4,5,11,71,72,73,101] [oM 100 14,oN 101 100] (.cond (.t 101) (.Ax [oM 102 5,oF 103 0 1,oF 104 1 103,oL 105 104,oM 106 11,oI 107 1 105 106,oL 108 107,oI 109 1 102 108,⟨none,.store 1 (.t 109) (.c (.b true)),none⟩]) .skip)))))))) (.Ax [Aa 110 .add 73 1,oM 73 110]))))))) (sr [1,4,5] [oM 111 4,oo 112 (.Bg 1 none (.t 111) (.c (.i .i64 0))),⟨none,.store 1 (.t 112) (.c (.b false)),none⟩] (.seq [1,4,5] (sr [1,4,5,115] [oM 113 5,oo 114 (.Bg 1 none (.t 113) (.c (.i .i64 0))),oL 115 114] (.cond (.t 115) (sr [2,3] [Cl 2,As 3 false] .ret) .skip)) (.seq [4,5] (sr [1,4,5,15] [oM 116 4,oE 117 116,Aa 118 .sub 117 1,oM 15 118] (.block 5 (.loop [1,4,5,15] (.seq [1,4,5,15] (sr [1,4,5,15,120] [oM 119 15,Aa 120 .geq 119 3] (.cond (.t 120) .skip (.exit 5))) (.seq [1,4,5,15] (.block 6 (sr [1,4,5,15,126] [oM 123 4,oM 124 15,oI 125 1 123 124,oL 126 125] (.cond (.t 126) (sr [1,4,5,15,133,134,135] [oF 127 0 1,oF 128 0 127,oL 129 128,oM 130 15,Aa 131 .sub 130 3,oI 132 1 129 131,oL 133 132,oE 134 133,BI 135 0] (.block 7 (.loop [1,4,5,15,133,134,135] (sr [1,4,5,15,133,134,135,136] [oG 136 .lss 135 134] (.seq [1,4,5,15,133,134,135] (.cond (.t 136) .skip (.exit 7)) (.seq [1,4,5,15,133,134,135] (.block 8 (sr [1,4,5,15,17,133,134,135] [oI 137 1 133 135,oL 138 137,oM 17 138] (.Ax [oM 139 4,oM 140 17,oI 141 1 139 140,⟨none,.store 1 (.t 141) (.c (.b true)),none⟩]))) (.Ax [Aa 142 .add 135 1,oM 135 142]))))))) .skip))) (.Ax [oM 121 15,Aa 122 .sub 121 1,oM 15 122])))))) (.seq [4] (sr [4,5,144,145] [oM 143 4,oE 144 143,BI 145 0] (.block 9 (.loop [4,5,144,145] (sr [4,5,144,145,146] [oG 146 .lss 145 144] (.seq [4,5,144,145] (.cond (.t 146) .skip (.exit 9)) (.seq [4,5,144,145] (.block 10 (sr [4,5,18,144,145] [oM 147 145,oM 18 147] (sr [4,5,144,145,157] [oM 148 4,oM 149 18,oI 150 1 148 149,oL 151 150,oM 152 151,A7 153 5 152,A7 154 18 152,Ii 155 1 153 154 152,Av 156 155 152,oP 157 152 156] (.cond (.t 157) (sr [2,3] [Cl 2,As 3 false] .ret) .skip)))) (.Ax [Aa 158 .add 145 1,oM 145 158]))))))) (sr [2,3] [oM 159 4,oM 2 159,As 3 true] .ret))))))))))
def kU:CT 236 160 rZ [2,3]:=cT Tryz.func236 [1]
abbrev rY:AJ:=(sr [0,1] [As 4 false] (sr [4] [oM 5 0,oM 6 1,B3 7 267 5 6,Aa 8 .geq 7 0,oM 4 8] .ret))
def kT:CT 237 9 rY [4]:=cT Tryz.func237
abbrev rX:AJ:=(sr [1,2] [Bb 2 0,As 3 false] (sr [3] [oL 4 1,Az 5 2 2,oo 6 (.CI (.t 4) [(.t 5)]),oN 7 6,oM 3 7] .ret))
def kS:CT 238 8 rX [3]:=cT Tryz.func238 [2]
abbrev rW:AJ:=(sr [0,1] [BI 4 0] (.seq [] (sr [0,1,7,8] [oM 6 0,oE 7 6,BI 8 0] (.block 0 (.loop [0,1,7,8] (sr [0,1,7,8,9] [oG 9 .lss 8 7] (.seq [0,1,7,8] (.cond (.t 9) .skip (.exit 0)) (.seq [0,1,7,8] (.block 1 (sr [0,1,5,7,8] [oM 10 8,oM 5 10] (sr [0,1,5,7,8,16] [oM 11 1,oM 12 0,oM 13 5,oI 14 2 12 13,Az 15 2 14,oo 16 (.CI (.t 11) [(.t 15)])] (.cond (.t 16) (sr [4] [oM 17 5,oM 4 17] .ret) .skip)))) (.Ax [Aa 18 .add 8 1,oM 8 18]))))))) (sr [4] [BI 4 (-1)] .ret)))
def kR:CT 239 19 rW [4]:=cT Tryz.func239
abbrev rV:AJ:=(sr [0,1] [Cl 4] (.seq [0,1] (sr [0,1,6] [oM 5 1,Aa 6 .lss 5 3] (.cond (.t 6) (sr [4] [Cl 4] .ret) .skip)) (sr [4] [oM 7 0,oM 8 1,Aa 9 .sub 8 3,oI 10 1 7 9,oL 11 10,oM 4 11] .ret)))
def kQ:CT 240 12 rV [4]:=cT Tryz.func240
abbrev rU:AJ:=(sr [0,1] [Cl 4] (sr [0,1,5] [Cl 5] (.seq [5] (sr [0,1,5,6] [BI 6 0] (.block 0 (.loop [0,1,5,6] (.seq [0,1,5,6] (sr [0,1,5,6,10] [oM 7 6,oM 8 0,oE 9 8,oG 10 .lss 7 9] (.cond (.t 10) .skip (.exit 0))) (.seq [0,1,5,6] (.block 1 (sr [0,1,5,6,18] [oM 13 0,oM 14 6,oI 15 1 13 14,oL 16 15,oM 17 1,oG 18 .neq 16 17] (.cond (.t 18) (.Ax [oM 19 5,oM 20 0,oM 21 6,oI 22 1 20 21,oL 23 22,oo 24 (.Ab 1 1 [(.i .i64 0)] [(0,(.t 23))]),oA 25 1 8 19 24,oM 5 25]) .skip))) (.Ax [oM 11 6,Aa 12 .add 11 1,oM 6 12])))))) (sr [4] [oM 26 5,oM 4 26] .ret))))
def kP:CT 241 27 rU [4]:=cT Tryz.func241
abbrev rT:AJ:=(sr [0,1] [As 4 false] (.seq [] (sr [0,1,5] [BI 5 0] (.block 0 (.loop [0,1,5] (.seq [0,1,5] (sr [0,1,5,9] [oM 6 5,oM 7 0,oE 8 7,oG 9 .lss 6 8] (.cond (.t 9) .skip (.exit 0))) (.seq [0,1,5] (.block 1 (sr [0,1,5,26] [oM 12 0,oM 13 5,oI 14 1 12 13,oL 15 14,oE 16 15,Aa 17 .gtr 16 0,oM 18 17,A7 19 0 18,A7 20 5 18,Ii 21 1 19 20 18,Av 22 21 18,Cw 23 (.slice 1 (.t 22) (some (.c (.i .i64 1))) none none) 18,A7 24 1 18,Cw 25 (.call 154 [(.t 23),(.t 24)]) 18,oP 26 18 25] (.cond (.t 26) (sr [4] [As 4 false] .ret) .skip))) (.Ax [oM 10 5,Aa 11 .add 10 1,oM 5 11])))))) (sr [4] [As 4 true] .ret)))
def kO:CT 242 27 rT [4]:=cT Tryz.func242
abbrev rS:AJ:=(sr [0] [As 2 false] (.seq [0] (sr [0,9] [oM 7 0,oE 8 7,Aa 9 .gtr 8 16] (.cond (.t 9) (sr [2] [As 2 false] .ret) .skip)) (.seq [] (sr [10,11,12] [oM 10 0,oE 11 10,BI 12 0] (.block 0 (.loop [10,11,12] (sr [10,11,12,13] [oG 13 .lss 12 11] (.seq [10,11,12] (.cond (.t 13) .skip (.exit 0)) (.seq [10,11,12] (.block 1 (sr [3,4,10,11,12] [oM 14 12,oI 15 1 10 12,oL 16 15,oM 3 14,oM 4 16] (.seq [3,4,10,11,12] (sr [3,4,10,11,12,19] [oM 17 4,oE 18 17,Aa 19 .gtr 18 3] (.cond (.t 19) (sr [2] [As 2 false] .ret) .skip)) (sr [3,4,10,11,12,20,21,22] [oM 20 4,oE 21 20,BI 22 0] (.block 2 (.loop [3,4,10,11,12,20,21,22] (sr [3,4,10,11,12,20,21,22,23] [oG 23 .lss 22 21] (.seq [3,4,10,11,12,20,21,22] (.cond (.t 23) .skip (.exit 2)) (.seq [3,4,10,11,12,20,21,22] (.block 3 (sr [3,4,5,6,10,11,12,20,21,22] [oM 24 22,oI 25 1 20 22,oL 26 25,oM 5 24,oM 6 26] (sr [3,4,10,11,12,20,21,22,41] [oM 27 6,Aa 28 .lss 27 3,oM 29 28,BK 30 6 29,BK 31 3 29,Eb 32 (.bin .add (.c (.i .i64 3)) (.t 31)) 29,GD 33 .geq 30 32 29,oQ 34 29 33,oM 35 34,BK 36 4 35,BK 37 5 35,Eb 38 (.slice 1 (.t 36) none (some (.t 37)) none) 35,BK 39 6 35,Eb 40 (.call 172 [(.t 38),(.t 39)]) 35,oQ 41 35 40] (.cond (.t 41) (sr [2] [As 2 false] .ret) .skip)))) (.Ax [Aa 42 .add 22 1,oM 22 42])))))))))) (.Ax [Aa 43 .add 12 1,oM 12 43]))))))) (sr [2] [As 2 true] .ret))))
def kN:CT 249 44 rS [2]:=cT Tryz.func249
abbrev rR:AJ:=(sr [0,1] [oo 4 (.mv (.c .pn)),As 5 false] (.seq [0,1] (sr [0,1,17] [oM 15 0,oC 16 249 15,oN 17 16] (.cond (.t 17) (sr [4,5] [oo 4 (.mv (.c .pn)),As 5 false] .ret) .skip)) (.seq [0] (sr [0,18,19,20] [oM 18 1,oE 19 18,BI 20 0] (.block 0 (.loop [0,18,19,20] (sr [0,18,19,20,21] [oG 21 .lss 20 19] (.seq [0,18,19,20] (.cond (.t 21) .skip (.exit 0)) (.seq [0,18,19,20] (.block 1 (sr [0,7,18,19,20] [oI 22 1 18 20,oL 23 22,oM 7 23] (sr [0,18,19,20,32] [oM 24 7,Aa 25 .lss 24 0,oM 26 25,BK 27 7 26,BK 28 0 26,FJ 29 28 26,Eb 30 (.bin .add (.c (.i .i64 3)) (.t 29)) 26,GD 31 .geq 27 30 26,oQ 32 26 31] (.cond (.t 32) (sr [4,5] [oo 4 (.mv (.c .pn)),As 5 false] .ret) .skip)))) (.Ax [Aa 33 .add 20 1,oM 20 33]))))))) (sr [0,8] [oM 34 0,oE 35 34,oo 36 (.bin .add (.c (.i .i64 3)) (.t 35)),oo 37 (.Ex 1 24 [(.l [] true)] (.c (.i .i64 3)) (.t 36)),oo 38 (.Ip),oo 39 (.build [(.l [] true),(.l [] true),.mn] [(0,1,(.t 37)),(2,1,(.t 38))]),oB 40 39,oM 8 40] (sr [8] [oM 41 8,oM 42 8,oK 43 42,oF 44 0 43,oL 45 44,oM 46 0,oA 47 1 24 45 46,oK 48 41,oF 49 0 48,oS 1 49 47] (.seq [8] (sr [8,53,54,55] [oM 50 8,oK 51 50,oF 52 0 51,oL 53 52,oE 54 53,BI 55 0] (.block 2 (.loop [8,53,54,55] (sr [8,53,54,55,56] [oG 56 .lss 55 54] (.seq [8,53,54,55] (.cond (.t 56) .skip (.exit 2)) (.seq [8,53,54,55] (.block 3 (sr [8,9,10,53,54,55] [oM 57 55,oI 58 1 53 55,oL 59 58,oM 9 57,oM 10 59] (sr [8,10,11,53,54,55] [oo 60 (.build [(.i .u64 0)] []),oM 61 9,B3 62 269 60 61,oo 63 (.call 269 [(.t 62),(.c (.i .i64 0))]),oo 11 (.alloc [(.i .u64 0)]),oS 1 11 63] (.seq [8,11,53,54,55] (sr [8,11,53,54,55,64,65,66] [oM 64 10,oE 65 64,BI 66 0] (.block 4 (.loop [8,11,53,54,55,64,65,66] (sr [8,11,53,54,55,64,65,66,67] [oG 67 .lss 66 65] (.seq [8,11,53,54,55,64,65,66] (.cond (.t 67) .skip (.exit 4)) (.seq [8,11,53,54,55,64,65,66] (.block 5 (sr [8,11,13,53,54,55,64,65,66] [oI 68 1 64 66,oL 69 68,oM 13 69] (.BX [8,11,53,54,55,64,65,66] [dO 0 (Az 70 1 11),dO 1 (oM 71 8),dO 2 (oK 72 71),dO 3 (oF 73 1 72),dO 4 (oL 74 73),dO 5 (oM 75 13),dO 6 (oI 76 1 74 75),dO 7 (Az 77 1 76),dO 8 (B3 78 270 70 77),dO 9 (oS 1 11 78)]))) (.Ax [Aa 79 .add 66 1,oM 66 79]))))))) (.BX [8,53,54,55] [dO 0 (oM 80 8),dO 1 (oM 81 8),dO 2 (oK 82 81),dO 3 (oF 83 1 82),dO 4 (oL 84 83),dO 5 (Az 85 1 11),dO 6 (oo 86 (.Ab 1 1 [(.i .u64 0)] [(0,(.t 85))])),dO 7 (oA 87 1 8 84 86),dO 8 (oK 88 80),dO 9 (oF 89 1 88),dO 10 (oS 1 89 87)]))))) (.Ax [Aa 90 .add 55 1,oM 55 90]))))))) (.seq [8] (sr [8,95,96] [oM 91 8,oK 92 91,oF 93 0 92,oL 94 93,oE 95 94,BI 96 0] (.block 6 (.loop [8,95,96] (sr [8,95,96,97] [oG 97 .lss 96 95] (.seq [8,95,96] (.cond (.t 97) .skip (.exit 6)) (.seq [8,95,96] (.block 7 (sr [8,14,95,96] [oM 98 96,oM 14 98] (.Ax [oM 99 8,oM 100 14,B3 101 271 99 100]))) (.Ax [Aa 102 .add 96 1,oM 96 102]))))))) (sr [4,5] [oM 103 8,oM 4 103,As 5 true] .ret))))))))
def kL:CT 250 104 rR [4,5]:=cT Tryz.func250
abbrev rQ:AJ:=(sr [0,1] [oo 4 (.mv (.c (.i .u64 0))),oo 5 (.mv (.c (.i .u64 0)))] (sr [0,1,6] [oM 14 0,oo 15 (.bin .and (.t 14) (.c (.i .u64 4294967295))),oM 6 15] (sr [0,1,6,7] [oM 16 0,oo 17 (.bin .shr (.t 16) (.c (.i .u64 32))),oM 7 17] (sr [0,1,6,7,8] [oM 18 1,oo 19 (.bin .and (.t 18) (.c (.i .u64 4294967295))),oM 8 19] (sr [0,1,6,7,8,9] [oM 20 1,oo 21 (.bin .shr (.t 20) (.c (.i .u64 32))),oM 9 21] (sr [0,1,6,7,8,9,10] [oM 22 6,oM 23 8,oG 24 .mul 22 23,oM 10 24] (sr [0,1,6,7,9,11] [oM 25 7,oM 26 8,oG 27 .mul 25 26,oM 28 10,oo 29 (.bin .shr (.t 28) (.c (.i .u64 32))),oG 30 .add 27 29,oM 11 30] (sr [0,1,6,7,9,11,12] [oM 31 11,oo 32 (.bin .and (.t 31) (.c (.i .u64 4294967295))),oM 12 32] (sr [0,1,6,7,9,12,13] [oM 33 11,oo 34 (.bin .shr (.t 33) (.c (.i .u64 32))),oM 13 34] (sr [0,1,7,9,12,13] [oM 35 12,oM 36 6,oM 37 9,oG 38 .mul 36 37,oG 39 .add 35 38,oM 12 39] (sr [0,1,4] [oM 40 7,oM 41 9,oG 42 .mul 40 41,oM 43 13,oG 44 .add 42 43,oM 45 12,oo 46 (.bin .shr (.t 45) (.c (.i .u64 32))),oG 47 .add 44 46,oM 4 47] (sr [4,5] [oM 48 0,oM 49 1,oG 50 .mul 48 49,oM 5 50] .ret))))))))))))
def kK:CT 252 51 rQ [4,5]:=cT Tryz.func252
abbrev rP:AJ:=(sr [0,1] [BI 4 0] (.seq [] (sr [0,1,7,8] [oM 6 0,oE 7 6,BI 8 0] (.block 0 (.loop [0,1,7,8] (sr [0,1,7,8,9] [oG 9 .lss 8 7] (.seq [0,1,7,8] (.cond (.t 9) .skip (.exit 0)) (.seq [0,1,7,8] (.block 1 (sr [0,1,5,7,8] [oM 10 8,oM 5 10] (sr [0,1,5,7,8,16] [oM 11 1,oM 12 0,oM 13 5,oI 14 6 12 13,Az 15 6 14,oo 16 (.CI (.t 11) [(.t 15)])] (.cond (.t 16) (sr [4] [oM 17 5,oM 4 17] .ret) .skip)))) (.Ax [Aa 18 .add 8 1,oM 8 18]))))))) (sr [4] [BI 4 (-1)] .ret)))
def kJ:CT 253 19 rP [4]:=cT Tryz.func253
abbrev rO:AJ:=(sr [0,1] [As 4 false] (sr [4] [oM 5 1,Aa 6 .geq 5 0,oM 7 6,A7 8 1 7,A7 9 0 7,Cw 10 (.Fa (.t 9)) 7,BM 11 0 10 7,BM 12 1 11 7,Av 13 12 7,F1 14 13 7,Dk 15 .lss 8 14 7,oP 16 7 15,oM 4 16] .ret))
def kI:CT 254 17 rO [4]:=cT Tryz.func254
abbrev rN:AJ:=(sr [0] [Cl 2] (.seq [0] (sr [0,4] [oM 3 0,oo 4 (.Ys 1 false (.t 3))] (.cond (.t 4) (sr [2] [Cl 2] .ret) .skip)) (sr [2] [oo 5 (.Ab 1 0 [] []),oM 6 0,oA 7 7 88 5 6,oM 2 7] .ret)))
def kH:CT 255 8 rN [2]:=cT Tryz.func255
abbrev rM:AJ:=(sr [0,1] [As 4 false] (sr [4] [oM 5 0,oM 6 1,B3 7 272 5 6,Aa 8 .geq 7 0,oM 4 8] .ret))
def kG:CT 256 9 rM [4]:=cT Tryz.func256
abbrev rL:AJ:=(sr [1,2] [Bb 2 0,As 3 false] (sr [3] [oF 4 6 1,oL 5 4,oF 6 6 2,oL 7 6,oo 8 (.UG false (.t 5) (.t 7)),oM 9 8,BM 10 0 1 9,Hm 11 6 10 9,BM 12 0 2 9,Hm 13 6 12 9,Cw 14 (.call 258 [(.t 11),(.t 13)]) 9,oP 15 9 14,oM 3 15] .ret))
def kF:CT 257 16 rL [3]:=cT Tryz.func257 [2]
abbrev rK:AJ:=(sr [2,3] [Bb 2 0,Bb 3 1,As 4 false] (.seq [4] (.Ax (oF 5 0 2::oL 6 5::oF 7 0 3::oL 8 7::oG 9 .eql 6 8::oM 10 9::BM 11 1 2 10::Av 12 11 10::BM 13 1 3 10::Av 14 13 10::Dk 15 .eql 12 14 10::oP 16 10 15::oM 17 16::BM 18 3 2 17::Av 19 18 17::BM 20 3 3 17::Av 21 20 17::Dk 22 .eql 19 21 17::oP 23 17 22::oM 24 23::BM 25 4 2 24::Av 26 25 24::BM 27 4 3 24::Av 28 27 24::Dk 29 .eql 26 28 24::oP 30 24 29::oM 31 30::BM 32 2 2 31::Av 33 32 31::BM 34 2 3 31::Av 35 34 31::Cw 36 (.call 273 [(.t 33),(.t 35)]) 31::oP 37 31 36::oM 38 37::BM 39 5 2 38::Av 40 39 38::BM 41 5 3 38::Av 42 41 38::Cw 43 (.call 274 [(.t 40),(.t 42),(.c (.f (.func 258) [] []))]) 38::oP 44 38 43::oM 4 44:: [])) .ret))
def kE:CT 258 45 rK [4]:=cT Tryz.func258 [2,3]
abbrev rJ:AJ:=(sr [0,3] [Bb 3 1] (sr [0,3,4] [oF 8 0 3,oF 9 1 8,oL 10 9,oo 11 (.build [(.i .i64 0),(.i .i64 0),(.i .i64 0),(.i .i64 0)] [(0,1,(.t 10))]),oo 4 (.alloc [(.i .i64 0),(.i .i64 0),(.i .i64 0),(.i .i64 0)]),oS 4 4 11] (sr [0,3,4,5] [oM 12 0,Az 13 4 4,B3 14 275 12 13,oM 5 14] (sr [0,3,4,5] [oM 15 5,oM 16 5,oK 17 16,oF 18 6 17,oL 19 18,oM 20 19,BZ 21 6 3 20,BH 22 21 20,HF 23 22 20,oQ 24 20 23,oK 25 15,oF 26 6 25,oS 1 26 24] (.seq [3,5] (sr [0,3,4,5,29,30,31] [oF 27 0 3,oF 28 2 27,oL 29 28,oE 30 29,BI 31 0] (.block 0 (.loop [0,3,4,5,29,30,31] (sr [0,3,4,5,29,30,31,32] [oG 32 .lss 31 30] (.seq [0,3,4,5,29,30,31] (.cond (.t 32) .skip (.exit 0)) (.seq [0,3,4,5,29,30,31] (.block 1 (sr [0,3,4,5,7,29,30,31] [oI 33 1 29 31,oL 34 33,oM 7 34] (.seq [0,3,4,7,29,30,31] (sr [0,3,4,5,7,29,30,31,41] [oM 35 5,oK 36 35,oF 37 7 36,oL 38 37,oM 39 7,B3 40 172 38 39,oN 41 40] (.cond (.t 41) (sr [0,3,4,5,7,29,30,31] [oM 42 5,oM 43 5,oK 44 43,oF 45 7 44,oL 46 45,oM 47 7,oo 48 (.Ab 1 1 [(.i .i64 0)] [(0,(.t 47))]),oA 49 1 8 46 48,oK 50 42,oF 51 7 50,oS 1 51 49] (.Ax [oM 52 5,oK 53 52,oF 54 7 53,oL 55 54,oC 56 135 55])) .skip)) (sr [0,3,4,29,30,31] [Az 57 4 4,oM 58 7,B3 59 276 57 58,oS 4 4 59] (sr [0,3,4,5,29,30,31] [oM 60 0,Az 61 4 4,B3 62 275 60 61,oM 5 62] (.Ax [oM 63 5,oM 64 5,oK 65 64,oF 66 6 65,oL 67 66,oM 68 67,BZ 69 6 3 68,BH 70 69 68,HF 71 70 68,oQ 72 68 71,oK 73 63,oF 74 6 73,oS 1 74 72])))))) (.Ax [Aa 75 .add 31 1,oM 31 75]))))))) (.Ax [oM 76 5,Az 77 7 3,B3 78 277 76 77]))))))
def kD:CT 259 79 rJ []:=cT Tryz.func259 [3]
abbrev rI:AJ:=(sr [0,3] [Bb 3 1,As 4 false] (.seq [0,3] (sr [0,3,6] [oM 10 0,Az 11 4 3,B3 12 278 10 11,oM 9 12,oX 13 0 9,oX 14 1 9,oM 5 13,oM 6 14] (sr [0,3,20] [oM 15 6,oM 16 15,BK 17 0 16,Gu 18 4 3 16,Eb 19 (.call 279 [(.t 17),(.t 18)]) 16,oQ 20 16 19] (.cond (.t 20) (sr [4] [As 4 true] .ret) .skip))) (sr [8] [oM 22 0,Az 23 4 3,B3 24 280 22 23,oM 21 24,oX 25 0 21,oX 26 1 21,oM 7 25,oM 8 26] (sr [4] [oM 27 8,oM 4 27] .ret))))
def Zo:CT 260 28 rI [4]:=cT Tryz.func260 [3]
abbrev rH:AJ:=(sr [1] [Bb 1 0,Cl 2] (sr [1,3] [Cl 3] (.seq [3] (sr [1,3,9,10,11] [oF 8 2 1,oL 9 8,oE 10 9,BI 11 0] (.block 0 (.loop [1,3,9,10,11] (sr [1,3,9,10,11,12] [oG 12 .lss 11 10] (.seq [1,3,9,10,11] (.cond (.t 12) .skip (.exit 0)) (.seq [1,3,9,10,11] (.block 1 (sr [1,3,5,9,10,11] [oI 13 6 9 11,Az 14 6 13,oo 5 (.alloc [(.i .i64 0),(.i .i64 0),(.l [] true),(.i .i64 0),(.i .i64 0),(.l [] true)]),oS 6 5 14] (sr [1,3,5,6,9,10,11] [Az 16 6 5,oC 17 262 16,oM 15 17,oX 18 0 15,oX 19 1 15,oo 6 (.alloc [(.i .i64 0),(.i .i64 0),(.l [] true),(.i .i64 0),(.i .i64 0),(.l [] true)]),oS 6 6 18,oM 7 19] (sr [1,3,5,9,10,11,31] [oF 20 1 6,oL 21 20,oF 22 3 1,oL 23 22,oG 24 .eql 21 23,oM 25 24,BM 26 2 6 25,Av 27 26 25,BM 28 4 1 25,Av 29 28 25,Cw 30 (.call 30 [(.t 27),(.t 29)]) 25,oP 31 25 30] (.cond (.t 31) (.Ax [oM 32 3,Az 33 6 5,oo 34 (.Ab 6 1 [(.i .i64 0),(.i .i64 0),(.l [] true),(.i .i64 0),(.i .i64 0),(.l [] true)] [(0,(.t 33))]),oA 35 6 80 32 34,oM 3 35]) .skip))))) (.Ax [Aa 36 .add 11 1,oM 11 36]))))))) (sr [2] [oM 37 3,oM 2 37] .ret))))
def kC:CT 261 38 rH [2]:=cT Tryz.func261 [1]
abbrev rG:AJ:=(sr [1,2] [Bb 1 0,oo 2 (.alloc [(.i .i64 0),(.i .i64 0),(.l [] true),(.i .i64 0),(.i .i64 0),(.l [] true)]),As 3 false] (.seq [1,2] (sr [1,2,6] [oF 4 0 1,oL 5 4,Aa 6 .eql 5 5] (.cond (.t 6) (sr [2,3] [oF 7 5 1,oL 8 7,oo 9 (.Bg 6 none (.t 8) (.c (.i .i64 0))),Az 10 6 9,oS 6 2 10,As 3 true] .ret) .skip)) (sr [2,3] [Az 11 6 1,oS 6 2 11,As 3 false] .ret)))
def kB:CU 262 12 rG [.c 2 (some 6),.t 3]:=cU Tryz.func262 [1]
abbrev rF:AJ:=(sr [1] [Bb 1 0,As 2 false] (.seq [] (sr [1,6,7,8] [Az 5 6 1,oC 6 264 5,oE 7 6,BI 8 0] (.block 0 (.loop [1,6,7,8] (sr [1,6,7,8,9] [oG 9 .lss 8 7] (.seq [1,6,7,8] (.cond (.t 9) .skip (.exit 0)) (.seq [1,6,7,8] (.block 1 (sr [1,4,6,7,8] [oI 10 1 6 8,oL 11 10,oM 4 11] (sr [1,6,7,8,16] [Az 12 6 1,oM 13 4,B3 14 265 12 13,oC 15 266 14,oN 16 15] (.cond (.t 16) (sr [2] [As 2 false] .ret) .skip)))) (.Ax [Aa 17 .add 8 1,oM 8 17]))))))) (sr [2] [As 2 true] .ret)))
def kA:CT 263 18 rF [2]:=cT Tryz.func263 [1]
abbrev rE:AJ:=(sr [1] [Bb 1 0,Cl 2] (sr [1,3] [Cl 3] (.seq [3] (sr [1,3,13,14] [oF 10 0 1,oF 11 1 10,oL 12 11,oE 13 12,BI 14 0] (.block 0 (.loop [1,3,13,14] (sr [1,3,13,14,15] [oG 15 .lss 14 13] (.seq [1,3,13,14] (.cond (.t 15) .skip (.exit 0)) (.seq [1,3,13,14] (.block 1 (sr [1,3,4,13,14] [oM 16 14,oM 4 16] (sr [1,3,4,5,13,14] [As 5 false] (.seq [1,3,4,5,13,14] (sr [1,3,4,5,13,14,18,19,20] [oF 17 2 1,oL 18 17,oE 19 18,BI 20 0] (.block 2 (.loop [1,3,4,5,13,14,18,19,20] (sr [1,3,4,5,13,14,18,19,20,21] [oG 21 .lss 20 19] (.seq [1,3,4,5,13,14,18,19,20] (.cond (.t 21) .skip (.exit 2)) (.seq [1,3,4,5,13,14,18,19,20] (.block 3 (sr [1,3,4,5,7,13,14,18,19,20] [oI 22 6 18 20,Az 23 6 22,oo 7 (.alloc [(.i .i64 0),(.i .i64 0),(.l [] true),(.i .i64 0),(.i .i64 0),(.l [] true)]),oS 6 7 23] (sr [1,3,4,5,8,13,14,18,19,20] [Az 25 6 7,oC 26 262 25,oM 24 26,oX 27 0 24,oX 28 1 24,oo 8 (.alloc [(.i .i64 0),(.i .i64 0),(.l [] true),(.i .i64 0),(.i .i64 0),(.l [] true)]),oS 6 8 27,oM 9 28] (.BX [1,3,4,5,13,14,18,19,20] [dO 0 (oM 29 5),dO 1 (oM 30 29),dO 2 (BZ 31 1 8 30),dO 3 (BH 32 31 30),dO 4 (BZ 33 3 1 30),dO 5 (BH 34 33 30),dO 6 (GD 35 .eql 32 34 30),dO 7 (BK 36 35 30),dO 8 (BM 37 2 8 36),dO 9 (Av 38 37 36),dO 10 (Hm 39 6 1 36),dO 11 (A7 40 4 36),⟨12,Cw 41 (.call 265 [(.t 39),(.t 40)]) 36,[9],[Av 38 37 36]⟩,dO 13 (Cw 42 (.field none 4 (.t 41)) 36),dO 14 (Cw 43 (.call 281 [(.t 38),(.t 42)]) 36),dO 15 (Eb 44 (.pick (.t 36) (.t 43) (.c (.b false))) 30),dO 16 (oQ 45 30 44),dO 17 (oM 5 45)])))) (.Ax [Aa 46 .add 20 1,oM 20 46]))))))) (sr [1,3,4,13,14,47] [oM 47 5] (.cond (.t 47) (.Ax [oM 48 3,oM 49 4,oo 50 (.Ab 1 1 [(.i .i64 0)] [(0,(.t 49))]),oA 51 1 8 48 50,oM 3 51]) .skip)))))) (.Ax [Aa 52 .add 14 1,oM 14 52]))))))) (sr [2] [oM 53 3,oM 2 53] .ret))))
def j9:CT 264 54 rE [2]:=cT Tryz.func264 [1]
abbrev rD:AJ:=(sr [1,2,4] [Bb 2 0,oo 4 (.alloc [(.l [] true),(.l [] true),(.l [] true),(.i .i64 0),(.l [] true),(.b false)])] (.seq [4] (.BX [4] [dO 0 (oF 5 0 2),dO 1 (Az 6 2 5),dO 2 (oF 7 2 2),dO 3 (oL 8 7),dO 4 (oF 9 3 2),dO 5 (oL 10 9),dO 6 (oF 11 4 2),dO 7 (oL 12 11),dO 9 (oM 14 1),dO 10 (oo 15 (.Ab 1 1 [(.i .i64 0)] [(0,(.t 14))])),dO 12 (oF 17 5 2),dO 13 (oL 18 17),dO 8 (oo 13 (.append 1 8 (.c (.l [] true)) (.t 12))),⟨11,oA 16 1 8 13 15,[13,5,3,1],[oL 18 17,oL 10 9,oL 8 7,Az 6 2 5]⟩,dO 14 (oo 19 (.build [(.l [] true),(.l [] true),(.l [] true),(.i .i64 0),(.l [] true),(.b false)] [(0,2,(.t 6)),(2,1,(.t 8)),(3,1,(.t 10)),(4,1,(.t 16)),(5,1,(.t 18))])),dO 15 (oS 6 4 19)]) .ret))
def j8:CU 265 20 rD [.c 4 (some 6)]:=cU Tryz.func265 [2]
abbrev rC:AJ:=(sr [1] [Bb 1 0,As 2 false] (.seq [] (sr [1,8,9,10] [oF 7 2 1,oL 8 7,oE 9 8,BI 10 0] (.block 0 (.loop [1,8,9,10] (sr [1,8,9,10,11] [oG 11 .lss 10 9] (.seq [1,8,9,10] (.cond (.t 11) .skip (.exit 0)) (.seq [1,8,9,10] (.block 1 (sr [1,4,8,9,10] [oI 12 6 8 10,Az 13 6 12,oo 4 (.alloc [(.i .i64 0),(.i .i64 0),(.l [] true),(.i .i64 0),(.i .i64 0),(.l [] true)]),oS 6 4 13] (sr [1,5,6,8,9,10] [Az 15 6 4,oC 16 262 15,oM 14 16,oX 17 0 14,oX 18 1 14,oo 5 (.alloc [(.i .i64 0),(.i .i64 0),(.l [] true),(.i .i64 0),(.i .i64 0),(.l [] true)]),oS 6 5 17,oM 6 18] (sr [1,8,9,10,34] [oM 19 6,oN 20 19,oM 21 20,BM 22 1 5 21,Av 23 22 21,BM 24 3 1 21,Av 25 24 21,Dk 26 .eql 23 25 21,oP 27 21 26,oM 28 27,BM 29 2 5 28,Av 30 29 28,BM 31 4 1 28,Av 32 31 28,Cw 33 (.call 281 [(.t 30),(.t 32)]) 28,oP 34 28 33] (.cond (.t 34) (sr [2] [As 2 false] .ret) .skip))))) (.Ax [Aa 35 .add 10 1,oM 10 35]))))))) (sr [2] [As 2 true] .ret)))
def j7:CT 266 36 rC [2]:=cT Tryz.func266 [1]
abbrev rB:AJ:=(sr [0,1] [BI 4 0] (.seq [] (sr [0,1,7,8] [oM 6 0,oE 7 6,BI 8 0] (.block 0 (.loop [0,1,7,8] (sr [0,1,7,8,9] [oG 9 .lss 8 7] (.seq [0,1,7,8] (.cond (.t 9) .skip (.exit 0)) (.seq [0,1,7,8] (.block 1 (sr [0,1,5,7,8] [oM 10 8,oM 5 10] (sr [0,1,5,7,8,16] [oM 11 1,oM 12 0,oM 13 5,oI 14 2 12 13,Az 15 2 14,oo 16 (.CI (.t 11) [(.t 15)])] (.cond (.t 16) (sr [4] [oM 17 5,oM 4 17] .ret) .skip)))) (.Ax [Aa 18 .add 8 1,oM 8 18]))))))) (sr [4] [BI 4 (-1)] .ret)))
def j6:CT 267 19 rB [4]:=cT Tryz.func267
abbrev rA:AJ:=(sr [1,2,4] [oB 2 0,oo 4 (.alloc [(.i .u64 0)])] (.seq [2,4] (.BX [2,4] [dO 0 (oo 5 (.Bg 1 (some 1) (.t 2) (.c (.i .i64 0)))),dO 1 (oL 6 5),dO 2 (oM 7 1),dO 3 (oo 8 (.bin .shl (.c (.i .u64 1)) (.t 7))),dO 4 (oG 9 .or 6 8),dO 5 (oo 10 (.Bg 1 (some 1) (.t 2) (.c (.i .i64 0)))),dO 6 (oS 1 10 9)]) (sr [4] [Az 11 1 2,oS 1 4 11] .ret)))
def j5:CU 269 12 rA [.c 4 (some 1)]:=cU Tryz.func269
abbrev q9:AJ:=(sr [2,3,4] [oB 2 0,Bb 3 1,oo 4 (.alloc [(.i .u64 0)])] (sr [2,4] [oo 5 (.Bg 1 (some 1) (.t 2) (.c (.i .i64 0))),oL 6 5,oo 7 (.Bg 1 (some 1) (.t 3) (.c (.i .i64 0))),oL 8 7,oG 9 .or 6 8,oo 10 (.Bg 1 (some 1) (.t 2) (.c (.i .i64 0))),oS 1 10 9] (sr [4] [Az 11 1 2,oS 1 4 11] .ret)))
def j4:CU 270 12 q9 [.c 4 (some 1)]:=cU Tryz.func270 [3]
abbrev q8:AJ:=(.seq [0,1] (sr [0,1,9] [oM 8 1,Aa 9 .eql 8 0] (.cond (.t 9) (sr [] [oM 10 0,oK 11 10,oF 12 2 11,oL 13 12,oo 14 (.Ab 1 1 [(.i .i64 0)] [(0,(.c (.i .i64 0)))]),⟨none,.D9 (.i .i64) (.t 13) (.c (.i .i64 0)) (.t 14),none⟩] .ret) .skip)) (sr [0,1,4,5] [oM 16 0,oM 17 1,B3 18 282 16 17,oM 15 18,oX 19 0 15,oX 20 1 15,oM 4 19,oM 5 20] (.seq [0,1,4] (sr [0,1,4,22] [oM 21 5,oN 22 21] (.cond (.t 22) .ret .skip)) (sr [0,1,6,7] [oM 24 4,oC 25 283 24,oM 23 25,oX 26 0 23,oX 27 1 23,oM 6 26,oM 7 27] (sr [0,1,6,28] [oM 28 7] (.cond (.t 28) (.BX [] [dO 0 (oM 29 0),dO 1 (oK 30 29),dO 2 (oF 31 2 30),dO 3 (oL 32 31),dO 4 (oM 33 1),dO 5 (oM 34 1),dO 6 (oo 35 (.Ab 1 1 [(.i .i64 0)] [(0,(.t 34))])),dO 7 (oM 36 6),dO 9 (oo 38 (.Ab 1 1 [(.i .i64 0)] [(0,(.c (.i .i64 0)))])),⟨8,oA 37 1 8 35 36,[3],[oL 32 31]⟩,⟨10,oA 39 1 8 37 38,[3],[oL 32 31]⟩,⟨11,⟨none,.D9 (.i .i64) (.t 32) (.t 33) (.t 39),none⟩,[],[]⟩]) .skip))))))
def j3:CT 271 40 q8 []:=cT Tryz.func271
abbrev qz:AJ:=(sr [0,1] [BI 4 0] (.seq [] (sr [0,1,7,8] [oM 6 0,oE 7 6,BI 8 0] (.block 0 (.loop [0,1,7,8] (sr [0,1,7,8,9] [oG 9 .lss 8 7] (.seq [0,1,7,8] (.cond (.t 9) .skip (.exit 0)) (.seq [0,1,7,8] (.block 1 (sr [0,1,5,7,8] [oM 10 8,oM 5 10] (sr [0,1,5,7,8,16] [oM 11 1,oM 12 0,oM 13 5,oI 14 7 12 13,Az 15 7 14,oo 16 (.CI (.t 11) [(.t 15)])] (.cond (.t 16) (sr [4] [oM 17 5,oM 4 17] .ret) .skip)))) (.Ax [Aa 18 .add 8 1,oM 8 18]))))))) (sr [4] [BI 4 (-1)] .ret)))
def j0:CT 272 19 qz [4]:=cT Tryz.func272
abbrev qy:AJ:=(sr [0,1] [As 4 false] (.seq [0,1] (sr [0,1,10] [oM 6 0,oE 7 6,oM 8 1,oE 9 8,oG 10 .neq 7 9] (.cond (.t 10) (sr [4] [As 4 false] .ret) .skip)) (.seq [] (sr [0,1,12,13] [oM 11 0,oE 12 11,BI 13 0] (.block 0 (.loop [0,1,12,13] (sr [0,1,12,13,14] [oG 14 .lss 13 12] (.seq [0,1,12,13] (.cond (.t 14) .skip (.exit 0)) (.seq [0,1,12,13] (.block 1 (sr [0,1,5,12,13] [oM 15 13,oM 5 15] (.seq [0,1,12,13,24] (.BX [0,1,12,13,24] [dO 0 (oM 16 0),dO 1 (oM 17 5),dO 2 (oI 18 1 16 17),dO 3 (oL 19 18),dO 4 (oM 20 1),dO 5 (oM 21 5),dO 6 (oI 22 1 20 21),dO 7 (oL 23 22),dO 8 (oG 24 .neq 19 23)]) (.cond (.t 24) (sr [4] [As 4 false] .ret) .skip)))) (.Ax [Aa 25 .add 13 1,oM 13 25]))))))) (sr [4] [As 4 true] .ret))))
def jz:CT 273 26 qy [4]:=cT Tryz.func273
abbrev qx:AJ:=(sr [0,1,2] [As 6 false] (.seq [0,1,2] (sr [0,1,2,14] [oM 10 0,oE 11 10,oM 12 1,oE 13 12,oG 14 .neq 11 13] (.cond (.t 14) (sr [6] [As 6 false] .ret) .skip)) (.seq [] (sr [1,2,15,16,17] [oM 15 0,oE 16 15,BI 17 0] (.block 0 (.loop [1,2,15,16,17] (sr [1,2,15,16,17,18] [oG 18 .lss 17 16] (.seq [1,2,15,16,17] (.cond (.t 18) .skip (.exit 0)) (.seq [1,2,15,16,17] (.block 1 (sr [1,2,7,8,15,16,17] [oM 19 17,oI 20 6 15 17,Az 21 6 20,oo 8 (.alloc [(.i .i64 0),(.i .i64 0),(.l [] true),(.i .i64 0),(.i .i64 0),(.l [] true)]),oM 7 19,oS 6 8 21] (sr [1,2,8,9,15,16,17] [oM 22 1,oM 23 7,oI 24 6 22 23,Az 25 6 24,oo 9 (.alloc [(.i .i64 0),(.i .i64 0),(.l [] true),(.i .i64 0),(.i .i64 0),(.l [] true)]),oS 6 9 25] (sr [1,2,15,16,17,30] [oM 26 2,Az 27 6 8,Az 28 6 9,oo 29 (.CI (.t 26) [(.t 27),(.t 28)]),oN 30 29] (.cond (.t 30) (sr [6] [As 6 false] .ret) .skip))))) (.Ax [Aa 31 .add 17 1,oM 17 31]))))))) (sr [6] [As 6 true] .ret))))
def jy:CT 274 32 qx [6]:=cT Tryz.func274
abbrev qw:AJ:=(sr [1,2,4] [oB 2 0,oo 4 (.alloc [(.i .i64 0),(.i .i64 0),(.i .i64 0),(.i .i64 0)])] (sr [2,4] [oF 5 1 2,oL 6 5,oM 7 1,oF 8 2 2,oo 9 (.Bg 1 (some 2) (.t 8) (.t 6)),oS 1 9 7] (sr [2,4] [oF 10 1 2,oL 11 10,Aa 12 .add 11 1,oF 13 1 2,oS 1 13 12] (sr [4] [Az 14 4 2,oS 4 4 14] .ret))))
def jx:CU 276 15 qw [.c 4 (some 4)]:=cU Tryz.func276
abbrev qv:AJ:=(sr [0,3] [Bb 3 1] (.block 0 (sr [0,3,33] [oF 34 0 3,oF 35 0 34,oL 36 35,Aa 37 .eql 36 2,oM 38 37,BM 39 6 3 38,Av 40 39 38,oP 41 38 40,oM 33 41] (.cond (.t 33) (.BX [] [dO 0 (oM 42 0),dO 1 (oM 43 0),dO 2 (oK 44 43),dO 3 (oF 45 4 44),dO 4 (oL 46 45),dO 5 (oF 47 0 3),dO 6 (oF 48 3 47),dO 7 (oL 49 48),dO 8 (B3 50 176 46 49),dO 9 (oK 51 42),dO 10 (oF 52 4 51),dO 11 (oS 1 52 50)]) (sr [0,3,53] [oF 54 0 3,oF 55 0 54,oL 56 55,Aa 57 .eql 56 2,oM 53 57] (.cond (.t 53) (.BX [] [dO 0 (oM 58 0),dO 1 (oM 59 0),dO 2 (oK 60 59),dO 3 (oF 61 3 60),dO 4 (oL 62 61),dO 5 (oF 63 0 3),dO 6 (oF 64 3 63),dO 7 (oL 65 64),dO 8 (B3 66 176 62 65),dO 9 (oK 67 58),dO 10 (oF 68 3 67),dO 11 (oS 1 68 66)]) (sr [0,3,69] [oF 70 0 3,oF 71 0 70,oL 72 71,Aa 73 .eql 72 3,oM 74 73,BM 75 6 3 74,Av 76 75 74,oP 77 74 76,oM 69 77] (.cond (.t 69) (.BX [] [dO 0 (oM 78 0),dO 1 (oM 79 0),dO 2 (oK 80 79),dO 3 (oF 81 0 80),dO 4 (oF 82 0 81),dO 5 (oL 83 82),dO 6 (oF 84 0 3),dO 7 (oF 85 4 84),dO 8 (oL 86 85),dO 9 (oo 87 (.Ld (.t 83) (.t 86))),dO 10 (oK 88 78),dO 11 (oF 89 0 88),dO 12 (oF 90 0 89),dO 13 (oS 1 90 87)]) (sr [0,3,91] [oF 92 0 3,oF 93 0 92,oL 94 93,Aa 95 .eql 94 3,oM 91 95] (.cond (.t 91) (.BX [] [dO 0 (oM 96 0),dO 1 (oM 97 0),dO 2 (oM 98 0),dO 3 (oK 99 98),dO 4 (oF 100 0 99),dO 5 (oF 101 1 100),dO 6 (oL 102 101),dO 7 (oF 103 0 3),dO 8 (oF 104 4 103),dO 9 (oL 105 104),dO 10 (Aa 106 .sub 105 1),dO 11 (oo 107 (.Q3 (.t 102) (.t 106))),dO 12 (oK 108 96),dO 13 (oF 109 0 108),dO 14 (oF 110 1 109),dO 15 (oS 1 110 107),dO 16 (oK 111 97),dO 17 (oF 112 5 111),⟨18,⟨none,.store 1 (.t 112) (.c (.b true)),none⟩,[],[]⟩]) (sr [0,3,113] [oF 114 6 3,oL 115 114,oM 113 115] (.cond (.t 113) (.BX [] [dO 0 (oM 116 0),dO 1 (oM 117 0),dO 2 (oK 118 117),dO 3 (oF 119 0 118),dO 4 (oF 120 2 119),dO 5 (oL 121 120),dO 6 (oF 122 0 3),dO 7 (oF 123 4 122),dO 8 (oL 124 123),dO 9 (oo 125 (.Ab 1 1 [(.i .i64 0)] [(0,(.t 124))])),dO 10 (oA 126 1 8 121 125),dO 11 (oK 127 116),dO 12 (oF 128 0 127),dO 13 (oF 129 2 128),dO 14 (oS 1 129 126)]) (.BX [] (dO 0 (oM 4 0)::dO 1 (oM 5 0)::dO 2 (oM 6 0)::dO 3 (oM 7 0)::dO 4 (oK 8 7)::dO 5 (oF 9 0 8)::dO 6 (oF 10 0 9)::dO 7 (oL 11 10)::dO 8 (oF 12 0 3)::dO 9 (oF 13 4 12)::dO 10 (oL 14 13)::dO 11 (oo 15 (.Ld (.t 11) (.t 14)))::dO 12 (oM 16 0)::dO 13 (oK 17 16)::dO 14 (oF 18 0 17)::dO 15 (oF 19 1 18)::dO 16 (oL 20 19)::dO 17 (oF 21 0 3)::dO 18 (oF 22 4 21)::dO 19 (oL 23 22)::dO 20 (oo 24 (.Q3 (.t 20) (.t 23)))::dO 21 (oK 25 4)::dO 22 (oF 26 0 25)::dO 23 (oF 27 0 26)::⟨24,oS 1 27 15,[19],[oL 23 22]⟩::dO 25 (oK 28 5)::dO 26 (oF 29 0 28)::dO 27 (oF 30 1 29)::dO 28 (oS 1 30 24)::dO 29 (oK 31 6)::dO 30 (oF 32 5 31)::⟨31,⟨none,.store 1 (.t 32) (.c (.b true)),none⟩,[],[]⟩:: []))))))))))))))
def jw:CT 277 130 qv []:=cT Tryz.func277 [3]
abbrev qu:AJ:=(sr [0,3] [Bb 3 1,BI 4 0,As 5 false] (sr [0,3,6] [oM 8 0,Az 9 4 3,B3 10 275 8 9,oM 6 10] (sr [0,3,6,7] [oM 11 6,oK 12 11,oF 13 0 12,oF 14 0 13,oL 15 14,oM 7 15] (.seq [0,3,6,7] (.block 0 (.loop [0,3,6,7] (.seq [0,3,6,7] (sr [0,3,6,7,22] [oM 16 6,oK 17 16,oF 18 0 17,oF 19 2 18,oL 20 19,oM 21 7,B3 22 172 20 21] (.cond (.t 22) .skip (.exit 0))) (.block 1 (.Ax [oM 23 7,Aa 24 .add 23 1,oM 7 24]))))) (sr [4,5] [oM 25 7,oM 26 7,oM 27 6,oK 28 27,oF 29 0 28,oF 30 1 29,oL 31 30,oG 32 .leq 26 31,oM 33 32,A7 34 0 33,Hm 35 4 3 33,Cw 36 (.call 284 [(.t 34),(.t 35),(.c (.i .i64 1))]) 33,oP 37 33 36,oM 4 25,oM 5 37] .ret)))))
def jv:CT 278 38 qu [4,5]:=cT Tryz.func278 [3]
abbrev qt:AJ:=(sr [0,3] [Bb 3 1,As 4 false] (sr [4] [oM 5 0,Az 6 4 3,B3 7 275 5 6,oK 8 7,oF 9 5 8,oL 10 9,oN 11 10,oM 12 11,A7 13 0 12,Hm 14 4 3 12,Cw 15 (.call 284 [(.t 13),(.t 14),(.c (.i .i64 2))]) 12,oP 16 12 15,oM 4 16] .ret))
def ju:CT 279 17 qt [4]:=cT Tryz.func279 [3]
abbrev qs:AJ:=(sr [0,3] [Bb 3 1,oo 4 (.mv (.c (.i .u64 0))),As 5 false] (sr [0,3,6] [oM 15 0,Az 16 4 3,B3 17 275 15 16,oM 6 17] (.seq [0,3,6,7,8] (.BX [0,3,6,7,8] [dO 0 (oM 18 6),dO 1 (oK 19 18),dO 2 (oF 20 3 19),dO 3 (oL 21 20),dO 4 (oM 22 6),dO 5 (oK 23 22),dO 6 (oF 24 4 23),dO 7 (oL 25 24),dO 8 (oM 7 21),dO 9 (oM 8 25)]) (.seq [0,3,6,7,8] (sr [0,3,6,7,8,41] [oM 26 6,oK 27 26,oF 28 5 27,oL 29 28,oM 30 29,BK 31 7 30,Eb 32 (.call 152 [(.t 31),(.c (.i .i64 1))]) 30,oQ 33 30 32,oM 34 33,BK 35 7 34,Eb 36 (.call 152 [(.t 35),(.c (.i .i64 2))]) 34,oQ 37 34 36,oM 38 37,BK 39 8 38,Eb 40 (.call 152 [(.t 39),(.c (.i .i64 0))]) 38,oQ 41 38 40] (.cond (.t 41) (sr [4,5] [oo 4 (.mv (.c (.i .u64 0))),As 5 false] .ret) .skip)) (.seq [0,7,8] (sr [0,3,7,8,45,46,47] [oM 42 6,oK 43 42,oF 44 7 43,oL 45 44,oE 46 45,BI 47 0] (.block 0 (.loop [0,3,7,8,45,46,47] (sr [0,3,7,8,45,46,47,48] [oG 48 .lss 47 46] (.seq [0,3,7,8,45,46,47] (.cond (.t 48) .skip (.exit 0)) (.seq [0,3,7,8,45,46,47] (.block 1 (sr [0,3,7,8,10,45,46,47] [oI 49 1 45 47,oL 50 49,oM 10 50] (sr [0,3,7,8,10,11,45,46,47] [Az 51 4 3,oM 52 10,B3 53 276 51 52,oo 11 (.alloc [(.i .i64 0),(.i .i64 0),(.i .i64 0),(.i .i64 0)]),oS 4 11 53] (.seq [0,3,7,8,10,12,13,45,46,47] (.BX [0,3,7,8,10,12,13,45,46,47] [dO 0 (oM 54 0),dO 1 (Az 55 4 11),dO 6 (oM 60 0),dO 7 (Az 61 4 11),⟨2,B3 56 275 54 55,[7],[Az 61 4 11]⟩,dO 3 (oK 57 56),dO 4 (oF 58 6 57),dO 5 (oL 59 58),⟨8,B3 62 260 60 61,[5],[oL 59 58]⟩,dO 9 (oM 12 59),dO 10 (oM 13 62)]) (.block 2 (sr [0,3,7,8,10,12,13,45,46,47,63] [oM 64 12,oM 65 64,A7 66 13 65,Lb 67 66 65,oP 68 65 67,oM 63 68] (.cond (.t 63) (sr [4,5] [oo 4 (.mv (.c (.i .u64 0))),As 5 false] .ret) (sr [0,3,7,8,10,13,45,46,47,69] [oM 70 12,oM 69 70] (.cond (.t 69) (.Ax [oM 71 7,oM 72 0,oK 73 72,oF 74 0 73,oL 75 74,oK 76 75,oF 77 0 76,oF 78 1 77,oL 79 78,oM 80 10,oI 81 1 79 80,oL 82 81,B3 83 176 71 82,oM 7 83]) (sr [0,3,7,8,10,45,46,47,84] [oM 85 13,oN 86 85,oM 84 86] (.cond (.t 84) (.Ax [oM 87 8,oM 88 0,oK 89 88,oF 90 0 89,oL 91 90,oK 92 91,oF 93 0 92,oF 94 1 93,oL 95 94,oM 96 10,oI 97 1 95 96,oL 98 97,B3 99 176 87 98,oM 8 99]) .skip))))))))))) (.Ax [Aa 100 .add 47 1,oM 47 100]))))))) (.seq [7,8] (sr [0,7,8,14] [BI 14 3] (.block 3 (.loop [0,7,8,14] (.seq [0,7,8,14] (sr [0,7,8,14,112] [oM 101 14,oM 102 0,oK 103 102,oF 104 0 103,oL 105 104,oK 106 105,oF 107 0 106,oF 108 0 107,oL 109 108,oE 110 109,oo 111 (.bin .add (.c (.i .i64 3)) (.t 110)),oG 112 .lss 101 111] (.cond (.t 112) .skip (.exit 3))) (.seq [0,7,8,14] (.block 4 (sr [0,7,8,14,117] [oM 115 7,oM 116 14,B3 117 152 115 116] (.cond (.t 117) (.Ax [oM 118 7,oM 119 0,oK 120 119,oF 121 0 120,oL 122 121,oM 123 14,oK 124 122,oF 125 2 124,oo 126 (.Bg 1 (some 63) (.t 125) (.t 123)),oL 127 126,oG 128 .or 118 127,oM 7 128]) .skip))) (.Ax [oM 113 14,Aa 114 .add 113 1,oM 14 114])))))) (sr [7,8] [oM 129 7,oo 130 (.bin .andNot (.t 129) (.c (.i .u64 1))),oM 7 130] (sr [4,5] [oM 131 7,oM 132 7,oM 133 8,oG 134 .and 132 133,oo 135 (.bin .eql (.t 134) (.c (.i .u64 0))),oM 4 131,oM 5 135] .ret))))))))
def jt:CT 280 136 qs [4,5]:=cT Tryz.func280 [3]
abbrev qq:AJ:=(sr [0,1] [As 4 false] (sr [4] [oM 5 0,oE 6 5,oM 7 1,oE 8 7,oG 9 .geq 6 8,oM 10 9,A7 11 0 10,A7 12 1 10,F1 13 12 10,Cw 14 (.slice 1 (.t 11) none (some (.t 13)) none) 10,A7 15 1 10,Cw 16 (.call 30 [(.t 14),(.t 15)]) 10,oP 17 10 16,oM 4 17] .ret))
def js:CT 281 18 qq [4]:=cT Tryz.func281
abbrev qp:AJ:=(sr [0,1] [Cl 4,As 5 false] (sr [0,1,6] [Cl 6] (.seq [0,1,6] (sr [0,1,6,15,16,17] [oM 9 0,oK 10 9,oF 11 0 10,oL 12 11,oM 13 1,oI 14 1 12 13,oL 15 14,oE 16 15,BI 17 0] (.block 0 (.loop [0,1,6,15,16,17] (sr [0,1,6,15,16,17,18] [oG 18 .lss 17 16] (.seq [0,1,6,15,16,17] (.cond (.t 18) .skip (.exit 0)) (.seq [0,1,6,15,16,17] (.block 1 (sr [0,1,6,8,15,16,17] [oI 19 1 15 17,oL 20 19,oM 8 20] (.seq [0,1,6,8,15,16,17] (sr [0,1,6,8,15,16,17,28] [oM 21 0,oK 22 21,oF 23 2 22,oL 24 23,oM 25 8,oo 26 (.lookup (.i .i64) (.l [] true) false (.t 24) (.t 25)),oE 27 26,Aa 28 .eql 27 0] (.cond (.t 28) (sr [4,5] [Cl 4,As 5 false] .ret) .skip)) (.Ax [oM 29 6,oM 30 0,oK 31 30,oF 32 2 31,oL 33 32,oM 34 8,oo 35 (.lookup (.i .i64) (.l [] true) false (.t 33) (.t 34)),oC 36 285 35,oo 37 (.Ab 1 1 [(.l [] true)] [(0,(.t 36))]),oA 38 1 24 29 37,oM 6 38])))) (.Ax [Aa 39 .add 17 1,oM 17 39]))))))) (sr [4,5] [oM 40 6,oM 41 0,oK 42 41,oF 43 0 42,oL 44 43,oM 45 1,oI 46 1 44 45,oL 47 46,oo 48 (.Ab 1 1 [(.l [] true)] [(0,(.t 47))]),oA 49 1 24 40 48,oM 4 49,As 5 true] .ret))))
def jr:CT 282 50 qp [4,5]:=cT Tryz.func282
abbrev qo:AJ:=(sr [0] [Cl 2,As 3 false] (.scope (sr [0,4] [Cl 4] (.seq [0,4] .skip (.block 0 (.loop [0,4] (.block 1 (.scope (sr [0,4,5] [As 5 false] (.seq [0,4,5] .skip (.seq [4,5] (sr [0,4,5,14,15,16] [oM 14 0,oE 15 14,BI 16 0] (.block 2 (.loop [0,4,5,14,15,16] (sr [0,4,5,14,15,16,17] [oG 17 .lss 16 15] (.seq [0,4,5,14,15,16] (.cond (.t 17) .skip (.exit 2)) (.seq [0,4,5,14,15,16] (.block 3 (sr [0,4,5,7,14,15,16] [oI 18 1 14 16,oL 19 18,oM 7 19] (.seq [0,4,7,14,15,16] (sr [0,4,5,7,14,15,16,22] [oM 20 7,oE 21 20,Aa 22 .eql 21 0] (.cond (.t 22) (.exit 3) .skip)) (sr [0,4,5,7,14,15,16] [As 5 true] (.seq [0,4,7] (sr [0,4,5,7,14,15,16,23,24,25] [oM 23 0,oE 24 23,BI 25 0] (.block 4 (.loop [0,4,5,7,14,15,16,23,24,25] (sr [0,4,5,7,14,15,16,23,24,25,26] [oG 26 .lss 25 24] (.seq [0,4,5,7,14,15,16,23,24,25] (.cond (.t 26) .skip (.exit 4)) (.seq [0,4,5,7,14,15,16,23,24,25] (.block 5 (sr [0,4,5,7,9,14,15,16,23,24,25] [oI 27 1 23 25,oL 28 27,oM 9 28] (.seq [0,4,5,7,14,15,16,23,24,25,39] (.BX [0,4,5,7,14,15,16,23,24,25,39] [dO 0 (oM 29 9),dO 1 (oE 30 29),dO 2 (Aa 31 .gtr 30 0),dO 3 (oM 32 31),dO 4 (A7 33 9 32),dO 5 (Cw 34 (.slice 1 (.t 33) (some (.c (.i .i64 1))) none none) 32),dO 6 (A7 35 7 32),dO 7 (Cw 36 (.Bg 1 none (.t 35) (.c (.i .i64 0))) 32),dO 8 (Av 37 36 32),dO 9 (Cw 38 (.call 172 [(.t 34),(.t 37)]) 32),dO 10 (oP 39 32 38)]) (.cond (.t 39) (.exit 3) .skip)))) (.Ax [Aa 40 .add 25 1,oM 25 40]))))))) (sr [0,4,10] [oM 41 7,oo 42 (.Bg 1 none (.t 41) (.c (.i .i64 0))),oL 43 42,oo 10 (.alloc [(.i .i64 0)]),oS 1 10 43] (sr [0,4,10] [oM 44 4,oL 45 10,oo 46 (.Ab 1 1 [(.i .i64 0)] [(0,(.t 45))]),oA 47 1 8 44 46,oM 4 47] (sr [0,4,10,11] [Cl 11] (.seq [4,11] (sr [4,10,11,48,49,50] [oM 48 0,oE 49 48,BI 50 0] (.block 6 (.loop [4,10,11,48,49,50] (sr [4,10,11,48,49,50,51] [oG 51 .lss 50 49] (.seq [4,10,11,48,49,50] (.cond (.t 51) .skip (.exit 6)) (.seq [4,10,11,48,49,50] (.block 7 (sr [4,10,11,13,48,49,50] [oI 52 1 48 50,oL 53 52,oM 13 53] (.Ax [oM 54 11,oM 55 13,oo 56 (.IW (.func 287) [] [(.t 10)]),B3 57 286 55 56,oo 58 (.Ab 1 1 [(.l [] true)] [(0,(.t 57))]),oA 59 1 24 54 58,oM 11 59]))) (.Ax [Aa 60 .add 50 1,oM 50 60]))))))) (sr [0,4] [oM 61 11,oo 0 (.Yn (.t 61))] (.exit 1))))))))))) (.Ax [Aa 62 .add 16 1,oM 16 62]))))))) (sr [2,3] [oM 63 4,oM 64 5,oN 65 64,oM 2 63,oM 3 65] .ret))))))))))))
def jq:CT 283 66 qo [2,3]:=cT Tryz.func283 [0]
abbrev qn:AJ:=(sr [0,2,4] [Bb 4 1,As 6 false] (sr [0,2,4,7] [oM 9 0,Az 10 4 4,B3 11 275 9 10,oM 7 11] (sr [0,4,7,8] [oM 12 2,oo 13 (.call 176 [(.c (.i .u64 1)),(.t 12)]),oM 8 13] (sr [6] [oM 14 7,oK 15 14,oF 16 3 15,oL 17 16,oM 18 8,oG 19 .andNot 17 18,oo 20 (.bin .eql (.t 19) (.c (.i .u64 0))),oM 21 20,A7 22 7 21,Cw 23 (.Fa (.t 22)) 21,BM 24 4 23 21,Av 25 24 21,A7 26 8 21,Dk 27 .and 25 26 21,Cw 28 (.bin .eql (.t 27) (.c (.i .u64 0))) 21,oP 29 21 28,oM 30 29,A7 31 0 30,Hm 32 4 4 30,Cw 33 (.call 288 [(.t 31),(.t 32)]) 30,oP 34 30 33,oM 6 34] .ret))))
def jo:CT 284 35 qn [6]:=cT Tryz.func284 [4]
abbrev qm:AJ:=(sr [0] [Cl 2] (sr [2] [oM 3 0,oo 4 (.call 286 [(.t 3),(.c (.f (.func 289) [] []))]),oM 2 4] .ret))
def jn:CT 285 5 qm [2]:=cT Tryz.func285
abbrev ql:AJ:=(sr [0,1] [Cl 4] (sr [0,1,5] [Cl 5] (.seq [5] (sr [1,5,8,9,10] [oM 8 0,oE 9 8,BI 10 0] (.block 0 (.loop [1,5,8,9,10] (sr [1,5,8,9,10,11] [oG 11 .lss 10 9] (.seq [1,5,8,9,10] (.cond (.t 11) .skip (.exit 0)) (.seq [1,5,8,9,10] (.block 1 (sr [1,5,7,8,9,10] [oI 12 1 8 10,oL 13 12,oM 7 13] (sr [1,5,7,8,9,10,16] [oM 14 1,oM 15 7,oo 16 (.CI (.t 14) [(.t 15)])] (.cond (.t 16) (.Ax [oM 17 5,oM 18 7,oo 19 (.Ab 1 1 [(.i .i64 0)] [(0,(.t 18))]),oA 20 1 8 17 19,oM 5 20]) .skip)))) (.Ax [Aa 21 .add 10 1,oM 10 21]))))))) (sr [4] [oM 22 5,oM 4 22] .ret))))
def Zn:CT 286 23 ql [4]:=cT Tryz.func286
abbrev qj:AJ:=(sr [0,1] [As 3 false] (sr [3] [oM 4 0,oL 5 1,oG 6 .neq 4 5,oM 3 6] .ret))
def jm:CT 287 7 qj [3]:=cT Tryz.func287
abbrev qi:AJ:=(sr [2,3] [Bb 2 0,Bb 3 1,As 4 false] (sr [4] [oL 5 2,Az 6 4 3,B3 7 275 5 6,oK 8 7,oF 9 7 8,oL 10 9,oo 11 (.IW (.func 290) [] [(.t 2),(.t 3)]),B3 12 177 10 11,oM 4 12] .ret))
def jl:CT 288 13 qi [4]:=cT Tryz.func288 [2,3]
abbrev qh:AJ:=(sr [0] [As 2 false] (sr [2] [oM 3 0,Aa 4 .neq 3 0,oM 2 4] .ret))
def jk:CT 289 5 qh [2]:=cT Tryz.func289
abbrev qg:AJ:=(sr [0,1,2] [As 4 false] (.seq [4] (.BX [4] [dO 0 (oL 5 1),dO 1 (Az 6 4 2),dO 2 (oM 7 0),⟨3,B3 8 276 6 7,[0],[oL 5 1]⟩,dO 4 (B3 9 275 5 8),dO 5 (oK 10 9),dO 6 (oF 11 6 10),dO 7 (oL 12 11),dO 8 (oN 13 12),dO 9 (oM 4 13)]) .ret))
def jj:CT 290 14 qg [4]:=cT Tryz.func290
abbrev qf:AJ:=(sr [0] [Bb 4 1,Bb 5 2,BI 6 0] (sr [6] [oM 7 0,oM 6 7] .ret))
def ji:CT 306 8 qf [6]:=cT Tryz.func306 [4,5]
abbrev qe:AJ:=(sr [4,5] [Bb 3 0,Bb 4 1,Bb 5 2,BI 6 0] (sr [6] [oF 7 2 4,oL 8 7,oF 9 1 5,oL 10 9,oI 11 1 8 10,oL 12 11,oM 6 12] .ret))
def jh:CT 307 13 qe [6]:=cT Tryz.func307 [3,4,5]
end Go.Gl
namespace Go.Gl
open Go.Proofs
attribute [local irreducible] BJ A2 Ak AW AM Aj AV AX AN Ai AR AU A5 BF Sat Ad BD Al W
def A6 (p:Prog):List (List Int):=p.AP.map (·.parents)
def hQ (p:Prog):Prop:=p.AP.length≤Af∧ ∀c∈p.AP,c.parents.length≤Af∧c.AT.length≤Af∧c.inits.length≤Af
def Wd (p:Prog) (hp:hQ p) (hk0:p.AP.length≤1000):Pure Tryz.prog 91 [.a (BR p)] (.l (Ec (A6 p)) false):=by
 refine pb kZ ?_
 conv=>whnf
 repeat((first|(refine Aw ?_;intro K U)|(refine AZ ?_;intro I C G F)|(apply G;clear F C G I)|refine Bm ?_|refine Dh ?_|(apply U;clear U K)|fail);conv=>whnf)
 refine B2 p.AP.length (fun k v=>[(3,v),(4,eI (A4 k))]) (fun k v=>[.own v 1 (Ec ((p.AP.take k).map (·.parents)))]) (fun _ _=>True) (.l [] true) rfl trivial (E9 Sat.nil 1) ?_;rintro k v σ hk - hs
 conv=>whnf
 repeat((first|refine⟨rfl,?_⟩|refine Bw ?_|refine FE ?_|(refine Aw ?_;intro K U)|(refine AZ ?_;intro I C G F)|(apply G;clear F C G I)|refine By ?_|(apply U;clear U K)|fail);conv=>whnf)
 refine GI hk hp.1 (fun c hc hlt=>?_) fun hk=>?_
 ·have hcm:=hp.2 c (B5 hc)
  conv=>whnf
  repeat((first|refine Bw ?_|(refine Aw ?_;intro K U)|(refine AZ ?_;intro I C G F)|refine B1 ?_|refine Bm ?_|(apply U;clear U K)|fail);conv=>whnf)
  refine Il hc hp.1 rfl ?_
  conv=>whnf
  repeat((first|refine Bw ?_|fail);conv=>whnf)
  refine Zk B0 (by have:=hcm.1;have hM:=Mx;omega) ?_
  conv=>whnf
  refine Fv hs 0 (x:=c.parents) rfl (by have hM:=Mx;simp only[BQ,KG];omega) DH fun v' σ' hs'=>?_
  conv=>whnf
  repeat((first|refine⟨rfl,?_⟩|(refine AZ ?_;intro I C G F)|(apply G;clear F C G I)|(apply U;clear U K)|(clear U K));conv=>whnf)
  refine⟨hlt,v',rfl,trivial,?_⟩;rw[AO hc,R9];exact hs'
 ·conv=>whnf
  repeat((first|(refine Aw ?_;intro K U)|(refine AZ ?_;intro I C G F)|(apply G;clear F C G I)|refine Di ?_|refine EC ?_|(apply U;clear U K)|(clear U K));conv=>whnf)
  exact EM hs 0 rfl (by rw[Ar hk];rfl)
def BW (i:Nat):List PJ→List Int
 | []=>[]
 | c::r=>List.replicate c.AT.length ((i:Int)+3)++BW (i+1) r
def AS (p:Prog):AK:=⟨A6 p,BW 0 p.AP⟩
def IV (i:Nat) (a b:List PJ):BW i (a++b)=BW i a++BW (i+a.length) b:=by
 induction a generalizing i with
 | nil=>simp[BW]
 | cons c r ih=>
   simp only[List.cons_append,BW,ih,UC,KH];rw[show i+1+r.length=i+(r.length+1) by omega]
def Bu (cs:List PJ):Nat:=(cs.map (·.AT.length)).sum
def Cd (i:Nat) (cs:List PJ):(BW i cs).length=Bu cs:=by
 induction cs generalizing i with
 | nil=>rfl
 | cons c r ih=>simp[BW,ih,Bu]
def Oq {cs:List PJ} {k:Nat} {c:PJ} (h:cs[k]? =some c):Bu (cs.take k)+c.AT.length≤Bu cs:=by
 induction cs generalizing k with
 | nil=>cases h
 | cons d r ih=>
   cases k with
   | zero=>simp at h;subst h;simp[Bu]
   | succ k=>simp at h;have:=ih h;simp only[Bu,List.take_succ_cons,E8,List.sum_cons]at *;omega
def M3 (p:Prog) (hp:hQ p) (hk0:p.AP.length≤1000) (hm:Bu p.AP≤Af):Pure Tryz.prog 62 [.a (BR p)] (.a (BE (AS p))):=by
 refine p7 kZ ?_
 conv=>whnf
 repeat((first|(refine Aw ?_;intro K U)|(refine AZ ?_;intro I C G F)|fail);conv=>whnf)
 intro n hn;have hs:=Y1 (l:=[]) (σ:=emp) Sat.nil hn (o:= .cs [.l [] true,.l [] true])
 conv=>whnf
 repeat((first|refine⟨kZ,?_⟩|refine Bw ?_|(refine Aw ?_;intro K U)|(refine AZ ?_;intro I C G F)|(apply G;clear F C G I)|(apply U;clear U K)|fail);conv=>whnf)
 refine(Wd p hp hk0).use ?_
 conv=>whnf
 intro m hm;have hs:=Y1 hs hm (o:= .cs [.l [] true,.l [] true])
 conv=>whnf
 refine Iy hs 1 rfl rfl rfl rfl (by decide) fun σ hs=>?_
 conv=>whnf
 repeat((first|(refine Aw ?_;intro K U)|(refine AZ ?_;intro I C G F)|(apply G;clear F C G I)|refine Bm ?_|refine Dh ?_|(apply U;clear U K)|fail);conv=>whnf)
 refine B2 p.AP.length (fun k _=>[(4,eI (A4 k))]) (fun k v=>[.box n [.l [] true,.l [] true],.box m [.l (Ec (A6 p)) false,v],.own v 1 (iL (BW 0 (p.AP.take k)))]) (fun _ _=>True) (.l [] true) rfl trivial (E9 hs 1) ?_;rintro k v σ hk - hs
 conv=>whnf
 repeat((first|refine⟨rfl,?_⟩|refine Bw ?_|refine FE ?_|(refine Aw ?_;intro K U)|(refine AZ ?_;intro I C G F)|(apply G;clear F C G I)|refine By ?_|(apply U;clear U K)|fail);conv=>whnf)
 refine GI hk hp.1 (fun c hc hlt=>?_) fun hk=>?_
 ·have hcm:=hp.2 c (B5 hc)
  have htk:=Oq hc
  conv=>whnf
  repeat((first|(refine Aw ?_;intro K U)|(refine AZ ?_;intro I C G F)|(apply G;clear F C G I)|refine B1 ?_|refine Bm ?_|refine Dh ?_|(apply U;clear U K)|fail);conv=>whnf)
  refine B2 c.AT.length (fun j _=>[(5,eI (A4 j))]) (fun j v=>[.box n [.l [] true,.l [] true],.box m [.l (Ec (A6 p)) false,v],.own v 1 (iL (BW 0 (p.AP.take k)++List.replicate j ((k:Int)+3)))]) (fun _ _=>True) v rfl trivial (by simpa using hs) ?_;rintro j v σ hj - hs
  conv=>whnf
  repeat((first|refine Bw ?_|(refine Aw ?_;intro K U)|(refine AZ ?_;intro I C G F)|fail);conv=>whnf)
  refine Il hc hp.1 rfl ?_
  conv=>whnf
  repeat((first|refine⟨rfl,?_⟩|refine Bw ?_|refine FE ?_|(apply G;clear F C G I)|refine By ?_|(apply U;clear U K)|fail);conv=>whnf)
  refine GI hj hcm.2.1 (fun s hsl hjlt=>?_) fun hj=>?_
  ·conv=>whnf
   repeat((first|(refine Aw ?_;intro K U)|(refine AZ ?_;intro I C G F)|refine B1 ?_|refine Bm ?_|(apply U;clear U K)|fail);conv=>whnf)
   refine Se hs 1 rfl ?_
   conv=>whnf
   repeat((first|refine⟨rfl,?_⟩|fail);conv=>whnf)
   have he:IntKind.i64.wrap (A4 k+3)=(k:Int)+3:=by
    have:=hp.1;rw[AL (by omega),wrap64 (by omega) (by simp only[Af]at *;omega)]
   refine Fv hs 2 (x:=IntKind.i64.wrap (A4 k+3)) rfl (by have hM:=Mx;simp only[PK,Cd,List.length_replicate];omega) B0 fun v' σ' hs'=>?_
   conv=>whnf
   refine Kh hs' 1 rfl (HD hs' 2 rfl) kZ fun σ2 hs2=>?_
   conv=>whnf
   repeat((first|refine⟨rfl,?_⟩|(refine AZ ?_;intro I C G F)|(apply G;clear F C G I)|(apply U;clear U K)|(clear U K));conv=>whnf)
   refine⟨hjlt,v',rfl,trivial,?_⟩;rw[List.replicate_succ',←UC];rw[he]at hs2;exact hs2
  ·conv=>whnf
   repeat((first|refine⟨rfl,?_⟩|(refine AZ ?_;intro I C G F)|(apply G;clear F C G I)|refine Di ?_|(apply U;clear U K)|(clear U K));conv=>whnf)
   refine⟨hlt,v,rfl,trivial,?_⟩;rw[AO hc,IV];have:(p.AP.take k).length=k:=by simp;omega
   rw[this];simpa[BW,hj]using hs
 ·conv=>whnf
  repeat((first|(refine Aw ?_;intro K U)|(refine AZ ?_;intro I C G F)|refine Di ?_|(apply U;clear U K)|(clear U K));conv=>whnf)
  refine Se hs 1 rfl ?_
  conv=>whnf
  repeat((first|refine⟨kZ,?_⟩|fail);conv=>whnf)
  refine Iy hs 0 rfl rfl rfl (by simp[HD hs 2 rfl]) kZ fun σ2 hs2=>?_
  conv=>whnf
  repeat((first|(apply G;clear F C G I)|refine EC ?_|(apply U;clear U K)|fail);conv=>whnf)
  refine Se hs2 0 rfl ?_
  conv=>whnf
  repeat((first|refine⟨kZ,?_⟩|fail);conv=>whnf)
  refine Bh (.a (.cons (.refl _) (.cons ?_ .nil)));have:=hs2.Pm 2 rfl;rw[Ar hk]at this;exact this
def Zi (xs:List Int) (f:Bool) (x:Int) (hx:xs.length≤Af):Pure Tryz.prog 154 [.l (iL xs) f,.i .i64 x] (.b (xs.contains x)):=by
 refine mE kZ ?_
 conv=>whnf
 repeat((first|(refine Aw ?_;intro K U)|(refine AZ ?_;intro I C G F)|(apply G;clear F C G I)|refine Bm ?_|refine Dh ?_|(apply U;clear U K)|fail);conv=>whnf)
 refine B2 xs.length (fun k (_:Unit)=>[(5,eI (A4 k))]) (fun _ _=>[]) (fun k _=>x∉xs.take k) () rfl (by simp) Sat.nil ?_;rintro k - σ hk hn -
 conv=>whnf
 repeat((first|refine⟨rfl,?_⟩|refine FE ?_|(refine Aw ?_;intro K U)|(refine AZ ?_;intro I C G F)|(apply G;clear F C G I)|refine By ?_|(apply U;clear U K)|fail);conv=>whnf)
 refine GI hk hx (fun y hy hlt=>?_) fun hk=>?_
 ·conv=>whnf
  repeat((first|(refine Aw ?_;intro K U)|(refine AZ ?_;intro I C G F)|refine B1 ?_|refine Bm ?_|(apply U;clear U K)|fail);conv=>whnf)
  refine Il hy hx rfl ?_
  conv=>whnf
  repeat((first|refine⟨rfl,?_⟩|refine Bw ?_|(apply G;clear F C G I)|refine By ?_|(apply U;clear U K)|fail);conv=>whnf)
  refine Wi (fun he=>?_) (fun he=>?_)
  ·conv=>whnf
   repeat((first|(refine Aw ?_;intro K U)|(refine AZ ?_;intro I C G F)|(apply G;clear F C G I)|refine EC ?_|(apply U;clear U K)|(clear U K));conv=>whnf)
   refine AI ?_;have:x∈xs:=he ▸ B5 hy;simp[this]
  ·conv=>whnf
   repeat((first|refine⟨rfl,?_⟩|(refine AZ ?_;intro I C G F)|(apply G;clear F C G I)|refine B1 ?_|(apply U;clear U K)|(clear U K));conv=>whnf)
   refine⟨hlt,(),rfl,?_,Sat.nil⟩;rw[AO hy];simp only[Fs,LV,not_or];exact⟨hn,fun e=>he e.symm⟩
 ·conv=>whnf
  repeat((first|(refine Aw ?_;intro K U)|(refine AZ ?_;intro I C G F)|(apply G;clear F C G I)|refine Di ?_|refine EC ?_|(apply U;clear U K)|(clear U K));conv=>whnf)
  refine AI ?_;rw[Ar hk]at hn;simp[hn]
def OR (xs:List Int) (f:Bool) (x:Int) (hx:xs.length≤Af):Pure Tryz.prog 241 [.l (iL xs) f,.i .i64 x] (.l (iL (xs.filter (· != x))) false):=by
 refine kP kZ ?_
 conv=>whnf
 repeat((first|(refine Aw ?_;intro K U)|(refine AZ ?_;intro I C G F)|(apply G;clear F C G I)|refine Bm ?_|refine Dh ?_|(apply U;clear U K)|fail);conv=>whnf)
 refine B2 xs.length (fun k v=>[(5,v),(6,eI (A4 k))]) (fun k v=>[.own v 1 (iL ((xs.take k).filter (· != x)))]) (fun _ _=>True) (.l [] true) rfl trivial (E9 Sat.nil 1) ?_;rintro k v σ hk - hs
 conv=>whnf
 repeat((first|refine⟨rfl,?_⟩|refine FE ?_|(refine Aw ?_;intro K U)|(refine AZ ?_;intro I C G F)|(apply G;clear F C G I)|refine By ?_|(apply U;clear U K)|fail);conv=>whnf)
 refine GI hk hx (fun y hy hlt=>?_) fun hk=>?_
 ·conv=>whnf
  repeat((first|(refine Aw ?_;intro K U)|(refine AZ ?_;intro I C G F)|refine B1 ?_|refine Bm ?_|(apply U;clear U K)|fail);conv=>whnf)
  refine Il hy hx rfl ?_
  conv=>whnf
  repeat((first|refine⟨rfl,?_⟩|refine Bw ?_|(apply G;clear F C G I)|refine By ?_|(apply U;clear U K)|fail);conv=>whnf)
  refine ec (fun he=>?_) (fun he=>?_)
  ·conv=>whnf
   repeat((first|(refine AZ ?_;intro I C G F)|fail);conv=>whnf)
   refine Il hy hx rfl ?_
   conv=>whnf
   repeat((first|refine Bw ?_|fail);conv=>whnf)
   refine Fv hs 0 (x:=y) rfl (by have:=KD (· != x) (xs.take k);simp only[KG]at this;have hM:=Mx;omega) B0 fun v' σ' hs'=>?_
   conv=>whnf
   repeat((first|refine⟨rfl,?_⟩|(refine AZ ?_;intro I C G F)|(apply G;clear F C G I)|(apply U;clear U K)|(clear U K));conv=>whnf)
   refine⟨hlt,v',rfl,trivial,?_⟩;rw[AO hy,List.filter_append];simpa[he]using hs'
  ·conv=>whnf
   repeat((first|refine⟨rfl,?_⟩|(refine AZ ?_;intro I C G F)|(apply G;clear F C G I)|refine B1 ?_|(apply U;clear U K)|(clear U K));conv=>whnf)
   refine⟨hlt,v,rfl,trivial,?_⟩;rw[AO hy,List.filter_append];simpa[he]using hs
 ·conv=>whnf
  repeat((first|(refine Aw ?_;intro K U)|(refine AZ ?_;intro I C G F)|(apply G;clear F C G I)|refine Di ?_|refine EC ?_|(apply U;clear U K)|(clear U K));conv=>whnf)
  exact EM hs 0 rfl (by rw[Ar hk])
def free (ls:List (List Int)) (x:Int):Bool:=ls.all fun l=> !(l.drop 1).contains x
def eZ (ls:List (List Int)) (f:Bool) (x:Int) (hl:ls.length≤Af) (hls: ∀l∈ls,l.length≤Af):Pure Tryz.prog 242 [.l (Ec ls) f,.i .i64 x] (.b (free ls x)):=by
 refine kO kZ ?_
 conv=>whnf
 repeat((first|(refine Aw ?_;intro K U)|(refine AZ ?_;intro I C G F)|(apply G;clear F C G I)|refine Bm ?_|refine Dh ?_|(apply U;clear U K)|fail);conv=>whnf)
 refine B2 ls.length (fun k (_:Unit)=>[(5,eI (A4 k))]) (fun _ _=>[]) (fun k _=> ∀l∈ls.take k,x∉l.drop 1) () rfl (by simp) Sat.nil ?_;rintro k - σ hk hn -
 conv=>whnf
 repeat((first|refine⟨rfl,?_⟩|refine FE ?_|(refine Aw ?_;intro K U)|(refine AZ ?_;intro I C G F)|(apply G;clear F C G I)|refine By ?_|(apply U;clear U K)|fail);conv=>whnf)
 refine GI hk hl (fun y hy hlt=>?_) fun hk=>?_
 ·have hb:=hls _ (B5 hy)
  have next:(x∉y.drop 1)→ ∀l∈ls.take (k+1),x∉l.drop 1:=fun hc l hm=>by
   rw[AO hy]at hm;rcases Fs.1 hm with hm|hm
   ·exact hn l hm
   ·rw[LV.1 hm];exact hc
  conv=>whnf
  repeat((first|(refine Aw ?_;intro K U)|(refine AZ ?_;intro I C G F)|refine B1 ?_|refine Bm ?_|(apply U;clear U K)|fail);conv=>whnf)
  refine Il hy hl rfl ?_
  conv=>whnf
  repeat((first|refine⟨rfl,?_⟩|refine Bw ?_|refine FE ?_|fail);conv=>whnf)
  refine⟨fun h=>?_,fun h=>?_⟩<;>(try rw[h])
  ·have hp:=of_decide_eq_true h
   simp only[BQ]at hp
   conv=>whnf
   repeat((first|refine Lo ?_|fail);conv=>whnf)
   refine Il hy hl rfl ?_
   conv=>whnf
   repeat((first|refine Lo ?_|refine Bw ?_|fail);conv=>whnf)
   refine S3 1 rfl (by omega) (fun _=>rfl) ?_
   conv=>whnf
   repeat((first|refine Lo ?_|fail);conv=>whnf)
   refine(Zi _ _ _ (by rw[nZ];omega)).use ?_
   conv=>whnf
   repeat((first|(apply G;clear F C G I)|refine By ?_|(apply U;clear U K)|fail);conv=>whnf)
   refine⟨fun hc=>?_,fun hc=>?_⟩
   ·conv=>whnf
    repeat((first|(refine Aw ?_;intro K U)|(refine AZ ?_;intro I C G F)|(apply G;clear F C G I)|refine EC ?_|(apply U;clear U K)|(clear U K));conv=>whnf)
    refine AI ?_
    have:free ls x=false:=by
     simp only[free,List.all_eq_false];exact⟨y,B5 hy,by simpa using hc⟩
    rw[this]
   ·conv=>whnf
    repeat((first|refine⟨rfl,?_⟩|(refine AZ ?_;intro I C G F)|(apply G;clear F C G I)|refine B1 ?_|(apply U;clear U K)|(clear U K));conv=>whnf)
    exact⟨hlt,(),rfl,next (by simpa using hc),Sat.nil⟩
  ·have hp: ¬_:=of_decide_eq_false h
   simp only[BQ]at hp
   conv=>whnf
   repeat((first|refine⟨rfl,?_⟩|refine RN ?_|(refine AZ ?_;intro I C G F)|(apply G;clear F C G I)|refine By ?_|refine B1 ?_|(apply U;clear U K)|(clear U K));conv=>whnf)
   refine⟨hlt,(),rfl,next ?_,Sat.nil⟩;rw[List.drop_eq_nil_of_le (by omega)];simp
 ·conv=>whnf
  repeat((first|(refine Aw ?_;intro K U)|(refine AZ ?_;intro I C G F)|(apply G;clear F C G I)|refine Di ?_|refine EC ?_|(apply U;clear U K)|(clear U K));conv=>whnf)
  rw[Ar hk]at hn;refine AI ?_;have:free ls x=true:=by simpa[free]using hn
  rw[this]
def A3 (ls:List (List Int)) (c:Int):List Int:=if c<3 then []else ls.getD (c - 3).toNat []
def U3 (ls:List (List Int)) (f:Bool) (c:Int) (hc:c<3+ls.length) (hm:ls.length≤Af):Pure Tryz.prog 240 [.l (Ec ls) f,.i .i64 c] (.l (iL (A3 ls c)) false):=by
 refine kQ kZ ?_
 conv=>whnf
 repeat((first|refine⟨rfl,?_⟩|(refine Aw ?_;intro K U)|(refine AZ ?_;intro I C G F)|(apply G;clear F C G I)|refine By ?_|(apply U;clear U K)|fail);conv=>whnf)
 refine fork (fun h=>?_) (fun h=>?_)
 ·conv=>whnf
  repeat((first|(refine Aw ?_;intro K U)|(refine AZ ?_;intro I C G F)|(apply G;clear F C G I)|refine EC ?_|(apply U;clear U K)|(clear U K));conv=>whnf)
  refine Bh (.l (fun h=>(by cases h)) ?_);rw[A3,if_pos h];exact .nil
 ·conv=>whnf
  repeat((first|refine⟨rfl,?_⟩|(refine Aw ?_;intro K U)|(refine AZ ?_;intro I C G F)|refine B1 ?_|(apply U;clear U K)|fail);conv=>whnf)
  simp only[Af]at hm;have hlt:(c - 3).toNat<ls.length:=by omega
  refine SR (c - 3).toNat (DJ hlt) (by rw[wrap64 (by omega) (by omega)];omega) rfl ?_
  conv=>whnf
  repeat((first|refine Bw ?_|(apply G;clear F C G I)|refine EC ?_|(apply U;clear U K)|fail);conv=>whnf)
  refine AI ?_;rw[A3,if_neg h,DY,DJ hlt];rfl
def EO (ls os:List (List Int)) (c:Int):Option (List (List Int)):=
 if(A3 ls c).any fun p=>(os.getD p.toNat []).isEmpty then none else some ((A3 ls c).map (fun p=>(os.getD p.toNat []).filter (· != 0))++[A3 ls c])
def ow (o:Option (List (List Int))):V:=match o with|some l=> .t [.l (Ec l) false,.b true]|none=> .t [.l [] false,.b false]
def bJ (ls os:List (List Int)) (f:Bool) (w:V) (c:Int) (hc:c<3+ls.length) (hm:ls.length≤Af) (hos: ∀o∈os,o.length≤Af) (hpl:(A3 ls c).length<1000000)
    (hp: ∀p∈A3 ls c,0≤p∧p.toNat<os.length):Bk Tryz.prog 194 [.l (Ec ls) f,w,.i .i64 c] [.own w 1 (Ec os)] fun r post=>r= .ret (ow (EO ls os c))∧post= [.own w 1 (Ec os)]:=by
 have hM:=Mx;intro σ hs;refine lK kZ ?_
 conv=>whnf
 repeat((first|(refine Aw ?_;intro K U)|(refine AZ ?_;intro I C G F)|(apply G;clear F C G I)|(apply U;clear U K)|fail);conv=>whnf)
 refine(U3 _ _ _ hc hm).use ?_
 conv=>whnf
 repeat((first|(refine Aw ?_;intro K U)|(refine AZ ?_;intro I C G F)|(apply G;clear F C G I)|refine Bm ?_|refine Dh ?_|(apply U;clear U K)|fail);conv=>whnf)
 refine B2 (A3 ls c).length (fun k v=>[(8,v),(10,eI (A4 k))]) (fun k v=>[.own w 1 (Ec os),.own v 1 (Ec (((A3 ls c).take k).map fun p=>(os.getD p.toNat []).filter (· != 0)))]) (fun k _=> ∀p∈(A3 ls c).take k,(os.getD p.toNat []).isEmpty=false)
  (.l [] true) rfl (by simp) (E9 hs 1) ?_
 rintro k v σ hk hne hs
 conv=>whnf
 repeat((first|refine⟨rfl,?_⟩|refine FE ?_|(refine Aw ?_;intro K U)|(refine AZ ?_;intro I C G F)|(apply G;clear F C G I)|refine By ?_|(apply U;clear U K)|fail);conv=>whnf)
 refine GI hk (by omega) (fun p hpk hlt=>?_) fun hk=>?_
 ·obtain ⟨hp0,hp1⟩:=hp _ (B5 hpk)
  have hq:=DJ hp1
  have hgd:os.getD p.toNat []=os[p.toNat]:=by
   rw[DY,hq];rfl
  have hqm:(Ec os)[p.toNat]? =some [.l (iL os[p.toNat]) false]:=by rw[Pc,hq];rfl
  conv=>whnf
  repeat((first|(refine Aw ?_;intro K U)|(refine AZ ?_;intro I C G F)|refine B1 ?_|refine Bm ?_|(apply U;clear U K)|fail);conv=>whnf)
  refine Il hpk (by omega) rfl ?_
  conv=>whnf
  repeat((first|refine Bw ?_|fail);conv=>whnf)
  refine cS hs 0 p.toNat rfl (by omega) (by simpa using hp1) ?_
  conv=>whnf
  refine Hz hs 0 rfl hqm ?_
  conv=>whnf
  repeat((first|refine⟨rfl,?_⟩|refine FE ?_|(apply G;clear F C G I)|refine By ?_|(apply U;clear U K)|fail);conv=>whnf)
  refine Wi (fun he=>?_) (fun he=>?_)
  ·conv=>whnf
   repeat((first|(refine Aw ?_;intro K U)|(refine AZ ?_;intro I C G F)|(apply G;clear F C G I)|refine EC ?_|(apply U;clear U K)|(clear U K));conv=>whnf)
   have hn:EO ls os c=none:=by
    simp only[EO];rw[if_pos];rw[JU];refine⟨p,B5 hpk,?_⟩;rw[hgd];have:(os[p.toNat]).length=0:=by simpa using he
    simp[Yq.1 this]
   rw[hn];exact Ap (l':=[.own w 1 (Ec os)]) hs (by simp) (.t (.cons (.l (fun h=>(by cases h)) .nil) (.cons (.refl _) .nil))) fun σ' hs'=>⟨_,⟨rfl,rfl⟩,hs'⟩
  ·conv=>whnf
   repeat((first|(refine AZ ?_;intro I C G F)|refine B1 ?_|(apply U;clear U K)|fail);conv=>whnf)
   refine Il hpk (by omega) rfl ?_
   conv=>whnf
   repeat((first|refine Bw ?_|fail);conv=>whnf)
   refine cS hs 0 p.toNat rfl (by omega) (by simpa using hp1) ?_
   conv=>whnf
   refine Hz hs 0 rfl hqm ?_
   conv=>whnf
   refine(OR _ _ _ (hos _ (List.getElem_mem hp1))).use ?_
   conv=>whnf
   refine Fv hs 1 (x:=os[p.toNat].filter (· != 0)) rfl (by have hM:=Mx;simp;omega) DH fun v' σ' hs'=>?_
   conv=>whnf
   repeat((first|refine⟨rfl,?_⟩|(refine AZ ?_;intro I C G F)|(apply G;clear F C G I)|(apply U;clear U K)|(clear U K));conv=>whnf)
   refine⟨hlt,v',rfl,fun q hm=>?_,?_⟩
   ·rw [AO hpk]at hm
    rcases Fs.1 hm with hm|hm
    ·exact hne q hm
    ·rw[LV.1 hm,hgd]
     have:(os[p.toNat]).length≠0:=by
      intro e;exact he (by simp[e])
     cases hq:os[p.toNat]with
     | nil=>rw[hq]at this;exact absurd rfl this
     | cons _ _=>rfl
   ·rw[AO hpk,R9,List.map_singleton,hgd]
    exact hs'
 ·rw[Ar hk]at hne hs
  conv=>whnf
  repeat((first|(refine Aw ?_;intro K U)|(refine AZ ?_;intro I C G F)|refine Di ?_|(apply U;clear U K)|(clear U K));conv=>whnf)
  refine Fv hs 1 (x:=A3 ls c) rfl (by have hM:=Mx;simp;omega) DH fun v' σ' hs'=>?_
  conv=>whnf
  repeat((first|(apply G;clear F C G I)|refine EC ?_|(apply U;clear U K)|fail);conv=>whnf)
  have hn:EO ls os c=some ((A3 ls c).map (fun p=>(os.getD p.toNat []).filter (· != 0))++[A3 ls c]):=by
   simp only[EO];rw[if_neg];rw[JU];rintro⟨p,h1,h2⟩;rw[hne p h1]at h2;cases h2
  rw[hn];obtain⟨σ2,h1,h2,h3⟩:=IM hs' 1 rfl;exact F4 h1 (.t (.cons h2 (.cons (.refl _) .nil))) ⟨_,⟨rfl,rfl⟩,h3⟩
end Go.Gl
