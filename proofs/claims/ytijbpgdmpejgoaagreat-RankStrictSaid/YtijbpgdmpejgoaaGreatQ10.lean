import Derived.Test.YtijbpgdmpejgoaaGreatProg
import Derived.KernelRfl
import Derived.Test.YtijbpgdmpejgoaaGreatQ8
import Derived.Test.YtijbpgdmpejgoaaGreatQ9
set_option linter.all false
set_option linter.unusedVariables false
set_option linter.unusedSimpArgs false
namespace Go.Gl
open Go.Proofs
abbrev pD:AJ:=(sr [0,1,2] [BY 6 false] (.seq [0,1,2] (sr [0,1,2,14] [oM 10 0,oE 11 10,oM 12 1,oE 13 12,oG 14 .neq 11 13] (.cond (.t 14) (sr [6] [BY 6 false] .ret) .skip)) (.seq [] (sr [1,2,15,16,17] [oM 15 0,oE 16 15,Bg 17 0] (.block 0 (.loop [1,2,15,16,17] (sr [1,2,15,16,17,18] [oG 18 .lss 17 16] (.seq [1,2,15,16,17] (.cond (.t 18) .skip (.exit 0)) (.seq [1,2,15,16,17] (.block 1 (sr [1,2,7,8,15,16,17] [oM 19 17,oI 20 6 15 17,BW 21 6 20,oo 8 (.alloc [(.i .i64 0),(.i .i64 0),(.l [] true),(.i .i64 0),(.i .i64 0),(.l [] true)]),oM 7 19,oS 6 8 21] (sr [1,2,8,9,15,16,17] [oM 22 1,oM 23 7,oI 24 6 22 23,BW 25 6 24,oo 9 (.alloc [(.i .i64 0),(.i .i64 0),(.l [] true),(.i .i64 0),(.i .i64 0),(.l [] true)]),oS 6 9 25] (sr [1,2,15,16,17,30] [oM 26 2,BW 27 6 8,BW 28 6 9,oo 29 (.Bs (.t 26) [(.t 27),(.t 28)]),oN 30 29] (.cond (.t 30) (sr [6] [BY 6 false] .ret) .skip))))) (.A2 [Ak 31 .add 17 1,oM 17 31]))))))) (sr [6] [BY 6 true] .ret))))
theorem uF:CT 274 32 pD [6]:=cT Tryz.func274
abbrev pC:AJ:=(sr [1,2,4] [oB 2 0,oo 4 (.alloc [(.i .i64 0),(.i .i64 0),(.i .i64 0),(.i .i64 0)])] (sr [2,4] [oF 5 1 2,oL 6 5,oM 7 1,oF 8 2 2,oo 9 (.BG 1 (some 2) (.t 8) (.t 6)),oS 1 9 7] (sr [2,4] [oF 10 1 2,oL 11 10,Ak 12 .add 11 1,oF 13 1 2,oS 1 13 12] (sr [4] [BW 14 4 2,oS 4 4 14] .ret))))
theorem uE:CU 276 15 pC [.c 4 (some 4)]:=cU Tryz.func276
abbrev pB:AJ:=(sr [0,3] [C9 3 1] (.block 0 (sr [0,3,33] [oF 34 0 3,oF 35 0 34,oL 36 35,Ak 37 .eql 36 2,oM 38 37,Bh 39 6 3 38,Av 40 39 38,oP 41 38 40,oM 33 41] (.cond (.t 33) (.BC [] [dO 0 (oM 42 0),dO 1 (oM 43 0),dO 2 (oK 44 43),dO 3 (oF 45 4 44),dO 4 (oL 46 45),dO 5 (oF 47 0 3),dO 6 (oF 48 3 47),dO 7 (oL 49 48),dO 8 (CG 50 176 46 49),dO 9 (oK 51 42),dO 10 (oF 52 4 51),dO 11 (oS 1 52 50)]) (sr [0,3,53] [oF 54 0 3,oF 55 0 54,oL 56 55,Ak 57 .eql 56 2,oM 53 57] (.cond (.t 53) (.BC [] [dO 0 (oM 58 0),dO 1 (oM 59 0),dO 2 (oK 60 59),dO 3 (oF 61 3 60),dO 4 (oL 62 61),dO 5 (oF 63 0 3),dO 6 (oF 64 3 63),dO 7 (oL 65 64),dO 8 (CG 66 176 62 65),dO 9 (oK 67 58),dO 10 (oF 68 3 67),dO 11 (oS 1 68 66)]) (sr [0,3,69] [oF 70 0 3,oF 71 0 70,oL 72 71,Ak 73 .eql 72 3,oM 74 73,Bh 75 6 3 74,Av 76 75 74,oP 77 74 76,oM 69 77] (.cond (.t 69) (.BC [] [dO 0 (oM 78 0),dO 1 (oM 79 0),dO 2 (oK 80 79),dO 3 (oF 81 0 80),dO 4 (oF 82 0 81),dO 5 (oL 83 82),dO 6 (oF 84 0 3),dO 7 (oF 85 4 84),dO 8 (oL 86 85),dO 9 (oo 87 (.MP (.t 83) (.t 86))),dO 10 (oK 88 78),dO 11 (oF 89 0 88),dO 12 (oF 90 0 89),dO 13 (oS 1 90 87)]) (sr [0,3,91] [oF 92 0 3,oF 93 0 92,oL 94 93,Ak 95 .eql 94 3,oM 91 95] (.cond (.t 91) (.BC [] [dO 0 (oM 96 0),dO 1 (oM 97 0),dO 2 (oM 98 0),dO 3 (oK 99 98),dO 4 (oF 100 0 99),dO 5 (oF 101 1 100),dO 6 (oL 102 101),dO 7 (oF 103 0 3),dO 8 (oF 104 4 103),dO 9 (oL 105 104),dO 10 (Ak 106 .sub 105 1),dO 11 (oo 107 (.Om (.t 102) (.t 106))),dO 12 (oK 108 96),dO 13 (oF 109 0 108),dO 14 (oF 110 1 109),dO 15 (oS 1 110 107),dO 16 (oK 111 97),dO 17 (oF 112 5 111),⟨18,⟨none,.store 1 (.t 112) (.c (.b true)),none⟩,[],[]⟩]) (sr [0,3,113] [oF 114 6 3,oL 115 114,oM 113 115] (.cond (.t 113) (.BC [] [dO 0 (oM 116 0),dO 1 (oM 117 0),dO 2 (oK 118 117),dO 3 (oF 119 0 118),dO 4 (oF 120 2 119),dO 5 (oL 121 120),dO 6 (oF 122 0 3),dO 7 (oF 123 4 122),dO 8 (oL 124 123),dO 9 (oo 125 (.Am 1 1 [(.i .i64 0)] [(0,(.t 124))])),dO 10 (oA 126 1 8 121 125),dO 11 (oK 127 116),dO 12 (oF 128 0 127),dO 13 (oF 129 2 128),dO 14 (oS 1 129 126)]) (.BC [] (dO 0 (oM 4 0)::dO 1 (oM 5 0)::dO 2 (oM 6 0)::dO 3 (oM 7 0)::dO 4 (oK 8 7)::dO 5 (oF 9 0 8)::dO 6 (oF 10 0 9)::dO 7 (oL 11 10)::dO 8 (oF 12 0 3)::dO 9 (oF 13 4 12)::dO 10 (oL 14 13)::dO 11 (oo 15 (.MP (.t 11) (.t 14)))::dO 12 (oM 16 0)::dO 13 (oK 17 16)::dO 14 (oF 18 0 17)::dO 15 (oF 19 1 18)::dO 16 (oL 20 19)::dO 17 (oF 21 0 3)::dO 18 (oF 22 4 21)::dO 19 (oL 23 22)::dO 20 (oo 24 (.Om (.t 20) (.t 23)))::dO 21 (oK 25 4)::dO 22 (oF 26 0 25)::dO 23 (oF 27 0 26)::⟨24,oS 1 27 15,[19],[oL 23 22]⟩::dO 25 (oK 28 5)::dO 26 (oF 29 0 28)::dO 27 (oF 30 1 29)::dO 28 (oS 1 30 24)::dO 29 (oK 31 6)::dO 30 (oF 32 5 31)::⟨31,⟨none,.store 1 (.t 32) (.c (.b true)),none⟩,[],[]⟩:: []))))))))))))))
theorem uD:CT 277 130 pB []:=cT Tryz.func277 [3]
abbrev pA:AJ:=(sr [0,3] [C9 3 1,Bg 4 0,BY 5 false] (sr [0,3,6] [oM 8 0,BW 9 4 3,CG 10 275 8 9,oM 6 10] (sr [0,3,6,7] [oM 11 6,oK 12 11,oF 13 0 12,oF 14 0 13,oL 15 14,oM 7 15] (.seq [0,3,6,7] (.block 0 (.loop [0,3,6,7] (.seq [0,3,6,7] (sr [0,3,6,7,22] [oM 16 6,oK 17 16,oF 18 0 17,oF 19 2 18,oL 20 19,oM 21 7,CG 22 172 20 21] (.cond (.t 22) .skip (.exit 0))) (.block 1 (.A2 [oM 23 7,Ak 24 .add 23 1,oM 7 24]))))) (sr [4,5] [oM 25 7,oM 26 7,oM 27 6,oK 28 27,oF 29 0 28,oF 30 1 29,oL 31 30,oG 32 .leq 26 31,oM 33 32,Aw 34 0 33,QK 35 4 3 33,Cs 36 (.call 284 [(.t 34),(.t 35),(.c (.i .i64 1))]) 33,oP 37 33 36,oM 4 25,oM 5 37] .ret)))))
theorem uC:CT 278 38 pA [4,5]:=cT Tryz.func278 [3]
abbrev o8:AJ:=(sr [0,3] [C9 3 1,BY 4 false] (sr [4] [oM 5 0,BW 6 4 3,CG 7 275 5 6,oK 8 7,oF 9 5 8,oL 10 9,oN 11 10,oM 12 11,Aw 13 0 12,QK 14 4 3 12,Cs 15 (.call 284 [(.t 13),(.t 14),(.c (.i .i64 2))]) 12,oP 16 12 15,oM 4 16] .ret))
theorem uB:CT 279 17 o8 [4]:=cT Tryz.func279 [3]
abbrev o7:AJ:=(sr [0,3] [C9 3 1,oo 4 (.mv (.c (.i .u64 0))),BY 5 false] (sr [0,3,6] [oM 15 0,BW 16 4 3,CG 17 275 15 16,oM 6 17] (.seq [0,3,6,7,8] (.BC [0,3,6,7,8] [dO 0 (oM 18 6),dO 1 (oK 19 18),dO 2 (oF 20 3 19),dO 3 (oL 21 20),dO 4 (oM 22 6),dO 5 (oK 23 22),dO 6 (oF 24 4 23),dO 7 (oL 25 24),dO 8 (oM 7 21),dO 9 (oM 8 25)]) (.seq [0,3,6,7,8] (sr [0,3,6,7,8,41] [oM 26 6,oK 27 26,oF 28 5 27,oL 29 28,oM 30 29,B0 31 7 30,HR 32 (.call 152 [(.t 31),(.c (.i .i64 1))]) 30,oQ 33 30 32,oM 34 33,B0 35 7 34,HR 36 (.call 152 [(.t 35),(.c (.i .i64 2))]) 34,oQ 37 34 36,oM 38 37,B0 39 8 38,HR 40 (.call 152 [(.t 39),(.c (.i .i64 0))]) 38,oQ 41 38 40] (.cond (.t 41) (sr [4,5] [oo 4 (.mv (.c (.i .u64 0))),BY 5 false] .ret) .skip)) (.seq [0,7,8] (sr [0,3,7,8,45,46,47] [oM 42 6,oK 43 42,oF 44 7 43,oL 45 44,oE 46 45,Bg 47 0] (.block 0 (.loop [0,3,7,8,45,46,47] (sr [0,3,7,8,45,46,47,48] [oG 48 .lss 47 46] (.seq [0,3,7,8,45,46,47] (.cond (.t 48) .skip (.exit 0)) (.seq [0,3,7,8,45,46,47] (.block 1 (sr [0,3,7,8,10,45,46,47] [oI 49 1 45 47,oL 50 49,oM 10 50] (sr [0,3,7,8,10,11,45,46,47] [BW 51 4 3,oM 52 10,CG 53 276 51 52,oo 11 (.alloc [(.i .i64 0),(.i .i64 0),(.i .i64 0),(.i .i64 0)]),oS 4 11 53] (.seq [0,3,7,8,10,12,13,45,46,47] (.BC [0,3,7,8,10,12,13,45,46,47] [dO 0 (oM 54 0),dO 1 (BW 55 4 11),dO 6 (oM 60 0),dO 7 (BW 61 4 11),⟨2,CG 56 275 54 55,[7],[BW 61 4 11]⟩,dO 3 (oK 57 56),dO 4 (oF 58 6 57),dO 5 (oL 59 58),⟨8,CG 62 260 60 61,[5],[oL 59 58]⟩,dO 9 (oM 12 59),dO 10 (oM 13 62)]) (.block 2 (sr [0,3,7,8,10,12,13,45,46,47,63] [oM 64 12,oM 65 64,Aw 66 13 65,Ik 67 66 65,oP 68 65 67,oM 63 68] (.cond (.t 63) (sr [4,5] [oo 4 (.mv (.c (.i .u64 0))),BY 5 false] .ret) (sr [0,3,7,8,10,13,45,46,47,69] [oM 70 12,oM 69 70] (.cond (.t 69) (.A2 [oM 71 7,oM 72 0,oK 73 72,oF 74 0 73,oL 75 74,oK 76 75,oF 77 0 76,oF 78 1 77,oL 79 78,oM 80 10,oI 81 1 79 80,oL 82 81,CG 83 176 71 82,oM 7 83]) (sr [0,3,7,8,10,45,46,47,84] [oM 85 13,oN 86 85,oM 84 86] (.cond (.t 84) (.A2 [oM 87 8,oM 88 0,oK 89 88,oF 90 0 89,oL 91 90,oK 92 91,oF 93 0 92,oF 94 1 93,oL 95 94,oM 96 10,oI 97 1 95 96,oL 98 97,CG 99 176 87 98,oM 8 99]) .skip))))))))))) (.A2 [Ak 100 .add 47 1,oM 47 100]))))))) (.seq [7,8] (sr [0,7,8,14] [Bg 14 3] (.block 3 (.loop [0,7,8,14] (.seq [0,7,8,14] (sr [0,7,8,14,112] [oM 101 14,oM 102 0,oK 103 102,oF 104 0 103,oL 105 104,oK 106 105,oF 107 0 106,oF 108 0 107,oL 109 108,oE 110 109,oo 111 (.bin .add (.c (.i .i64 3)) (.t 110)),oG 112 .lss 101 111] (.cond (.t 112) .skip (.exit 3))) (.seq [0,7,8,14] (.block 4 (sr [0,7,8,14,117] [oM 115 7,oM 116 14,CG 117 152 115 116] (.cond (.t 117) (.A2 [oM 118 7,oM 119 0,oK 120 119,oF 121 0 120,oL 122 121,oM 123 14,oK 124 122,oF 125 2 124,oo 126 (.BG 1 (some 63) (.t 125) (.t 123)),oL 127 126,oG 128 .or 118 127,oM 7 128]) .skip))) (.A2 [oM 113 14,Ak 114 .add 113 1,oM 14 114])))))) (sr [7,8] [oM 129 7,oo 130 (.bin .andNot (.t 129) (.c (.i .u64 1))),oM 7 130] (sr [4,5] [oM 131 7,oM 132 7,oM 133 8,oG 134 .and 132 133,oo 135 (.bin .eql (.t 134) (.c (.i .u64 0))),oM 4 131,oM 5 135] .ret))))))))
theorem uA:CT 280 136 o7 [4,5]:=cT Tryz.func280 [3]
abbrev o6:AJ:=(sr [0,1] [FH 4,BY 5 false] (sr [0,1,6] [FH 6] (.seq [0,1,6] (sr [0,1,6,15,16,17] [oM 9 0,oK 10 9,oF 11 0 10,oL 12 11,oM 13 1,oI 14 1 12 13,oL 15 14,oE 16 15,Bg 17 0] (.block 0 (.loop [0,1,6,15,16,17] (sr [0,1,6,15,16,17,18] [oG 18 .lss 17 16] (.seq [0,1,6,15,16,17] (.cond (.t 18) .skip (.exit 0)) (.seq [0,1,6,15,16,17] (.block 1 (sr [0,1,6,8,15,16,17] [oI 19 1 15 17,oL 20 19,oM 8 20] (.seq [0,1,6,8,15,16,17] (sr [0,1,6,8,15,16,17,28] [oM 21 0,oK 22 21,oF 23 2 22,oL 24 23,oM 25 8,oo 26 (.lookup (.i .i64) (.l [] true) false (.t 24) (.t 25)),oE 27 26,Ak 28 .eql 27 0] (.cond (.t 28) (sr [4,5] [FH 4,BY 5 false] .ret) .skip)) (.A2 [oM 29 6,oM 30 0,oK 31 30,oF 32 2 31,oL 33 32,oM 34 8,oo 35 (.lookup (.i .i64) (.l [] true) false (.t 33) (.t 34)),oC 36 285 35,oo 37 (.Am 1 1 [(.l [] true)] [(0,(.t 36))]),oA 38 1 24 29 37,oM 6 38])))) (.A2 [Ak 39 .add 17 1,oM 17 39]))))))) (sr [4,5] [oM 40 6,oM 41 0,oK 42 41,oF 43 0 42,oL 44 43,oM 45 1,oI 46 1 44 45,oL 47 46,oo 48 (.Am 1 1 [(.l [] true)] [(0,(.t 47))]),oA 49 1 24 40 48,oM 4 49,BY 5 true] .ret))))
theorem tz:CT 282 50 o6 [4,5]:=cT Tryz.func282
abbrev o5:AJ:=(sr [0] [FH 2,BY 3 false] (.scope (sr [0,4] [FH 4] (.seq [0,4] .skip (.block 0 (.loop [0,4] (.block 1 (.scope (sr [0,4,5] [BY 5 false] (.seq [0,4,5] .skip (.seq [4,5] (sr [0,4,5,14,15,16] [oM 14 0,oE 15 14,Bg 16 0] (.block 2 (.loop [0,4,5,14,15,16] (sr [0,4,5,14,15,16,17] [oG 17 .lss 16 15] (.seq [0,4,5,14,15,16] (.cond (.t 17) .skip (.exit 2)) (.seq [0,4,5,14,15,16] (.block 3 (sr [0,4,5,7,14,15,16] [oI 18 1 14 16,oL 19 18,oM 7 19] (.seq [0,4,7,14,15,16] (sr [0,4,5,7,14,15,16,22] [oM 20 7,oE 21 20,Ak 22 .eql 21 0] (.cond (.t 22) (.exit 3) .skip)) (sr [0,4,5,7,14,15,16] [BY 5 true] (.seq [0,4,7] (sr [0,4,5,7,14,15,16,23,24,25] [oM 23 0,oE 24 23,Bg 25 0] (.block 4 (.loop [0,4,5,7,14,15,16,23,24,25] (sr [0,4,5,7,14,15,16,23,24,25,26] [oG 26 .lss 25 24] (.seq [0,4,5,7,14,15,16,23,24,25] (.cond (.t 26) .skip (.exit 4)) (.seq [0,4,5,7,14,15,16,23,24,25] (.block 5 (sr [0,4,5,7,9,14,15,16,23,24,25] [oI 27 1 23 25,oL 28 27,oM 9 28] (.seq [0,4,5,7,14,15,16,23,24,25,39] (.BC [0,4,5,7,14,15,16,23,24,25,39] [dO 0 (oM 29 9),dO 1 (oE 30 29),dO 2 (Ak 31 .gtr 30 0),dO 3 (oM 32 31),dO 4 (Aw 33 9 32),dO 5 (Cs 34 (.slice 1 (.t 33) (some (.c (.i .i64 1))) none none) 32),dO 6 (Aw 35 7 32),dO 7 (Cs 36 (.BG 1 none (.t 35) (.c (.i .i64 0))) 32),dO 8 (Av 37 36 32),dO 9 (Cs 38 (.call 172 [(.t 34),(.t 37)]) 32),dO 10 (oP 39 32 38)]) (.cond (.t 39) (.exit 3) .skip)))) (.A2 [Ak 40 .add 25 1,oM 25 40]))))))) (sr [0,4,10] [oM 41 7,oo 42 (.BG 1 none (.t 41) (.c (.i .i64 0))),oL 43 42,oo 10 (.alloc [(.i .i64 0)]),oS 1 10 43] (sr [0,4,10] [oM 44 4,oL 45 10,oo 46 (.Am 1 1 [(.i .i64 0)] [(0,(.t 45))]),oA 47 1 8 44 46,oM 4 47] (sr [0,4,10,11] [FH 11] (.seq [4,11] (sr [4,10,11,48,49,50] [oM 48 0,oE 49 48,Bg 50 0] (.block 6 (.loop [4,10,11,48,49,50] (sr [4,10,11,48,49,50,51] [oG 51 .lss 50 49] (.seq [4,10,11,48,49,50] (.cond (.t 51) .skip (.exit 6)) (.seq [4,10,11,48,49,50] (.block 7 (sr [4,10,11,13,48,49,50] [oI 52 1 48 50,oL 53 52,oM 13 53] (.A2 [oM 54 11,oM 55 13,oo 56 (.GN (.func 287) [] [(.t 10)]),CG 57 286 55 56,oo 58 (.Am 1 1 [(.l [] true)] [(0,(.t 57))]),oA 59 1 24 54 58,oM 11 59]))) (.A2 [Ak 60 .add 50 1,oM 50 60]))))))) (sr [0,4] [oM 61 11,oo 0 (.ZF (.t 61))] (.exit 1))))))))))) (.A2 [Ak 62 .add 16 1,oM 16 62]))))))) (sr [2,3] [oM 63 4,oM 64 5,oN 65 64,oM 2 63,oM 3 65] .ret))))))))))))
theorem tx:CT 283 66 o5 [2,3]:=cT Tryz.func283 [0]
abbrev o0:AJ:=(sr [0,2,4] [C9 4 1,BY 6 false] (sr [0,2,4,7] [oM 9 0,BW 10 4 4,CG 11 275 9 10,oM 7 11] (sr [0,4,7,8] [oM 12 2,oo 13 (.call 176 [(.c (.i .u64 1)),(.t 12)]),oM 8 13] (sr [6] [oM 14 7,oK 15 14,oF 16 3 15,oL 17 16,oM 18 8,oG 19 .andNot 17 18,oo 20 (.bin .eql (.t 19) (.c (.i .u64 0))),oM 21 20,Aw 22 7 21,Cs 23 (.D5 (.t 22)) 21,Bh 24 4 23 21,Av 25 24 21,Aw 26 8 21,F8 27 .and 25 26 21,Cs 28 (.bin .eql (.t 27) (.c (.i .u64 0))) 21,oP 29 21 28,oM 30 29,Aw 31 0 30,QK 32 4 4 30,Cs 33 (.call 288 [(.t 31),(.t 32)]) 30,oP 34 30 33,oM 6 34] .ret))))
theorem tw:CT 284 35 o0 [6]:=cT Tryz.func284 [4]
abbrev oz:AJ:=(sr [0] [FH 2] (sr [2] [oM 3 0,oo 4 (.call 286 [(.t 3),(.c (.f (.func 289) [] []))]),oM 2 4] .ret))
theorem tv:CT 285 5 oz [2]:=cT Tryz.func285
abbrev oy:AJ:=(sr [0,1] [FH 4] (sr [0,1,5] [FH 5] (.seq [5] (sr [1,5,8,9,10] [oM 8 0,oE 9 8,Bg 10 0] (.block 0 (.loop [1,5,8,9,10] (sr [1,5,8,9,10,11] [oG 11 .lss 10 9] (.seq [1,5,8,9,10] (.cond (.t 11) .skip (.exit 0)) (.seq [1,5,8,9,10] (.block 1 (sr [1,5,7,8,9,10] [oI 12 1 8 10,oL 13 12,oM 7 13] (sr [1,5,7,8,9,10,16] [oM 14 1,oM 15 7,oo 16 (.Bs (.t 14) [(.t 15)])] (.cond (.t 16) (.A2 [oM 17 5,oM 18 7,oo 19 (.Am 1 1 [(.i .i64 0)] [(0,(.t 18))]),oA 20 1 8 17 19,oM 5 20]) .skip)))) (.A2 [Ak 21 .add 10 1,oM 10 21]))))))) (sr [4] [oM 22 5,oM 4 22] .ret))))
theorem aP:CT 286 23 oy [4]:=cT Tryz.func286
abbrev Zp:AJ:=(sr [0,1] [BY 3 false] (sr [3] [oM 4 0,oL 5 1,oG 6 .neq 4 5,oM 3 6] .ret))
theorem tu:CT 287 7 Zp [3]:=cT Tryz.func287
abbrev ox:AJ:=(sr [2,3] [C9 2 0,C9 3 1,BY 4 false] (sr [4] [oL 5 2,BW 6 4 3,CG 7 275 5 6,oK 8 7,oF 9 7 8,oL 10 9,oo 11 (.GN (.func 290) [] [(.t 2),(.t 3)]),CG 12 177 10 11,oM 4 12] .ret))
theorem tt:CT 288 13 ox [4]:=cT Tryz.func288 [2,3]
abbrev ow:AJ:=(sr [0] [BY 2 false] (sr [2] [oM 3 0,Ak 4 .neq 3 0,oM 2 4] .ret))
theorem ts:CT 289 5 ow [2]:=cT Tryz.func289
abbrev ou:AJ:=(sr [0,1,2] [BY 4 false] (.seq [4] (.BC [4] [dO 0 (oL 5 1),dO 1 (BW 6 4 2),dO 2 (oM 7 0),⟨3,CG 8 276 6 7,[0],[oL 5 1]⟩,dO 4 (CG 9 275 5 8),dO 5 (oK 10 9),dO 6 (oF 11 6 10),dO 7 (oL 12 11),dO 8 (oN 13 12),dO 9 (oM 4 13)]) .ret))
theorem tq:CT 290 14 ou [4]:=cT Tryz.func290
abbrev ot:AJ:=(sr [0] [C9 4 1,C9 5 2,Bg 6 0] (sr [6] [oM 7 0,oM 6 7] .ret))
theorem tp:CT 306 8 ot [6]:=cT Tryz.func306 [4,5]
abbrev oq:AJ:=(sr [4,5] [C9 3 0,C9 4 1,C9 5 2,Bg 6 0] (sr [6] [oF 7 2 4,oL 8 7,oF 9 1 5,oL 10 9,oI 11 1 8 10,oL 12 11,oM 6 12] .ret))
theorem tn:CT 307 13 oq [6]:=cT Tryz.func307 [3,4,5]
end Go.Gl
namespace Go.Gl
open Go.Proofs
attribute [local irreducible] BQ BJ A5 Ab AQ A4 Ac Af AR Az AW Aa BT Bf Sat An BZ A6 W
def BE (p:Prog):List (List Int):=p.AU.map (·.parents)
def fitP (p:Prog):Prop:=p.AU.length≤Ax∧ ∀c∈p.AU,c.parents.length≤Ax∧c.AL.length≤Ax∧c.inits.length≤Ax
def BX (i:Nat):List Of→List Int
 | []=>[]
 | c::r=>List.replicate c.AL.length ((i:Int)+3)++BX (i+1) r
def Ar (p:Prog):AM:=⟨BE p,BX 0 p.AU⟩
theorem MX (i:Nat) (a b:List Of):BX i (a++b)=BX i a++BX (i+a.length) b:=by
 induction a generalizing i with
 | nil=>simp[BX]
 | cons c r ih=>
   simp only[List.cons_append,BX,ih,UR,Mu];rw[show i+1+r.length=i+(r.length+1) by omega]
def CX (cs:List Of):Nat:=(cs.map (·.AL.length)).sum
theorem DK (i:Nat) (cs:List Of):(BX i cs).length=CX cs:=by
 induction cs generalizing i with
 | nil=>rfl
 | cons c r ih=>simp[BX,ih,CX]
theorem VZ {cs:List Of} {k:Nat} {c:Of} (h:cs[k]? =some c):CX (cs.take k)+c.AL.length≤CX cs:=by
 induction cs generalizing k with
 | nil=>cases h
 | cons d r ih=>
   cases k with
   | zero=>simp at h;subst h;simp[CX]
   | succ k=>simp at h;have:=ih h;simp only[CX,List.take_succ_cons,List.map_cons,List.sum_cons]at *;omega
def free (ls:List (List Int)) (x:Int):Bool:=ls.all fun l=> !(l.drop 1).contains x
def Be (ls:List (List Int)) (c:Int):List Int:=if c<3 then []else ls.getD (c - 3).toNat []
def J1 (ls os:List (List Int)) (c:Int):Option (List (List Int)):=
 if(Be ls c).any fun p=>(os.getD p.toNat []).isEmpty then none else some ((Be ls c).map (fun p=>(os.getD p.toNat []).filter (· != 0))++[Be ls c])
def pick (ls:List (List Int)):Option Int:=(ls.find? fun l=>match l with| []=>false|x::_=>free ls x).bind List.head?
def total (ls:List (List Int)):Nat:=(ls.map List.length).sum
def DO:Nat→List (List Int)→List Int→List Int×Bool
 | 0,ls,out=>(out,ls.all List.isEmpty)
 | n+1,ls,out=>match pick ls with
   | none=>(out,ls.all List.isEmpty)
   | some x=>DO n (ls.map fun l=>l.filter (· != x)) (out++[x])
def DT (ls:List (List Int)):List Int×Bool:=DO (total ls) ls []
theorem JQ {ls:List (List Int)} {x:Int} (h:pick ls=some x):total (ls.map fun l=>l.filter (· != x))<total ls:=by
 unfold pick at h;rw[Option.bind_eq_some_iff]at h;obtain⟨l,h1,h2⟩:=h;have hm:=List.mem_of_find?_eq_some h1;clear h1;cases l with
 | nil=>cases h2
 | cons y r=>
   simp only[List.head?_cons,Ha]at h2;subst h2
   have hle: ∀ls:List (List Int),total (ls.map fun l=>l.filter (· != y))≤total ls:=fun ls=>by
    induction ls with
    | nil=>simp[total]
    | cons a bs ih=>
      have:=List.length_filter_le (· != y) a;simp only[total,List.map_cons,List.sum_cons]at *;omega
   induction ls with
   | nil=>cases hm
   | cons a bs ih=>
     rcases G3.1 hm with rfl|hm
     ·have h1:=hle bs
      have h2:=List.length_filter_le (· != y) r;simp only[total,List.map_cons,List.sum_cons]at *;have:((y::r).filter (· != y)).length≤r.length:=by simpa using h2
      simp only[Mu];omega
     ·have h1:=ih hm
      have h2:=List.length_filter_le (· != y) a;simp only[total,List.map_cons,List.sum_cons]at *;omega
def Ub (ls:List (List Int)):Prop:=ls.length≤1000000∧ ∀l∈ls,l.length≤Ax∧ ∀x∈l,0≤x
theorem Ub.filter {ls:List (List Int)} (h:Ub ls) (x:Int):Ub (ls.map fun l=>l.filter (· != x)):=by
 refine⟨by rw[Ce];exact h.1,fun l hl=>?_⟩;obtain⟨l',hl',rfl⟩:=Oe.1 hl;obtain⟨h1,h2⟩:=h.2 l' hl';exact⟨Nat.le_trans (List.length_filter_le _ _) h1,fun y hy=>h2 y (Mt.1 hy).1⟩
theorem Ts: ∀(n:Nat) (ls:List (List Int)) (out:List Int),total ls≤n→DO n ls out=DO (total ls) ls out:=by
 intro n
 induction n using Nat.strongRecOn with
 | _ n ih=>
   intro ls out hn;by_cases he:total ls=n
   ·rw[he]
   ·cases n with
    | zero=>omega
    | succ n=>
      cases hp:pick ls with
      | none=>
        cases ht:total ls with
        | zero=>simp[DO,hp]
        | succ m=>simp[DO,hp]
      | some x=>
        have h1:=JQ hp;cases ht:total ls with
        | zero=>omega
        | succ m=>
          simp only[DO,hp];rw[ih n (by omega) _ _ (by omega),ih m (by omega) _ _ (by omega)]
theorem Tq {ls:List (List Int)} {x:Int} {out:List Int} (hp:pick ls=some x):DO (total ls) ls out=DO (total (ls.map fun l=>l.filter (· != x))) (ls.map fun l=>l.filter (· != x)) (out++[x]):=by
 have h1:=JQ hp;cases ht:total ls with
 | zero=>omega
 | succ m=>
   simp only[DO,hp];exact Ts m _ _ (by omega)
theorem VX {ls:List (List Int)} {out:List Int} (hp:pick ls=none):DO (total ls) ls out=(out,ls.all List.isEmpty):=by
 cases ht:total ls with
 | zero=>rfl
 | succ m=>simp only[DO,hp]
def SP (ls:List (List Int)) (l:List Int):Bool:=match l with| []=>false|x::_=>free ls x
def HF (g os:List (List Int)) (c:Int):List Int:=
 match J1 g os c with
 | none=>[]
 | some l=>if(DT l).2 then [c]++(DT l).1++[0]else []
def CN (g:List (List Int)):Nat→List (List Int)
 | 0=>[[0]]
 | k+1=>CN g k++[HF g (CN g k) ((k:Int)+1)]
def Da (g:List (List Int)):List (List Int):=CN g (2+g.length)
def Jr (g:List (List Int)):Prop:=g.length≤16∧ ∀(i:Nat) (l:List Int),g[i]? =some l→l.length≤3∧l.Nodup∧ ∀c∈l,(3:Int)≤c∧c<3+(i:Int)
theorem FO (g:List (List Int)): ∀k,(CN g k).length=k+1
 | 0=>rfl
 | k+1=>by simp[CN,FO g k]
theorem JZ: ∀(n:Nat) (ls:List (List Int)) (out:List Int),(DO n ls out).1.length≤out.length+n
 | 0,ls,out=>by simp[DO]
 | n + 1,ls,out=>by
   simp only[DO];split
   ·simp
   ·rename_i x _
    have:=JZ n (ls.map fun l=>l.filter (· != x)) (out++[x]);simp only[UE,List.length_singleton]at this;refine Nat.le_trans this ?_;omega
theorem To {ls:List (List Int)} (h: ∀l∈ls,∀x∈l,(0:Int)≤x) {x:Int} (hp:pick ls=some x):0≤x:=by
 unfold pick at hp;rw[Option.bind_eq_some_iff]at hp;obtain⟨l,h1,h2⟩:=hp;have hm:=List.mem_of_find?_eq_some h1;cases l with
 | nil=>cases h2
 | cons y r=>cases h2;exact h _ hm _ (.head _)
theorem I0: ∀(n:Nat) (ls:List (List Int)) (out:List Int),(∀l∈ls,∀x∈l,(0:Int)≤x)→(∀x∈out,(0:Int)≤x)→ ∀x∈(DO n ls out).1,(0:Int)≤x
 | 0,ls,out,_,h2=>h2
 | n + 1,ls,out,h1,h2=>by
   simp only[DO];split
   ·exact h2
   ·rename_i y hy
    refine I0 n _ _ (fun l hl x hx=>?_) fun x hx=>?_
    ·obtain⟨l',hl',rfl⟩:=Oe.1 hl
     exact h1 _ hl' _ (Mt.1 hx).1
    ·rcases FQ.1 hx with hx|hx
     ·exact h2 x hx
     ·rw[List.mem_singleton.1 hx];exact To h1 hy
theorem Em {g:List (List Int)} (hg:Jr g) {c p:Int} (hp:p∈Be g c):3≤p∧p<c:=by
 unfold Be at hp;split at hp
 ·cases hp
 ·rename_i hc
  rw[FA]at hp;cases hq:g[(c - 3).toNat]? with
  | none=>rw[hq]at hp;cases hp
  | some l=>
    rw[hq]at hp;obtain⟨_,_,h⟩:=hg.2 _ _ hq;have:=h p hp;omega
theorem GI {g:List (List Int)} (hg:Jr g) (c:Int):(Be g c).length≤3:=by
 unfold Be;split
 ·simp
 ·rw[FA]
  cases hq:g[(c - 3).toNat]? with
  | none=>simp
  | some l=>exact(hg.2 _ _ hq).1
theorem L9 {g os:List (List Int)} {c:Int} {ls:List (List Int)} (h:J1 g os c=some ls):ls=(Be g c).map (fun p=>(os.getD p.toNat []).filter (· != 0))++[Be g c]:=by
 unfold J1 at h;split at h
 ·cases h
 ·exact(Option.some.inj h).symm
theorem TG {os:List (List Int)} {B:Nat} (h: ∀o∈os,o.length≤B) (n:Nat):(os.getD n []).length≤B:=by
 rw[FA];cases hq:os[n]? with
 | none=>simp
 | some l=>exact h _ (Fo hq)
theorem TF {os:List (List Int)} {Q:Int→Prop} (h: ∀o∈os,∀x∈o,Q x) (n:Nat): ∀x∈os.getD n [],Q x:=by
 rw[FA];cases hq:os[n]? with
 | none=>simp
 | some l=>exact h _ (Fo hq)
theorem O1 {g os:List (List Int)} {c:Int} {ls:List (List Int)} (h:J1 g os c=some ls) {B:Nat} (Z: ∀o∈os,o.length≤B):total ls≤(Be g c).length*(B+1):=by
 rw[L9 h];simp only[total,List.map_append,List.map_map,List.sum_append,List.map_cons,List.map_nil,List.sum_cons,List.sum_nil,Nat.add_zero]
 have: ∀ps:List Int,(ps.map (List.length∘fun p=>(os.getD p.toNat []).filter (· != 0))).sum≤ps.length*B:=fun ps=>by
  induction ps with
  | nil=>simp
  | cons p r ih=>
    simp only[List.map_cons,List.sum_cons,Function.comp,Mu,Nat.succ_mul];have h1:=List.length_filter_le (· != 0) (os.getD p.toNat []);have h2:=TG Z p.toNat;simp only[Function.comp_def]at *;omega
 have:=this (Be g c);rw[Nat.mul_add,Nat.mul_one];simp only[Function.comp_def]at *;omega
theorem Tp {g os:List (List Int)} {c:Int} {B:Nat} (Z: ∀o∈os,o.length≤B):(HF g os c).length≤(Be g c).length*(B+1)+2:=by
 unfold HF;split
 ·simp
 ·rename_i ls h
  have h1:=O1 h Z;have h2:=JZ (total ls) ls [];simp only[List.length_nil,Nat.zero_add]at h2;split
  ·simp only[UE,List.length_singleton,DT]
   omega
  ·simp
theorem Oc {g os:List (List Int)} {c:Int} (hg:Jr g) (hc:0≤c) (h: ∀o∈os,∀x∈o,(0:Int)≤x): ∀x∈HF g os c,0≤x:=by
 unfold HF;split
 ·simp
 ·rename_i ls hl
  split
  ·intro x hx
   have hls: ∀l∈ls,∀x∈l,(0:Int)≤x:=by
    rw[L9 hl];intro l hl x hx;rcases FQ.1 hl with hl|hl
    ·obtain⟨p,_,rfl⟩:=Oe.1 hl
     exact TF h p.toNat x (Mt.1 hx).1
    ·rw[List.mem_singleton.1 hl]at hx
     have:=Em hg hx;omega
   simp only[FQ,List.mem_singleton]at hx;rcases hx with(rfl|hx)|rfl
   ·exact hc
   ·exact I0 _ _ _ hls (by simp) x hx
   ·exact Int.le_refl _
  ·simp
def MT (k:Nat):Nat:=5*3 ^ (k - 3) - 3
theorem ry (n:Nat):1≤3 ^ n:=Nat.one_le_pow _ _ (by omega)
theorem Kj {g:List (List Int)} (hg:Jr g): ∀(k:Nat),∀o∈CN g k,o.length≤MT k∧ ∀x∈o,(0:Int)≤x
 | 0,o,ho=>by
   simp only[CN,List.mem_singleton]at ho;subst ho;simp[MT]
 | k + 1,o,ho=>by
   have ih:=Kj hg k
   have hmono:MT k≤MT (k+1):=by
    unfold MT;have:3 ^ (k - 3)≤3 ^ (k+1 - 3):=Nat.pow_le_pow_right (by omega) (by omega);omega
   simp only[CN,FQ,List.mem_singleton]at ho;rcases ho with ho|rfl
   ·exact⟨Nat.le_trans (ih o ho).1 hmono,(ih o ho).2⟩
   ·refine⟨?_,Oc hg (by omega) fun o ho=>(ih o ho).2⟩
    have h1:=Tp (g:=g) (c:=(k:Int)+1) fun o ho=>(ih o ho).1
    by_cases hk:k<3
    ·have:Be g ((k:Int)+1)= []:=by
      apply List.eq_nil_iff_forall_not_mem.2;intro p hp;have:=Em hg hp;omega
     rw[this]at h1
     have:MT (k+1)=2:=by
      have:k+1 - 3=0:=by omega
      simp[MT,this]
     simpa[this]using h1
    ·have h2:=GI hg ((k:Int)+1)
     have h3:(Be g ((k:Int)+1)).length*(MT k+1)≤3*(MT k+1):=Nat.mul_le_mul_right _ h2;have:k+1 - 3=(k - 3)+1:=by omega
     unfold MT at *;rw[this,Nat.pow_succ];have:=ry (k - 3);omega
theorem j5 {k:Nat} (h:k≤18):MT k≤71744535:=by
 unfold MT;have:3 ^ (k - 3)≤3 ^ 15:=Nat.pow_le_pow_right (by omega) (by omega);have e:(3:Nat) ^ 15=14348907:=by decide
 omega
theorem ER {g:List (List Int)}: ∀ {k j:Nat},j≤k→(CN g k)[j]? =(CN g j)[j]?
 | 0,j,h=>by(obtain rfl:j=0:=by omega);rfl
 | k+1,j,h=>by
   by_cases e:j=k+1
   ·subst e;rfl
   ·rw[←ER (k:=k) (by omega),CN,qv (by rw[FO];omega)]
end Go.Gl
namespace Go.Gl
def par (ps:List (List Int)) (c:Nat):List Int:=if c<3 then []else ps.getD (c - 3) []
def ordered (ps:List (List Int)):Prop:= ∀c p,p∈par ps c→3≤p∧p<(c:Int)
def ZC (ps:List (List Int)):Nat→Nat→Nat→Bool
 | 0,c,b=>c==b
 | f+1,c,b=>c==b||(par ps c).any fun p=>ZC ps f p.toNat b
def Ih (ps:List (List Int)) (c b:Nat):Bool:=ZC ps c c b
theorem JP {ps:List (List Int)} (ho:ordered ps): ∀(f c b:Nat),c≤f→ZC ps f c b=Ih ps c b
 | 0,c,b,h=>by(obtain rfl:c=0:=by omega);rfl
 | f + 1,c,b,h=>by
   cases c with
   | zero=>
     have:par ps 0= []:=rfl;simp[Ih,ZC,this]
   | succ c=>
     simp only[Ih,ZC];congr 1
     have key: ∀l:List Int,(∀p∈l,p∈par ps (c+1))→(l.any fun p=>ZC ps f p.toNat b)=l.any fun p=>ZC ps c p.toNat b:=by
      intro l hl
      induction l with
      | nil=>rfl
      | cons p r ih=>
        have hp:=ho (c+1) p (hl p (.head _));simp only[List.any_cons];rw[ih fun q hq=>hl q (.tail _ hq),JP ho f p.toNat b (by omega),JP ho c p.toNat b (by omega)]
     exact key _ fun p hp=>hp
theorem EZ {ps:List (List Int)} (ho:ordered ps) (c b:Nat):Ih ps c b=(c==b||(par ps c).any fun p=>Ih ps p.toNat b):=by
 cases c with
 | zero=>simp[Ih,ZC,par]
 | succ c=>
   simp only[Ih,ZC];congr 1
   have key: ∀l:List Int,(∀p∈l,p∈par ps (c+1))→(l.any fun p=>ZC ps c p.toNat b)=l.any fun p=>ZC ps p.toNat p.toNat b:=by
    intro l hl
    induction l with
    | nil=>rfl
    | cons p r ih=>
      have hp:=ho (c+1) p (hl p (.head _));simp only[List.any_cons];rw[ih fun q hq=>hl q (.tail _ hq),JP ho c p.toNat b (by omega)];rfl
   exact key _ fun p hp=>hp
theorem Gf {ps:List (List Int)} (ho:ordered ps) (c:Nat):Ih ps c c=true:=by rw[EZ ho];simp
theorem Zw {ps:List (List Int)} (ho:ordered ps): ∀(c b:Nat),Ih ps c b=true→b≤c:=by
 intro c
 induction c using Nat.strongRecOn with
 | _ c ih=>
   intro b h;rw[EZ ho]at h;simp only[Bool.or_eq_true,Dp,List.any_eq_true]at h;rcases h with rfl|⟨p,hp,h⟩
   ·omega
   ·have:=ho c p hp
    have:=ih p.toNat (by omega) b h;omega
theorem LR {ps:List (List Int)} (ho:ordered ps): ∀(a b c:Nat),Ih ps a b=true→Ih ps b c=true→Ih ps a c=true:=by
 intro a
 induction a using Nat.strongRecOn with
 | _ a ih=>
   intro b c h k;rw[EZ ho]at h ⊢;simp only[Bool.or_eq_true,Dp,List.any_eq_true]at h ⊢;rcases h with rfl|⟨p,hp,h⟩
   ·rw[EZ ho]at k
    simpa using k
   ·have:=ho a p hp
    exact .inr ⟨p,hp,ih p.toNat (by omega) b c h k⟩
def NC (bs:List Bool) (i:Nat):List Int→List Bool
 | []=>bs
 | p::r=>NC (bs.set p.toNat (bs.getD p.toNat false||bs.getD i false)) i r
theorem Pe (i:Nat): ∀(l:List Int) (bs:List Bool),(NC bs i l).length=bs.length
 | [],bs=>rfl
 | p::r,bs=>by simp only[NC];rw[Pe i r];simp
def Jh (ps:List (List Int)) (n c:Nat):Nat→List Bool
 | 0=>(List.replicate n false).set c true
 | k+1=>NC (Jh ps n c k) (c - k) (par ps (c - k))
theorem Qy (ps:List (List Int)) (n c:Nat): ∀k,(Jh ps n c k).length=n
 | 0=>by simp[Jh]
 | k+1=>by simp only[Jh];rw[Pe,Qy ps n c k]
theorem EN {bs:List Bool} {j:Nat} {x:Bool} (hj:j<bs.length) (b:Nat):(bs.set j x).getD b false=if b=j then x else bs.getD b false:=by
 simp only[FA,List.getElem?_set];by_cases h:j=b
 ·subst h;simp[hj]
 ·rw[if_neg h,if_neg (fun e=>h e.symm)]
theorem Ld {i:Nat}: ∀(l:List Int) (bs:List Bool),(∀p∈l,0≤p∧p.toNat<bs.length∧p.toNat<i)→ ∀b,(NC bs i l).getD b false=(bs.getD b false||(bs.getD i false&&l.contains (b:Int)))
 | [],bs,_,b=>by simp[NC]
 | p ::r,bs,h,b=>by
   obtain⟨h1,h2,h3⟩:=h p (.head _);simp only[NC];have hi:i≠p.toNat:=by omega
   rw[Ld r _ (fun q hq=>by have:=h q (.tail _ hq);simpa using this),EN h2,EN h2,if_neg hi];by_cases hb:b=p.toNat
   ·subst hb
    have:((p.toNat:Nat):Int)=p:=by omega
    simp only[if_true,this,List.contains_cons,beq_self_eq_true,Bool.true_or,Bool.and_true];cases bs.getD p.toNat false<;>cases bs.getD i false<;>simp
   ·rw[if_neg hb]
    have:((b:Int)==p)=false:=by simp;omega
    simp only[List.contains_cons,this,Bool.false_or]
theorem Sk {ps:List (List Int)} (ho:ordered ps) {n c:Nat} (hc:c<n): ∀k,k≤c - 2→(∀b,(Jh ps n c k).getD b false=true→Ih ps c b=true)∧(Jh ps n c k).getD c false=true∧
 (∀j p,c - k<j→(Jh ps n c k).getD j false=true→p∈par ps j→(Jh ps n c k).getD p.toNat false=true)
 | 0,_=>by
   have hg: ∀b,(Jh ps n c 0).getD b false=decide (b=c):=fun b=>by
    simp only[Jh];rw[EN (by simpa using hc)];by_cases h:b=c
    ·simp[h]
    ·rw[if_neg h]
     simp[h,FA,List.getElem?_replicate];split<;>rfl
   refine⟨fun b hb=>?_,by rw[hg];simp,fun j p hj hb hp=>?_⟩
   ·rw[hg]at hb
    simp only[DU]at hb;subst hb;exact Gf ho _
   ·rw[hg]at hb
    simp only[DU]at hb;omega
 | k + 1,hk=>by
   obtain⟨h1,h2,h3⟩:=Sk ho hc k (by omega)
   have hpar: ∀p∈par ps (c - k),0≤p∧p.toNat<(Jh ps n c k).length∧p.toNat<c - k:=fun p hp=>by
    have:=ho _ p hp;rw[Qy];omega
   have hg: ∀b,(Jh ps n c (k+1)).getD b false=((Jh ps n c k).getD b false||((Jh ps n c k).getD (c - k) false&&(par ps (c - k)).contains (b:Int))):=fun b=>by
    simp only[Jh];exact Ld _ _ hpar b
   refine⟨fun b hb=>?_,by rw[hg,h2];rfl,fun j p hj hb hp=>?_⟩
   ·rw[hg]at hb
    simp only[Bool.or_eq_true,BO,List.contains_iff_mem]at hb;rcases hb with hb|⟨hb,hm⟩
    ·exact h1 b hb
    ·refine LR ho c (c - k) b (h1 _ hb) ?_
     rw[EZ ho];simp only[Bool.or_eq_true,List.any_eq_true];exact .inr ⟨b,hm,by simpa using Gf ho b⟩
   ·have hjp:=ho j p hp
    have hb':(Jh ps n c k).getD j false=true:=by
     rw[hg]at hb;simp only[Bool.or_eq_true,BO,List.contains_iff_mem]at hb;rcases hb with hb|⟨_,hm⟩
     ·exact hb
     ·have:=ho _ _ hm
      omega
    rw[hg];by_cases e:j=c - k
    ·subst e
     rw[hb'];have:((p.toNat:Nat):Int)=p:=by omega
     simp only[this,Bool.true_and,Bool.or_eq_true,List.contains_iff_mem];exact .inr hp
    ·rw[h3 j p (by omega) hb' hp]
     rfl
theorem dd {ps:List (List Int)} (ho:ordered ps) {n c:Nat} (hc:c<n) (b:Nat):(Jh ps n c (c - 2)).getD b false=Ih ps c b:=by
 obtain⟨h1,h2,h3⟩:=Sk ho hc (c - 2) (Nat.le_refl _)
 have key: ∀a,(Jh ps n c (c - 2)).getD a false=true→ ∀b,Ih ps a b=true→(Jh ps n c (c - 2)).getD b false=true:=by
  intro a
  induction a using Nat.strongRecOn with
  | _ a ih=>
    intro ha b hb;rw[EZ ho]at hb;simp only[Bool.or_eq_true,Dp,List.any_eq_true]at hb;rcases hb with rfl|⟨p,hp,hb⟩
    ·exact ha
    ·have:=ho a p hp
     exact ih p.toNat (by omega) (h3 a p (by omega) ha hp) b hb
 cases hb:Ih ps c b with
 | true=>exact key c h2 b hb
 | false=>
   cases hq:(Jh ps n c (c - 2)).getD b false with
   | false=>rfl
   | true=>rw[h1 b hq]at hb;cases hb
end Go.Gl
namespace Go.Gl
open Go.Proofs
attribute [local irreducible] BQ BJ A5 Ab AQ A4 Ac Af AR Az AW Aa BT Bf Sat An BZ A6 W
end Go.Gl
namespace Go.Gl
variable {P:Program} {σ σ':AG}
mutual
def Eo:V→Prop
 | .i k n=>k.min≤n∧n≤k.max
 | .rp cs=>G7 cs
 | .l es _=>es.length≤Ax∧R8 es
 | .f _ a b=>G7 a∧G7 b
 | .ET _ v=>Eo v
 | .a cs=>G7 cs
 | .t vs=>G7 vs
 | _=>True
def G7:List V→Prop
 | []=>True
 | v::r=>Eo v∧G7 r
def R8:List (List V)→Prop
 | []=>True
 | e::r=>G7 e∧R8 r
end
mutual
theorem od {H:Nat→Nat→Option Value}: ∀(v:V) (c:Value),AZ H v c→Eo v
 | .b _,_,_| .s _,_,_| .pn,_,_| .p _ _,_,_| .sl _ _ _,_,_| .sv _ _ _ _,_,_| .pe _ _ _ _,_,_| .m _,_,_| .mn,_,_| .GP,_,_| .DN,_,_| .any,_,_=>by simp only[Eo]
 | .i k n,_,h=>by
   simp only[AZ]at h;simp only[Eo];exact h.2
 | .rp cs,_,h=>by
   simp only[AZ]at h;obtain⟨b,o,rfl,h⟩:=h;simp only[Eo];exact Ht cs o h
 | .l es full,_,h=>by
   simp only[AZ]at h;obtain⟨a,cap,h1,h2,h3,h4,h5,h6⟩:=h;simp only[Eo];refine⟨h4,?_⟩;cases es with
   | nil=>exact trivial
   | cons e es=>
     obtain⟨b,o,sz,h7,h8⟩:=h6 (by simp);exact aM (e::es) o h8
 | .f fn first cap,_,h=>by
   simp only[AZ]at h;obtain⟨f',c',h1,h2,h3,h4,h5⟩:=h;simp only[Eo];exact⟨Ht first 0 h3,Ht cap 0 h5⟩
 | .ET t v,_,h=>by
   simp only[AZ]at h;obtain⟨c',h1,h2⟩:=h;simp only[Eo];exact od v c' h2
 | .a cs,_,h=>by
   simp only[AZ]at h;obtain⟨c',h1,h2,h3⟩:=h;simp only[Eo];exact Ht cs 0 h3
 | .t cs,_,h=>by
   simp only[AZ]at h;obtain⟨c',h1,h2,h3⟩:=h;simp only[Eo];exact Ht cs 0 h3
theorem Ht {H:Nat→Nat→Option Value} {g:Nat→Option Value}: ∀(vs:List V) (o:Nat),BV H g o vs→G7 vs
 | [],_,_=>trivial
 | v::vs,o,h=>by
   simp only[BV]at h;obtain⟨⟨c,h1,h2⟩,h3⟩:=h;exact⟨od v c h2,Ht vs (o+1) h3⟩
theorem aM {H:Nat→Nat→Option Value} {g:Nat→Option Value} {sz:Nat}: ∀(es:List (List V)) (o:Nat),BH H g sz o es→R8 es
 | [],_,_=>trivial
 | e::es,o,h=>by
   simp only[BH]at h;obtain⟨h1,h2,h3⟩:=h;exact⟨Ht e o h2,aM es (o+sz) h3⟩
end
theorem BQ.fit {f:FuncId} {args:List V} {Q:R→AG→Prop} (hok:okF P f=true) (h:G7 args→BQ P f args σ Q):BQ P f args σ Q:=
 ⟨hok,fun Λ w cs G hv=>(h (Ht args 0 hv.2)).2 Λ w cs G hv⟩
theorem Pure.fit {f:FuncId} {args:List V} {v:V} (hok:okF P f=true) (h:G7 args→Pure P f args v):Pure P f args v:=BQ.fit hok h
theorem Bx.fit {f:FuncId} {args:List V} {pre:List At} {Φ:R→List At→Prop} (hok:okF P f=true) (h:G7 args→Bx P f args pre Φ):Bx P f args pre Φ:=fun σ hs=>BQ.fit hok fun hf=>h hf σ hs
theorem cC {es:List (List V)}:R8 es↔ ∀e∈es,G7 e:=by
 induction es with
 | nil=>simp[R8]
 | cons e r ih=>simp[R8,ih]
theorem KY {α:Type} {enc:α→List V} {xs:List α}:R8 (xs.map enc)↔ ∀x∈xs,G7 (enc x):=by
 rw[cC];simp
theorem Hu {es:List (List V)} {f:Bool}:Eo (.l es f)↔es.length≤Ax∧R8 es:=Iff.rfl
theorem JJ {cs:List V}:Eo (.a cs)↔G7 cs:=Iff.rfl
theorem RN {cs:List V}:Eo (.rp cs)↔G7 cs:=Iff.rfl
theorem Eb {v:V} {r:List V}:G7 (v::r)↔Eo v∧G7 r:=Iff.rfl
theorem drop_cons {α:Type} {xs:List α} {k:Nat} {x:α} (h:xs[k]? =some x):xs.drop k=x::xs.drop (k+1):=by
 obtain⟨hk,rfl⟩:=List.getElem?_eq_some_iff.1 h;exact List.drop_eq_getElem_cons hk
theorem Bt {α:Type} {xs:List α} {k:Nat} (h:k=xs.length):xs.drop k= []:=List.drop_of_length_le (by omega)
end Go.Gl
namespace Go.Gl
variable {P:Program} {σ:AG} {env:Env}
class Rx (AB:Prop) (G':outParam Prop):Prop where
 h:G'→AB
theorem st {AB G':Prop} [i:Rx AB G'] (h:G'):AB:=i.h h
theorem sq {l:List Nat} {a b:AJ} {Q:Ae→Env→AG→Prop} (h: ∀K:Env→AG→Prop,(∀env σ,(pk l env fun E=>W P b Q E σ)→K env σ)→W P a (Ae.andThen K Q) env σ):W P (.seq l a b) Q env σ:=LM h
class Sti (AB:Prop) (G':outParam Prop):Prop where
 h:G'→AB
theorem si {AB G':Prop} [i:Sti AB G'] (h:G'):AB:=i.h h
instance {ops:List AS} {Q:Ae→Env→AG→Prop}:Sti (W P (.A2 ops) Q env σ) (∀(I:Env→AG→Prop) (C:Env→V→AG→Prop),(∀env σ,Q .normal env σ→I env σ)→(∀env v σ,Q (.Bi v) env σ→C env v σ)→WT P ops I C env σ):=⟨LO⟩
instance {l:List Nat} {ops:List CD} {Q:Ae→Env→AG→Prop}:Sti (W P (.BC l ops) Q env σ) (∀(I:Env→AG→Prop) (C:V→AG→Prop),(∀env σ,(pk l env fun E=>Q .normal E σ)→I env σ)→(∀v σ,(∀σ',Sub σ σ'→Q (.Bi v) [] σ')→C v σ)→WD P ops I C env σ):=⟨IN⟩
instance {c:Bj} {a b:AJ} {Q:Ae→Env→AG→Prop}:Rx (W P (.cond c a b) Q env σ) (match ev env c with
 | some (.b t)=>(t=true→W P a Q env σ)∧(t=false→W P b Q env σ)
 | _=>False):=⟨IP⟩
instance {id:Nat} {a:AJ} {Q:Ae→Env→AG→Prop}:Rx (W P (.block id a) Q env σ) (W P a (Ae.inBlock id Q) env σ):=⟨Gr⟩
instance {l:List Nat} {a:AJ} {Q:Ae→Env→AG→Prop}:Rx (W P (.loop l a) Q env σ) (pk l env fun E=>A6 l a (W P a) Q E σ):=⟨IL⟩
instance {id:Nat} {Q:Ae→Env→AG→Prop}:Rx (W P (.exit id) Q env σ) (Q (.exit id) env σ):=⟨IM⟩
instance {Q:Ae→Env→AG→Prop}:Rx (W P .ret Q env σ) (Q .ret env σ):=⟨LN⟩
instance {Q:Ae→Env→AG→Prop}:Rx (W P .skip Q env σ) (Q .normal env σ):=⟨IK⟩
instance {a:AJ} {Q:Ae→Env→AG→Prop}:Rx (W P (.scope a) Q env σ) (W P a Q env σ):=⟨Gp⟩
instance {l:List Nat} {g:Bj} {ps:List Nat} {a b:AJ} {Q:Ae→Env→AG→Prop}:Rx (W P (.Cg l g ps a b) Q env σ) (match ev env g with
 | some (.f (.func gf) [] cap)=>pk l env fun E=> ∀L,σ L=none→BQ P gf (.f (.yield L) [] []::cap) (BI σ L (.loop .ready E (By P ps a b))) (JN L Q env)
 | _=>False):=⟨Gq⟩
instance {A B:Prop}:Rx ((true=true→A)∧(true=false→B)) A:=⟨LK⟩
instance {A B:Prop}:Rx ((false=true→A)∧(false=false→B)) B:=⟨LL⟩
instance {A B:Prop}:Rx ((false=false→A)∧(false=true→B)) A:=⟨IJ⟩
instance {A B:Prop}:Rx ((true=false→A)∧(true=true→B)) B:=⟨II⟩
instance {A B:Prop} {b:Bool}:Rx ((b=true→A)∧(b= !true→B)) ((b=true→A)∧(b=false→B)):=⟨id⟩
instance {A B:Prop} {b:Bool}:Rx ((b=false→A)∧(b= !false→B)) ((b=false→A)∧(b=true→B)):=⟨id⟩
instance {agg:Option Nat} {cs:List V} {K:V→Prop}:Rx (An σ agg (.rp cs) K) (cut agg cs 0 K):=⟨fun h=>h⟩
instance {es:List (List V)} {f:Bool} {K:V→Prop}:Rx (BZ (.l es f) K) (K (.i .i64 es.length)):=⟨NI⟩
theorem kc {K A:Env→AG→Prop} (h:A env σ) (hk: ∀env σ,A env σ→K env σ:=by assumption):K env σ:=hk _ _ h
theorem kp {K A:Env→V→AG→Prop} {v:V} (h:A env v σ) (hk: ∀env v σ,A env v σ→K env v σ:=by assumption):K env v σ:=hk _ _ _ h
theorem rk {x:AS} {r:List AS} {A:Prop} (h1:Gd P x env σ) (h2:Dx P r env σ∧A):Dx P (x::r) env σ∧A:=⟨⟨h1,h2.1⟩,h2.2⟩
theorem dr {A:Prop} (h:A):Dx P [] env σ∧A:=⟨trivial,h⟩
class BP (b v:Bool) (p:outParam Prop):Prop where
 h:b=v→p
theorem bp {b v:Bool} {p:Prop} [i:BP b v p] (h:b=v):p:=i.h h
instance (priority:=low) {b v:Bool}:BP b v (b=v):=⟨id⟩
instance (priority:=mid) {p:Prop} [Decidable p]:BP (decide p) true p:=⟨of_decide_eq_true⟩
instance (priority:=mid) {p:Prop} [Decidable p]:BP (decide p) false (¬p):=⟨of_decide_eq_false⟩
instance {a b:Int}:BP (decide (a<b)) false (b≤a):=⟨fun h=>Int.not_lt.1 (of_decide_eq_false h)⟩
instance {a b:Int}:BP (decide (a≤b)) false (b<a):=⟨fun h=>Int.not_le.1 (of_decide_eq_false h)⟩
instance {a b:Int}:BP (a==b) true (a=b):=⟨fun h=>by simpa using h⟩
instance {a b:Int}:BP (a==b) false (a≠b):=⟨fun h=>by simpa using h⟩
instance {a b:Int}:BP (a != b) true (a≠b):=⟨fun h=>by simpa using h⟩
instance {a b:Int}:BP (a != b) false (a=b):=⟨fun h=>by simpa using h⟩
instance {b:Bool} {p:Prop} [i:BP b false p]:BP (!b) true p:=⟨fun h=>i.h (by simpa using h)⟩
instance {b:Bool} {p:Prop} [i:BP b true p]:BP (!b) false p:=⟨fun h=>i.h (by simpa using h)⟩
instance {b x v:Bool} {p:Prop} [i:BP b v p]:BP (bif false then x else b) v p:=⟨i.h⟩
instance {b x v:Bool} {p:Prop} [i:BP b v p]:BP (bif true then b else x) v p:=⟨i.h⟩
theorem fc {α:Type} {enc:α→List V} {xs:List α} {k:Nat} {A B:Prop} (h1: ∀x,xs[k]? =some x→k<xs.length→decide (Bo k<((xs.map enc).length:Nat))=true→A) (h2:k=xs.length→decide (Bo k<((xs.map enc).length:Nat))=false→B) (hk:k≤xs.length:=by assumption) (hm:xs.length≤Ax:=by first|assumption|omega|simp[Ax]<;>omega) :
 (decide (Bo k<((xs.map enc).length:Nat))=true→A)∧(decide (Bo k<((xs.map enc).length:Nat))=false→B):=
 ⟨fun h=>(aK (enc:=enc) (A:=A) (B:=True) hk hm (fun x hx hlt=>h1 x hx hlt h) fun _=>trivial).1 h,fun h=>(aK (enc:=enc) (A:=True) (B:=B) hk hm (fun _ _ _=>trivial) fun he=>h2 he h).2 h⟩
theorem ix {α:Type} {enc:α→List V} {xs:List α} {f:Bool} {sz:Nat} {K:V→Prop} {ki:IntKind} {k:Nat} {x:α} (h:K (.rp (enc x))) (hx:xs[k]? =some x:=by assumption) (hm:xs.length≤Ax:=by first|assumption|omega|simp[Ax]<;>omega) (hs:(enc x).length=sz:=by first|rfl|simp) :
 Ab sz none (.l (xs.map enc) f) (.i ki (Bo k)) K:=xp hx hm hs h
theorem iq {α:Type} {enc:α→List V} {xs:List α} {f:Bool} {sz:Nat} {K:V→Prop} {ki:IntKind} {j:Int} (h: ∀x,xs[j.toNat]? =some x→K (.rp (enc x))) (h0:0≤j:=by omega) (h1:j<xs.length:=by omega) (hs: ∀x,(enc x).length=sz:=by intro x;first|rfl|simp|(rw[CO];rfl)) :
 Ab sz none (.l (xs.map enc) f) (.i ki j) K:=by
 have hlt:j.toNat<xs.length:=by omega
 exact rR j.toNat (Fs hlt) (by omega) (hs _) (h _ (Fs hlt))
theorem sk1 {α:Type} {enc:α→List V} {xs:List α} {f:Bool} {sz:Nat} {ki:IntKind} {k:Nat} {K:V→AG→Prop} (h:K (.l ((xs.take k).map enc) (f&&decide ((k:Int)=((xs.map enc).length:Nat)))) σ) (hl:k≤xs.length:=by first|assumption|omega) (hm:xs.length≤Ax:=by first|assumption|omega) (hs: ∀x,(enc x).length=sz:=by intro x;first|rfl|simp|(rw[CO];rfl)) :
 Ac σ sz (.l (xs.map enc) f) none (some (.i ki (Bo k))) none K:=by
 rw[Ad (by omega)];refine⟨fun e he=>?_,?_⟩
 ·obtain⟨x,_,rfl⟩:=Oe.1 he
  exact hs x
 ·simp only[Oh,Ce]
  refine⟨by omega,by omega,by omega,?_⟩;rw[Int.toNat_natCast];simpa[List.map_take]using h
theorem ixF {xs:List Fact} {f:Bool} {K:V→Prop} {ki:IntKind} {k:Nat} {x:Fact} (h:K (.rp (xF x))) (hx:xs[k]? =some x:=by assumption) (hm:xs.length≤Ax:=by first|assumption|omega):Ab 6 none (.l (xs.map Gb) f) (.i ki (Bo k)) K:=by
 refine xp hx hm (by rw[CO];rfl) ?_;rw[CO];exact h
theorem UM {a0:At} {l:List At}:(a0::l)[0]? =some a0:=rfl
theorem UL {a0 a1:At} {l:List At}:(a0::a1::l)[1]? =some a1:=rfl
theorem UK {a0 a1 a2:At} {l:List At}:(a0::a1::a2::l)[2]? =some a2:=rfl
theorem UJ {a0 a1 a2 a3:At} {l:List At}:(a0::a1::a2::a3::l)[3]? =some a3:=rfl
theorem UI {a0 a1 a2 a3 a4:At} {l:List At}:(a0::a1::a2::a3::a4::l)[4]? =some a4:=rfl
theorem UH {a0 a1 a2 a3 a4 a5:At} {l:List At}:(a0::a1::a2::a3::a4::a5::l)[5]? =some a5:=rfl
theorem ld {l:List At} {i n off:Nat} {agg:Option Nat} {vs:List V} {K:V→Prop} (hk:cut agg vs off K) (h:Sat σ l:=by assumption)
 (hi:l[i]? =some (.box n vs):=by first|exact UM|exact UL|exact UK|exact UJ|exact UI|exact UH):An σ agg (.p n off) K:=yR h i hi hk
theorem s1 {l:List At} {i n off:Nat} {vs:List V} {x:V} {K:AG→Prop} (hk: ∀σ',Sat σ' (l.set i (.box n (vs.set off x)))→K σ') (h:Sat σ l:=by assumption)
 (hi:l[i]? =some (.box n vs):=by first|exact UM|exact UL|exact UK|exact UJ|exact UI|exact UH)
 (h1:B7 x=true:=by first|rfl|exact I6 (by assumption) 0 rfl|exact I6 (by assumption) 1 rfl|exact I6 (by assumption) 2 rfl|exact I6 (by assumption) 3 rfl|simp) (ho:off+1≤vs.length:=by exact Nat.le_of_ble_eq_true rfl):Af σ 1 (.p n off) x K:=
 Mo h i hi h1 ho hk
theorem sn {l:List At} {i n off sz:Nat} {vs vc:List V} {x:V} {K:AG→Prop} (hk: ∀σ',Sat σ' (l.set i (.box n (putAt vs off vc)))→K σ') (h:Sat σ l:=by assumption)
 (hi:l[i]? =some (.box n vs):=by first|exact UM|exact UL|exact UK|exact UJ|exact UI|exact UH)
 (hc:cellsOf x=some vc:=by rfl) (hl:vc.length=sz:=by rfl) (h1:vc.all B7=true:=by first|rfl|simp) (ho:off+sz≤vs.length:=by exact Nat.le_of_ble_eq_true rfl):Af σ sz (.p n off) x K:=
 Uz h i hi hc hl h1 ho hk
theorem U2:GX (fun f:Fact=>Gb f) 6:=fun f=>by
 simp only[CO];refine⟨rfl,fun v hv=>?_⟩;simp only[G3,List.not_mem_nil,or_false]at hv;rcases hv with rfl|rfl|rfl|rfl|rfl|rfl<;>rfl
theorem Wx:GX (fun l:List Fact=>[V.l (facts l) false]) 1:=fun x=>⟨rfl,fun v hv=>by simp at hv;subst hv;rfl⟩
theorem al {l:List At} {o:O} {n:Nat} {K:Prop} {σ':AG} (e:BI σ n o=σ') (hk:Sat σ' (l++[.obj n o])→K) (hn:σ n=none:=by assumption) (h:Sat σ l:=by assumption):K:=hk (e ▸ rN h hn)
theorem oi {l:List At} {i:Nat} {v:V} {sz:Nat} {es:List (List V)} {ki:IntKind} {j:Int} {K:V→Prop} (hk:K (Ga v sz j.toNat)) (h:Sat σ l:=by assumption)
 (hi:l[i]? =some (.own v sz es):=by first|exact UM|exact UL|exact UK|exact UJ|exact UI|exact UH) (h0:0≤j:=by omega) (h1:j<es.length:=by first|omega|(simp only[Ce]at *;omega)):Ab sz none v (.i ki j) K:=
 hAt h i j.toNat hi (by omega) (by omega) hk
theorem oc {l:List At} {i:Nat} {v:V} {sz k:Nat} {es:List (List V)} {ki:IntKind} {K:V→Prop} (hk:K (Ga v sz k)) (h:Sat σ l:=by assumption)
 (hi:l[i]? =some (.own v sz es):=by first|exact UM|exact UL|exact UK|exact UJ|exact UI|exact UH) (h1:k<es.length:=by first|omega|(simp only[Ce]at *;omega)) (hm:k≤Ax:=by first|omega|(simp only[Ax];omega)):Ab sz none v (.i ki (Bo k)) K:=
 hAt h i k hi (Ad (by omega)) h1 hk
theorem ol {α:Type} {enc:α→List V} {xs:List α} {l:List At} {i:Nat} {v:V} {sz k:Nat} {agg:Option Nat} {K:V→Prop} (hk: ∀x,xs[k]? =some x→cut agg (enc x) 0 K) (h:Sat σ l:=by assumption)
 (hi:l[i]? =some (.own v sz (xs.map enc)):=by first|exact UM|exact UL|exact UK|exact UJ|exact UI|exact UH) (h1:k<xs.length:=by first|omega|(simp only[Ce]at *;omega)):An σ agg (Ga v sz k) K:=
 Wu h i hi (by rw[Rv,Fs h1];rfl) (hk _ (Fs h1))
theorem oset {α:Type} {enc:α→List V} {xs:List α} {y:α} {l:List At} {i:Nat} {v x:V} {sz k:Nat} {vc:List V} {K:AG→Prop} (hk: ∀σ',Sat σ' (l.set i (.own v sz ((xs.set k y).map enc)))→K σ') (h:Sat σ l:=by assumption)
 (hi:l[i]? =some (.own v sz (xs.map enc)):=by first|exact UM|exact UL|exact UK|exact UJ|exact UI|exact UH) (hc:cellsOf x=some vc:=by rfl) (he:vc=enc y:=by rfl) (hg:GX enc sz:=by first|exact FK|exact KW|exact Ww|exact U2|exact Wx)
 (hv:(Fb v).isSome=true:=by assumption) (h1:k<xs.length:=by first|omega|(simp only[Ce]at *;omega)):Af σ sz (Ga v sz k) x K:=by
 subst he;refine cA h i hi (by rw[Rv,Fs h1];rfl) hc (hg y).1 (GL.2 fun v hv=>(hg y).2 v hv) (hg _).1 hv fun σ' hs=>hk σ' ?_
 rw[List.map_set];exact hs
theorem HL {b sz:Nat} {v:V} {e:List V} {f:Bool} {K:V→AG→Prop} (h:AQ b σ sz v (.l [e] f) fun v' σ'=>(Fb v').isSome=true→K v' σ'):AQ b σ sz v (.l [e] f) K:=by
 obtain⟨h1,h2,h3⟩:=h;refine⟨h1,h2,?_⟩;cases v with
 | l es full=>exact⟨h3.1,h3.2.1,fun e=>(by cases e),fun e=>⟨(h3.2.2.2 e).1,fun n cap hn hc=>(h3.2.2.2 e).2 n cap hn hc rfl⟩⟩
 | sl n len cap=>
   simp only at h3 ⊢;split at h3
   ·exact⟨h3.1,h3.2.1,h3.2.2.1,h3.2.2.2.1,fun n' cap' hn hc=>h3.2.2.2.2 n' cap' hn hc rfl⟩
   ·exact h3.elim
 | _=>exact h3.elim
theorem aq {l:List At} {i:Nat} {α:Type} {enc:α→List V} {sz:Nat} {xs:List α} {x:α} {v:V} {f:Bool} {e:List V} {K:V→AG→Prop} (hk: ∀v' σ',Sat σ' (l.set i (.own v' sz ((xs++[x]).map enc)))→(Fb v').isSome=true→K v' σ') (h:Sat σ l:=by assumption)
 (hi:l[i]? =some (.own v sz (xs.map enc)):=by first|exact UM|exact UL|exact UK|exact UJ|exact UI|exact UH)
 (he:e=enc x:=by rfl) (hg:GX enc sz:=by first|exact FK|exact KW|exact Ww|exact U2|exact Wx)
 {b:Nat} (hl:xs.length<Ax∧(xs.length+1)*b≤140737488355328:=by first|assumption|omega|(simp only[UE,Ce,Mu,List.length_nil,UD,List.length_drop,List.length_replicate,Ax]at *;omega)):AQ b σ sz v (.l [e] f) K:=
 HL (WK h i hi hl hg hk he)
end Go.Gl
namespace Go.Gl
open Go.Proofs
attribute [local irreducible] BQ BJ A5 Ab AQ A4 Ac Af AR Az AW Aa BT Bf Sat An BZ A6 W
theorem Zl {xs:List Int} {g:Bool} (h:Eo (.l (iL xs) g)):xs.length≤Ax:=by
 simp only[Hu,Ce]at h;exact h.1
theorem oa {f:Fact} (h:Eo (.a (xF f))):f.kids.length≤Ax∧f.path.length≤Ax∧ ∀k∈f.kids,Eo (.a (xF k)):=by
 simp only[JJ,Eb,Hu,KY,Ce]at h;exact⟨h.2.2.2.2.2.1.1,h.2.2.1.1,fun k hk=>by have:=h.2.2.2.2.2.1.2 k hk;rw[CO]at this;exact this⟩
def Uk (w:AM) (c:Int):Bool:=decide (0≤c)&&decide (c<3+w.parents.length)
def M8 (w:AM) (s:Int):Bool:=decide (0≤s)&&decide (s<w.owner.length)
def Hl (w:AM) (p:List Int):Bool:=p.all (M8 w)&&decide (p.length≤2)
def Cu (f:Fact):Bool:=f.op==2||f.op==3||f.op==4
def Dt:List (Int→Int)→Int→Int→Int
 | [],n,_=>n
 | k::r,n,most=>if n≤most then Dt r (n+k (most - n)) most else n
def Cv (f:Fact):Int→Int:=f.G8 fun _ l most=>Dt l 1 most
theorem Lb (f:Fact) (most:Int):Cv f most=Dt (f.kids.map Cv) 1 most:=by
 rw[Cv,Fact.Dg];rfl
theorem OF {most:Int}: ∀(l:List (Int→Int)) (n:Int),(∀g∈l,∀m,0≤m→1≤g m∧g m≤m+1)→1≤n→n≤most+1→1≤Dt l n most∧Dt l n most≤most+1
 | [],n,_,h1,h2=>⟨h1,h2⟩
 | g ::r,n,h,h1,h2=>by
   rw[Dt];split
   ·have:=h g (List.mem_cons_self ..) (most - n) (by omega)
    exact OF r _ (fun g hg=>h g (List.mem_cons_of_mem _ hg)) (by omega) (by omega)
   ·exact⟨h1,h2⟩
theorem OD (f:Fact): ∀m,0≤m→1≤Cv f m∧Cv f m≤m+1:=by
 induction f using Fact.ind with
 | h f ih=>
   intro m hm;rw[Lb];refine OF _ _ (fun g hg=>?_) (by omega) (by omega);obtain⟨k,hk,rfl⟩:=Oe.1 hg;exact ih k hk
def Og (f:Fact):Nat:=f.G8 fun _ l=>1+l.sum
theorem NY (f:Fact):Og f=1+(f.kids.map Og).sum:=Fact.Dg _ f
theorem OE {most:Int}: ∀(l:List Fact) (n:Int),(∀k∈l,∀m,0≤m→Cv k m≤m→Cv k m=Og k)→0≤n→Dt (l.map Cv) n most≤most→Dt (l.map Cv) n most=n+(l.map Og).sum
 | [],n,_,_,_=>by simp[Dt]
 | k :: r, n,h,h0,h1=>by
   simp only[List.map_cons,Dt]at *;split at h1
   ·rename_i hc
    rw[if_pos hc];have hb:=OD k (most - n) (by omega)
    have hge: ∀(l:List Fact) (a:Int),a≤Dt (l.map Cv) a most:=fun l=>by
     induction l with
     | nil=>intro a;exact Int.le_refl _
     | cons y l ih=>
       intro a;simp only[List.map_cons,Dt];split
       ·have:=OD y (most - a) (by omega)
        have:=ih (a+Cv y (most - a));omega
       ·exact Int.le_refl _
    have h2:=hge r (n+Cv k (most - n));have h3:=h k (List.mem_cons_self ..) (most - n) (by omega) (by omega);have h4:=OE r (n+Cv k (most - n)) (fun k' hk'=>h k' (List.mem_cons_of_mem _ hk')) (by omega) h1;simp only[List.sum_cons];omega
   ·rename_i hc
    omega
theorem OC (f:Fact): ∀m,0≤m→Cv f m≤m→Cv f m=Og f:=by
 induction f using Fact.ind with
 | h f ih=>
   intro m h0 h1;rw[Lb]at *;rw[OE f.kids 1 ih (by omega) h1,NY];omega
def R0 (a b:Int):Int:=if a<b then b else a
def GD (f:Fact):Int:=f.G8 fun _ l=>l.foldl R0 0+1
theorem P2 (f:Fact):GD f=(f.kids.map GD).foldl R0 0+1:=Fact.Dg _ f
theorem N4 {α:Type} {xs:List α} {k:Nat} {x:α} {β:Type} (g:α→β) (h:β→β→β) (a:β) (hx:xs[k]? =some x):((xs.take (k+1)).map g).foldl h a=h (((xs.take k).map g).foldl h a) (g x):=by
 rw[BF hx,List.map_append,List.foldl_append];rfl
def JB (f:Fact):Int:=f.G8 fun f l=>l.foldl R0 (if Cu f then f.arg+1 else 0)
theorem PQ (f:Fact):JB f=(f.kids.map JB).foldl R0 (if Cu f then f.arg+1 else 0):=Fact.Dg _ f
def Sb (f:Fact):Bool:=f.G8 fun f l=>decide (0≤f.arg)&&decide (f.arg<3)&&l.all id
theorem TX (f:Fact):Sb f=(decide (0≤f.arg)&&decide (f.arg<3)&&(f.kids.map Sb).all id):=Fact.Dg _ f
def Cy (op:Int):Nat:=if op=5 then 1 else if op=6∨op=7 then 2 else 0
def Y4 (w:AM) (f:Fact):Bool:=
 if f.op=2 then f.n==0&&Uk w f.cls else if f.op=3∨f.op=4 then f.cls==0&&(decide (-1000000000≤f.n)&&decide (f.n≤1000000000))else f.op==1||f.op==5||f.op==6||f.op==7
def D6 (w:AM) (f:Fact):Bool:=
 Y4 w f&&(f.kids.length==Cy f.op&&(decide (0≤f.arg)&&(decide (f.arg<3)&&(Hl w f.path&&(Cu f||(f.arg==0&&(f.path.length==0&&(f.cls==0&&f.n==0))))))))
def B6 (w:AM) (f:Fact):Bool:=f.G8 fun f l=>D6 w f&&l.all id
theorem DG (w:AM) (f:Fact):B6 w f=(D6 w f&&f.kids.all (B6 w)):=by rw[B6,Fact.Dg,List.all_map];rfl
def Ul (n:Int):Bool:=decide (-1000000000≤n)&&decide (n≤1000000000)
def NB (k:Int):Bool:=k==1||k==4
theorem PE {p:Prog} (h:Eo (.a (Bz p))):p.AU.length≤Ax∧p.EH.length≤Ax∧p.methods.length≤Ax∧p.nodes.length≤Ax:=by
 simp only[Bz,JJ,Eb,Hu,Ce]at h;exact⟨h.1.1,h.2.2.1.1,h.2.2.2.1.1,h.2.2.2.2.1.1⟩
def NK (p:Prog) (x:Node):Int:=
 if x.op=1∨x.op=2∨x.op=3∨x.op=6∨x.op=18 then 0 else
 if x.op=4∨x.op=8∨x.op=17 then 1 else
 if x.op=7∨x.op=9∨x.op=11∨x.op=12∨x.op=13∨x.op=14∨x.op=15∨x.op=16 then 2 else
 if x.op=10 then 3 else
 if x.op=5∧0≤x.n∧x.n<p.EH.length then p.EH.getD x.n.toNat 0 else -1
def QL (p:Prog) (x:Node) (size:Int):Bool:=
 if x.op=1 then Ul x.n else if x.op=3 then decide (0≤x.n)&&decide (x.n<size)else if x.op=4∨x.op=7 then decide (0≤x.n)&&decide (x.n<p.AL)else
 if x.op=5 then decide (0≤x.n)&&decide (x.n<p.EH.length)else if x.op=6∨x.op=8 then decide (3≤x.n)&&decide (x.n<3+p.AU.length)else x.n==0
def rQ (ps:List (List Int)) (a b:Int):Bool:=a==b||(b==0||(decide (3≤a)&&Ih ps a.toNat b.toNat))
structure Y2 (w:AM):Prop where
 len:w.parents.length≤60
 ord:ordered w.parents
 own: ∀c∈w.owner,(3:Int)≤c∧c<3+w.parents.length
 olen:w.owner.length≤40
def C0 (w:AM) (s:Int):Int:=w.owner.getD s.toNat 0
def hasB (w:AM) (c s:Int):Bool:=decide (3≤c)&&rQ w.parents c (C0 w s)
def GY (w:AM) (f:Fact):Bool:=decide (Cv f 24≤24)&&(decide (GD f≤12)&&B6 w f)
def elB (i:Nat) (pre:List Int) (c:Int):Bool:=decide (3≤c)&&(decide (c<3+i)&& !pre.contains c)
def Xg (i:Nat):List Int→List Int→Bool
 | _,[]=>true
 | pre,c::r=>elB i pre c&&Xg i (pre++[c]) r
def M9:Nat→List (List Int)→Bool
 | _,[]=>true
 | i,l::r=>decide (l.length≤3)&&(Xg i [] l&&M9 (i+1) r)
def Es (g:List (List Int)):Bool:=decide (g.length≤16)&&M9 0 g
theorem aL {ls:List (List Int)} {g:Bool} (h:Eo (.l (Ji ls) g)):ls.length≤Ax∧ ∀l∈ls,l.length≤Ax:=by
 simp only[Hu,Ce,KY,Eb]at h;exact⟨h.1,fun l hl=>(h.2 l hl).1.1⟩
def QH:Int→List Int→Bool
 | _,[]=>true
 | n,s::r=>s==n&&QH (n+1) r
def E7:Int→List Of→Bool
 | _,[]=>true
 | n,c::r=>decide (c.AL.length≤4)&&(decide (c.parents.length≤3)&&(QH n c.AL&&E7 (n+c.AL.length) r))
def LB (w:AM) (c n:Int):List (Int×Int)→List (Int×Int)→Bool
 | _,[]=>true
 | pre,x::r=>decide (0≤x.1)&&(decide (x.1<n)&&(hasB w c x.1&&(Ul x.2&&(pre.all (fun y=>y.1 != x.1)&&LB w c n (pre++[x]) r))))
def wk (g:List (List Int)) (c:Int):Bool:= !((Da g).getD c.toNat []).isEmpty
def NN (w:AM) (n:Int):Nat→List Of→Bool
 | _,[]=>true
 | i,c::r=>wk w.parents ((i:Int)+3)&&(LB w ((i:Int)+3) n [] c.inits&&NN w n (i+1) r)
def CA (p:Prog):Bool:=decide (p.AU.length≤10)&&(E7 0 p.AU&&((CX p.AU:Int)==p.AL&&(Es (BE p)&&NN (Ar p) (CX p.AU) 0 p.AU)))
theorem yU {c:Of} (h:G7 (SB c)):c.parents.length≤Ax∧c.AL.length≤Ax∧c.inits.length≤Ax:=by
 simp only[SB,Eb,Hu,Ce]at h;exact⟨h.1.1,h.2.1.1,h.2.2.1.1⟩
theorem WN {p:Prog} (h:Eo (.a (Bz p))):fitP p:=by
 refine⟨(PE h).1,fun c hc=>?_⟩;simp only[Bz,JJ,Eb,Hu,KY]at h;exact yU (h.1.2 c hc)
theorem Gs: ∀(cs:List Of) (n:Int),E7 n cs=true→CX cs≤4*cs.length∧ ∀c∈cs,c.parents.length≤3∧c.AL.length≤4
 | [],_,_=>⟨Nat.le_refl _,fun _ h=>by cases h⟩
 | c::r,n,h=>by
   simp only[E7,BO,DU]at h;have⟨h1,h2⟩:=Gs r _ h.2.2.2;refine⟨by simp only[CX,List.map_cons,List.sum_cons,Mu]at *;omega,fun d hd=>?_⟩;rcases G3.1 hd with rfl|hd
   ·exact⟨h.2.1,h.1⟩
   ·exact h2 d hd
theorem Pz {i:Nat}: ∀(r pre:List Int),Xg i pre r=true→pre.Nodup→(pre++r).Nodup∧ ∀c∈r,(3:Int)≤c∧c<3+(i:Int)
 | [],pre,_,h=>⟨by simpa using h,fun _ h=>by cases h⟩
 | c::r,pre,h,hn=>by
   simp only[Xg,elB,BO,DU,Bool.not_eq_true']at h;have hc:c∉pre:=by simpa using h.1.2.2
   obtain⟨h1,h2⟩:=Pz r (pre++[c]) h.2 (List.nodup_append.2 ⟨hn,by simp,fun a ha b hb=>by simp at hb;subst hb;exact fun e=>hc (e ▸ ha)⟩);refine⟨by simpa using h1,fun d hd=>?_⟩;rcases G3.1 hd with rfl|hd
   ·exact⟨h.1.1,h.1.2.1⟩
   ·exact h2 d hd
theorem N8: ∀(g:List (List Int)) (k:Nat),M9 k g=true→ ∀(i:Nat) (l:List Int),g[i]? =some l→l.length≤3∧l.Nodup∧ ∀c∈l,(3:Int)≤c∧c<3+((k+i:Nat):Int)
 | [],_,_,_,_,h=>by cases h
 | l ::r,k,h,i,l',hi=>by
   simp only[M9,BO,DU]at h;cases i with
   | zero=>
     simp at hi;subst hi;obtain⟨h1,h2⟩:=Pz l [] h.2.1 .nil;exact⟨h.1,by simpa using h1,by simpa using h2⟩
   | succ i=>
     simp at hi;have:=N8 r (k+1) h.2.2 i l' hi;rw[show k+(i+1)=k+1+i by omega];exact this
theorem D1 {g:List (List Int)} (h:Es g=true):Jr g:=by
 simp only[Es,BO,DU]at h;refine⟨h.1,fun i l hi=>?_⟩;have:=N8 g 0 h.2 i l hi;simpa using this
theorem IX {g:List (List Int)} (h:Jr g):ordered g:=by
 intro c p hp;unfold par at hp;split at hp
 ·cases hp
 ·rename_i h3
  rw[FA]at hp;cases hq:g[c - 3]? with
  | none=>rw[hq]at hp;cases hp
  | some l=>
    rw[hq]at hp;have:=(h.2 _ _ hq).2.2 p hp;omega
theorem FN {i:Nat} {cs:List Of} {c:Int} (h:c∈BX i cs):(3:Int)+i≤c∧c<3+i+cs.length:=by
 induction cs generalizing i with
 | nil=>cases h
 | cons d r ih=>
   simp only[BX,FQ,List.mem_replicate]at h;simp only[Mu];rcases h with⟨_,rfl⟩|h
   ·omega
   ·have:=ih h;omega
theorem VC {p:Prog} (h1:p.AU.length≤10) (h2:E7 0 p.AU=true) (h3:Es (BE p)=true):Y2 (Ar p):=by
 have hl:(Ar p).parents.length=p.AU.length:=by simp[Ar,BE]
 refine⟨by omega,IX (D1 h3),fun c hc=>?_,?_⟩
 ·have:=FN hc
  rw[hl];omega
 ·have:=(Gs _ _ h2).1
  simp only[Ar,DK];omega
def Is (f:Int→Int→List Int→Option (List Int)) (op size:Int):Nat→List Int→List Int→Option (List Int)
 | _,[],s=>some s
 | i,k::r,s=>match f k (if op=9∧i=1 then size+1 else size) s with
   | none=>none
   | some s'=>Is f op size (i+1) r s'
def Fc (p:Prog) (next:Bool) (size:Int) (x:Node):Bool:=((x.kids.length:Int)==NK p x)&&(QL p x size&&(x.op != 18||next))
def DB (p:Prog) (next:Bool):Nat→Int→Int→List Int→Option (List Int)
 | 0,_,_,_=>none
 | d+1,n,size,s=>
   if n<0∨(p.nodes.length:Int)≤n∨0≤s.getD n.toNat 0 then none else
   match p.nodes[n.toNat]? with
   | none=>none
   | some x=>if Fc p next size x then Is (DB p next d) x.op size 0 x.kids (s.set n.toNat size)else none
theorem th {p:Prog} (h:Eo (.a (Bz p))) {x:Node} (hx:x∈p.nodes):x.kids.length≤Ax:=by
 simp only[Bz,JJ,Eb,Hu,KY]at h
 have h2:G7 (Ly x):=by
  first|exact h.2.2.2.2.1.2 x hx|exact h.2.2.2.2.2.1.2 x hx|exact h.2.2.2.1.2 x hx|exact h.2.2.1.2 x hx|exact h.2.1.2 x hx
 simp only[Ly,Eb,Hu,Ce]at h2
 first|exact h2.2.2.1.1|exact h2.2.2.1|exact h2.1
end Go.Gl
