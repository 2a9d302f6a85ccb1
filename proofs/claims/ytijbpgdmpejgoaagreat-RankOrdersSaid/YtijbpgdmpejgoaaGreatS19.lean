import Derived.Test.YtijbpgdmpejgoaaGreatProg
import Derived.KernelRfl
import Derived.WalkKit
import Derived.ProofKit
import Derived.OpenShut
import Derived.Test.YtijbpgdmpejgoaaGreatS3
import Derived.Test.YtijbpgdmpejgoaaGreatS7
import Derived.Test.YtijbpgdmpejgoaaGreatS18
set_option linter.all false
noncomputable section
namespace Go.Gl
open Go.Proofs
abbrev ae14:AI:=(sr [] [Ay 0 false] (sr [1] [oo 18 (.call 48 []),oo 1 (.alloc [(.l [] true),(.i .i64 0),(.l [] true),(.l [] true),(.l [] true),(.i .i64 0)]),oS 6 1 18] (sr [1,2] [oo 19 (.build [(.i .i64 0),(.i .i64 0)] [(0,1,(.c (.i .i64 3)))]),oo 2 (.alloc [(.i .i64 0),(.i .i64 0)]),oS 2 2 19] (sr [1,2,3,4] [Az 21 6 1,oo 22 (.call 12 [(.t 21),(.c (.i .i64 1)),(.c (.i .i64 0))]),oM 20 22,oX 23 0 20,oX 24 1 20,oM 3 23,oM 4 24] (sr [1,2,3,4,5,6] [Az 26 6 1,oo 27 (.call 12 [(.t 26),(.c (.i .i64 1)),(.c (.i .i64 2))]),oM 25 27,oX 28 0 25,oX 29 1 25,oM 5 28,oM 6 29] (sr [1,2,3,4,5,6,8] [Az 31 6 1,oo 32 (.call 12 [(.t 31),(.c (.i .i64 0)),(.c (.i .i64 3))]),oM 30 32,oX 33 0 30,oX 34 1 30,oM 7 33,oM 8 34] (.seq [1,2] (sr [1,2,51] [oM 35 3,oN 36 35,oM 37 36,BW 38 5 37,oQ 39 37 38,oM 40 39,BW 41 4 40,Co 42 .neq 41 0 40,oQ 43 40 42,oM 44 43,BW 45 6 44,Co 46 .neq 45 0 44,oQ 47 44 46,oM 48 47,BW 49 8 48,Co 50 .neq 49 7 48,oQ 51 48 50] (.cond (.t 51) (sr [0] [Ay 0 false] .ret) .skip)) (sr [1,2,4,9] [Az 53 6 1,oo 54 (.build [(.i .i64 0),(.l [] true)] [(0,1,(.c (.i .i64 4)))]),oo 55 (.AY 2 1 [(.i .i64 0),(.l [] true)] [(0,(.t 54))]),Az 56 2 2,oo 57 (.AY 2 1 [(.i .i64 0),(.i .i64 0)] [(0,(.t 56))]),oo 58 (.call 20 [(.t 53),(.t 55),(.c (.i .i64 0)),(.t 57)]),oM 52 58,oX 59 0 52,oX 60 1 52,oo 9 (.alloc [(.l [] true),(.b false),(.l [] true),(.l [] true),(.b false),(.l [] true)]),oS 6 9 59,oM 4 60] (sr [1,4,6,9,10] [Az 62 6 1,oo 63 (.build [(.i .i64 0),(.l [] true)] [(0,1,(.c (.i .i64 6)))]),oo 64 (.AY 2 1 [(.i .i64 0),(.l [] true)] [(0,(.t 63))]),Az 65 2 2,oo 66 (.AY 2 1 [(.i .i64 0),(.i .i64 0)] [(0,(.t 65))]),oo 67 (.call 20 [(.t 62),(.t 64),(.c (.i .i64 0)),(.t 66)]),oM 61 67,oX 68 0 61,oX 69 1 61,oo 10 (.alloc [(.l [] true),(.b false),(.l [] true),(.l [] true),(.b false),(.l [] true)]),oS 6 10 68,oM 6 69] (sr [1,4,6,8,9,10] [Az 71 6 1,oo 72 (.build [(.i .i64 0),(.i .i64 0)] [(0,1,(.c (.i .i64 1)))]),oo 73 (.AY 2 1 [(.i .i64 0),(.i .i64 0)] [(0,(.t 72))]),oo 74 (.call 20 [(.t 71),(.c (.l [] true)),(.c (.i .i64 0)),(.t 73)]),oM 70 74,oX 75 0 70,oX 76 1 70,oM 8 76] (sr [1,4,6,8,9,10,11,12,13] [Az 78 6 1,oo 79 (.AY 1 3 [(.i .i64 0)] [(0,(.c (.i .i64 0))),(1,(.c (.i .i64 1))),(2,(.c (.i .i64 2)))]),CC 80 31 78 79,oM 77 80,oX 81 0 77,oX 82 1 77,oX 83 2 77,oM 11 81,oM 12 82,oM 13 83] (sr [1,4,6,8,9,10,11,12,13,14,15] [Az 85 6 1,oo 86 (.call 15 [(.t 85),(.c (.i .i64 0)),(.c (.i .i64 1))]),oM 84 86,oX 87 0 84,oX 88 1 84,oM 14 87,oM 15 88] (sr [4,6,8,9,10,11,12,13,14,15,16,17] [Az 90 6 1,oo 91 (.call 17 [(.t 90),(.c (.i .i64 0))]),oM 89 91,oX 92 0 89,oX 93 1 89,oM 16 92,oM 17 93] (.seq [9,10] (.seq [9,10,137] (.Ak (oM 94 4::AS 95 .neq 94 0::oM 96 95::BW 97 6 96::Co 98 .neq 97 0 96::oQ 99 96 98::oM 100 99::BW 101 8 100::Co 102 .neq 101 5 100::oQ 103 100 102::oM 104 103::BW 105 13 104::Co 106 .neq 105 0 104::oQ 107 104 106::oM 108 107::BW 109 15 108::Co 110 .neq 109 0 108::oQ 111 108 110::oM 112 111::BW 113 17 112::Co 114 .neq 113 0 112::oQ 115 112 114::oM 116 115::BW 117 11 116::Gs 118 117 116::Co 119 .neq 118 0 116::oQ 120 116 119::oM 121 120::BW 122 12 121::I3 123 122 121::oQ 124 121 123::oM 125 124::BW 126 16 125::Gs 127 126 125::Co 128 .neq 127 0 125::oQ 129 125 128::oM 130 129::BW 131 14 130::F0 132 (.build [(.i .i64 0),(.i .i64 0)] [(0,1,(.c (.i .i64 1))),(1,1,(.c (.i .i64 0)))]) 130::F0 133 (.build [(.i .i64 0),(.i .i64 0)] [(0,1,(.c (.i .i64 2))),(1,1,(.c (.i .i64 0)))]) 130::F0 134 (.AY 2 2 [(.i .i64 0),(.i .i64 0)] [(0,(.t 132)),(1,(.t 133))]) 130::F0 135 (.call 19 [(.t 131),(.t 134)]) 130::I3 136 135 130::oQ 137 130 136:: [])) (.cond (.t 137) (sr [0] [Ay 0 false] .ret) .skip)) (sr [0] [Az 138 6 9,oo 139 (.AY 1 2 [(.i .i64 0)] [(0,(.c (.i .i64 4))),(1,(.c (.i .i64 3)))]),oo 140 (.AY 1 2 [(.i .i64 0)] [(0,(.c (.i .i64 1))),(1,(.c (.i .i64 0)))]),oo 141 (.AY 1 2 [(.i .i64 0)] [(0,(.c (.i .i64 5))),(1,(.c (.i .i64 6)))]),oo 142 (.build [(.l [] true),(.b false),(.l [] true),(.l [] true),(.b false),(.l [] true)] [(2,1,(.t 139)),(3,1,(.t 140)),(5,1,(.t 141))]),CC 143 22 138 142,oM 144 143,Ha 145 6 10 144,Cw 146 (.AY 1 2 [(.i .i64 0)] [(0,(.c (.i .i64 4))),(1,(.c (.i .i64 3)))]) 144,Cw 147 (.AY 1 2 [(.i .i64 0)] [(0,(.c (.i .i64 5))),(1,(.c (.i .i64 6)))]) 144,Cw 148 (.build [(.l [] true),(.b false),(.l [] true),(.l [] true),(.b false),(.l [] true)] [(2,1,(.t 146)),(4,1,(.c (.b true))),(5,1,(.t 147))]) 144,Cw 149 (.call 22 [(.t 145),(.t 148)]) 144,oP 150 144 149,oM 0 150] .ret)))))))))))))))
def AAK:BF:= .fn 151 ae14 [.t 0]
theorem vt:AX Tryz.prog 14 AAK:=kT Tryz.func14
abbrev ae48:AI:=(sr [0] [oo 0 (.alloc [(.l [] true),(.i .i64 0),(.l [] true),(.l [] true),(.l [] true),(.i .i64 0)])] (sr [0,1] [oo 5 (.build [(.l [] true),(.l [] true),(.l [] true)] []),oo 6 (.AY 1 1 [(.i .i64 0)] [(0,(.c (.i .i64 3)))]),oo 7 (.build [(.l [] true),(.l [] true),(.l [] true)] [(0,1,(.t 6))]),oo 8 (.AY 1 1 [(.i .i64 0)] [(0,(.c (.i .i64 3)))]),oo 9 (.build [(.l [] true),(.l [] true),(.l [] true)] [(0,1,(.t 8))]),oo 10 (.AY 1 2 [(.i .i64 0)] [(0,(.c (.i .i64 4))),(1,(.c (.i .i64 5)))]),oo 11 (.build [(.l [] true),(.l [] true),(.l [] true)] [(0,1,(.t 10))]),oo 12 (.AY 3 4 [(.l [] true),(.l [] true),(.l [] true)] [(0,(.t 5)),(1,(.t 7)),(2,(.t 9)),(3,(.t 11))]),oo 13 (.AY 1 1 [(.i .i64 0)] [(0,(.c (.i .i64 1)))]),oo 14 (.build [(.l [] true),(.i .i64 0),(.l [] true),(.l [] true),(.l [] true),(.i .i64 0)] [(0,1,(.t 12)),(2,1,(.t 13))]),oo 1 (.alloc [(.l [] true),(.i .i64 0),(.l [] true),(.l [] true),(.l [] true),(.i .i64 0)]),oS 6 1 14] (sr [0,1,2] [oo 15 (.AY 1 7 [(.i .i64 0)] [(0,(.c (.i .i64 1))),(1,(.c (.i .i64 1))),(2,(.c (.i .i64 1))),(3,(.c (.i .i64 2))),(4,(.c (.i .i64 2))),(5,(.c (.i .i64 3))),(6,(.c (.i .i64 3)))]),oM 2 15] (sr [0,1,2,3] [oo 16 (.call 74 [(.c (.i .i64 3))]),oo 17 (.call 74 [(.c (.i .i64 4))]),oo 18 (.call 74 [(.c (.i .i64 5))]),oo 19 (.build [(.i .i64 0),(.i .i64 0),(.l [] true),(.i .i64 0),(.i .i64 0),(.l [] true)] [(0,1,(.c (.i .i64 1)))]),oo 20 (.call 74 [(.c (.i .i64 4))]),oo 21 (.call 74 [(.c (.i .i64 3))]),oo 22 (.call 74 [(.c (.i .i64 4))]),oo 23 (.AY 6 7 [(.i .i64 0),(.i .i64 0),(.l [] true),(.i .i64 0),(.i .i64 0),(.l [] true)] [(0,(.t 16)),(1,(.t 17)),(2,(.t 18)),(3,(.t 19)),(4,(.t 20)),(5,(.t 21)),(6,(.t 22))]),oM 3 23] (.seq [0,1,2] (sr [0,1,2,3,4] [A6 4 0] (.block 0 (.loop [0,1,2,3,4] (.seq [0,1,2,3,4] (sr [0,1,2,3,4,27] [oM 24 4,oM 25 2,oE 26 25,oG 27 .lss 24 26] (.cond (.t 27) .skip (.exit 0))) (.seq [0,1,2,3,4] (.block 1 (.seq [0,1,2,3,4] (.A5 [0,1,2,3,4] [dO 0 (oF 30 3 1),dO 1 (oL 31 30),dO 2 (oM 32 2),dO 3 (oM 33 4),dO 4 (oI 34 1 32 33),dO 5 (oL 35 34),dO 6 (oM 36 3),dO 7 (oM 37 4),dO 8 (oI 38 6 36 37),dO 9 (Az 39 6 38),dO 10 (oM 40 4),dO 11 (oo 41 (.build [(.i .i64 0),(.i .i64 0),(.i .i64 0),(.i .i64 0),(.l [] true),(.i .i64 0),(.i .i64 0),(.l [] true),(.i .i64 0)] [(0,1,(.t 35)),(2,6,(.t 39)),(8,1,(.t 40))])),dO 12 (oo 42 (.AY 9 1 [(.i .i64 0),(.i .i64 0),(.i .i64 0),(.i .i64 0),(.l [] true),(.i .i64 0),(.i .i64 0),(.l [] true),(.i .i64 0)] [(0,(.t 41))])),dO 13 (oA 43 9 104 31 42),dO 14 (oF 44 3 1),dO 15 (oS 1 44 43)]) (.Ak [oF 45 4 1,oL 46 45,oo 47 (.build [(.i .i64 0),(.i .i64 0),(.l [] true)] [(0,1,(.c (.i .i64 2)))]),oo 48 (.AY 3 1 [(.i .i64 0),(.i .i64 0),(.l [] true)] [(0,(.t 47))]),oA 49 3 40 46 48,oF 50 4 1,oS 1 50 49]))) (.Ak [oM 28 4,AS 29 .add 28 1,oM 4 29])))))) (sr [0,1,2] [oF 51 4 1,oL 52 51,oo 53 (.build [(.i .i64 0),(.i .i64 0),(.l [] true)] [(0,1,(.c (.i .i64 2)))]),oo 54 (.AY 3 1 [(.i .i64 0),(.i .i64 0),(.l [] true)] [(0,(.t 53))]),oA 55 3 40 52 54,oF 56 4 1,oS 1 56 55] (sr [0,1] [oM 57 2,oE 58 57,oF 59 5 1,oS 1 59 58] (sr [0] [Az 60 6 1,oS 6 0 60] .ret))))))))
def z7:BF:= .fI 61 ae48 [.c 0 (some 6)]
theorem vV:AX Tryz.prog 48 z7:=kTz Tryz.func48
abbrev ae12:AI:=(sr [1,2,3] [oB 3 0,Ay 6 false,A6 7 0] (sr [1,2,8] [Az 9 6 3,oC 10 42 9,oM 8 10] (.seq [1,2,8] (sr [1,2,8,16] [oM 11 8,oM 12 1,oM 13 2,oo 14 (.AY 1 2 [(.i .i64 0)] [(0,(.t 12)),(1,(.t 13))]),CC 15 43 11 14,oN 16 15] (.cond (.t 16) (sr [6,7] [Ay 6 false,A6 7 2] .ret) .skip)) (.seq [1,2,8] (sr [1,2,8,21] [oM 17 8,oM 18 1,oM 19 2,Oc 20 44 17 18 19,oN 21 20] (.cond (.t 21) (sr [6,7] [Ay 6 false,A6 7 7] .ret) .skip)) (sr [6,7] [oM 22 8,oM 23 1,oM 24 2,Oc 25 45 22 23 24,oM 6 25,A6 7 0] .ret)))))
def AAL:BF:= .fn 26 ae12 [.t 6,.t 7]
theorem vw:AX Tryz.prog 12 AAL:=kT Tryz.func12
abbrev ae20:AI:=(sr [1,2,3,4,8] [oB 4 0,oo 8 (.alloc [(.l [] true),(.b false),(.l [] true),(.l [] true),(.b false),(.l [] true)]),A6 9 0] (sr [1,2,3,8,10] [Az 13 6 4,oC 14 42 13,oM 10 14] (.seq [1,2,3,8,10] (sr [1,2,3,8,10,20] [oM 15 10,oM 16 1,oM 17 2,oM 18 3,Rt 19 56 15 16 17 18,oN 20 19] (.cond (.t 20) (sr [8,9] [oo 21 (.build [(.l [] true),(.b false),(.l [] true),(.l [] true),(.b false),(.l [] true)] []),oS 6 8 21,A6 9 2] .ret) .skip)) (sr [8,11,12] [oM 23 10,oM 24 10,oM 25 1,oM 26 2,oM 27 3,Rt 28 58 24 25 26 27,CC 29 57 23 28,oM 22 29,oX 30 0 22,oX 31 1 22,oo 11 (.alloc [(.l [] true),(.b false),(.l [] true),(.l [] true),(.b false),(.l [] true)]),oS 6 11 30,oM 12 31] (.seq [8,11] (sr [8,11,33] [oM 32 12,oN 33 32] (.cond (.t 33) (sr [8,9] [oo 34 (.build [(.l [] true),(.b false),(.l [] true),(.l [] true),(.b false),(.l [] true)] []),oS 6 8 34,A6 9 5] .ret) .skip)) (sr [8,9] [Az 35 6 11,oS 6 8 35,A6 9 0] .ret))))))
def AAG:BF:= .fn 36 ae20 [.c 8 (some 6),.t 9]
theorem vj:AX Tryz.prog 20 AAG:=kT Tryz.func20
abbrev ae31:AI:=(sr [1,2] [oB 2 0,C6 4,Ay 5 false,A6 6 0] (sr [1,7] [Az 10 6 2,oC 11 42 10,oM 7 11] (.seq [1,7] (sr [1,7,15] [oM 12 7,oM 13 1,oo 14 (.call 66 [(.t 12),(.t 13),(.c (.b true))]),oN 15 14] (.cond (.t 15) (sr [4,5,6] [C6 4,Ay 5 false,A6 6 2] .ret) .skip)) (sr [8,9] [oM 17 7,oM 18 1,CC 19 67 17 18,oM 16 19,oX 20 0 16,oX 21 1 16,oM 8 20,oM 9 21] (sr [4,5,6] [oM 22 8,oM 23 9,oM 4 22,oM 5 23,A6 6 0] .ret)))))
def AAD:BF:= .fn 24 ae31 [.t 4,.t 5,.t 6]
theorem vd:AX Tryz.prog 31 AAD:=kT Tryz.func31
abbrev ae15:=unB AAb
def AAJ:BF:= .fn 65 ae15 [.t 6,.t 7]
theorem vr:AX Tryz.prog 15 AAJ:=kT Tryz.func15
abbrev ae17:=unB AAa
def AAI:BF:= .fn 53 ae17 [.t 4,.t 5]
theorem vq:AX Tryz.prog 17 AAI:=kT Tryz.func17
abbrev ae19:=AAZ
def AAH:BF:= .fn 26 ae19 [.t 4]
theorem vo:AX Tryz.prog 19 AAH:=kT Tryz.func19
abbrev ae22:AI:=(sr [2,3] [oB 2 0,oB 3 1,Ay 4 false] (.seq [4] (.Ak (oF 5 0 2::oL 6 5::oF 7 0 3::oL 8 7::CC 9 30 6 8::oM 10 9::BL 11 1 2 10::Aq 12 11 10::BL 13 1 3 10::Aq 14 13 10::Cw 15 (.Tc false (.t 12) (.t 14)) 10::oP 16 10 15::oM 17 16::BL 18 2 2 17::Aq 19 18 17::BL 20 2 3 17::Aq 21 20 17::Cw 22 (.call 30 [(.t 19),(.t 21)]) 17::oP 23 17 22::oM 24 23::BL 25 3 2 24::Aq 26 25 24::BL 27 3 3 24::Aq 28 27 24::Cw 29 (.call 30 [(.t 26),(.t 28)]) 24::oP 30 24 29::oM 31 30::BL 32 4 2 31::Aq 33 32 31::BL 34 4 3 31::Aq 35 34 31::Cw 36 (.Tc false (.t 33) (.t 35)) 31::oP 37 31 36::oM 38 37::BL 39 5 2 38::Aq 40 39 38::BL 41 5 3 38::Aq 42 41 38::Cw 43 (.call 30 [(.t 40),(.t 42)]) 38::oP 44 38 43::oM 4 44:: [])) .ret))
def AAF:BF:= .fn 45 ae22 [.t 4]
theorem vg:AX Tryz.prog 22 AAF:=kT Tryz.func22
abbrev ae74:AI:=(sr [0,2] [oo 2 (.alloc [(.i .i64 0),(.i .i64 0),(.l [] true),(.i .i64 0),(.i .i64 0),(.l [] true)])] (sr [2] [oM 3 0,oo 4 (.build [(.i .i64 0),(.i .i64 0),(.l [] true),(.i .i64 0),(.i .i64 0),(.l [] true)] [(0,1,(.c (.i .i64 2))),(3,1,(.t 3))]),oS 6 2 4] .ret))
def zl:BF:= .fn 5 ae74 [.c 2 (some 6)]
theorem vH:AX Tryz.prog 74 zl:=kT Tryz.func74
abbrev ae42:=unB AAY
def AAC:BF:= .fn 17 ae42 [.t 2]
theorem vZ:AX Tryz.prog 42 AAC:=kT Tryz.func42
abbrev ae43:AI:=(sr [1,2] [oB 2 0,Ay 4 false] (sr [4] [oL 5 2,oo 6 (.Vo 0 true (.t 5)),oM 7 6,Al 8 1 7,Cw 9 (.HX (.func 73) [] [(.t 2)]) 7,Cw 10 (.call 72 [(.t 8),(.t 9)]) 7,J4 11 10 7,oP 12 7 11,oM 4 12] .ret))
def AAB:BF:= .fn 13 ae43 [.t 4]
theorem vY:AX Tryz.prog 43 AAB:=kT Tryz.func43
abbrev ae44:=AAX
def AAA:BF:= .fn 37 ae44 [.t 6]
theorem vX:AX Tryz.prog 44 AAA:=kT Tryz.func44
abbrev ae45:=AAW
def z8:BF:= .fn 18 ae45 [.t 6]
theorem vW:AX Tryz.prog 45 z8:=kT Tryz.func45
abbrev ae56:AI:=(sr [0,2,3,5] [oB 5 1,Ay 8 false] (.seq [0,3,5] (sr [0,3,5,36] [oM 11 0,oM 12 2,CC 13 49 11 12,oN 14 13,oM 15 14,BW 16 3 15,Gs 17 16 15,BW 18 0 15,F0 19 (.Et (.t 18)) 15,Br 20 0 19 15,Br 21 2 20 15,BU 22 21 15,BW 23 2 15,JC 24 1 22 23 15,BU 25 24 15,HG 26 .neq 17 25 15,oQ 27 15 26,oM 28 27,BW 29 3 28,F0 30 (.HX (.func 79) [] [(.t 5)]) 28,F0 31 (.call 78 [(.t 29),(.t 30)]) 28,Gs 32 31 28,BW 33 3 28,Gs 34 33 28,HG 35 .neq 32 34 28,oQ 36 28 35] (.cond (.t 36) (sr [8] [Ay 8 false] .ret) .skip)) (.seq [10] (.A5 [10] [dO 0 (oM 38 0),dO 1 (oK 39 38),dO 2 (oF 40 6 39),dO 3 (Az 41 2 40),dO 4 (oo 42 (.build [(.i .i64 0),(.i .i64 0),(.l [] true),(.i .i64 0),(.i .i64 0),(.l [] true)] [(0,1,(.c (.i .i64 1)))])),dO 5 (oL 43 5),dO 6 (oM 44 3),dO 7 (Rt 45 81 41 42 43 44),dO 8 (oM 37 45),dO 9 (oX 46 0 37),dO 10 (oX 47 1 37),dO 11 (oM 9 46),dO 12 (oM 10 47)]) (sr [8] [oM 48 10,AS 49 .eql 48 0,oM 8 49] .ret))))
def zv:BF:= .fn 50 ae56 [.t 8]
theorem vQ:AX Tryz.prog 56 zv:=kT Tryz.func56
abbrev ae58:AI:=(sr [2,4,5,7] [oB 4 0,oB 5 1,oB 7 3,C6 8] (sr [8] [oL 9 4,oM 10 2,CC 11 50 9 10,oC 12 84 11,oo 13 (.HX (.func 85) [] [(.t 4),(.t 5),(.t 7)]),CC 14 83 12 13,oM 8 14] .ret))
def zt:BF:= .fn 15 ae58 [.t 8]
theorem vO:AX Tryz.prog 58 zt:=kT Tryz.func58
abbrev ae57:AI:=(sr [0,1,4] [oo 4 (.alloc [(.l [] true),(.b false),(.l [] true),(.l [] true),(.b false),(.l [] true)]),Ay 5 false] (sr [0,1,4,6] [oo 6 (.alloc [(.l [] true),(.l [] true),(.l [] true),(.l [] true),(.l [] true)])] (.seq [0,4,6] (sr [0,4,6,11,12,13] [oM 11 1,oE 12 11,A6 13 0] (.block 0 (.loop [0,4,6,11,12,13] (sr [0,4,6,11,12,13,14] [oG 14 .lss 13 12] (.seq [0,4,6,11,12,13] (.cond (.t 14) .skip (.exit 0)) (.seq [0,4,6,11,12,13] (.block 1 (sr [0,4,6,8,11,12,13] [oI 15 1 11 13,oL 16 15,oM 8 16] (sr [0,4,6,8,9,11,12,13] [oM 17 0,oK 18 17,oF 19 0 18,oF 20 3 19,oL 21 20,oM 22 8,oI 23 9 21 22,oF 24 0 23,oL 25 24,oM 9 25] (.Ak [oM 26 9,oM 27 9,oo 28 (.Bi 1 (some 5) (.t 6) (.t 27)),oL 29 28,oM 30 8,oo 31 (.AY 1 1 [(.i .i64 0)] [(0,(.t 30))]),oA 32 1 8 29 31,oo 33 (.Bi 1 (some 5) (.t 6) (.t 26)),oS 1 33 32])))) (.Ak [AS 34 .add 13 1,oM 13 34]))))))) (sr [0,4,6,10] [oo 10 (.alloc [(.l [] true),(.b false),(.l [] true),(.l [] true),(.b false),(.l [] true)])] (.seq [0,4,6,10] (sr [0,4,6,10,38] [oo 35 (.Bi 1 (some 5) (.t 6) (.c (.i .i64 1))),oL 36 35,oE 37 36,AS 38 .eql 37 0] (.cond (.t 38) (sr [4,5] [Az 39 6 10,oS 6 4 39,Ay 5 false] .ret) .skip)) (sr [0,4,6,10] [oM 41 0,oo 42 (.Bi 1 (some 5) (.t 6) (.c (.i .i64 4))),oL 43 42,CC 44 67 41 43,oM 40 44,oX 45 0 40,oX 46 1 40,oF 47 0 10,oS 1 47 45,oF 48 1 10,oS 1 48 46] (sr [0,4,6,10] [oM 49 0,oo 50 (.Bi 1 (some 5) (.t 6) (.c (.i .i64 2))),oL 51 50,CC 52 69 49 51,oF 53 2 10,oS 1 53 52] (sr [0,4,6,10] [oM 55 0,oo 56 (.Bi 1 (some 5) (.t 6) (.c (.i .i64 1))),oL 57 56,CC 58 67 55 57,oM 54 58,oX 59 0 54,oX 60 1 54,oF 61 3 10,oS 1 61 59,oF 62 4 10,oS 1 62 60] (sr [4,10] [oM 63 0,oo 64 (.Bi 1 (some 5) (.t 6) (.c (.i .i64 3))),oL 65 64,CC 66 69 63 65,oF 67 5 10,oS 1 67 66] (sr [4,10] [oF 68 5 10,oL 69 68,oC 70 82 69] (sr [4,5] [Az 71 6 10,oS 6 4 71,Ay 5 true] .ret)))))))))))
def zu:BF:= .fn 72 ae57 [.c 4 (some 6),.t 5]
theorem vP:AX Tryz.prog 57 zu:=kT Tryz.func57
abbrev ae66:AI:=(sr [0,1,2] [Ay 6 false] (.seq [0,1,2] (sr [0,1,2,13] [oM 10 0,oM 11 1,CC 12 43 10 11,oN 13 12] (.cond (.t 13) (sr [6] [Ay 6 false] .ret) .skip)) (sr [0,1,2,7] [oo 14 (.Gw),oM 7 14] (.seq [] (sr [0,1,2,7,15,16,17] [oM 15 1,oE 16 15,A6 17 0] (.block 0 (.loop [0,1,2,7,15,16,17] (sr [0,1,2,7,15,16,17,18] [oG 18 .lss 17 16] (.seq [0,1,2,7,15,16,17] (.cond (.t 18) .skip (.exit 0)) (.seq [0,1,2,7,15,16,17] (.block 1 (sr [0,1,2,7,9,15,16,17] [oI 19 1 15 17,oL 20 19,oM 9 20] (.seq [0,1,2,7,9,15,16,17] (.seq [0,1,2,7,9,15,16,17,58] (.A5 [0,1,2,7,9,15,16,17,58] (dO 0 (oM 21 7)::dO 1 (oM 22 9)::dO 2 (oo 23 (.lookup (.i .i64) (.b false) false (.t 21) (.t 22)))::dO 3 (oM 24 23)::dO 4 (BW 25 0 24)::dO 5 (F0 26 (.Et (.t 25)) 24)::dO 6 (Br 27 0 26 24)::dO 7 (Br 28 3 27 24)::dO 8 (BU 29 28 24)::dO 9 (BW 30 9 24)::dO 10 (JC 31 9 29 30 24)::dO 11 (Br 32 1 31 24)::dO 12 (BU 33 32 24)::dO 13 (BW 34 0 24)::dO 14 (F0 35 (.Et (.t 34)) 24)::dO 15 (Br 36 0 35 24)::dO 16 (Br 37 3 36 24)::dO 17 (BU 38 37 24)::dO 18 (BW 39 1 24)::dO 19 (F0 40 (.Bi 1 none (.t 39) (.c (.i .i64 0))) 24)::dO 20 (BU 41 40 24)::dO 21 (JC 42 9 38 41 24)::dO 22 (Br 43 1 42 24)::dO 23 (BU 44 43 24)::dO 24 (HG 45 .neq 33 44 24)::dO 25 (oQ 46 24 45)::dO 26 (oM 47 46)::dO 27 (BW 48 2 47)::dO 28 (BW 49 48 47)::dO 29 (Al 50 0 49)::dO 30 (Al 51 9 49)::dO 31 (Al 52 1 49)::dO 32 (Cw 53 (.Bi 1 none (.t 52) (.c (.i .i64 0))) 49)::dO 33 (Aq 54 53 49)::dO 34 (Cw 55 (.call 44 [(.t 50),(.t 51),(.t 54)]) 49)::dO 35 (J4 56 55 49)::dO 36 (F0 57 (.pick (.t 49) (.t 56) (.c (.b false))) 47)::dO 37 (oQ 58 47 57):: [])) (.cond (.t 58) (sr [6] [Ay 6 false] .ret) .skip)) (.Ak [oM 59 7,oM 60 9,⟨none,.DQ (.i .i64) (.t 59) (.t 60) (.c (.b true)),none⟩])))) (.Ak [AS 61 .add 17 1,oM 17 61]))))))) (sr [6] [Ay 6 true] .ret)))))
def zr:BF:= .fn 62 ae66 [.t 6]
theorem vN:AX Tryz.prog 66 zr:=kT Tryz.func66
abbrev ae67:AI:=(sr [0,1] [C6 4,Ay 5 false] (.scope (sr [0,1,6] [C6 6] (.seq [0,1,6] .skip (.seq [6] (.block 0 (.loop [0,1,6] (.seq [0,1,6] (sr [0,1,6,13] [oM 11 1,oE 12 11,AS 13 .gtr 12 0] (.cond (.t 13) .skip (.exit 0))) (.block 1 (.scope (.seq [0,1,6] .skip (.seq [6] (sr [0,1,6,14,15,16] [oM 14 1,oE 15 14,A6 16 0] (.block 2 (.loop [0,1,6,14,15,16] (sr [0,1,6,14,15,16,17] [oG 17 .lss 16 15] (.seq [0,1,6,14,15,16] (.cond (.t 17) .skip (.exit 2)) (.seq [0,1,6,14,15,16] (.block 3 (sr [0,1,6,8,14,15,16] [oI 18 1 14 16,oL 19 18,oM 8 19] (.seq [0,1,6,8] (sr [0,1,6,8,14,15,16,20,21,22] [oM 20 1,oE 21 20,A6 22 0] (.block 4 (.loop [0,1,6,8,14,15,16,20,21,22] (sr [0,1,6,8,14,15,16,20,21,22,23] [oG 23 .lss 22 21] (.seq [0,1,6,8,14,15,16,20,21,22] (.cond (.t 23) .skip (.exit 4)) (.seq [0,1,6,8,14,15,16,20,21,22] (.block 5 (sr [0,1,6,8,10,14,15,16,20,21,22] [oI 24 1 20 22,oL 25 24,oM 10 25] (sr [0,1,6,8,14,15,16,20,21,22,35] [oM 26 8,oM 27 10,oG 28 .neq 26 27,oM 29 28,Al 30 0 29,Al 31 8 29,Al 32 10 29,Cw 33 (.call 45 [(.t 30),(.t 31),(.t 32)]) 29,J4 34 33 29,oP 35 29 34] (.cond (.t 35) (.exit 3) .skip)))) (.Ak [AS 36 .add 22 1,oM 22 36]))))))) (sr [0,1,6,8] [oM 37 6,oM 38 8,oo 39 (.AY 1 1 [(.i .i64 0)] [(0,(.t 38))]),oA 40 1 8 37 39,oM 6 40] (sr [0,1,6] [oM 41 1,oM 42 8,CC 43 98 41 42,oM 1 43] (.exit 1)))))) (.Ak [AS 44 .add 16 1,oM 16 44]))))))) (sr [4,5] [oM 45 6,oC 46 99 45,oM 4 46,Ay 5 true] .ret)))))))) (sr [4,5] [oM 47 6,oC 48 99 47,oM 4 48,Ay 5 false] .ret))))))
def zq:BF:= .fn 49 ae67 [.t 4,.t 5]
theorem vM:AX Tryz.prog 67 zq:=kT Tryz.func67
abbrev ae49:=AAV
def z6:BF:= .fn 21 ae49 [.t 4]
theorem vU:AX Tryz.prog 49 z6:=kT Tryz.func49
abbrev ae50:=unB AAU
def zy:BF:= .fn 6 ae50 [.t 4]
theorem vT:AX Tryz.prog 50 zy:=kT Tryz.func50
abbrev ae51:=tc
def zx:BF:= .fn 9 ae51 [.t 2]
theorem vS:AX Tryz.prog 51 zx:=kT Tryz.func51
abbrev ae54:=AAT
def zw:BF:= .fn 57 ae54 [.t 6]
theorem vR:AX Tryz.prog 54 zw:=kT Tryz.func54
abbrev ae30:=bN
def AAE:BF:= .fn 26 ae30 [.t 4]
theorem ve:AX Tryz.prog 30 AAE:=kT Tryz.func30
abbrev ae71:=unB AAS
def zo:BF:= .fn 10 ae71 [.c 2 (some 2),.t 3]
theorem vK:AX Tryz.prog 71 zo:=kT Tryz.func71
abbrev ae73:AI:=(sr [0,1] [Ay 3 false] (sr [3] [oM 4 0,AS 5 .lss 4 0,oM 6 5,BW 7 0 6,BU 8 1 6,F0 9 (.Et (.t 8)) 6,Br 10 0 9 6,Br 11 3 10 6,BU 12 11 6,Gs 13 12 6,HG 14 .geq 7 13 6,oQ 15 6 14,oM 3 15] .ret))
def zm:BF:= .fn 16 ae73 [.t 3]
theorem vI:AX Tryz.prog 73 zm:=kT Tryz.func73
abbrev ae72:=AAR
def zn:BF:= .fn 9 ae72 [.t 4]
theorem vJ:AX Tryz.prog 72 zn:=kT Tryz.func72
abbrev ae79:AI:=(sr [1,2] [oB 2 0,Ay 3 false] (sr [3] [Az 4 2 2,oL 5 1,oE 6 5,CC 7 80 4 6,oM 3 7] .ret))
def zh:BF:= .fn 8 ae79 [.t 3]
theorem vD:AX Tryz.prog 79 zh:=kT Tryz.func79
abbrev ae78:AI:=(sr [0,1] [C6 4] (sr [0,1,5] [C6 5] (.seq [5] (sr [1,5,8,9,10] [oM 8 0,oE 9 8,A6 10 0] (.block 0 (.loop [1,5,8,9,10] (sr [1,5,8,9,10,11] [oG 11 .lss 10 9] (.seq [1,5,8,9,10] (.cond (.t 11) .skip (.exit 0)) (.seq [1,5,8,9,10] (.block 1 (sr [1,5,7,8,9,10] [oI 12 2 8 10,Az 13 2 12,oo 7 (.alloc [(.i .i64 0),(.i .i64 0)]),oS 2 7 13] (sr [1,5,7,8,9,10,16] [oM 14 1,Az 15 2 7,oo 16 (.CA (.t 14) [(.t 15)])] (.cond (.t 16) (.Ak [oM 17 5,Az 18 2 7,oo 19 (.AY 2 1 [(.i .i64 0),(.i .i64 0)] [(0,(.t 18))]),oA 20 2 16 17 19,oM 5 20]) .skip)))) (.Ak [AS 21 .add 10 1,oM 10 21]))))))) (sr [4] [oM 22 5,oC 23 114 22,oM 4 23] .ret))))
def zi:BF:= .fn 24 ae78 [.t 4]
theorem vE:AX Tryz.prog 78 zi:=kT Tryz.func78
abbrev ae81:AI:=(sr [2,3,4,5] [oB 4 0,oB 5 1,Ay 8 false,A6 9 0] (sr [2,3,5,10,11] [Az 13 2 4,Az 14 6 5,oo 15 (.AY 6 1 [(.i .i64 0),(.i .i64 0),(.l [] true),(.i .i64 0),(.i .i64 0),(.l [] true)] [(0,(.t 14))]),CC 16 109 13 15,oM 12 16,oX 17 0 12,oX 18 1 12,oM 10 17,oM 11 18] (.seq [2,3,5,10] (sr [2,3,5,10,34] [oM 19 11,oN 20 19,oM 21 20,BW 22 10 21,BW 23 2 21,BW 24 3 21,F0 25 (.call 115 [(.t 22),(.t 23),(.t 24)]) 21,I3 26 25 21,oQ 27 21 26,oM 28 27,J5 29 6 5 28,F0 30 (.call 116 [(.t 29)]) 28,BW 31 3 28,Gs 32 31 28,HG 33 .gtr 30 32 28,oQ 34 28 33] (.cond (.t 34) (sr [8,9] [Ay 8 false,A6 9 2] .ret) .skip)) (sr [8,9] [oM 35 10,Az 36 6 5,oM 37 2,oM 38 3,Rt 39 117 35 36 37 38,oM 8 39,A6 9 0] .ret))))
def zf:BF:= .fn 40 ae81 [.t 8,.t 9]
theorem vB:AX Tryz.prog 81 zf:=kT Tryz.func81
abbrev ae84:AI:=(sr [0] [C6 2] (sr [2] [oM 3 0,oo 4 (.call 118 [(.c (.l [] true)),(.t 3)]),oM 2 4] .ret))
def zb:BF:= .fn 5 ae84 [.t 2]
theorem u7:AX Tryz.prog 84 zb:=kT Tryz.func84
abbrev ae85:AI:=(sr [0,1,2,3] [Ay 5 false] (.seq [6,7] (.A5 [6,7] [dO 0 (oL 9 1),dO 1 (oK 10 9),dO 2 (oF 11 6 10),dO 3 (Az 12 2 11),dO 4 (oL 13 1),dO 5 (oK 14 13),dO 6 (oF 15 0 14),dO 7 (oF 16 3 15),dO 8 (oL 17 16),dO 9 (oM 18 0),dO 10 (oI 19 9 17 18),dO 11 (oF 20 2 19),dO 12 (Az 21 6 20),dO 13 (oL 22 2),dO 14 (oL 23 3),dO 15 (Rt 24 81 12 21 22 23),dO 16 (oM 8 24),dO 17 (oX 25 0 8),dO 18 (oX 26 1 8),dO 19 (oM 6 25),dO 20 (oM 7 26)]) (sr [5] [oM 27 6,oM 28 27,Al 29 7 28,EL 30 .eql 29 0 28,oP 31 28 30,oM 5 31] .ret)))
def za:BF:= .fn 32 ae85 [.t 5]
theorem u6:AX Tryz.prog 85 za:=kT Tryz.func85
abbrev ae83:AI:=(sr [0,1] [C6 4] (sr [0,1,5] [C6 5] (.seq [5] (sr [1,5,8,9,10] [oM 8 0,oE 9 8,A6 10 0] (.block 0 (.loop [1,5,8,9,10] (sr [1,5,8,9,10,11] [oG 11 .lss 10 9] (.seq [1,5,8,9,10] (.cond (.t 11) .skip (.exit 0)) (.seq [1,5,8,9,10] (.block 1 (sr [1,5,7,8,9,10] [oI 12 1 8 10,oL 13 12,oM 7 13] (sr [1,5,7,8,9,10,16] [oM 14 1,oM 15 7,oo 16 (.CA (.t 14) [(.t 15)])] (.cond (.t 16) (.Ak [oM 17 5,oM 18 7,oo 19 (.AY 1 1 [(.i .i64 0)] [(0,(.t 18))]),oA 20 1 8 17 19,oM 5 20]) .skip)))) (.Ak [AS 21 .add 10 1,oM 10 21]))))))) (sr [4] [oM 22 5,oC 23 99 22,oM 4 23] .ret))))
def zd:BF:= .fn 24 ae83 [.t 4]
theorem u9:AX Tryz.prog 83 zd:=kT Tryz.func83
abbrev ae69:AI:=(sr [2,3] [oB 2 0,oB 3 1,C6 4] (sr [2,3] [oL 8 3,oC 9 102 8,oC 10 101 9,oS 1 3 10] (sr [2,3,5] [C6 5] (.seq [5] (.block 0 (.loop [2,3,5] (.seq [2,3,5] (sr [2,3,5,13] [oL 11 3,oE 12 11,AS 13 .gtr 12 0] (.cond (.t 13) .skip (.exit 0))) (.block 1 (sr [2,3,5,6] [oL 14 3,oo 15 (.HX (.func 104) [] [(.t 3),(.t 2)]),CC 16 103 14 15,oM 6 16] (sr [2,3,5,7] [oL 17 3,oM 18 6,oI 19 1 17 18,oL 20 19,oM 7 20] (sr [2,3,5,7] [oM 21 5,oM 22 7,oo 23 (.AY 1 1 [(.i .i64 0)] [(0,(.t 22))]),oA 24 1 8 21 23,oM 5 24] (.Ak [oL 25 3,oM 26 7,CC 27 98 25 26,oS 1 3 27])))))))) (sr [4] [oM 28 5,oC 29 99 28,oM 4 29] .ret)))))
def zp:BF:= .fn 30 ae69 [.t 4]
theorem vL:AX Tryz.prog 69 zp:=kT Tryz.func69
abbrev ae82:AI:=(sr [0,2,3] [oM 4 0,oE 5 4,AS 6 .sub 5 1,A6 2 0,oM 3 6] (.block 0 (.loop [0,2,3] (.seq [0,2,3] (sr [0,2,3,9] [oM 7 2,oM 8 3,oG 9 .lss 7 8] (.cond (.t 9) .skip (.exit 0))) (.seq [0,2,3] (.block 1 (.A5 [0,2,3] [dO 0 (oM 14 0),dO 1 (oM 15 2),dO 2 (oM 16 0),dO 3 (oM 17 3),dO 4 (oM 18 0),dO 5 (oM 19 3),dO 6 (oI 20 1 18 19),dO 7 (oL 21 20),dO 8 (oM 22 0),dO 9 (oM 23 2),dO 10 (oI 24 1 22 23),dO 11 (oL 25 24),dO 12 (oI 26 1 14 15),dO 13 (oS 1 26 21),dO 14 (oI 27 1 16 17),dO 15 (oS 1 27 25)])) (.Ak [oM 10 2,AS 11 .add 10 1,oM 12 3,AS 13 .sub 12 1,oM 2 11,oM 3 13]))))))
def ze:BF:= .fn 28 ae82 []
theorem vA:AX Tryz.prog 82 ze:=kT Tryz.func82
abbrev ae98:AI:=(sr [0,3] [oB 3 1,C6 4] (sr [4] [oM 5 0,oo 6 (.HX (.func 132) [] [(.t 3)]),CC 7 83 5 6,oM 4 7] .ret))
def zZ:BF:= .fn 8 ae98 [.t 4]
theorem u0:AX Tryz.prog 98 zZ:=kT Tryz.func98
abbrev ae99:=bO
def zY:BF:= .fn 9 ae99 [.t 2]
theorem uz:AX Tryz.prog 99 zY:=kT Tryz.func99
abbrev ae75:=AAQ
def zk:BF:= .fn 28 ae75 []
theorem vG:AX Tryz.prog 75 zk:=kT Tryz.func75
abbrev ae76:=unB AAP
def zj:BF:= .fn 24 ae76 [.t 6,.t 7]
theorem vF:AX Tryz.prog 76 zj:=kT Tryz.func76
abbrev ADj:=unB sx
def qh:BF:= .fn 12 ADj [.t 2]
theorem lU:AX Tryz.prog 107 qh:=kT Tryz.func107
abbrev ADi:=unB sw
def qg:BF:= .fI 32 ADi [.c 2 (some 2)]
theorem lT:AX Tryz.prog 108 qg:=kTz Tryz.func108
abbrev ADm:=sy
def ql:BF:= .fn 19 ADm [.t 4]
theorem lX:AX Tryz.prog 103 ql:=kT Tryz.func103
abbrev ae80:AI:=(sr [1,2] [oB 2 0,Ay 4 false] (.seq [] (sr [1,2,6] [oF 5 0 2,oL 6 5] (.block 0 (sr [1,2,6,7] [AS 8 .eql 6 1,oM 7 8] (.cond (.t 7) (sr [4] [oF 9 1 2,oL 10 9,AS 11 .geq 10 (-1000000000),oM 12 11,BL 13 1 2 12,Aq 14 13 12,EL 15 .leq 14 1000000000 12,oP 16 12 15,oM 4 16] .ret) (sr [1,2,6,17] [AS 18 .eql 6 2,oM 17 18] (.cond (.t 17) (sr [4] [oF 19 1 2,oL 20 19,AS 21 .eql 20 0,oM 4 21] .ret) (sr [1,2,22] [AS 23 .eql 6 3,oM 22 23] (.cond (.t 22) (sr [4] [oF 24 1 2,oL 25 24,AS 26 .geq 25 0,oM 27 26,BL 28 1 2 27,Aq 29 28 27,Al 30 1 27,D5 31 .lss 29 30 27,oP 32 27 31,oM 4 32] .ret) .skip)))))))) (sr [4] [Ay 4 false] .ret)))
def zg:BF:= .fn 33 ae80 [.t 4]
theorem vC:AX Tryz.prog 80 zg:=kT Tryz.func80
abbrev ADf:=tc
def qd:BF:= .fn 9 ADf [.t 2]
theorem lQ:AX Tryz.prog 114 qd:=kT Tryz.func114
abbrev ADh:=unB su
def qf:BF:= .fn 20 ADh [.t 4,.t 5]
theorem lS:AX Tryz.prog 109 qf:=kT Tryz.func109
abbrev ADe:AI:=(sr [0,2,4] [oB 4 1,Ay 6 false] (sr [6] [oM 7 0,oL 8 4,CC 9 146 7 8,oM 10 9,Al 11 2 10,Hb 12 11 10,EL 13 .geq 12 1 10,oP 14 10 13,oM 15 14,Al 16 2 15,Hb 17 16 15,EL 18 .leq 17 3 15,oP 19 15 18,oM 20 19,Al 21 2 20,Cw 22 (.HX (.func 148) [] [(.t 4)]) 20,Cw 23 (.call 147 [(.t 21),(.t 22)]) 20,oP 24 20 23,oM 6 24] .ret))
def qc:BF:= .fn 25 ADe [.t 6]
theorem lP:AX Tryz.prog 115 qc:=kT Tryz.func115
abbrev ADd:AI:=(sr [1] [oB 1 0,A6 2 0] (sr [1,3] [A6 3 0] (.seq [1,3] (sr [1,3,7] [Az 6 6 1,oC 7 150 6] (.cond (.t 7) (.Ak [oF 8 1 1,oL 9 8,AS 10 .add 9 1,oM 3 10]) .skip)) (.seq [3] (sr [3,12,13,14] [oF 11 5 1,oL 12 11,oE 13 12,A6 14 0] (.block 0 (.loop [3,12,13,14] (sr [3,12,13,14,15] [oG 15 .lss 14 13] (.seq [3,12,13,14] (.cond (.t 15) .skip (.exit 0)) (.seq [3,12,13,14] (.block 1 (sr [3,5,12,13,14] [oI 16 6 12 14,Az 17 6 16,oo 5 (.alloc [(.i .i64 0),(.i .i64 0),(.l [] true),(.i .i64 0),(.i .i64 0),(.l [] true)]),oS 6 5 17] (.Ak [oM 18 3,Az 19 6 5,oC 20 116 19,oo 21 (.J6 (.t 18) (.t 20)),oM 3 21]))) (.Ak [AS 22 .add 14 1,oM 14 22]))))))) (sr [2] [oM 23 3,oM 2 23] .ret)))))
def qb:BF:= .fn 24 ADd [.t 2]
theorem lO:AX Tryz.prog 116 qb:=kT Tryz.func116
abbrev ADc:AI:=(sr [0,2,3,5] [oB 5 1,Ay 8 false] (.seq [0,2,3,5] (sr [0,2,3,5,12] [oF 11 0 5,oL 12 11] (.block 0 (sr [0,2,3,5,12,13] [AS 14 .eql 12 1,oM 13 14] (.cond (.t 13) (sr [8] [Ay 8 true] .ret) (sr [0,2,3,5,12,15] [AS 16 .eql 12 5,oM 15 16] (.cond (.t 15) (sr [8] [oM 17 0,oF 18 5 5,oL 19 18,oo 20 (.Bi 6 none (.t 19) (.c (.i .i64 0))),Az 21 6 20,oM 22 2,oM 23 3,Rt 24 117 17 21 22 23,oN 25 24,oM 8 25] .ret) (sr [0,2,3,5,12,26] [AS 27 .eql 12 6,oM 26 27] (.cond (.t 26) (sr [8] [oM 28 0,oF 29 5 5,oL 30 29,oo 31 (.Bi 6 none (.t 30) (.c (.i .i64 0))),Az 32 6 31,oM 33 2,oM 34 3,Rt 35 117 28 32 33 34,oM 36 35,Al 37 0 36,BL 38 5 5 36,Aq 39 38 36,Cw 40 (.Bi 6 none (.t 39) (.c (.i .i64 1))) 36,Ha 41 6 40 36,Al 42 2 36,Al 43 3 36,Cw 44 (.call 117 [(.t 37),(.t 41),(.t 42),(.t 43)]) 36,oP 45 36 44,oM 8 45] .ret) (sr [0,2,3,5,46] [AS 47 .eql 12 7,oM 46 47] (.cond (.t 46) (sr [8] [oM 48 0,oF 49 5 5,oL 50 49,oo 51 (.Bi 6 none (.t 50) (.c (.i .i64 0))),Az 52 6 51,oM 53 2,oM 54 3,Rt 55 117 48 52 53 54,oM 56 55,BW 57 0 56,Br 58 5 5 56,BU 59 58 56,F0 60 (.Bi 6 none (.t 59) (.c (.i .i64 1))) 56,J5 61 6 60 56,BW 62 2 56,BW 63 3 56,F0 64 (.call 117 [(.t 57),(.t 61),(.t 62),(.t 63)]) 56,oQ 65 56 64,oM 8 65] .ret) .skip)))))))))) (.seq [0,2,5,9,10] (.A5 [0,2,5,9,10] [dO 0 (oM 67 0),dO 1 (oM 68 2),dO 2 (oM 69 3),dO 3 (oF 70 1 5),dO 4 (oL 71 70),dO 5 (oI 72 2 69 71),dO 6 (Az 73 2 72),dO 7 (oF 74 2 5),dO 8 (oL 75 74),dO 9 (Rt 76 151 67 68 73 75),dO 10 (oM 66 76),dO 11 (oX 77 0 66),dO 12 (oX 78 1 66),dO 13 (oo 9 (.alloc [(.i .i64 0),(.i .i64 0)])),dO 14 (oS 2 9 77),dO 15 (oM 10 78)]) (.seq [0,5,9] (.block 1 (sr [0,2,5,9,79] [oM 80 10,oN 81 80,oM 79 81] (.cond (.t 79) (sr [8] [Ay 8 false] .ret) (sr [0,2,5,9,82] [oF 83 0 5,oL 84 83,AS 85 .neq 84 2,oM 82 85] (.cond (.t 82) (sr [8] [oF 86 0 9,oL 87 86,AS 88 .eql 87 1,oM 89 88,BL 90 1 9 89,Aq 91 90 89,BL 92 4 5 89,Aq 93 92 89,D5 94 .eql 91 93 89,BL 95 0 5 89,Aq 96 95 89,EL 97 .eql 96 4 89,Cw 98 (.Tc false (.t 94) (.t 97)) 89,oP 99 89 98,oM 100 99,BL 101 1 9 100,Aq 102 101 100,BL 103 4 5 100,Aq 104 103 100,D5 105 .leq 102 104 100,oP 106 100 105,oM 8 106] .ret) (sr [0,2,5,9,107] [oF 108 0 9,oL 109 108,AS 110 .eql 109 3,oM 107 110] (.cond (.t 107) (.seq [8] (.A5 [8] [dO 0 (oM 111 0),dO 1 (oM 112 2),dO 2 (oF 113 1 9),dO 3 (oL 114 113),dO 4 (oI 115 2 112 114),dO 5 (oF 116 0 115),dO 6 (oL 117 116),dO 7 (oK 118 111),dO 8 (oF 119 2 118),dO 9 (oo 120 (.Bi 1 (some 63) (.t 119) (.t 117))),dO 10 (oL 121 120),dO 11 (oF 122 3 5),dO 12 (oL 123 122),dO 13 (CC 124 152 121 123),dO 14 (oM 8 124)]) .ret) .skip))))))) (.seq [8] (.A5 [8] [dO 0 (oM 125 0),dO 1 (oF 126 0 9),dO 2 (oL 127 126),dO 3 (oK 128 125),dO 4 (oF 129 2 128),dO 5 (oo 130 (.Bi 1 (some 63) (.t 129) (.t 127))),dO 6 (oL 131 130),dO 7 (oF 132 3 5),dO 8 (oL 133 132),dO 9 (CC 134 152 131 133),dO 10 (oM 8 134)]) .ret)))))
def qa:BF:= .fn 135 ADc [.t 8]
theorem lN:AX Tryz.prog 117 qa:=kT Tryz.func117
abbrev ADb:AI:=(sr [1,2] [oB 2 0,C6 4] (.seq [2] (sr [2,6] [oM 6 1] (.block 0 (.C7 [2] (.t 6) [7] (.Ak [oM 5 7]) (.block 1 (.Ak [oL 8 2,oM 9 5,oo 10 (.AY 1 1 [(.i .i64 0)] [(0,(.t 9))]),oA 11 1 8 8 10,oS 1 2 11]))))) (sr [4] [oL 12 2,oM 4 12] .ret)))
def qZ:BF:= .fn 13 ADb [.t 4]
theorem lM:AX Tryz.prog 118 qZ:=kT Tryz.func118
abbrev ADn:AI:=(sr [1] [oB 1 0,oo 2 (.mv (.c .Hc))] (sr [2] [oo 3 (.HX (.func 136) [] [(.t 1)]),oM 2 3] .ret))
def qm:BF:= .fn 4 ADn [.t 2]
theorem lY:AX Tryz.prog 102 qm:=kT Tryz.func102
abbrev ADo:AI:=(sr [0] [C6 2] (sr [3] [oM 4 0,oC 5 84 4,oM 3 5] (sr [3] [oM 6 3,oC 7 135 6] (sr [2] [oM 8 3,oM 2 8] .ret))))
def qn:BF:= .fn 9 ADo [.t 2]
theorem lZ:AX Tryz.prog 101 qn:=kT Tryz.func101
abbrev ADl:AI:=(sr [1,2,3] [oB 3 0,Ay 4 false] (sr [4] [oL 5 1,oo 6 (.HX (.func 105) [] [(.t 2),(.t 3)]),CC 7 72 5 6,oN 8 7,oM 4 8] .ret))
def qj:BF:= .fn 9 ADl [.t 4]
theorem lW:AX Tryz.prog 104 qj:=kT Tryz.func104
abbrev ADa:=bM
def qY:BF:= .fn 7 ADa [.t 3]
theorem lL:AX Tryz.prog 132 qY:=kT Tryz.func132
abbrev ADg:=unB ss
def qe:BF:= .fn 14 ADg [.t 6]
theorem lR:AX Tryz.prog 110 qe:=kT Tryz.func110
abbrev ADX:=unB sm
def qV:BF:= .fn 10 ADX [.t 2,.t 3]
theorem lI:AX Tryz.prog 137 qV:=kT Tryz.func137
abbrev ADW:=unB sj
def qU:BF:= .fI 6 ADW [.t 2]
theorem lH:AX Tryz.prog 138 qU:=kTz Tryz.func138
abbrev ADV:=unB sh
def qT:BF:= .fI 91 ADV [.t 2,.t 3]
theorem lG:AX Tryz.prog 139 qT:=kTz Tryz.func139
abbrev ADU:=unB sg
def qS:BF:= .fn 8 ADU [.t 4]
theorem lF:AX Tryz.prog 140 qS:=kT Tryz.func140
abbrev ADQ:AI:=(sr [2,3] [oB 2 0,oB 3 1,Ay 4 false] (sr [4] [oL 5 3,oE 6 5,AS 7 .leq 6 40,oM 8 7,Aq 9 3 8,Cw 10 (.HX (.func 187) [] [(.t 2),(.t 3)]) 8,Cw 11 (.call 186 [(.t 9),(.t 10)]) 8,oP 12 8 11,oM 4 12] .ret))
def qO:BF:= .fn 13 ADQ [.t 4]
theorem lB:AX Tryz.prog 146 qO:=kT Tryz.func146
abbrev ADO:AI:=(sr [1,2] [oB 2 0,Ay 3 false] (sr [3] [Az 4 2 2,oL 5 1,oE 6 5,CC 7 149 4 6,oM 3 7] .ret))
def qM:BF:= .fn 8 ADO [.t 3]
theorem k9:AX Tryz.prog 148 qM:=kT Tryz.func148
abbrev ADP:AI:=(sr [0,3] [oB 3 1,Ay 4 false] (sr [4] [oM 5 0,oo 6 (.HX (.func 191) [] [(.t 3)]),CC 7 190 5 6,oN 8 7,oM 4 8] .ret))
def qN:BF:= .fn 9 ADP [.t 4]
theorem lA:AX Tryz.prog 147 qN:=kT Tryz.func147
abbrev ADM:=unB sc
def qK:BF:= .fn 11 ADM [.t 2]
theorem k7:AX Tryz.prog 150 qK:=kT Tryz.func150
abbrev ADL:AI:=(sr [0,1,3,6,8] [oB 6 2,oo 8 (.alloc [(.i .i64 0),(.i .i64 0)]),Ay 9 false] (.seq [6,8] (sr [0,1,6,8,12,13,14] [oM 12 3,oE 13 12,A6 14 0] (.block 0 (.loop [0,1,6,8,12,13,14] (sr [0,1,6,8,12,13,14,15] [oG 15 .lss 14 13] (.seq [0,1,6,8,12,13,14] (.cond (.t 15) .skip (.exit 0)) (.seq [0,1,6,8,12,13,14] (.block 1 (sr [0,1,6,8,11,12,13,14] [oI 16 1 12 14,oL 17 16,oM 11 17] (.seq [0,1,6,8,11,12,13,14] (sr [0,1,6,8,11,12,13,14,32] [oF 18 0 6,oL 19 18,AS 20 .neq 19 3,oM 21 20,BW 22 0 21,BW 23 1 21,Br 24 1 6 21,BU 25 24 21,JC 26 2 23 25 21,Br 27 0 26 21,BU 28 27 21,BW 29 11 21,F0 30 (.call 192 [(.t 22),(.t 28),(.t 29)]) 21,I3 31 30 21,oQ 32 21 31] (.cond (.t 32) (sr [8,9] [oo 33 (.build [(.i .i64 0),(.i .i64 0)] []),oS 2 8 33,Ay 9 false] .ret) .skip)) (.A5 [0,1,6,8,12,13,14] [dO 0 (oM 34 1),dO 1 (oF 35 1 6),dO 2 (oL 36 35),dO 3 (oI 37 2 34 36),dO 4 (oF 38 1 37),dO 5 (oL 39 38),dO 6 (oM 40 0),dO 7 (oM 41 1),dO 8 (oF 42 1 6),dO 9 (oL 43 42),dO 10 (oI 44 2 41 43),dO 11 (oF 45 0 44),dO 12 (oL 46 45),dO 14 (oM 48 11),⟨13,CC 47 188 40 46,[5,2],[oL 39 38,oL 36 35]⟩,⟨15,CC 49 193 47 48,[5,2],[oL 39 38,oL 36 35]⟩,dO 16 (oI 50 2 39 49),dO 17 (Az 51 2 50),dO 18 (oS 2 6 51)])))) (.Ak [AS 52 .add 14 1,oM 14 52]))))))) (sr [8,9] [Az 53 2 6,oS 2 8 53,Ay 9 true] .ret)))
def qJ:BF:= .fn 54 ADL [.c 8 (some 2),.t 9]
theorem kz:AX Tryz.prog 151 qJ:=kT Tryz.func151
abbrev ADK:=sb
def qI:BF:= .fn 10 ADK [.t 4]
theorem ky:AX Tryz.prog 152 qI:=kT Tryz.func152
abbrev ADY:AI:=(sr [0,5,6,7] [oL 5 1,oE 6 5,A6 7 0] (.block 0 (.loop [0,5,6,7] (sr [0,5,6,7,8] [oG 8 .lss 7 6] (.seq [0,5,6,7] (.cond (.t 8) .skip (.exit 0)) (.seq [0,5,6,7] (.block 1 (sr [0,4,5,6,7] [oI 9 1 5 7,oL 10 9,oM 4 10] (sr [0,5,6,7,14] [oM 11 0,oM 12 4,oo 13 (.CA (.t 11) [(.t 12)]),oN 14 13] (.cond (.t 14) .ret .skip)))) (.Ak [AS 15 .add 7 1,oM 7 15])))))))
def qW:BF:= .fn 16 ADY []
theorem lJ:AX Tryz.prog 136 qW:=kT Tryz.func136
abbrev ADZ:=so
def qX:BF:= .fn 11 ADZ []
theorem lK:AX Tryz.prog 135 qX:=kT Tryz.func135
abbrev ADk:AI:=(sr [0,1,2] [Ay 4 false] (sr [4] [oL 5 1,oM 6 0,oL 7 2,Oc 8 45 5 6 7,oM 4 8] .ret))
def qi:BF:= .fn 9 ADk [.t 4]
theorem lV:AX Tryz.prog 105 qi:=kT Tryz.func105
abbrev ADR:=unB sd
def qP:BF:= .fn 6 ADR [.c 2 (some 6)]
theorem lC:AX Tryz.prog 143 qP:=kT Tryz.func143
abbrev ADS:=unB se
def qQ:BF:= .fn 9 ADS [.c 4 (some 6)]
theorem lD:AX Tryz.prog 142 qQ:=kT Tryz.func142
abbrev ADT:=unB sf
def qR:BF:= .fn 14 ADT [.t 4]
theorem lE:AX Tryz.prog 141 qR:=kT Tryz.func141
abbrev ADH:=sY
def qE:BF:= .fn 130 ADH []
theorem kq:AX Tryz.prog 162 qE:=kT Tryz.func162
abbrev Yj:AI:=(.Ak [oo 2 (.alloc [(.b false)])])
def bk:List AU:=[oo 3 (.HX (.func 207) [] [(.t 2)])]
abbrev Yh:AI:=(sr [2] [oM 4 0,oo 5 (.CA (.t 4) [])] (sr [2] [⟨none,.store 1 (.t 2) (.c (.b true)),none⟩] .ret))
theorem gN:Tryz.f161.body.bind (Ki Tryz.prog Tryz.f161.ntmps [] [])=some (erase Yj,bk,(.t 3),erase Yh):=by kernel_rfl
def qF:BF:= .y7 6 Yj bk (.t 3) Yh [.c 2 none] [0,2] [0,2]
theorem kr:AX Tryz.prog 161 qF:=fun _ _ _ hn h=>Ij Tryz.func161 (by kernel_rfl) gN (by kernel_rfl) hn h
abbrev AC6:=sN
def px:BF:= .fn 23 AC6 [.t 4]
theorem kR:AX Tryz.prog 173 px:=kT Tryz.func173
abbrev AC5:=unB sM
def pw:BF:= .fn 6 AC5 [.t 2]
theorem kQ:AX Tryz.prog 174 pw:=kT Tryz.func174
abbrev AC4:=sL
def pt:BF:= .fn 9 AC4 [.t 4]
theorem kO:AX Tryz.prog 176 pt:=kT Tryz.func176
abbrev AC7:=sO
def py:BF:= .fn 9 AC7 [.t 4]
theorem kS:AX Tryz.prog 172 py:=kT Tryz.func172
abbrev AC2:=sJ
def po:BF:= .fn 18 AC2 [.t 4]
theorem kL:AX Tryz.prog 178 po:=kT Tryz.func178
abbrev AC3:=unB sK
def pq:BF:= .fn 9 AC3 [.t 4]
theorem kN:AX Tryz.prog 177 pq:=kT Tryz.func177
abbrev AC0:=unB sH
def ph:BF:= .fn 8 AC0 [.t 3]
theorem kJ:AX Tryz.prog 180 ph:=kT Tryz.func180
abbrev AC1:=unB sI
def pj:BF:= .fn 9 AC1 [.t 4]
theorem kK:AX Tryz.prog 179 pj:=kT Tryz.func179
abbrev ACw:AI:=(sr [1,2,3] [oB 3 0,Ay 4 false] (.seq [4] (.A5 [4] [dO 0 (oL 5 1),dO 1 (oF 6 0 3),dO 2 (oL 7 6),dO 3 (CC 8 178 5 7),dO 4 (oM 9 8),dO 5 (BL 10 1 3 9),dO 6 (Aq 11 10 9),dO 7 (Hb 12 11 9),dO 8 (Aq 13 1 9),dO 9 (BL 14 0 3 9),dO 10 (Aq 15 14 9),⟨11,Cw 16 (.call 188 [(.t 13),(.t 15)]) 9,[6],[Aq 11 10 9]⟩,dO 12 (Hb 17 16 9),dO 13 (D5 18 .eql 12 17 9),dO 14 (oP 19 9 18),dO 15 (oM 20 19),dO 16 (BL 21 1 3 20),dO 17 (Aq 22 21 20),dO 18 (Cw 23 (.HX (.func 189) [] [(.t 2)]) 20),dO 19 (Cw 24 (.call 147 [(.t 22),(.t 23)]) 20),dO 20 (oP 25 20 24),dO 21 (oM 4 25)]) .ret))
def pb:BF:= .fn 26 ACw [.t 4]
theorem kE:AX Tryz.prog 187 pb:=kT Tryz.func187
abbrev ACx:AI:=(sr [0,3] [oB 3 1,Ay 4 false] (sr [4] [oM 5 0,oo 6 (.HX (.func 238) [] [(.t 3)]),CC 7 237 5 6,oN 8 7,oM 4 8] .ret))
def pc:BF:= .fn 9 ACx [.t 4]
theorem kF:AX Tryz.prog 186 pc:=kT Tryz.func186
abbrev ADN:AI:=(sr [1,2] [oB 2 0,Ay 4 false] (.seq [1,2] (sr [1,2,6] [oF 5 0 2,oL 6 5] (.block 0 (sr [1,2,6,7] [AS 8 .eql 6 1,oM 7 8] (.cond (.t 7) (sr [4] [oF 9 1 2,oL 10 9,AS 11 .geq 10 (-1000000000),oM 12 11,BL 13 1 2 12,Aq 14 13 12,EL 15 .leq 14 1000000000 12,oP 16 12 15,oM 4 16] .ret) (sr [1,2,17] [AS 18 .eql 6 2,oM 17 18] (.cond (.t 17) (sr [4] [oF 19 1 2,oL 20 19,AS 21 .eql 20 0,oM 4 21] .ret) .skip)))))) (sr [4] [oF 22 0 2,oL 23 22,AS 24 .eql 23 3,oM 25 24,BL 26 1 2 25,Aq 27 26 25,EL 28 .geq 27 0 25,oP 29 25 28,oM 30 29,BL 31 1 2 30,Aq 32 31 30,Al 33 1 30,D5 34 .lss 32 33 30,oP 35 30 34,oM 4 35] .ret)))
def qL:BF:= .fn 36 ADN [.t 4]
theorem k8:AX Tryz.prog 149 qL:=kT Tryz.func149
abbrev ACs:AI:=(sr [1,2] [oB 2 0,Ay 3 false] (sr [3] [oL 4 1,Az 5 2 2,oo 6 (.CA (.t 4) [(.t 5)]),oN 7 6,oM 3 7] .ret))
def pW:BF:= .fn 8 ACs [.t 3]
theorem kA:AX Tryz.prog 191 pW:=kT Tryz.func191
abbrev ACt:AI:=(sr [0,1] [Ay 4 false] (sr [4] [oM 5 0,oM 6 1,CC 7 239 5 6,AS 8 .geq 7 0,oM 4 8] .ret))
def pX:BF:= .fn 9 ACt [.t 4]
theorem kB:AX Tryz.prog 190 pX:=kT Tryz.func190
abbrev ACr:AI:=(sr [0,1,2] [Ay 6 false] (.seq [6] (.A5 [6] [dO 0 (oM 7 0),dO 1 (oM 8 1),dO 2 (oK 9 7),dO 3 (oF 10 2 9),dO 4 (oo 11 (.Bi 1 (some 63) (.t 10) (.t 8))),dO 5 (oL 12 11),dO 6 (oM 13 0),dO 7 (oK 14 13),dO 8 (oF 15 0 14),dO 9 (oF 16 1 15),dO 10 (oL 17 16),dO 11 (oM 18 2),dO 12 (oI 19 1 17 18),dO 13 (oL 20 19),dO 14 (CC 21 152 12 20),dO 15 (oM 6 21)]) .ret))
def pV:BF:= .fn 22 ACr [.t 6]
theorem j9:AX Tryz.prog 192 pV:=kT Tryz.func192
abbrev ACv:AI:=(sr [0,1] [C6 4] (sr [0,1,5] [C6 5] (.seq [5] (sr [0,1,5,12,13] [oM 7 0,oK 8 7,oF 9 0 8,oF 10 1 9,oL 11 10,oE 12 11,A6 13 0] (.block 0 (.loop [0,1,5,12,13] (sr [0,1,5,12,13,14] [oG 14 .lss 13 12] (.seq [0,1,5,12,13] (.cond (.t 14) .skip (.exit 0)) (.seq [0,1,5,12,13] (.block 1 (sr [0,1,5,6,12,13] [oM 15 13,oM 6 15] (sr [0,1,5,6,12,13,19] [oM 16 0,oM 17 1,oM 18 6,Oc 19 192 16 17 18] (.cond (.t 19) (.Ak [oM 20 5,oM 21 6,oo 22 (.AY 1 1 [(.i .i64 0)] [(0,(.t 21))]),oA 23 1 8 20 22,oM 5 23]) .skip)))) (.Ak [AS 24 .add 13 1,oM 13 24]))))))) (sr [4] [oM 25 5,oM 4 25] .ret))))
def pZ:BF:= .fn 26 ACv [.t 4]
theorem kD:AX Tryz.prog 188 pZ:=kT Tryz.func188
abbrev ACq:=sE
def pU:BF:= .fn 19 ACq [.t 4]
theorem j8:AX Tryz.prog 193 pU:=kT Tryz.func193
abbrev ADI:=sZ
def qG:BF:= .fn 8 ADI [.t 2]
theorem ku:AX Tryz.prog 160 qG:=kT Tryz.func160
abbrev ADJ:=sa
def qH:BF:= .fn 134 ADJ []
theorem kx:AX Tryz.prog 159 qH:=kT Tryz.func159
abbrev ACy:=unB sF
def pf:BF:= .fn 6 ACy [.t 4]
theorem kH:AX Tryz.prog 182 pf:=kT Tryz.func182
abbrev Yi:AI:=(.Ak [oo 4 (.alloc [(.b false)])])
def bj:List AU:=[oo 5 (.HX (.func 229) [] [(.t 4)])]
abbrev Yg:AI:=(sr [4] [oM 6 0,oM 7 1,CC 8 230 6 7,oC 9 231 8] (sr [4] [⟨none,.store 1 (.t 4) (.c (.b true)),none⟩] .ret))
theorem gM:Tryz.f183.body.bind (Ki Tryz.prog Tryz.f183.ntmps [] [])=some (erase Yi,bj,(.t 5),erase Yg):=by kernel_rfl
def pd:BF:= .y7 10 Yi bj (.t 5) Yg [.c 4 none] [0,1,4] [0,1,4]
theorem kG:AX Tryz.prog 183 pd:=fun _ _ _ hn h=>Ij Tryz.func183 (by kernel_rfl) gM (by kernel_rfl) hn h
abbrev ADG:=unB sX
def qD:BF:= .fn 112 ADG []
theorem ko:AX Tryz.prog 163 qD:=kT Tryz.func163
abbrev ADF:=sW
def qC:BF:= .fn 6 ADF []
theorem kg:AX Tryz.prog 164 qC:=kT Tryz.func164
abbrev ADE:=sV
def qB:BF:= .fn 48 ADE [.t 4]
theorem ke:AX Tryz.prog 165 qB:=kT Tryz.func165
abbrev ADD:=unB sU
def qA:BF:= .fn 86 ADD []
theorem kZ:AX Tryz.prog 166 qA:=kT Tryz.func166
abbrev AC9:=unB sQ
def p6:BF:= .fn 16 AC9 [.t 4]
theorem kV:AX Tryz.prog 170 p6:=kT Tryz.func170
abbrev AC8:=unB sP
def pz:BF:= .fn 35 AC8 [.t 2]
theorem kU:AX Tryz.prog 171 pz:=kT Tryz.func171
def bg:List AU:=[oM 1 4]
abbrev Yf:AI:=(sr [0,1,6] [oM 5 1,oo 6 (.Vo 2 true (.t 5))] (.cond (.t 6) (.seq [0] (sr [0,1,3] [oM 8 1,oo 9 (.XM 242 (.a []) true (.t 8)),oM 7 9,oX 10 0 7,oX 11 1 7,oo 2 (.alloc []),oS 0 2 10,oM 3 11] (sr [0,1,13] [oM 12 3,oN 13 12] (.cond (.t 13) (.Ak [oM 14 1,⟨none,.panic (.t 14),none⟩]) .skip))) (.Ak [⟨none,.store 1 (.t 0) (.c (.b false)),none⟩])) .skip))
theorem gL:Tryz.f207.body.bind (resRec Tryz.prog Tryz.f207.ntmps [] [])=some (4,bg,erase Yf):=by kernel_rfl
def pF:BF:= .y3 15 4 bg Yf [0,1]
theorem ju:AX Tryz.prog 207 pF:=fun _ _ _ _ hn h=>Jx Tryz.func207 (by kernel_rfl) gL rfl hn h
abbrev ACW:=bO
def o5:BF:= .fn 9 ACW [.t 2]
theorem jk:AX Tryz.prog 216 o5:=kT Tryz.func216
theorem gQ:Tryz.f175.body.bind (res Tryz.prog Tryz.f175.ntmps [] [])=some (erase (OW 1 8)):=by kernel_rfl
def pv:BF:= .Vx (Sb 1)
theorem kP:AX Tryz.prog 175 pv:=U1 (sz:=1) (b:=8) (fun _ _ _ hn h=>Fz Tryz.func175 (by kernel_rfl) gQ (by kernel_rfl) hn h) nb
abbrev ACV:=ry
def o0:BF:= .fn 8 ACV [.t 3]
theorem jj:AX Tryz.prog 217 o0:=kT Tryz.func217
abbrev ACz:=unB sG
def pg:BF:= .fn 110 ACz [.t 8]
theorem kI:AX Tryz.prog 181 pg:=kT Tryz.func181
abbrev ACT:=unB rq
def oy:BF:= .fn 8 ACT [.t 3]
theorem jh:AX Tryz.prog 219 oy:=kT Tryz.func219
abbrev ACU:=ru
def oz:BF:= .fn 9 ACU [.t 4]
theorem ji:AX Tryz.prog 218 oz:=kT Tryz.func218
abbrev ACu:AI:=(sr [1,2] [oB 2 0,Ay 3 false] (sr [3] [Az 4 2 2,oL 5 1,oE 6 5,CC 7 149 4 6,oM 3 7] .ret))
def pY:BF:= .fn 8 ACu [.t 3]
theorem kC:AX Tryz.prog 189 pY:=kT Tryz.func189
abbrev ACF:AI:=(sr [1,2] [oB 2 0,Ay 3 false] (sr [3] [oL 4 1,Az 5 2 2,oo 6 (.CA (.t 4) [(.t 5)]),oN 7 6,oM 3 7] .ret))
def oY:BF:= .fn 8 ACF [.t 3]
theorem jT:AX Tryz.prog 238 oY:=kT Tryz.func238
abbrev ACG:AI:=(sr [0,1] [Ay 4 false] (sr [4] [oM 5 0,oM 6 1,CC 7 267 5 6,AS 8 .geq 7 0,oM 4 8] .ret))
def oZ:BF:= .fn 9 ACG [.t 4]
theorem jU:AX Tryz.prog 237 oZ:=kT Tryz.func237
abbrev ACE:AI:=(sr [0,1] [A6 4 0] (.seq [] (sr [0,1,7,8] [oM 6 0,oE 7 6,A6 8 0] (.block 0 (.loop [0,1,7,8] (sr [0,1,7,8,9] [oG 9 .lss 8 7] (.seq [0,1,7,8] (.cond (.t 9) .skip (.exit 0)) (.seq [0,1,7,8] (.block 1 (sr [0,1,5,7,8] [oM 10 8,oM 5 10] (sr [0,1,5,7,8,16] [oM 11 1,oM 12 0,oM 13 5,oI 14 2 12 13,Az 15 2 14,oo 16 (.CA (.t 11) [(.t 15)])] (.cond (.t 16) (sr [4] [oM 17 5,oM 4 17] .ret) .skip)))) (.Ak [AS 18 .add 8 1,oM 8 18]))))))) (sr [4] [A6 4 (-1)] .ret)))
def oW:BF:= .fn 19 ACE [.t 4]
theorem jS:AX Tryz.prog 239 oW:=kT Tryz.func239
abbrev ACg:AI:=(sr [0,2] [A6 2 0] (.seq [0,2] (sr [0,2,4] [oM 3 0,oo 4 (.bin .geq (.t 3) (.c (.i .u32 65536)))] (.cond (.t 4) (sr [0] [oM 5 0,oo 6 (.bin .shr (.t 5) (.c (.i .u64 16))),oM 0 6] (.Ak [A6 2 16])) .skip)) (.seq [0,2] (sr [0,2,8] [oM 7 0,oo 8 (.bin .geq (.t 7) (.c (.i .u32 256)))] (.cond (.t 8) (sr [0,2] [oM 9 0,oo 10 (.bin .shr (.t 9) (.c (.i .u64 8))),oM 0 10] (.Ak [oM 11 2,AS 12 .add 11 8,oM 2 12])) .skip)) (sr [2] [oM 13 2,oM 14 0,oo 15 (.conv .u8 (.t 14)),⟨(some 16),.QP (.c (.s ⟨#[0,1,2,2,3,3,3,3,4,4,4,4,4,4,4,4,5,5,5,5,5,5,5,5,5,5,5,5,5,5,5,5,6,6,6,6,6,6,6,6,6,6,6,6,6,6,6,6,6,6,6,6,6,6,6,6,6,6,6,6,6,6,6,6,7,7,7,7,7,7,7,7,7,7,7,7,7,7,7,7,7,7,7,7,7,7,7,7,7,7,7,7,7,7,7,7,7,7,7,7,7,7,7,7,7,7,7,7,7,7,7,7,7,7,7,7,7,7,7,7,7,7,7,7,7,7,7,7,8,8,8,8,8,8,8,8,8,8,8,8,8,8,8,8,8,8,8,8,8,8,8,8,8,8,8,8,8,8,8,8,8,8,8,8,8,8,8,8,8,8,8,8,8,8,8,8,8,8,8,8,8,8,8,8,8,8,8,8,8,8,8,8,8,8,8,8,8,8,8,8,8,8,8,8,8,8,8,8,8,8,8,8,8,8,8,8,8,8,8,8,8,8,8,8,8,8,8,8,8,8,8,8,8,8,8,8,8,8,8,8,8,8,8,8,8,8,8,8,8,8,8,8,8,8,8,8]⟩)) (.t 15),none⟩,oo 17 (.conv .i64 (.t 16)),oG 18 .add 13 17,oM 2 18] .ret))))
def pH:BF:= .fn 19 ACg [.t 2]
theorem jw:AX Tryz.prog 205 pH:=kT Tryz.func205
abbrev ACf:=sC
def pG:BF:= .fn 25 ACf [.t 2]
theorem jv:AX Tryz.prog 206 pG:=kT Tryz.func206
abbrev ACp:=sD
def pT:BF:= .fn 49 ACp []
theorem j7:AX Tryz.prog 196 pT:=kT Tryz.func196
abbrev ACo:AI:=(sr [0,1,2,6] [oM 11 1,oM 6 11] (sr [0,1,2,6,7] [A6 7 0] (sr [0,6,7,8] [oM 12 2,oM 13 1,oG 14 .sub 12 13,oM 8 14] (.seq [0,6,7,8] (sr [0,6,7,8,9] [oM 15 8,AS 16 .sub 15 1,AS 17 .quo 16 2,oM 9 17] (.block 0 (.loop [0,6,7,8,9] (.seq [0,6,7,8,9] (sr [0,6,7,8,9,19] [oM 18 9,AS 19 .geq 18 0] (.cond (.t 19) .skip (.exit 0))) (.seq [0,6,7,8,9] (.block 1 (.Ak [oM 22 0,oM 23 9,oM 24 8,oM 25 6,Rt 26 243 22 23 24 25])) (.Ak [oM 20 9,AS 21 .sub 20 1,oM 9 21])))))) (sr [0,6,7,10] [oM 27 8,AS 28 .sub 27 1,oM 10 28] (.block 2 (.loop [0,6,7,10] (.seq [0,6,7,10] (sr [0,6,7,10,30] [oM 29 10,AS 30 .geq 29 0] (.cond (.t 30) .skip (.exit 2))) (.seq [0,6,7,10] (.block 3 (.seq [0,6,7,10] (.A5 [0,6,7,10] [dO 0 (oM 33 0),dO 1 (oM 34 6),dO 2 (oM 35 0),dO 3 (oM 36 6),dO 4 (oM 37 10),dO 5 (oG 38 .add 36 37),dO 6 (oM 39 0),dO 7 (oM 40 6),dO 8 (oM 41 10),dO 9 (oG 42 .add 40 41),dO 10 (oI 43 1 39 42),dO 11 (oL 44 43),dO 12 (oM 45 0),dO 13 (oM 46 6),dO 14 (oI 47 1 45 46),dO 15 (oL 48 47),dO 16 (oI 49 1 33 34),dO 17 (oS 1 49 44),dO 18 (oI 50 1 35 38),dO 19 (oS 1 50 48)]) (.Ak [oM 51 0,oM 52 7,oM 53 10,oM 54 6,Rt 55 243 51 52 53 54]))) (.Ak [oM 31 10,AS 32 .sub 31 1,oM 10 32]))))))))))
def pS:BF:= .fn 56 ACo []
theorem j6:AX Tryz.prog 197 pS:=kT Tryz.func197
abbrev ACn:AI:=(sr [0,1,6] [oM 11 2,oM 12 1,oG 13 .sub 11 12,oM 6 13] (sr [0,1,6,15] [oM 14 6,AS 15 .geq 14 8] (.cond (.t 15) (sr [0,1,6,7] [oM 16 6,oo 17 (.conv .u64 (.t 16)),oo 7 (.alloc [(.i .u64 0)]),oS 1 7 17] (sr [0,1,6,7,8] [oM 18 6,oC 19 244 18,oM 8 19] (sr [0,1,6,7,8,9] [oM 20 1,oM 21 6,AS 22 .quo 21 4,AS 23 .mul 22 2,oG 24 .add 20 23,AS 25 .sub 24 1,oM 9 25] (.block 0 (.loop [0,1,6,7,8,9] (.seq [0,1,6,7,8,9] (sr [0,1,6,7,8,9,33] [oM 26 9,oM 27 1,oM 28 6,AS 29 .quo 28 4,AS 30 .mul 29 2,oG 31 .add 27 30,AS 32 .add 31 1,oG 33 .leq 26 32] (.cond (.t 33) .skip (.exit 0))) (.seq [0,1,6,7,8,9] (.block 1 (sr [0,1,6,7,8,9,10] [oC 36 245 7,oM 37 8,oo 38 (.bin .sub (.t 37) (.c (.i .u64 1))),oG 39 .and 36 38,oo 40 (.conv .i64 (.t 39)),oM 10 40] (.seq [0,1,6,7,8,9,10] (sr [0,1,6,7,8,9,10,43] [oM 41 10,oM 42 6,oG 43 .geq 41 42] (.cond (.t 43) (.Ak [oM 44 10,oM 45 6,oG 46 .sub 44 45,oM 10 46]) .skip)) (.A5 [0,1,6,7,8,9] [dO 0 (oM 47 0),dO 1 (oM 48 9),dO 2 (oM 49 0),dO 3 (oM 50 1),dO 4 (oM 51 10),dO 5 (oG 52 .add 50 51),dO 6 (oM 53 0),dO 7 (oM 54 1),dO 8 (oM 55 10),dO 9 (oG 56 .add 54 55),dO 10 (oI 57 1 53 56),dO 11 (oL 58 57),dO 12 (oM 59 0),dO 13 (oM 60 9),dO 14 (oI 61 1 59 60),dO 15 (oL 62 61),dO 16 (oI 63 1 47 48),dO 17 (oS 1 63 58),dO 18 (oI 64 1 49 52),dO 19 (oS 1 64 62)])))) (.Ak [oM 34 9,AS 35 .add 34 1,oM 9 35])))))))) .skip)))
def pR:BF:= .fn 65 ACn []
theorem j5:AX Tryz.prog 198 pR:=kT Tryz.func198
abbrev ACm:AI:=(sr [0,1,2] [A6 6 0,A6 7 0] (sr [0,1,8] [oM 13 2,oM 14 1,oG 15 .sub 13 14,oM 8 15] (sr [0,1,8,9] [oo 9 (.alloc [(.i .i64 0)])] (sr [0,1,8,9,10] [oM 16 1,oM 17 8,AS 18 .quo 17 4,AS 19 .mul 18 1,oG 20 .add 16 19,oM 10 20] (sr [0,1,8,9,10,11] [oM 21 1,oM 22 8,AS 23 .quo 22 4,AS 24 .mul 23 2,oG 25 .add 21 24,oM 11 25] (sr [0,8,9,10,11,12] [oM 26 1,oM 27 8,AS 28 .quo 27 4,AS 29 .mul 28 3,oG 30 .add 26 29,oM 12 30] (.seq [9,11] (sr [0,8,9,10,11,12,32] [oM 31 8,AS 32 .geq 31 8] (.cond (.t 32) (.seq [0,9,10,11,12] (sr [0,9,10,11,12,34] [oM 33 8,AS 34 .geq 33 50] (.cond (.t 34) (sr [0,9,10,11,12] [oM 35 0,oM 36 10,Oc 37 246 35 36 9,oM 10 37] (sr [0,9,10,11,12] [oM 38 0,oM 39 11,Oc 40 246 38 39 9,oM 11 40] (.Ak [oM 41 0,oM 42 12,Oc 43 246 41 42 9,oM 12 43]))) .skip)) (.Ak [oM 44 0,oM 45 10,oM 46 11,oM 47 12,oo 48 (.call 247 [(.t 44),(.t 45),(.t 46),(.t 47),(.t 9)]),oM 11 48])) .skip)) (sr [11,49] [oL 49 9] (.block 0 (sr [11,49,51] [AS 52 .eql 49 0,oM 51 52] (.cond (.t 51) (sr [6,7] [oM 53 11,oM 6 53,A6 7 1] .ret) (sr [11,54] [AS 55 .eql 49 12,oM 54 55] (.cond (.t 54) (sr [6,7] [oM 56 11,oM 6 56,A6 7 2] .ret) (sr [6,7] [oM 50 11,oM 6 50,A6 7 0] .ret))))))))))))))
def pQ:BF:= .fn 57 ACm [.t 6,.t 7]
theorem j4:AX Tryz.prog 199 pQ:=kT Tryz.func199
abbrev ACl:AI:=(sr [0,2,6] [oM 8 1,oM 6 8] (sr [0,6,7] [oM 9 2,AS 10 .sub 9 1,oM 7 10] (.block 0 (.loop [0,6,7] (.seq [0,6,7] (sr [0,6,7,13] [oM 11 6,oM 12 7,oG 13 .lss 11 12] (.cond (.t 13) .skip (.exit 0))) (.block 1 (.seq [0,6,7] (.A5 [0,6,7] [dO 0 (oM 14 0),dO 1 (oM 15 6),dO 2 (oM 16 0),dO 3 (oM 17 7),dO 4 (oM 18 0),dO 5 (oM 19 7),dO 6 (oI 20 1 18 19),dO 7 (oL 21 20),dO 8 (oM 22 0),dO 9 (oM 23 6),dO 10 (oI 24 1 22 23),dO 11 (oL 25 24),dO 12 (oI 26 1 14 15),dO 13 (oS 1 26 21),dO 14 (oI 27 1 16 17),dO 15 (oS 1 27 25)]) (sr [0,6,7] [oM 28 6,AS 29 .add 28 1,oM 6 29] (.Ak [oM 30 7,AS 31 .sub 30 1,oM 7 31])))))))))
def pO:BF:= .fn 32 ACl []
theorem j3:AX Tryz.prog 200 pO:=kT Tryz.func200
abbrev ACk:AI:=(sr [0,1,2] [Ay 6 false] (sr [0,1,2,7] [oM 11 1,AS 12 .add 11 1,oM 7 12] (.seq [] (sr [0,1,2,7,8] [A6 8 0] (.block 0 (.loop [0,1,2,7,8] (.seq [0,1,2,7,8] (sr [0,1,2,7,8,14] [oM 13 8,AS 14 .lss 13 5] (.cond (.t 14) .skip (.exit 0))) (.seq [0,1,2,7,8] (.block 1 (.seq [0,1,2,7,8] (.block 2 (.loop [0,1,2,7,8] (.seq [0,1,2,7,8] (.seq [0,1,2,7,8,32] (.A5 [0,1,2,7,8,32] [dO 0 (oM 17 7),dO 1 (oM 18 2),dO 2 (oG 19 .lss 17 18),dO 3 (oM 20 19),dO 4 (Al 21 0 20),dO 5 (Al 22 7 20),dO 6 (FF 23 1 21 22 20),dO 7 (Aq 24 23 20),dO 8 (Al 25 0 20),dO 9 (Al 26 7 20),dO 10 (EL 27 .sub 26 1 20),dO 11 (FF 28 1 25 27 20),dO 12 (Aq 29 28 20),dO 13 (Cw 30 (.call 202 [(.t 24),(.t 29)]) 20),dO 14 (J4 31 30 20),dO 15 (oP 32 20 31)]) (.cond (.t 32) .skip (.exit 2))) (.block 3 (.Ak [oM 33 7,AS 34 .add 33 1,oM 7 34]))))) (.seq [0,1,2,7,8] (sr [0,1,2,7,8,37] [oM 35 7,oM 36 2,oG 37 .eql 35 36] (.cond (.t 37) (sr [6] [Ay 6 true] .ret) .skip)) (.seq [0,1,2,7,8] (sr [0,1,2,7,8,41] [oM 38 2,oM 39 1,oG 40 .sub 38 39,AS 41 .lss 40 50] (.cond (.t 41) (sr [6] [Ay 6 false] .ret) .skip)) (.seq [0,1,2,7,8] (.A5 [0,1,2,7,8] [dO 0 (oM 42 0),dO 1 (oM 43 7),dO 2 (oM 44 0),dO 3 (oM 45 7),dO 4 (AS 46 .sub 45 1),dO 5 (oM 47 0),dO 6 (oM 48 7),dO 7 (AS 49 .sub 48 1),dO 8 (oI 50 1 47 49),dO 9 (oL 51 50),dO 10 (oM 52 0),dO 11 (oM 53 7),dO 12 (oI 54 1 52 53),dO 13 (oL 55 54),dO 14 (oI 56 1 42 43),dO 15 (oS 1 56 51),dO 16 (oI 57 1 44 46),dO 17 (oS 1 57 55)]) (.seq [0,1,2,7,8] (sr [0,1,2,7,8,61] [oM 58 7,oM 59 1,oG 60 .sub 58 59,AS 61 .geq 60 2] (.cond (.t 61) (sr [0,1,2,7,8,9] [oM 62 7,AS 63 .sub 62 1,oM 9 63] (.block 4 (.loop [0,1,2,7,8,9] (.seq [0,1,2,7,8,9] (sr [0,1,2,7,8,9,65] [oM 64 9,AS 65 .geq 64 1] (.cond (.t 65) .skip (.exit 4))) (.seq [0,1,2,7,8,9] (.block 5 (.seq [0,1,2,7,8,9] (.seq [0,1,2,7,8,9,78] (.A5 [0,1,2,7,8,9,78] [dO 0 (oM 68 0),dO 1 (oM 69 9),dO 2 (oI 70 1 68 69),dO 3 (oL 71 70),dO 4 (oM 72 0),dO 5 (oM 73 9),dO 6 (AS 74 .sub 73 1),dO 7 (oI 75 1 72 74),dO 8 (oL 76 75),dO 9 (CC 77 202 71 76),dO 10 (oN 78 77)]) (.cond (.t 78) (.exit 4) .skip)) (.A5 [0,1,2,7,8,9] [dO 0 (oM 79 0),dO 1 (oM 80 9),dO 2 (oM 81 0),dO 3 (oM 82 9),dO 4 (AS 83 .sub 82 1),dO 5 (oM 84 0),dO 6 (oM 85 9),dO 7 (AS 86 .sub 85 1),dO 8 (oI 87 1 84 86),dO 9 (oL 88 87),dO 10 (oM 89 0),dO 11 (oM 90 9),dO 12 (oI 91 1 89 90),dO 13 (oL 92 91),dO 14 (oI 93 1 79 80),dO 15 (oS 1 93 88),dO 16 (oI 94 1 81 83),dO 17 (oS 1 94 92)]))) (.Ak [oM 66 9,AS 67 .sub 66 1,oM 9 67])))))) .skip)) (sr [0,1,2,7,8,98] [oM 95 2,oM 96 7,oG 97 .sub 95 96,AS 98 .geq 97 2] (.cond (.t 98) (sr [0,1,2,7,8,10] [oM 99 7,AS 100 .add 99 1,oM 10 100] (.block 6 (.loop [0,1,2,7,8,10] (.seq [0,1,2,7,8,10] (sr [0,1,2,7,8,10,103] [oM 101 10,oM 102 2,oG 103 .lss 101 102] (.cond (.t 103) .skip (.exit 6))) (.seq [0,1,2,7,8,10] (.block 7 (.seq [0,1,2,7,8,10] (.seq [0,1,2,7,8,10,116] (.A5 [0,1,2,7,8,10,116] [dO 0 (oM 106 0),dO 1 (oM 107 10),dO 2 (oI 108 1 106 107),dO 3 (oL 109 108),dO 4 (oM 110 0),dO 5 (oM 111 10),dO 6 (AS 112 .sub 111 1),dO 7 (oI 113 1 110 112),dO 8 (oL 114 113),dO 9 (CC 115 202 109 114),dO 10 (oN 116 115)]) (.cond (.t 116) (.exit 6) .skip)) (.A5 [0,1,2,7,8,10] [dO 0 (oM 117 0),dO 1 (oM 118 10),dO 2 (oM 119 0),dO 3 (oM 120 10),dO 4 (AS 121 .sub 120 1),dO 5 (oM 122 0),dO 6 (oM 123 10),dO 7 (AS 124 .sub 123 1),dO 8 (oI 125 1 122 124),dO 9 (oL 126 125),dO 10 (oM 127 0),dO 11 (oM 128 10),dO 12 (oI 129 1 127 128),dO 13 (oL 130 129),dO 14 (oI 131 1 117 118),dO 15 (oS 1 131 126),dO 16 (oI 132 1 119 121),dO 17 (oS 1 132 130)]))) (.Ak [oM 104 10,AS 105 .add 104 1,oM 10 105])))))) .skip)))))))) (.Ak [oM 15 8,AS 16 .add 15 1,oM 8 16])))))) (sr [6] [Ay 6 false] .ret))))
def pN:BF:= .fn 133 ACk [.t 6]
theorem j0:AX Tryz.prog 201 pN:=kT Tryz.func201
abbrev ACj:AI:=(sr [0,1] [Ay 4 false] (sr [4] [oM 5 0,oC 6 248 5,oM 7 6,Al 8 1 7,Cw 9 (.call 248 [(.t 8)]) 7,J4 10 9 7,oP 11 7 10,oM 12 11,BW 13 0 12,BW 14 1 12,HG 15 .lss 13 14 12,oQ 16 12 15,oM 4 16] .ret))
def pM:BF:= .fn 17 ACj [.t 4]
theorem jz:AX Tryz.prog 202 pM:=kT Tryz.func202
abbrev ACi:AI:=(sr [0,1,2,3] [A6 8 0] (.seq [0,1,2] (.A5 [0,1,2] [dO 0 (oM 11 0),dO 1 (oM 12 1),dO 2 (oM 13 0),dO 3 (oM 14 3),dO 4 (oM 15 0),dO 5 (oM 16 3),dO 6 (oI 17 1 15 16),dO 7 (oL 18 17),dO 8 (oM 19 0),dO 9 (oM 20 1),dO 10 (oI 21 1 19 20),dO 11 (oL 22 21),dO 12 (oI 23 1 11 12),dO 13 (oS 1 23 18),dO 14 (oI 24 1 13 14),dO 15 (oS 1 24 22)]) (sr [0,1,9,10] [oM 25 1,AS 26 .add 25 1,oM 27 2,AS 28 .sub 27 1,oM 9 26,oM 10 28] (.seq [9] (.block 0 (.loop [0,1,9,10] (.block 1 (.seq [0,1,9,10] (.block 2 (.loop [0,1,9,10] (.seq [0,1,9,10] (.seq [0,1,9,10,43] (.A5 [0,1,9,10,43] [dO 0 (oM 29 9),dO 1 (oM 30 10),dO 2 (oG 31 .leq 29 30),dO 3 (oM 32 31),dO 4 (Al 33 0 32),dO 5 (Al 34 1 32),dO 6 (FF 35 1 33 34 32),dO 7 (Aq 36 35 32),dO 8 (Al 37 0 32),dO 9 (Al 38 9 32),dO 10 (FF 39 1 37 38 32),dO 11 (Aq 40 39 32),dO 12 (Cw 41 (.call 202 [(.t 36),(.t 40)]) 32),dO 13 (J4 42 41 32),dO 14 (oP 43 32 42)]) (.cond (.t 43) .skip (.exit 2))) (.block 3 (.Ak [oM 44 9,AS 45 .add 44 1,oM 9 45]))))) (.seq [0,1,9,10] (.block 4 (.loop [0,1,9,10] (.seq [0,1,9,10] (.seq [0,1,9,10,59] (.A5 [0,1,9,10,59] [dO 0 (oM 46 9),dO 1 (oM 47 10),dO 2 (oG 48 .leq 46 47),dO 3 (oM 49 48),dO 4 (Al 50 0 49),dO 5 (Al 51 1 49),dO 6 (FF 52 1 50 51 49),dO 7 (Aq 53 52 49),dO 8 (Al 54 0 49),dO 9 (Al 55 10 49),dO 10 (FF 56 1 54 55 49),dO 11 (Aq 57 56 49),dO 12 (Cw 58 (.call 202 [(.t 53),(.t 57)]) 49),dO 13 (oP 59 49 58)]) (.cond (.t 59) .skip (.exit 4))) (.block 5 (.Ak [oM 60 10,AS 61 .sub 60 1,oM 10 61]))))) (.seq [0,1,9,10] (sr [0,1,9,10,64] [oM 62 9,oM 63 10,oG 64 .gtr 62 63] (.cond (.t 64) (.exit 0) .skip)) (.seq [0,1,9,10] (.A5 [0,1,9,10] [dO 0 (oM 65 0),dO 1 (oM 66 9),dO 2 (oM 67 0),dO 3 (oM 68 10),dO 4 (oM 69 0),dO 5 (oM 70 10),dO 6 (oI 71 1 69 70),dO 7 (oL 72 71),dO 8 (oM 73 0),dO 9 (oM 74 9),dO 10 (oI 75 1 73 74),dO 11 (oL 76 75),dO 12 (oI 77 1 65 66),dO 13 (oS 1 77 72),dO 14 (oI 78 1 67 68),dO 15 (oS 1 78 76)]) (sr [0,1,9,10] [oM 79 9,AS 80 .add 79 1,oM 9 80] (.Ak [oM 81 10,AS 82 .sub 81 1,oM 10 82]))))))))) (sr [8] [oM 83 9,oM 8 83] .ret)))))
def pK:BF:= .fn 84 ACi [.t 8]
theorem jy:AX Tryz.prog 203 pK:=kT Tryz.func203
abbrev ACh:AI:=(sr [0,1,2,3] [A6 8 0,Ay 9 false] (.seq [0,1,2] (.A5 [0,1,2] [dO 0 (oM 12 0),dO 1 (oM 13 1),dO 2 (oM 14 0),dO 3 (oM 15 3),dO 4 (oM 16 0),dO 5 (oM 17 3),dO 6 (oI 18 1 16 17),dO 7 (oL 19 18),dO 8 (oM 20 0),dO 9 (oM 21 1),dO 10 (oI 22 1 20 21),dO 11 (oL 23 22),dO 12 (oI 24 1 12 13),dO 13 (oS 1 24 19),dO 14 (oI 25 1 14 15),dO 15 (oS 1 25 23)]) (sr [0,1,10,11] [oM 26 1,AS 27 .add 26 1,oM 28 2,AS 29 .sub 28 1,oM 10 27,oM 11 29] (.seq [0,1,10,11] (.block 0 (.loop [0,1,10,11] (.seq [0,1,10,11] (.seq [0,1,10,11,43] (.A5 [0,1,10,11,43] [dO 0 (oM 30 10),dO 1 (oM 31 11),dO 2 (oG 32 .leq 30 31),dO 3 (oM 33 32),dO 4 (Al 34 0 33),dO 5 (Al 35 10 33),dO 6 (FF 36 1 34 35 33),dO 7 (Aq 37 36 33),dO 8 (Al 38 0 33),dO 9 (Al 39 1 33),dO 10 (FF 40 1 38 39 33),dO 11 (Aq 41 40 33),dO 12 (Cw 42 (.call 202 [(.t 37),(.t 41)]) 33),dO 13 (oP 43 33 42)]) (.cond (.t 43) .skip (.exit 0))) (.block 1 (.Ak [oM 44 10,AS 45 .add 44 1,oM 10 45]))))) (.seq [0,1,10,11] (.block 2 (.loop [0,1,10,11] (.seq [0,1,10,11] (.seq [0,1,10,11,60] (.A5 [0,1,10,11,60] [dO 0 (oM 46 10),dO 1 (oM 47 11),dO 2 (oG 48 .leq 46 47),dO 3 (oM 49 48),dO 4 (Al 50 0 49),dO 5 (Al 51 11 49),dO 6 (FF 52 1 50 51 49),dO 7 (Aq 53 52 49),dO 8 (Al 54 0 49),dO 9 (Al 55 1 49),dO 10 (FF 56 1 54 55 49),dO 11 (Aq 57 56 49),dO 12 (Cw 58 (.call 202 [(.t 53),(.t 57)]) 49),dO 13 (J4 59 58 49),dO 14 (oP 60 49 59)]) (.cond (.t 60) .skip (.exit 2))) (.block 3 (.Ak [oM 61 11,AS 62 .sub 61 1,oM 11 62]))))) (.seq [0,1,10,11] (sr [0,1,10,11,65] [oM 63 10,oM 64 11,oG 65 .gtr 63 64] (.cond (.t 65) (.seq [11] (.A5 [11] [dO 0 (oM 66 0),dO 1 (oM 67 11),dO 2 (oM 68 0),dO 3 (oM 69 1),dO 4 (oM 70 0),dO 5 (oM 71 1),dO 6 (oI 72 1 70 71),dO 7 (oL 73 72),dO 8 (oM 74 0),dO 9 (oM 75 11),dO 10 (oI 76 1 74 75),dO 11 (oL 77 76),dO 12 (oI 78 1 66 67),dO 13 (oS 1 78 73),dO 14 (oI 79 1 68 69),dO 15 (oS 1 79 77)]) (sr [8,9] [oM 80 11,oM 8 80,Ay 9 true] .ret)) .skip)) (.seq [0,1,10,11] (.A5 [0,1,10,11] [dO 0 (oM 81 0),dO 1 (oM 82 10),dO 2 (oM 83 0),dO 3 (oM 84 11),dO 4 (oM 85 0),dO 5 (oM 86 11),dO 6 (oI 87 1 85 86),dO 7 (oL 88 87),dO 8 (oM 89 0),dO 9 (oM 90 10),dO 10 (oI 91 1 89 90),dO 11 (oL 92 91),dO 12 (oI 93 1 81 82),dO 13 (oS 1 93 88),dO 14 (oI 94 1 83 84),dO 15 (oS 1 94 92)]) (sr [0,1,10,11] [oM 95 10,AS 96 .add 95 1,oM 10 96] (sr [0,1,10,11] [oM 97 11,AS 98 .sub 97 1,oM 11 98] (.seq [0,1,11] (.block 4 (.loop [0,1,10,11] (.block 5 (.seq [0,1,10,11] (.block 6 (.loop [0,1,10,11] (.seq [0,1,10,11] (.seq [0,1,10,11,112] (.A5 [0,1,10,11,112] [dO 0 (oM 99 10),dO 1 (oM 100 11),dO 2 (oG 101 .leq 99 100),dO 3 (oM 102 101),dO 4 (Al 103 0 102),dO 5 (Al 104 10 102),dO 6 (FF 105 1 103 104 102),dO 7 (Aq 106 105 102),dO 8 (Al 107 0 102),dO 9 (Al 108 1 102),dO 10 (FF 109 1 107 108 102),dO 11 (Aq 110 109 102),dO 12 (Cw 111 (.call 202 [(.t 106),(.t 110)]) 102),dO 13 (oP 112 102 111)]) (.cond (.t 112) .skip (.exit 6))) (.block 7 (.Ak [oM 113 10,AS 114 .add 113 1,oM 10 114]))))) (.seq [0,1,10,11] (.block 8 (.loop [0,1,10,11] (.seq [0,1,10,11] (.seq [0,1,10,11,129] (.A5 [0,1,10,11,129] [dO 0 (oM 115 10),dO 1 (oM 116 11),dO 2 (oG 117 .leq 115 116),dO 3 (oM 118 117),dO 4 (Al 119 0 118),dO 5 (Al 120 11 118),dO 6 (FF 121 1 119 120 118),dO 7 (Aq 122 121 118),dO 8 (Al 123 0 118),dO 9 (Al 124 1 118),dO 10 (FF 125 1 123 124 118),dO 11 (Aq 126 125 118),dO 12 (Cw 127 (.call 202 [(.t 122),(.t 126)]) 118),dO 13 (J4 128 127 118),dO 14 (oP 129 118 128)]) (.cond (.t 129) .skip (.exit 8))) (.block 9 (.Ak [oM 130 11,AS 131 .sub 130 1,oM 11 131]))))) (.seq [0,1,10,11] (sr [0,1,10,11,134] [oM 132 10,oM 133 11,oG 134 .gtr 132 133] (.cond (.t 134) (.exit 4) .skip)) (.seq [0,1,10,11] (.A5 [0,1,10,11] [dO 0 (oM 135 0),dO 1 (oM 136 10),dO 2 (oM 137 0),dO 3 (oM 138 11),dO 4 (oM 139 0),dO 5 (oM 140 11),dO 6 (oI 141 1 139 140),dO 7 (oL 142 141),dO 8 (oM 143 0),dO 9 (oM 144 10),dO 10 (oI 145 1 143 144),dO 11 (oL 146 145),dO 12 (oI 147 1 135 136),dO 13 (oS 1 147 142),dO 14 (oI 148 1 137 138),dO 15 (oS 1 148 146)]) (sr [0,1,10,11] [oM 149 10,AS 150 .add 149 1,oM 10 150] (.Ak [oM 151 11,AS 152 .sub 151 1,oM 11 152]))))))))) (.seq [11] (.A5 [11] [dO 0 (oM 153 0),dO 1 (oM 154 11),dO 2 (oM 155 0),dO 3 (oM 156 1),dO 4 (oM 157 0),dO 5 (oM 158 1),dO 6 (oI 159 1 157 158),dO 7 (oL 160 159),dO 8 (oM 161 0),dO 9 (oM 162 11),dO 10 (oI 163 1 161 162),dO 11 (oL 164 163),dO 12 (oI 165 1 153 154),dO 13 (oS 1 165 160),dO 14 (oI 166 1 155 156),dO 15 (oS 1 166 164)]) (sr [8,9] [oM 167 11,oM 8 167,Ay 9 false] .ret))))))))))))
def pJ:BF:= .fn 168 ACh [.t 8,.t 9]
theorem jx:AX Tryz.prog 204 pJ:=kT Tryz.func204
abbrev ACO:=ri
def oq:BF:= .fn 11 ACO []
theorem jc:AX Tryz.prog 224 oq:=kT Tryz.func224
def bf:List AU:=[oo 5 (.XM 257 (.a []) true (.t 4)),
    oM 3 5,
    oX 6 0 3,
    oX 7 1 3,
    oo 1 (.alloc []),
    oS 0 1 6,
    oM 2 7]
abbrev Ye:AI:=(sr [0,8] [oM 8 2] (.cond (.t 8) (.Ak [⟨none,.store 1 (.t 0) (.c (.b false)),none⟩]) .skip))
theorem gK:Tryz.f229.body.bind (resRec Tryz.prog Tryz.f229.ntmps [] [])=some (4,bf,erase Ye):=by kernel_rfl
def oe:BF:= .y3 9 4 bf Ye [0,2]
theorem jX:AX Tryz.prog 229 oe:=fun _ _ _ _ hn h=>Jx Tryz.func229 (by kernel_rfl) gK rfl hn h
abbrev ACI:=unB rZ
def od:BF:= .fn 23 ACI [.t 4]
theorem jW:AX Tryz.prog 230 od:=kT Tryz.func230
abbrev ACH:=rY
def oa:BF:= .fn 14 ACH []
theorem jV:AX Tryz.prog 231 oa:=kT Tryz.func231
abbrev ACe:=sB
def pE:BF:= .fn 6 ACe [.t 2]
theorem jt:AX Tryz.prog 208 pE:=kT Tryz.func208
abbrev ACd:=sA
def pD:BF:= .fn 32 ACd [.t 4,.t 5]
theorem js:AX Tryz.prog 209 pD:=kT Tryz.func209
abbrev ACc:=unB r9
def pC:BF:= .fn 49 ACc [.t 4]
theorem jr:AX Tryz.prog 210 pC:=kT Tryz.func210
abbrev ACb:=r8
def pB:BF:= .fn 9 ACb [.t 2]
theorem jq:AX Tryz.prog 211 pB:=kT Tryz.func211
abbrev ACa:=r7
def pA:BF:= .fn 30 ACa [.t 4,.t 5]
theorem jo:AX Tryz.prog 212 pA:=kT Tryz.func212
abbrev ADC:=unB sT
def p9:BF:= .fn 8 ADC [.t 6]
theorem kY:AX Tryz.prog 167 p9:=kT Tryz.func167
abbrev ADB:=unB sS
def p8:BF:= .fn 52 ADB [.t 6]
theorem kX:AX Tryz.prog 168 p8:=kT Tryz.func168
abbrev ADA:=sR
def p7:BF:= .fn 33 ADA [.t 2]
theorem kW:AX Tryz.prog 169 p7:=kT Tryz.func169
abbrev ABZ:=unB qx
def nI:BF:= .fn 8 ABZ [.t 6]
theorem iR:AX Tryz.prog 306 nI:=kT Tryz.func306
abbrev ABY:=unB qw
def nH:BF:= .fn 13 ABY [.t 6]
theorem iQ:AX Tryz.prog 307 nH:=kT Tryz.func307
abbrev ACX:=rz
def o6:BF:= .fn 5 ACX [.t 2]
theorem jl:AX Tryz.prog 215 o6:=kT Tryz.func215
abbrev ACS:=rn
def ox:BF:= .fn 9 ACS [.t 2]
theorem jg:AX Tryz.prog 220 ox:=kT Tryz.func220
abbrev ACR:=rm
def ow:BF:= .fn 14 ACR [.t 4]
theorem jf:AX Tryz.prog 221 ow:=kT Tryz.func221
abbrev ACQ:=rl
def ou:BF:= .fn 18 ACQ [.t 4]
theorem je:AX Tryz.prog 222 ou:=kT Tryz.func222
abbrev ACP:=unB rj
def ot:BF:= .fn 12 ACP [.t 5]
theorem jd:AX Tryz.prog 223 ot:=kT Tryz.func223
abbrev AB3:=rU
def n6:BF:= .fn 19 AB3 [.t 4]
theorem jH:AX Tryz.prog 253 n6:=kT Tryz.func253
abbrev ABw:AI:=(sr [0,1] [A6 4 0] (.seq [] (sr [0,1,7,8] [oM 6 0,oE 7 6,A6 8 0] (.block 0 (.loop [0,1,7,8] (sr [0,1,7,8,9] [oG 9 .lss 8 7] (.seq [0,1,7,8] (.cond (.t 9) .skip (.exit 0)) (.seq [0,1,7,8] (.block 1 (sr [0,1,5,7,8] [oM 10 8,oM 5 10] (sr [0,1,5,7,8,16] [oM 11 1,oM 12 0,oM 13 5,oI 14 2 12 13,Az 15 2 14,oo 16 (.CA (.t 11) [(.t 15)])] (.cond (.t 16) (sr [4] [oM 17 5,oM 4 17] .ret) .skip)))) (.Ak [AS 18 .add 8 1,oM 8 18]))))))) (sr [4] [A6 4 (-1)] .ret)))
def np:BF:= .fn 19 ABw [.t 4]
theorem iz:AX Tryz.prog 267 np:=kT Tryz.func267
abbrev ACD:AI:=(sr [0,2,3,8] [oM 10 1,oM 8 10] (.block 0 (.loop [0,2,3,8] (.block 1 (sr [0,2,3,8,9] [oM 11 8,oo 12 (.bin .mul (.c (.i .i64 2)) (.t 11)),AS 13 .add 12 1,oM 9 13] (.seq [0,2,3,8,9] (sr [0,2,3,8,9,16] [oM 14 9,oM 15 2,oG 16 .geq 14 15] (.cond (.t 16) (.exit 0) .skip)) (.seq [0,2,3,8,9] (.seq [0,2,3,8,9,36] (.A5 [0,2,3,8,9,36] [dO 0 (oM 17 9),dO 1 (AS 18 .add 17 1),dO 2 (oM 19 2),dO 3 (oG 20 .lss 18 19),dO 4 (oM 21 20),dO 5 (Al 22 0 21),dO 6 (Al 23 3 21),dO 7 (Al 24 9 21),dO 8 (D5 25 .add 23 24 21),dO 9 (FF 26 1 22 25 21),dO 10 (Aq 27 26 21),dO 11 (Al 28 0 21),dO 12 (Al 29 3 21),dO 13 (Al 30 9 21),dO 14 (D5 31 .add 29 30 21),dO 15 (EL 32 .add 31 1 21),dO 16 (FF 33 1 28 32 21),dO 17 (Aq 34 33 21),dO 18 (Cw 35 (.call 202 [(.t 27),(.t 34)]) 21),dO 19 (oP 36 21 35)]) (.cond (.t 36) (.Ak [oM 37 9,AS 38 .add 37 1,oM 9 38]) .skip)) (.seq [0,2,3,8,9] (.seq [0,2,3,8,9,52] (.A5 [0,2,3,8,9,52] [dO 0 (oM 39 0),dO 1 (oM 40 3),dO 2 (oM 41 8),dO 3 (oG 42 .add 40 41),dO 4 (oI 43 1 39 42),dO 5 (oL 44 43),dO 6 (oM 45 0),dO 7 (oM 46 3),dO 8 (oM 47 9),dO 9 (oG 48 .add 46 47),dO 10 (oI 49 1 45 48),dO 11 (oL 50 49),dO 12 (CC 51 202 44 50),dO 13 (oN 52 51)]) (.cond (.t 52) .ret .skip)) (.seq [0,2,3,9] (.A5 [0,2,3,9] [dO 0 (oM 53 0),dO 1 (oM 54 3),dO 2 (oM 55 8),dO 3 (oG 56 .add 54 55),dO 4 (oM 57 0),dO 5 (oM 58 3),dO 6 (oM 59 9),dO 7 (oG 60 .add 58 59),dO 8 (oM 61 0),dO 9 (oM 62 3),dO 10 (oM 63 9),dO 11 (oG 64 .add 62 63),dO 12 (oI 65 1 61 64),dO 13 (oL 66 65),dO 14 (oM 67 0),dO 15 (oM 68 3),dO 16 (oM 69 8),dO 17 (oG 70 .add 68 69),dO 18 (oI 71 1 67 70),dO 19 (oL 72 71),dO 20 (oI 73 1 53 56),dO 21 (oS 1 73 66),dO 22 (oI 74 1 57 60),dO 23 (oS 1 74 72)]) (.Ak [oM 75 9,oM 8 75]))))))))))
def oV:BF:= .fn 76 ACD []
theorem jR:AX Tryz.prog 243 oV:=kT Tryz.func243
abbrev ACC:AI:=(sr [0] [oo 2 (.mv (.c (.i .u64 0)))] (sr [2] [oM 3 0,oo 4 (.conv .u64 (.t 3)),oC 5 160 4,oo 6 (.bin .shl (.c (.i .u64 1)) (.t 5)),oM 2 6] .ret))
def oU:BF:= .fn 7 ACC [.t 2]
theorem jQ:AX Tryz.prog 244 oU:=kT Tryz.func244
abbrev ACB:AI:=(sr [0] [oo 2 (.mv (.c (.i .u64 0)))] (.seq [0] (.A5 [0] [dO 0 (oM 3 0),dO 1 (oK 4 3),dO 2 (oL 5 4),dO 3 (oM 6 0),dO 4 (oK 7 6),dO 5 (oL 8 7),dO 6 (oo 9 (.bin .shl (.t 8) (.c (.i .u64 13)))),dO 7 (oG 10 .xor 5 9),dO 8 (oK 11 3),dO 9 (oS 1 11 10)]) (.seq [0] (.A5 [0] [dO 0 (oM 12 0),dO 1 (oK 13 12),dO 2 (oL 14 13),dO 3 (oM 15 0),dO 4 (oK 16 15),dO 5 (oL 17 16),dO 6 (oo 18 (.bin .shr (.t 17) (.c (.i .u64 7)))),dO 7 (oG 19 .xor 14 18),dO 8 (oK 20 12),dO 9 (oS 1 20 19)]) (.seq [0] (.A5 [0] [dO 0 (oM 21 0),dO 1 (oK 22 21),dO 2 (oL 23 22),dO 3 (oM 24 0),dO 4 (oK 25 24),dO 5 (oL 26 25),dO 6 (oo 27 (.bin .shl (.t 26) (.c (.i .u64 17)))),dO 7 (oG 28 .xor 23 27),dO 8 (oK 29 21),dO 9 (oS 1 29 28)]) (sr [2] [oM 30 0,oK 31 30,oL 32 31,oM 2 32] .ret)))))
def oT:BF:= .fn 33 ACB [.t 2]
theorem jP:AX Tryz.prog 245 oT:=kT Tryz.func245
abbrev ACA:AI:=(sr [0,1,2] [A6 6 0] (sr [6] [oM 7 0,oM 8 1,AS 9 .sub 8 1,oM 10 1,oM 11 1,AS 12 .add 11 1,oM 13 2,oo 14 (.call 247 [(.t 7),(.t 9),(.t 10),(.t 12),(.t 13)]),oM 6 14] .ret))
def oR:BF:= .fn 15 ACA [.t 6]
theorem jO:AX Tryz.prog 246 oR:=kT Tryz.func246
abbrev AB9:AI:=(sr [0,1,2,3,4] [A6 10 0] (sr [0,1,2,3,4] [oM 12 0,oM 13 1,oM 14 2,oM 15 4,Rt 16 268 12 13 14 15,oM 11 16,oX 17 0 11,oX 18 1 11,oM 1 17,oM 2 18] (sr [0,1,2,4] [oM 20 0,oM 21 2,oM 22 3,oM 23 4,Rt 24 268 20 21 22 23,oM 19 24,oX 25 0 19,oX 26 1 19,oM 2 25,oM 3 26] (sr [2] [oM 28 0,oM 29 1,oM 30 2,oM 31 4,Rt 32 268 28 29 30 31,oM 27 32,oX 33 0 27,oX 34 1 27,oM 1 33,oM 2 34] (sr [10] [oM 35 2,oM 10 35] .ret)))))
def oO:BF:= .fn 36 AB9 [.t 10]
theorem jN:AX Tryz.prog 247 oO:=kT Tryz.func247
abbrev AB8:AI:=(sr [0] [Ay 2 false] (sr [2] [oM 3 0,oM 4 0,oG 5 .neq 3 4,oM 2 5] .ret))
def oJ:BF:= .fn 6 AB8 [.t 2]
theorem jM:AX Tryz.prog 248 oJ:=kT Tryz.func248
abbrev ACN:=unB rh
def om:BF:= .fn 71 ACN [.t 7]
theorem jb:AX Tryz.prog 225 om:=kT Tryz.func225
abbrev ABy:=unB rP
def nt:BF:= .fn 79 ABy []
theorem jB:AX Tryz.prog 259 nt:=kT Tryz.func259
abbrev ABx:=unB rO
def nq:BF:= .fn 28 ABx [.t 4]
theorem jA:AX Tryz.prog 260 nq:=kT Tryz.func260
abbrev AB7:=rX
def oH:BF:= .fn 44 AB7 [.t 2]
theorem jL:AX Tryz.prog 249 oH:=kT Tryz.func249
abbrev AB6:=rW
def oD:BF:= .fn 104 AB6 [.t 4,.t 5]
theorem jK:AX Tryz.prog 250 oD:=kT Tryz.func250
abbrev AB5:AI:=(sr [0,1] [oo 4 (.mv (.c (.i .u32 0))),oo 5 (.mv (.c (.i .u32 0)))] (sr [6] [oM 7 0,oo 8 (.conv .u64 (.t 7)),oM 9 1,oo 10 (.conv .u64 (.t 9)),oG 11 .mul 8 10,oM 6 11] (sr [4,5] [oM 12 6,oo 13 (.bin .shr (.t 12) (.c (.i .u64 32))),oo 14 (.conv .u32 (.t 13)),oM 15 6,oo 16 (.conv .u32 (.t 15)),oM 4 14,oM 5 16] .ret)))
def n9:BF:= .fn 17 AB5 [.t 4,.t 5]
theorem jJ:AX Tryz.prog 251 n9:=kT Tryz.func251
abbrev AB4:=rV
def n8:BF:= .fn 51 AB4 [.t 4,.t 5]
theorem jI:AX Tryz.prog 252 n8:=kT Tryz.func252
abbrev ACZ:=unB r6
def o8:BF:= .fn 11 ACZ []
theorem jn:AX Tryz.prog 213 o8:=kT Tryz.func213
abbrev AB2:=rT
def n4:BF:= .fn 17 AB2 [.t 4]
theorem jG:AX Tryz.prog 254 n4:=kT Tryz.func254
abbrev ABv:AI:=(sr [0,1,2,3] [A6 8 0,A6 9 0] (.seq [1,2] (.seq [1,2,3,18] (.A5 [1,2,3,18] [dO 0 (oM 10 0),dO 1 (oM 11 2),dO 2 (oI 12 1 10 11),dO 3 (oL 13 12),dO 4 (oM 14 0),dO 5 (oM 15 1),dO 6 (oI 16 1 14 15),dO 7 (oL 17 16),dO 8 (CC 18 202 13 17)]) (.cond (.t 18) (sr [1,2] [oM 19 3,oK 20 19,oL 21 20,AS 22 .add 21 1,oK 23 19,oS 1 23 22] (sr [8,9] [oM 24 2,oM 25 1,oM 8 24,oM 9 25] .ret)) .skip)) (sr [8,9] [oM 26 1,oM 27 2,oM 8 26,oM 9 27] .ret)))
def nk:BF:= .fn 28 ABv [.t 8,.t 9]
theorem iy:AX Tryz.prog 268 nk:=kT Tryz.func268
abbrev ACL:=unB rf
def oj:BF:= .fn 15 ACL [.t 6]
theorem ja:AX Tryz.prog 226 oj:=kT Tryz.func226
abbrev ABo:AI:=(sr [0,3] [oB 3 1,oo 4 (.mv (.c .pn))] (.seq [0,3,5,6] (.A5 [0,3,5,6] [dO 0 (oM 8 0),dO 1 (oK 9 8),dO 2 (oF 10 1 9),dO 3 (oL 11 10),dO 4 (Az 12 4 3),dO 5 (oo 13 (.lookup (.a [.i64,.i64,.i64,.i64]) .pn true (.t 11) (.t 12))),dO 6 (oM 7 13),dO 7 (oX 14 0 7),dO 8 (oX 15 1 7),dO 9 (oM 5 14),dO 10 (oM 6 15)]) (.seq [5] (sr [0,3,5,17] [oM 16 6,oN 17 16] (.cond (.t 17) (sr [0,3,5] [oo 18 (.build [(.i .i64 0),(.i .i64 0),(.l [] true)] [(0,1,(.c (.i .i64 (-1000000000)))),(1,1,(.c (.i .i64 1000000000)))]),oo 19 (.build [(.i .i64 0),(.i .i64 0),(.l [] true),(.i .u64 0),(.i .u64 0),(.b false),(.b false),(.l [] true)] [(0,3,(.t 18))]),oB 20 19,oM 5 20] (.A5 [5] [dO 0 (oM 21 0),dO 1 (oK 22 21),dO 2 (oF 23 1 22),dO 3 (oL 24 23),dO 4 (Az 25 4 3),dO 5 (oM 26 5),⟨6,⟨none,.DQ (.a [.i64,.i64,.i64,.i64]) (.t 24) (.t 25) (.t 26),none⟩,[],[]⟩])) .skip)) (sr [4] [oM 27 5,oM 4 27] .ret))))
def na:BF:= .fn 28 ABo [.t 4]
theorem ik:AX Tryz.prog 275 na:=kT Tryz.func275
abbrev ABn:=rI
def nZ:BF:= .fn 15 ABn [.c 4 (some 4)]
theorem ij:AX Tryz.prog 276 nZ:=kT Tryz.func276
abbrev ABm:=unB rH
def nY:BF:= .fn 130 ABm []
theorem ig:AX Tryz.prog 277 nY:=kT Tryz.func277
abbrev ABl:=unB rG
def nX:BF:= .fn 38 ABl [.t 4,.t 5]
theorem ie:AX Tryz.prog 278 nX:=kT Tryz.func278
abbrev ABk:=unB rF
def nV:BF:= .fn 17 ABk [.t 4]
theorem ic:AX Tryz.prog 279 nV:=kT Tryz.func279
abbrev ABj:=unB rE
def nU:BF:= .fn 136 ABj [.t 4,.t 5]
theorem ib:AX Tryz.prog 280 nU:=kT Tryz.func280
abbrev ABu:=rN
def nj:BF:= .fn 12 ABu [.c 4 (some 1)]
theorem iw:AX Tryz.prog 269 nj:=kT Tryz.func269
abbrev ABt:=unB rM
def ni:BF:= .fn 12 ABt [.c 4 (some 1)]
theorem iv:AX Tryz.prog 270 ni:=kT Tryz.func270
abbrev ABs:=rL
def nh:BF:= .fn 40 ABs []
theorem iu:AX Tryz.prog 271 nh:=kT Tryz.func271
abbrev ACY:=unB r5
def o7:BF:= .fn 55 ACY [.t 7]
theorem jm:AX Tryz.prog 214 o7:=kT Tryz.func214
abbrev ACK:=rb
def oh:BF:= .fn 10 ACK [.t 4]
theorem jZ:AX Tryz.prog 227 oh:=kT Tryz.func227
abbrev ABg:=unB rB
def nR:BF:= .fn 35 ABg [.t 6]
theorem iY:AX Tryz.prog 284 nR:=kT Tryz.func284
abbrev ABi:=rD
def nT:BF:= .fn 50 ABi [.t 4,.t 5]
theorem ia:AX Tryz.prog 282 nT:=kT Tryz.func282
abbrev ABh:=unB rC
def nS:BF:= .fn 66 ABh [.t 2,.t 3]
theorem iZ:AX Tryz.prog 283 nS:=kT Tryz.func283
abbrev ACJ:=ra
def og:BF:= .fn 26 ACJ [.t 4]
theorem jY:AX Tryz.prog 228 og:=kT Tryz.func228
abbrev ABc:=unB q8
def nM:BF:= .fn 13 ABc [.t 4]
theorem iU:AX Tryz.prog 288 nM:=kT Tryz.func288
abbrev ABf:=rA
def nQ:BF:= .fn 5 ABf [.t 2]
theorem iX:AX Tryz.prog 285 nQ:=kT Tryz.func285
abbrev ABd:=bM
def nN:BF:= .fn 7 ABd [.t 3]
theorem iV:AX Tryz.prog 287 nN:=kT Tryz.func287
abbrev ABe:=q9
def nP:BF:= .fn 23 ABe [.t 4]
theorem iW:AX Tryz.prog 286 nP:=kT Tryz.func286
theorem gP:Tryz.f255.body.bind (res Tryz.prog Tryz.f255.ntmps [] [])=some (erase (OW 7 88)):=by kernel_rfl
def nz:BF:= .Vx (Sb 7)
theorem jF:AX Tryz.prog 255 nz:=U1 (sz:=7) (b:=88) (fun _ _ _ hn h=>Fz Tryz.func255 (by kernel_rfl) gP (by kernel_rfl) hn h) nb
abbrev AB0:=unB rR
def nv:BF:= .fn 16 AB0 [.t 3]
theorem jD:AX Tryz.prog 257 nv:=kT Tryz.func257
abbrev AB1:=rS
def ny:BF:= .fn 9 AB1 [.t 4]
theorem jE:AX Tryz.prog 256 ny:=kT Tryz.func256
abbrev ABa:=qy
def nJ:BF:= .fn 14 ABa [.t 4]
theorem iS:AX Tryz.prog 290 nJ:=kT Tryz.func290
abbrev ABb:=qz
def nK:BF:= .fn 5 ABb [.t 2]
theorem iT:AX Tryz.prog 289 nK:=kT Tryz.func289
abbrev ABz:=unB rQ
def nu:BF:= .fn 45 ABz [.t 4]
theorem jC:AX Tryz.prog 258 nu:=kT Tryz.func258
abbrev ABr:=rK
def ng:BF:= .fn 19 ABr [.t 4]
theorem ir:AX Tryz.prog 272 ng:=kT Tryz.func272
abbrev ABq:=bN
def nf:BF:= .fn 26 ABq [.t 4]
theorem im:AX Tryz.prog 273 nf:=kT Tryz.func273
abbrev ABp:=rJ
def nc:BF:= .fn 32 ABp [.t 6]
theorem il:AX Tryz.prog 274 nc:=kT Tryz.func274
abbrev GG:Tr BF:= .leaf
abbrev tn1 (x:BF):Tr BF:= .node (some x) GG GG
abbrev Dz (x:BF) (l r:Tr BF):Tr BF:= .node (some x) l r
abbrev DL (l r:Tr BF):Tr BF:= .node none l r
theorem GM {p:Nat→BF→Prop} {f:Nat→Nat}:G1 p f GG:=mR
theorem Dy {p:Nat→BF→Prop} {f:Nat→Nat} {x:BF} {l r:Tr BF} (h:p (f 0) x) (hl:G1 p (fun j=>f (2*j+1)) l) (hr:G1 p (fun j=>f (2*j+2)) r):G1 p f (Dz x l r):=YY (mO h) hl hr
theorem CN {p:Nat→BF→Prop} {f:Nat→Nat} {x:BF} (h:p (f 0) x):G1 p f (tn1 x):=Dy h GM GM
theorem DN {p:Nat→BF→Prop} {f:Nat→Nat} {l r:Tr BF} (hl:G1 p (fun j=>f (2*j+1)) l) (hr:G1 p (fun j=>f (2*j+2)) r):G1 p f (DL l r):=YY mQ hl hr
def F1:Tr BF:=(DL (DL (DL (DL (Dz AAJ (Dz AAD (DL (DL (tn1 nz) GG) (tn1 pW)) (DL (Dz qH (tn1 nN) GG) (tn1 ot))) (DL (Dz zh (Dz qP (tn1 nh) GG) (tn1 pF)) (DL (tn1 pv) (tn1 oW)))) (DL (DL (Dz zo (tn1 qX) (tn1 pQ)) (Dz ql (tn1 p9) (tn1 oa))) (DL (DL (Dz qJ (tn1 nV) GG) (tn1 o6)) (DL (tn1 pd) (tn1 oO))))) (DL (Dz AAH (DL (Dz zq (DL (tn1 nt) GG) GG) (Dz zY (tn1 qD) (tn1 oh))) (Dz zx (Dz zd (Dz qN (tn1 na) GG) (tn1 pB)) (Dz qc (Dz pj (tn1 nH) GG) (tn1 oV)))) (DL (Dz AAB (Dz zk (Dz qT (tn1 np) GG) (tn1 pK)) (Dz qh (tn1 pz) GG)) (DL (DL (DL (tn1 nS) GG) (tn1 oy)) (DL (tn1 pb) (tn1 n9)))))) (DL (DL (Dz AAI (DL (DL (DL (tn1 nv) GG) (tn1 pU)) (DL (Dz qF (tn1 nK) GG) (tn1 om))) (Dz z6 (Dz zf (DL (tn1 nf) GG) (tn1 pD)) (DL (tn1 pq) GG))) (DL (DL (Dz zm (tn1 qV) (tn1 pN)) (Dz qi (tn1 p7) GG)) (Dz zu (DL GG (tn1 o0)) (DL GG (tn1 oH))))) (DL (DL (DL (Dz zp GG (tn1 pS)) (Dz qn (tn1 qB) (tn1 oe))) (DL (Dz za (Dz qL (tn1 nY) GG) (tn1 o8)) (Dz qa (tn1 pg) (tn1 oT)))) (DL (Dz z8 (DL (Dz qR (tn1 nj) GG) (tn1 pH)) (Dz qf (tn1 px) (tn1 oZ))) (DL (DL (DL (tn1 nQ) GG) (tn1 ow)) (DL (tn1 pY) (tn1 n6))))))) (DL (DL (DL (DL (DL (DL (DL (tn1 ny) GG) (tn1 pV)) (DL (Dz qG (tn1 nM) GG) (tn1 oq))) (Dz z7 (Dz zg (DL (tn1 ng) GG) (tn1 pE)) (DL (tn1 pt) GG))) (DL (DL (Dz zn (tn1 qW) (tn1 pO)) (Dz qj (tn1 p8) GG)) (Dz zv (DL (Dz qI (tn1 nU) GG) (tn1 o5)) (DL GG (tn1 oJ))))) (Dz AAL (Dz AAG (DL (DL (Dz qY (tn1 nq) GG) (tn1 pT)) (DL (tn1 qC) (tn1 og))) (DL (Dz zb (Dz qM (tn1 nZ) GG) (tn1 pA)) (Dz qb (tn1 ph) (tn1 oU)))) (DL (Dz AAA (Dz zj (Dz qS (tn1 nk) GG) (tn1 pJ)) (Dz qg (tn1 py) GG)) (DL (DL (DL (tn1 nR) GG) (tn1 ox)) (DL (tn1 pZ) (tn1 n8)))))) (DL (DL (DL (DL (Dz zr (DL (tn1 nu) GG) GG) (Dz zZ (Dz qE (tn1 nJ) GG) (tn1 oj))) (Dz zy (Dz ze (Dz qO (tn1 nc) GG) (tn1 pC)) (Dz qd (Dz po (tn1 nI) GG) GG))) (DL (Dz AAC (Dz zl (tn1 qU) (tn1 pM)) (DL (tn1 p6) GG)) (Dz zt (DL (DL (tn1 nT) GG) (tn1 oz)) (DL (tn1 pc) (tn1 oD))))) (Dz AAK (Dz AAF (DL (DL GG (tn1 pR)) (Dz qm (tn1 qA) (tn1 od))) (Dz zw (DL (Dz qK (tn1 nX) GG) (tn1 o7)) (Dz qZ (tn1 pf) (tn1 oR)))) (Dz AAE (DL (Dz zi (Dz qQ (tn1 ni) GG) (tn1 pG)) (Dz qe (tn1 pw) (tn1 oY))) (DL (DL (DL (tn1 nP) GG) (tn1 ou)) (DL (tn1 pX) (tn1 n4))))))))
theorem CD:G1 (fun i=>AX Tryz.prog i) id F1:=(DN (DN (DN (DN (Dy vr (Dy vd (DN (DN (CN jF) GM) (CN kA)) (DN (Dy kx (CN iV) GM) (CN jd))) (DN (Dy vD (Dy lC (CN iu) GM) (CN ju)) (DN (CN kP) (CN jS)))) (DN (DN (Dy vK (CN lK) (CN j4)) (Dy lX (CN kY) (CN jV))) (DN (DN (Dy kz (CN ic) GM) (CN jl)) (DN (CN kG) (CN jN))))) (DN (Dy vo (DN (Dy vM (DN (CN jB) GM) GM) (Dy uz (CN ko) (CN jZ))) (Dy vS (Dy u9 (Dy lA (CN ik) GM) (CN jq)) (Dy lP (Dy kK (CN iQ) GM) (CN jR)))) (DN (Dy vY (Dy vG (Dy lG (CN iz) GM) (CN jy)) (Dy lU (CN kU) GM)) (DN (DN (DN (CN iZ) GM) (CN jh)) (DN (CN kE) (CN jJ)))))) (DN (DN (Dy vq (DN (DN (DN (CN jD) GM) (CN j8)) (DN (Dy kr (CN iT) GM) (CN jb))) (Dy vU (Dy vB (DN (CN im) GM) (CN js)) (DN (CN kN) GM))) (DN (DN (Dy vI (CN lI) (CN j0)) (Dy lV (CN kW) GM)) (Dy vP (DN GM (CN jj)) (DN GM (CN jL))))) (DN (DN (DN (Dy vL GM (CN j6)) (Dy lZ (CN ke) (CN jX))) (DN (Dy u6 (Dy k8 (CN ig) GM) (CN jn)) (Dy lN (CN kI) (CN jP)))) (DN (Dy vW (DN (Dy lE (CN iw) GM) (CN jw)) (Dy lS (CN kR) (CN jU))) (DN (DN (DN (CN iX) GM) (CN jf)) (DN (CN kC) (CN jH))))))) (DN (DN (DN (DN (DN (DN (DN (CN jE) GM) (CN j9)) (DN (Dy ku (CN iU) GM) (CN jc))) (Dy vV (Dy vC (DN (CN ir) GM) (CN jt)) (DN (CN kO) GM))) (DN (DN (Dy vJ (CN lJ) (CN j3)) (Dy lW (CN kX) GM)) (Dy vQ (DN (Dy ky (CN ib) GM) (CN jk)) (DN GM (CN jM))))) (Dy vw (Dy vj (DN (DN (Dy lL (CN jA) GM) (CN j7)) (DN (CN kg) (CN jY))) (DN (Dy u7 (Dy k9 (CN ij) GM) (CN jo)) (Dy lO (CN kJ) (CN jQ)))) (DN (Dy vX (Dy vF (Dy lF (CN iy) GM) (CN jx)) (Dy lT (CN kS) GM)) (DN (DN (DN (CN iY) GM) (CN jg)) (DN (CN kD) (CN jI)))))) (DN (DN (DN (DN (Dy vN (DN (CN jC) GM) GM) (Dy u0 (Dy kq (CN iS) GM) (CN ja))) (Dy vT (Dy vA (Dy lB (CN il) GM) (CN jr)) (Dy lQ (Dy kL (CN iR) GM) GM))) (DN (Dy vZ (Dy vH (CN lH) (CN jz)) (DN (CN kV) GM)) (Dy vO (DN (DN (CN ia) GM) (CN ji)) (DN (CN kF) (CN jK))))) (Dy vt (Dy vg (DN (DN GM (CN j5)) (Dy lY (CN kZ) (CN jW))) (Dy vR (DN (Dy k7 (CN ie) GM) (CN jm)) (Dy lM (CN kH) (CN jO)))) (Dy ve (DN (Dy vE (Dy lD (CN iv) GM) (CN jv)) (Dy lR (CN kQ) (CN jT))) (DN (DN (DN (CN iW) GM) (CN je)) (DN (CN kB) (CN jG))))))))
abbrev Ew:V:=(.a [(.l [[(.l [] true)],[(.l [[(.i .i64 3)]] false)],[(.l [[(.i .i64 3)]] false)],[(.l [[(.i .i64 4)],[(.i .i64 5)]] false)]] false),(.l [] true)])
abbrev KC:V:=(.a [(.i .i64 2),(.i .i64 0),(.l [] true),(.i .i64 4),(.i .i64 0),(.l [] true)])
abbrev OF:V:=(.a [(.i .i64 2),(.i .i64 0),(.l [] true),(.i .i64 5),(.i .i64 0),(.l [] true)])
abbrev OE:V:=(.a [(.i .i64 2),(.i .i64 0),(.l [] true),(.i .i64 3),(.i .i64 0),(.l [] true)])
abbrev Vp:V:=(.a [(.i .i64 1),(.i .i64 0),(.l [] true),(.i .i64 0),(.i .i64 0),(.l [] true)])
abbrev KB:V:=(.t [(.b true),(.i .i64 0)])
abbrev OD:V:=(.t [(.b false),(.i .i64 0)])
abbrev cw7:V:=(.t [(.a [(.l [] true),(.b false),(.l [[(.i .i64 4)],[(.i .i64 3)]] false),(.l [[(.i .i64 1)],[(.i .i64 0)]] false),(.b false),(.l [[(.i .i64 5)],[(.i .i64 6)]] false)]),(.i .i64 0)])
abbrev cw8:V:=(.t [(.a [(.l [] true),(.b false),(.l [[(.i .i64 4)],[(.i .i64 3)]] false),(.l [] true),(.b true),(.l [[(.i .i64 5)],[(.i .i64 6)]] false)]),(.i .i64 0)])
abbrev cw9:V:=(.t [(.a [(.l [] true),(.b false),(.l [] true),(.l [] true),(.b false),(.l [] true)]),(.i .i64 5)])
abbrev fj:V:=(.t [(.l [[(.i .i64 1),(.i .i64 0)],[(.i .i64 2),(.i .i64 0)]] false),(.i .i64 0)])
abbrev Tq:V:=(.l [[(.i .i64 3),(.i .i64 0)]] true)
abbrev fh:V:=(.l [[(.i .i64 0)],[(.i .i64 1)],[(.i .i64 2)]] true)
abbrev fg:V:=(.t [(.l [] true),(.b true),(.i .i64 0)])
abbrev ff:V:=(.l [[(.i .i64 6),(.l [] true)]] true)
abbrev fe:V:=(.l [[(.i .i64 4),(.l [] true)]] true)
abbrev fb:V:=(.l [[(.i .i64 1),(.i .i64 0)]] true)
abbrev fZ:V:=(.t [(.l [] true),(.i .i64 0)])
abbrev fY:V:=(.t [(.b false),(.i .i64 7)])
def Ef:V:=(.a [(.l [[(.l [] true),(.l [] true),(.l [] true)],[(.l [[(.i .i64 3)]] true),(.l [] true),(.l [] true)],[(.l [[(.i .i64 3)]] true),(.l [] true),(.l [] true)],[(.l [[(.i .i64 4)],[(.i .i64 5)]] true),(.l [] true),(.l [] true)]] true),(.i .i64 0),(.l [[(.i .i64 1)]] true),(.l [[(.i .i64 1),(.i .i64 0),(.i .i64 2),(.i .i64 0),(.l [] true),(.i .i64 3),(.i .i64 0),(.l [] true),(.i .i64 0)],[(.i .i64 1),(.i .i64 0),(.i .i64 2),(.i .i64 0),(.l [] true),(.i .i64 4),(.i .i64 0),(.l [] true),(.i .i64 1)],[(.i .i64 1),(.i .i64 0),(.i .i64 2),(.i .i64 0),(.l [] true),(.i .i64 5),(.i .i64 0),(.l [] true),(.i .i64 2)],[(.i .i64 2),(.i .i64 0),(.i .i64 1),(.i .i64 0),(.l [] true),(.i .i64 0),(.i .i64 0),(.l [] true),(.i .i64 3)],[(.i .i64 2),(.i .i64 0),(.i .i64 2),(.i .i64 0),(.l [] true),(.i .i64 4),(.i .i64 0),(.l [] true),(.i .i64 4)],[(.i .i64 3),(.i .i64 0),(.i .i64 2),(.i .i64 0),(.l [] true),(.i .i64 3),(.i .i64 0),(.l [] true),(.i .i64 5)],[(.i .i64 3),(.i .i64 0),(.i .i64 2),(.i .i64 0),(.l [] true),(.i .i64 4),(.i .i64 0),(.l [] true),(.i .i64 6)]] false),(.l [[(.i .i64 2),(.i .i64 0),(.l [] true)],[(.i .i64 2),(.i .i64 0),(.l [] true)],[(.i .i64 2),(.i .i64 0),(.l [] true)],[(.i .i64 2),(.i .i64 0),(.l [] true)],[(.i .i64 2),(.i .i64 0),(.l [] true)],[(.i .i64 2),(.i .i64 0),(.l [] true)],[(.i .i64 2),(.i .i64 0),(.l [] true)],[(.i .i64 2),(.i .i64 0),(.l [] true)]] false),(.i .i64 7)])
def Nw:DV:=fun _=>[]
theorem D1:DJ Tryz.prog Nw:=df
theorem ce0:Fi (F3 F1) Nw 100000 107 [Ef] (.i .i64 0)=true:=by kernel_rfl
theorem aU:BX [Ef]=true∧Ax (.i .i64 0)=true∧Pure Tryz.prog 107 [Ef] (.i .i64 0):=Bc (CE CD) D1 ce0
def mk1:DV:=(DA Nw 107 [Ef] (.i .i64 0))
theorem AAs:DJ Tryz.prog mk1:=(BA D1 aU)
theorem ce1:Fi (F3 F1) mk1 100000 71 [Ef] (.t [Ew,(.i .i64 0)])=true:=by kernel_rfl
theorem ez:BX [Ef]=true∧Ax (.t [Ew,(.i .i64 0)])=true∧Pure Tryz.prog 71 [Ef] (.t [Ew,(.i .i64 0)]):=Bc (CE CD) AAs ce1
theorem ce2:Fi (F3 F1) Nw 100000 76 [Ew,KC,OE] KB=true:=by kernel_rfl
theorem pe2:BX [Ew,KC,OE]=true∧Ax KB=true∧Pure Tryz.prog 76 [Ew,KC,OE] KB:=Bc (CE CD) D1 ce2
theorem ce3:Fi (F3 F1) Nw 100000 76 [Ew,OE,KC] OD=true:=by kernel_rfl
theorem pe3:BX [Ew,OE,KC]=true∧Ax OD=true∧Pure Tryz.prog 76 [Ew,OE,KC] OD:=Bc (CE CD) D1 ce3
def mk4:DV:=(DA (DA Nw 107 [Ef] (.i .i64 0)) 71 [Ef] (.t [Ew,(.i .i64 0)]))
theorem AAr:DJ Tryz.prog mk4:=(BA (BA D1 aU) ez)
theorem ce4:Fi (F3 F1) mk4 100000 12 [Ef,(.i .i64 1),(.i .i64 0)] KB=true:=by kernel_rfl
theorem pe4:BX [Ef,(.i .i64 1),(.i .i64 0)]=true∧Ax KB=true∧Pure Tryz.prog 12 [Ef,(.i .i64 1),(.i .i64 0)] KB:=Bc (CE CD) AAr ce4
theorem ce5:Fi (F3 F1) Nw 100000 76 [Ew,KC,OF] OD=true:=by kernel_rfl
theorem pe5:BX [Ew,KC,OF]=true∧Ax OD=true∧Pure Tryz.prog 76 [Ew,KC,OF] OD:=Bc (CE CD) D1 ce5
def mk6:DV:=(DA (DA Nw 107 [Ef] (.i .i64 0)) 71 [Ef] (.t [Ew,(.i .i64 0)]))
theorem AAq:DJ Tryz.prog mk6:=(BA (BA D1 aU) ez)
theorem ce6:Fi (F3 F1) mk6 100000 12 [Ef,(.i .i64 1),(.i .i64 2)] OD=true:=by kernel_rfl
theorem pe6:BX [Ef,(.i .i64 1),(.i .i64 2)]=true∧Ax OD=true∧Pure Tryz.prog 12 [Ef,(.i .i64 1),(.i .i64 2)] OD:=Bc (CE CD) AAq ce6
def mk7:DV:=(DA (DA Nw 107 [Ef] (.i .i64 0)) 71 [Ef] (.t [Ew,(.i .i64 0)]))
theorem AAp:DJ Tryz.prog mk7:=(BA (BA D1 aU) ez)
theorem ce7:Fi (F3 F1) mk7 100000 12 [Ef,(.i .i64 0),(.i .i64 3)] fY=true:=by kernel_rfl
theorem pe7:BX [Ef,(.i .i64 0),(.i .i64 3)]=true∧Ax fY=true∧Pure Tryz.prog 12 [Ef,(.i .i64 0),(.i .i64 3)] fY:=Bc (CE CD) AAp ce7
theorem ce8:Fi (F3 F1) Nw 100000 76 [Ew,Vp,Vp] KB=true:=by kernel_rfl
theorem pe8:BX [Ew,Vp,Vp]=true∧Ax KB=true∧Pure Tryz.prog 76 [Ew,Vp,Vp] KB:=Bc (CE CD) D1 ce8
theorem ce9:Fi (F3 F1) Nw 100000 76 [Ew,KC,Vp] KB=true:=by kernel_rfl
theorem pe9:BX [Ew,KC,Vp]=true∧Ax KB=true∧Pure Tryz.prog 76 [Ew,KC,Vp] KB:=Bc (CE CD) D1 ce9
theorem ce10:Fi (F3 F1) Nw 100000 76 [Ew,Vp,KC] OD=true:=by kernel_rfl
theorem pe10:BX [Ew,Vp,KC]=true∧Ax OD=true∧Pure Tryz.prog 76 [Ew,Vp,KC] OD:=Bc (CE CD) D1 ce10
theorem ce11:Fi (F3 F1) Nw 100000 76 [Ew,KC,KC] KB=true:=by kernel_rfl
theorem pe11:BX [Ew,KC,KC]=true∧Ax KB=true∧Pure Tryz.prog 76 [Ew,KC,KC] KB:=Bc (CE CD) D1 ce11
theorem ce12:Fi (F3 F1) Nw 100000 76 [Ew,OE,OE] KB=true:=by kernel_rfl
theorem pe12:BX [Ew,OE,OE]=true∧Ax KB=true∧Pure Tryz.prog 76 [Ew,OE,OE] KB:=Bc (CE CD) D1 ce12
def zS:DV:=(DA (DA Nw 107 [Ef] (.i .i64 0)) 71 [Ef] (.t [Ew,(.i .i64 0)]))
theorem uZ:DJ Tryz.prog zS:=(BA (BA D1 aU) ez)
theorem ce13:Fi (F3 F1) zS 100000 20 [Ef,fe,(.i .i64 0),Tq] cw7=true:=by kernel_rfl
theorem pe13:BX [Ef,fe,(.i .i64 0),Tq]=true∧Ax cw7=true∧Pure Tryz.prog 20 [Ef,fe,(.i .i64 0),Tq] cw7:=Bc (CE CD) uZ ce13
theorem ce14:Fi (F3 F1) Nw 100000 76 [Ew,OF,OE] KB=true:=by kernel_rfl
theorem pe14:BX [Ew,OF,OE]=true∧Ax KB=true∧Pure Tryz.prog 76 [Ew,OF,OE] KB:=Bc (CE CD) D1 ce14
theorem ce15:Fi (F3 F1) Nw 100000 76 [Ew,OE,OF] OD=true:=by kernel_rfl
theorem pe15:BX [Ew,OE,OF]=true∧Ax OD=true∧Pure Tryz.prog 76 [Ew,OE,OF] OD:=Bc (CE CD) D1 ce15
theorem ce16:Fi (F3 F1) Nw 100000 76 [Ew,OF,KC] OD=true:=by kernel_rfl
theorem pe16:BX [Ew,OF,KC]=true∧Ax OD=true∧Pure Tryz.prog 76 [Ew,OF,KC] OD:=Bc (CE CD) D1 ce16
def zR:DV:=(DA (DA Nw 107 [Ef] (.i .i64 0)) 71 [Ef] (.t [Ew,(.i .i64 0)]))
theorem uY:DJ Tryz.prog zR:=(BA (BA D1 aU) ez)
theorem ce17:Fi (F3 F1) zR 100000 20 [Ef,ff,(.i .i64 0),Tq] cw8=true:=by kernel_rfl
theorem pe17:BX [Ef,ff,(.i .i64 0),Tq]=true∧Ax cw8=true∧Pure Tryz.prog 20 [Ef,ff,(.i .i64 0),Tq] cw8:=Bc (CE CD) uY ce17
def zQ:DV:=(DA (DA Nw 107 [Ef] (.i .i64 0)) 71 [Ef] (.t [Ew,(.i .i64 0)]))
theorem uX:DJ Tryz.prog zQ:=(BA (BA D1 aU) ez)
theorem ce18:Fi (F3 F1) zQ 100000 20 [Ef,(.l [] true),(.i .i64 0),fb] cw9=true:=by kernel_rfl
theorem pe18:BX [Ef,(.l [] true),(.i .i64 0),fb]=true∧Ax cw9=true∧Pure Tryz.prog 20 [Ef,(.l [] true),(.i .i64 0),fb] cw9:=Bc (CE CD) uX ce18
def zP:DV:=(DA (DA Nw 107 [Ef] (.i .i64 0)) 71 [Ef] (.t [Ew,(.i .i64 0)]))
theorem uW:DJ Tryz.prog zP:=(BA (BA D1 aU) ez)
theorem ce19:Fi (F3 F1) zP 100000 31 [Ef,fh] fg=true:=by kernel_rfl
theorem pe19:BX [Ef,fh]=true∧Ax fg=true∧Pure Tryz.prog 31 [Ef,fh] fg:=Bc (CE CD) uW ce19
theorem ce20:Fi (F3 F1) Nw 100000 76 [Ew,OF,OF] KB=true:=by kernel_rfl
theorem pe20:BX [Ew,OF,OF]=true∧Ax KB=true∧Pure Tryz.prog 76 [Ew,OF,OF] KB:=Bc (CE CD) D1 ce20
def zO:DV:=(DA (DA Nw 107 [Ef] (.i .i64 0)) 71 [Ef] (.t [Ew,(.i .i64 0)]))
theorem uV:DJ Tryz.prog zO:=(BA (BA D1 aU) ez)
theorem ce21:Fi (F3 F1) zO 100000 15 [Ef,(.i .i64 0),(.i .i64 1)] fj=true:=by kernel_rfl
theorem pe21:BX [Ef,(.i .i64 0),(.i .i64 1)]=true∧Ax fj=true∧Pure Tryz.prog 15 [Ef,(.i .i64 0),(.i .i64 1)] fj:=Bc (CE CD) uV ce21
def zN:DV:=(DA (DA Nw 107 [Ef] (.i .i64 0)) 71 [Ef] (.t [Ew,(.i .i64 0)]))
theorem uU:DJ Tryz.prog zN:=(BA (BA D1 aU) ez)
theorem ce22:Fi (F3 F1) zN 100000 17 [Ef,(.i .i64 0)] fZ=true:=by kernel_rfl
theorem pe22:BX [Ef,(.i .i64 0)]=true∧Ax fZ=true∧Pure Tryz.prog 17 [Ef,(.i .i64 0)] fZ:=Bc (CE CD) uU ce22
def zM:DV:=(DA (DA (DA (DA (DA (DA (DA (DA (DA (DA (DA (DA (DA (DA (DA (DA (DA (DA (DA (DA (DA (DA (DA Nw 107 [Ef] (.i .i64 0)) 71 [Ef] (.t [Ew,(.i .i64 0)])) 76 [Ew,KC,OE] KB) 76 [Ew,OE,KC] OD) 12 [Ef,(.i .i64 1),(.i .i64 0)] KB) 76 [Ew,KC,OF] OD) 12 [Ef,(.i .i64 1),(.i .i64 2)] OD) 12 [Ef,(.i .i64 0),(.i .i64 3)] fY) 76 [Ew,Vp,Vp] KB) 76 [Ew,KC,Vp] KB) 76 [Ew,Vp,KC] OD) 76 [Ew,KC,KC] KB) 76 [Ew,OE,OE] KB) 20 [Ef,fe,(.i .i64 0),Tq] cw7) 76 [Ew,OF,OE] KB) 76 [Ew,OE,OF] OD) 76 [Ew,OF,KC] OD) 20 [Ef,ff,(.i .i64 0),Tq] cw8) 20 [Ef,(.l [] true),(.i .i64 0),fb] cw9) 31 [Ef,fh] fg) 76 [Ew,OF,OF] KB) 15 [Ef,(.i .i64 0),(.i .i64 1)] fj) 17 [Ef,(.i .i64 0)] fZ)
theorem uT:DJ Tryz.prog zM:=(BA (BA (BA (BA (BA (BA (BA (BA (BA (BA (BA (BA (BA (BA (BA (BA (BA (BA (BA (BA (BA (BA (BA D1 aU) ez) pe2) pe3) pe4) pe5) pe6) pe7) pe8) pe9) pe10) pe11) pe12) pe13) pe14) pe15) pe16) pe17) pe18) pe19) pe20) pe21) pe22)
theorem ce23:Fi (F3 F1) zM 100000 14 [] (.b true)=true:=by kernel_rfl
theorem pe23:BX []=true∧Ax (.b true)=true∧Pure Tryz.prog 14 [] (.b true):=Bc (CE CD) uT ce23
end Go.Gl
namespace Go.Gl
open Go.ChangeShapes Go.WideShapes Go.ChangeAt Go.RowKit
variable {P:Program}
theorem eV {f:FuncId} {args:List V} {v:V} (h:Pure P f args v) {w:World} {cs:Array Value} (hc:aV (Hh (fun _=>False) emp w) args cs) :
 Calls P f cs w fun e w'=>(∃c,e= .returned c∧Ac (Hh (fun _=>False) emp w') v c)∧CS (fun _=>False) emp w emp w':=by
 refine Calls.mono (h.2 (fun _=>False) w cs (Xm _ fun _ h=>h.elim) hc) fun e w' ⟨r,σ',⟨h1,h2⟩,h3,_,h4⟩=>?_
 subst h1;subst h2;exact⟨h3,h4⟩
end Go.Gl
