import Derived.Shelf.Sort.Plain
import Derived.Test.YtcfkfhaedllcpaaGreatProg
import Derived.KernelRfl
import Derived.Test.YtcfkfhaedllcpaaGreatV12
import Derived.Test.YtcfkfhaedllcpaaGreatV14
set_option linter.all false
set_option linter.defProp false
set_option maxHeartbeats 8000000
noncomputable section
namespace Go.Gl
open Go.Proofs Go.Shelf
abbrev HO (x y:Int):Bool:=decide (x<=y)
def ir {P:Program} {f:FuncId} (hok:okF P f=true)
    (hc: ∀(blk cap:Nat) (zs:List Int) (w:World),Sort.Holds (Value.int .i64) w blk 0 zs.toArray->blk<w.heap.size->zs.length<4611686018427387904->
     Calls P f #[.slice (some ⟨blk,0,none⟩) zs.length cap] w fun e w'=>e= .returned (.tuple #[])/\ ∃n os,w'=Sort.grow (Sort.putRow (Value.int .i64) (Sort.ahead w n) blk 0 (zs.mergeSort fun x y=>decide (x<=y)).toArray) os)
    (xs:List Int) (n len cap:Nat):Be P f [.sl n len cap] [.own (.sl n len cap) 1 (iL xs)] fun r post=>r= .ret (.t [])/\post= [.own (.sl n len cap) 1 (iL (xs.mergeSort HO))]:=by
 intro Z hs;refine⟨hok,fun F w cs hR hv=>?_⟩;rcases hs.get (i:=0) rfl with⟨h,_⟩|⟨n',cap',h,hn⟩
 .cases h
 cases h;rw[BL]at hv;obtain⟨c,e,hb,h1,h2,h3,h4⟩:=E2 hR hn;rw[BL]at h2 h3;have hM:AX=17592186044416:=rfl;rw[BE]at h4
 have hcell: ∀j x,xs[j]? =some x->c[j]? =some (Value.int .i64 x)/\IntKind.i64.min<=x/\x<=IntKind.i64.max:=fun j x hx=>by
  have:=(h4 j [.i .i64 x] (by rw[Mu,hx];rfl)).2;simp only[BS,Nat.mul_one,G3]at this;obtain⟨⟨d,hd,hr⟩,_⟩:=this;simp only[Aa]at hr;obtain⟨rfl,hr⟩:=hr;exact⟨hd,hr⟩
 have hcs:cs= #[.slice (some ⟨n,0,none⟩) xs.length cap]:=by
  obtain⟨hsz,hv⟩:=hv;simp only[BS,Aa]at hv;obtain⟨⟨d,hd,rfl,_⟩,_⟩:=hv;simp at hsz;apply Array.ext_getElem?;intro i;rcases i with _|i
  .simpa using hd
  .rw[Array.getElem?_eq_none (by omega),Array.getElem?_eq_none (by simp)]
 subst hcs
 have hH:Sort.Holds (Value.int .i64) w n 0 xs.toArray:=fun j hj=>by
  have hj':j<xs.length:=by simpa using hj
  obtain⟨h5,_⟩:=hcell j xs[j] (Cw hj');refine⟨?_,?_⟩
  .rw[G3,DR hb,h5]
   simp[getElem!_pos,hj']
  .rw[G3];exact Qn hb
 refine(hc n cap xs w hH (hR.lt hn) (by omega)).mono fun e' w' ⟨he,k,os,hw⟩=>?_
 subst he;have hlen:(xs.mergeSort HO).length=xs.length:=List.length_mergeSort _
 have hheap: ∀m,m<w.heap.size->w'.heap[m]? =if m=n then some (.cells (Sort.putCells (Value.int .i64) 0 (xs.mergeSort HO).toArray c) e (0,0))else w.heap[m]? :=fun m hm=>by
  rw[hw];simp only[Sort.grow,Sort.putRow,Sort.mapBlock,Sort.ahead];rw[Array.getElem?_append_left (by simpa using hm),Array.getElem?_modify];by_cases e1:n=m
  .subst e1
   rw[if_pos rfl,if_pos rfl,hb];rfl
  .rw[if_neg e1,if_neg (Ne.symm e1)]
 have hadv:Bw F Z w (BV Z n (.arr 1 (iL (xs.mergeSort HO)) cap)) w':=by
  refine⟨fun m hm h0=>?_,?_,by rw[hw];rfl,by rw[hw];rfl,by rw[hw];rfl,fun m h0 _=>?_⟩
  .rw[hheap m hm,if_neg]
   intro e1;subst e1;rw[hn]at h0;cases h0
  .rw[hw];simp[Sort.grow]
  .rw[CZ _ _ (fun e1=>by subst e1;rw[hn]at h0;cases h0)];exact h0
 refine⟨.ret (.t []),BV Z n (.arr 1 (iL (xs.mergeSort HO)) cap),⟨_,⟨rfl,rfl⟩,?_⟩,?_,?_,hadv⟩
 .refine⟨fun a ha=>?_,List.pairwise_singleton _ _⟩
  rw[LV.1 ha];exact .inr ⟨n,cap,by simp[hlen],C6 _ _ _⟩
 .exact⟨_,rfl,by simp[Aa,BS]⟩
 .refine hR.step hadv fun m o ho=>?_
  by_cases e1:m=n
  .subst e1
   rw[C6]at ho;cases ho;refine .inr ⟨(hR.own _ _ hn).1,_,(hheap m (hR.lt hn)).trans (if_pos rfl),_,_,rfl,by simpa[Sort.putCells]using h1,by simpa[hlen]using h2,by simpa[hlen]using h3,?_⟩;rw[BE];intro i r hi;rw[Mu]at hi;cases hx:(xs.mergeSort HO)[i]? with
   | none=>rw[hx]at hi;cases hi
   | some x=>
     rw[hx]at hi;cases hi;have hil:i<xs.length:=by have:=(Ii.1 hx).1;omega
     have hxm:x∈xs:=(List.mergeSort_perm xs HO).mem_iff.1 (Bz hx);obtain⟨j,hj⟩:=List.getElem?_of_mem hxm;have hbd:=(hcell j x hj).2;obtain⟨hci,_⟩:=hcell i xs[i] (Cw hil);have hcl:i<c.size:=(ox.1 hci).1;refine⟨rfl,?_⟩;simp only[BS,Nat.mul_one,G3,Aa,and_true];refine⟨_,?_,rfl,hbd⟩;simp only[Sort.putCells,Array.getElem?_mapIdx];rw[hci];have hxe:=(Ii.1 hx).2;simp[hlen,hil,getElem!_pos,hxe]
  .rw[CZ _ _ e1]at ho
   exact .inl ⟨ho,(hheap m (hR.lt ho)).trans (if_neg e1)⟩
def mC (xs:List Int) (n len cap:Nat):Be Tryz.prog 279 [.sl n len cap] [.own (.sl n len cap) 1 (iL xs)] fun r post=>r= .ret (.t [])/\post= [.own (.sl n len cap) 1 (iL (xs.mergeSort HO))]:=
 ir (by kernel_rfl) (fun blk cap zs w h1 h2 h3=>Any.slices_Sort_int Tryz.nC blk 0 cap zs w h1 h2 h3) xs n len cap
end Go.Gl
namespace Go.Gl
open Go.Proofs
set_option maxRecDepth 100000
abbrev ac3:AV:=(.seq [2,3,4,5,6] (.Bt [⟨(some 5),.M6 (.t 0),none⟩,
 ⟨(some 6),.M6 (.t 1),none⟩,
 ⟨(some 10),.mv (.c (.b false)),none⟩])
 (.seq [2,3,4,5,6] (.seq [2,3,4,5,6,34] (.Bt [⟨(some 23),.load (some 3) (.t 6),none⟩,
  ⟨(some 24),.call 11 [(.t 23)],none⟩,
  ⟨(some 25),.mv (.t 24),none⟩,
  ⟨(some 26),.mv (.t 2),(some (25,false))⟩,
  ⟨(some 27),.len (.t 26),(some (25,false))⟩,
  ⟨(some 28),.bin .gtr (.t 27) (.c (.i .i64 60)),(some (25,false))⟩,
  ⟨(some 29),.pick (.t 25) (.c (.b true)) (.t 28),none⟩,
  ⟨(some 30),.mv (.t 29),none⟩,
  ⟨(some 31),.mv (.t 4),(some (30,false))⟩,
  ⟨(some 32),.len (.t 31),(some (30,false))⟩,
  ⟨(some 33),.bin .gtr (.t 32) (.c (.i .i64 60)),(some (30,false))⟩,
  ⟨(some 34),.pick (.t 30) (.c (.b true)) (.t 33),none⟩])
 (.cond (.t 34)
 (.seq [10] (.Bt [⟨(some 35),.call 12 [],none⟩,
  ⟨(some 10),.mv (.t 35),none⟩])
 .ret)
 .skip))
 (.seq [2,3,4,5,6,11,12,13] (.Bt [⟨(some 37),.load (some 6) (.t 5),none⟩,
  ⟨(some 38),.load (some 3) (.t 6),none⟩,
  ⟨(some 39),.mv (.t 2),none⟩,
  ⟨(some 40),.call 13 [(.t 37),(.t 38),(.t 39)],none⟩,
  ⟨(some 36),.mv (.t 40),none⟩,
  ⟨(some 41),.extract 0 (.t 36),none⟩,
  ⟨(some 42),.extract 1 (.t 36),none⟩,
  ⟨(some 43),.extract 2 (.t 36),none⟩,
  ⟨(some 11),.mv (.t 41),none⟩,
  ⟨(some 12),.mv (.t 42),none⟩,
  ⟨(some 13),.mv (.t 43),none⟩])
 (.seq [3,4,11,12,13,14,15,16] (.Bt [⟨(some 45),.load (some 6) (.t 5),none⟩,
  ⟨(some 46),.load (some 3) (.t 6),none⟩,
  ⟨(some 47),.mv (.t 2),none⟩,
  ⟨(some 48),.call 14 [(.t 45),(.t 46),(.t 47)],none⟩,
  ⟨(some 44),.mv (.t 48),none⟩,
  ⟨(some 49),.extract 0 (.t 44),none⟩,
  ⟨(some 50),.extract 1 (.t 44),none⟩,
  ⟨(some 51),.extract 2 (.t 44),none⟩,
  ⟨(some 14),.mv (.t 49),none⟩,
  ⟨(some 15),.mv (.t 50),none⟩,
  ⟨(some 16),.mv (.t 51),none⟩])
 (.seq [3,4,11,12,13,14,15,16,17,18,19] (.Bt [⟨(some 53),.mv (.t 3),none⟩,
  ⟨(some 54),.mv (.t 4),none⟩,
  ⟨(some 55),.call 15 [(.t 53),(.t 54)],none⟩,
  ⟨(some 52),.mv (.t 55),none⟩,
  ⟨(some 56),.extract 0 (.t 52),none⟩,
  ⟨(some 57),.extract 1 (.t 52),none⟩,
  ⟨(some 58),.extract 2 (.t 52),none⟩,
  ⟨(some 17),.alloc [(.i .i64 0),(.i .i64 0)],none⟩,
  ⟨none,.store 2 (.t 17) (.t 56),none⟩,
  ⟨(some 18),.mv (.t 57),none⟩,
  ⟨(some 19),.mv (.t 58),none⟩])
 (.seq [11,12,13,14,15,16,17,18,19,20,21,22] (.Bt [⟨(some 60),.mv (.t 3),none⟩,
  ⟨(some 61),.mv (.t 4),none⟩,
  ⟨(some 62),.call 16 [(.t 60),(.t 61)],none⟩,
  ⟨(some 59),.mv (.t 62),none⟩,
  ⟨(some 63),.extract 0 (.t 59),none⟩,
  ⟨(some 64),.extract 1 (.t 59),none⟩,
  ⟨(some 65),.extract 2 (.t 59),none⟩,
  ⟨(some 20),.alloc [(.i .i64 0),(.i .i64 0)],none⟩,
  ⟨none,.store 2 (.t 20) (.t 63),none⟩,
  ⟨(some 21),.mv (.t 64),none⟩,
  ⟨(some 22),.mv (.t 65),none⟩])
 (.seq [10] (.Bt (⟨(some 66),.mv (.t 11),none⟩::
  ⟨(some 67),.mv (.t 14),none⟩::
  ⟨(some 68),.call 17 [(.t 66),(.t 67)],none⟩::
  ⟨(some 69),.mv (.t 68),none⟩::
  ⟨(some 70),.mv (.t 12),(some (69,true))⟩::
  ⟨(some 71),.mv (.t 15),(some (69,true))⟩::
  ⟨(some 72),.lC false (.t 70) (.t 71),(some (69,true))⟩::
  ⟨(some 73),.pick (.t 69) (.t 72) (.c (.b false)),none⟩::
  ⟨(some 74),.mv (.t 73),none⟩::
  ⟨(some 75),.mv (.t 13),(some (74,true))⟩::
  ⟨(some 76),.mv (.t 16),(some (74,true))⟩::
  ⟨(some 77),.bin .eql (.t 75) (.t 76),(some (74,true))⟩::
  ⟨(some 78),.pick (.t 74) (.t 77) (.c (.b false)),none⟩::
  ⟨(some 79),.mv (.t 78),none⟩::
  ⟨(some 80),.load (some 2) (.t 17),(some (79,true))⟩::
  ⟨(some 81),.load (some 2) (.t 20),(some (79,true))⟩::
  ⟨(some 82),.XR 2 false (.t 80) (.t 81),(some (79,true))⟩::
  ⟨(some 83),.pick (.t 79) (.t 82) (.c (.b false)),none⟩::
  ⟨(some 84),.mv (.t 83),none⟩::
  ⟨(some 85),.mv (.t 18),(some (84,true))⟩::
  ⟨(some 86),.mv (.t 21),(some (84,true))⟩::
  ⟨(some 87),.bin .eql (.t 85) (.t 86),(some (84,true))⟩::
  ⟨(some 88),.pick (.t 84) (.t 87) (.c (.b false)),none⟩::
  ⟨(some 89),.mv (.t 88),none⟩::
  ⟨(some 90),.mv (.t 19),(some (89,true))⟩::
  ⟨(some 91),.mv (.t 22),(some (89,true))⟩::
  ⟨(some 92),.bin .eql (.t 90) (.t 91),(some (89,true))⟩::
  ⟨(some 93),.pick (.t 89) (.t 92) (.c (.b false)),none⟩::
  ⟨(some 94),.mv (.t 93),none⟩::
  ⟨(some 95),.call 12 [],(some (94,true))⟩::
  ⟨(some 96),.pick (.t 94) (.t 95) (.c (.b false)),none⟩::
  ⟨(some 10),.mv (.t 96),none⟩:: []))
 .ret)))))))
def res3:Tryz.f3.body.bind (res Tryz.prog Tryz.f3.ntmps [] [5,6])=some (erase ac3):=by kernel_rfl
def qi {args:List V} (hn:args.length<=97) {Z:AE} {Q:R->AE->Prop} (h:W Tryz.prog ac3 (br [10] Q) (A2 0 args) Z):A6 Tryz.prog 3 args Z Q:=
 Ia Tryz.func3 (by kernel_rfl) res3 rfl hn (lE h)
def pq:=cX [] [1] Tryz.func11
def ff:=cX [] [3,4] Tryz.func13
def Vd:=cX [] [3,4] Tryz.func14
def Vc:=RI [] [2] Tryz.func15
def ZS:=RI [] [] Tryz.func16
def y4:=cX [] [] Tryz.func17
def y3:=cX [] [1] Tryz.func21
def y2:=cX [] [3] Tryz.func22
def y1:=RI [] [2] Tryz.func23
def fe:=cX [] [] Tryz.func25
def y0:=cX [] [] Tryz.func26
def yz:=cX [] [] Tryz.func27
def yy:=cX [] [2,3] Tryz.func31
def yx:=RI [] [] Tryz.func44
def yw:=RI [] [2] Tryz.func47
def Vb:=cX [] [2,3] Tryz.func48
def ZR:=cX [] [2,3] Tryz.func49
def Va:=cX [] [2,3] Tryz.func50
def yv:=cX [] [] Tryz.func51
def yu:=cX [] [] Tryz.func52
def yr:=cX [] [1] Tryz.func53
abbrev xu:AV:=(.seq [1] (.Bt [⟨(some 1),.M6 (.t 0),none⟩,
 ⟨(some 2),.mv (.c (.b false)),none⟩])
 (.seq [1] (.seq [1,4] (.Bt [⟨(some 3),.Ba 0 (.t 1),none⟩,
  ⟨(some 4),.load none (.t 3),none⟩])
 (.block 0 (.seq [1,4,5] (.Bt [⟨(some 6),.bin .eql (.t 4) (.c (.i .i64 1)),none⟩,
  ⟨(some 5),.mv (.t 6),none⟩])
 (.cond (.t 5)
 (.seq [2] (.Bt [⟨(some 7),.Ba 1 (.t 1),none⟩,
  ⟨(some 8),.load none (.t 7),none⟩,
  ⟨(some 9),.bin .geq (.t 8) (.c (.i .i64 (-1000000000))),none⟩,
  ⟨(some 10),.mv (.t 9),none⟩,
  ⟨(some 11),.Ba 1 (.t 1),(some (10,true))⟩,
  ⟨(some 12),.load none (.t 11),(some (10,true))⟩,
  ⟨(some 13),.bin .leq (.t 12) (.c (.i .i64 1000000000)),(some (10,true))⟩,
  ⟨(some 14),.pick (.t 10) (.t 13) (.c (.b false)),none⟩,
  ⟨(some 2),.mv (.t 14),none⟩])
 .ret)
 (.seq [1,15] (.Bt [⟨(some 16),.bin .eql (.t 4) (.c (.i .i64 2)),none⟩,
  ⟨(some 15),.mv (.t 16),none⟩])
 (.cond (.t 15)
 (.seq [2] (.Bt [⟨(some 17),.Ba 1 (.t 1),none⟩,
  ⟨(some 18),.load none (.t 17),none⟩,
  ⟨(some 19),.bin .eql (.t 18) (.c (.i .i64 0)),none⟩,
  ⟨(some 2),.mv (.t 19),none⟩])
 .ret)
 .skip))))))
 (.seq [2] (.Bt [⟨(some 20),.Ba 0 (.t 1),none⟩,
  ⟨(some 21),.load none (.t 20),none⟩,
  ⟨(some 22),.bin .eql (.t 21) (.c (.i .i64 3)),none⟩,
  ⟨(some 23),.mv (.t 22),none⟩,
  ⟨(some 24),.Ba 1 (.t 1),(some (23,true))⟩,
  ⟨(some 25),.load none (.t 24),(some (23,true))⟩,
  ⟨(some 26),.bin .geq (.t 25) (.c (.i .i64 0)),(some (23,true))⟩,
  ⟨(some 27),.pick (.t 23) (.t 26) (.c (.b false)),none⟩,
  ⟨(some 28),.mv (.t 27),none⟩,
  ⟨(some 29),.Ba 1 (.t 1),(some (28,true))⟩,
  ⟨(some 30),.load none (.t 29),(some (28,true))⟩,
  ⟨(some 31),.bin .lss (.t 30) (.c (.i .i64 40)),(some (28,true))⟩,
  ⟨(some 32),.pick (.t 28) (.t 31) (.c (.b false)),none⟩,
  ⟨(some 2),.mv (.t 32),none⟩])
 .ret)))
def x5:Tryz.f54.body.bind (res Tryz.prog Tryz.f54.ntmps [] [1])=some (erase xu):=by kernel_rfl
def yq {args:List V} (hn:args.length<=33) {Z:AE} {Q:R->AE->Prop} (h:W Tryz.prog xu (br [2] Q) (A2 0 args) Z):A6 Tryz.prog 54 args Z Q:=
 Ia Tryz.func54 (by kernel_rfl) x5 rfl hn (lE h)
def yp:=cX [] [] Tryz.func55
def yo:=cX [] [2] Tryz.func56
set_option maxRecDepth 100000
def yn:=cX [] [3] Tryz.func57
def ZQ:=RI [] [] Tryz.func58
def ym:=cX [] [] Tryz.func59
def yl:=cX [] [] Tryz.func60
def fb:=RI [] [] Tryz.func61
def yk:=cX [] [1] Tryz.func71
def yj:=cX [] [2] Tryz.func72
def yi:=cX [] [3] Tryz.func73
def yh:=RI [] [3] Tryz.func74
def yg:=cX [] [2] Tryz.func75
def yf:=cX [] [1] Tryz.func76
def ZP:=cX [] [2,3] Tryz.func81
def ye:=RI [] [1] Tryz.func94
def yd:=cX [] [] Tryz.func96
def po:=cX [] [1,16] Tryz.func97
def fZ:=cX [] [] Tryz.func98
def yc:=RI [] [] Tryz.func99
def X2:=cX [] [3] Tryz.func100
def wV:=cX [] [1] Tryz.func101
def wU:=cX [] [] Tryz.func102
def wT:=RI [] [] Tryz.func103
def wS:=cX [] [] Tryz.func104
def wR:=cX [] [] Tryz.func105
def wQ:=cX [] [2] Tryz.func106
def wP:=cX [] [1] Tryz.func107
def wO:=cX [] [] Tryz.func108
set_option maxRecDepth 100000
def wN:=cX [] [1] Tryz.func128
def wM:=cX [] [2,3] Tryz.func129
def wL:=cX [] [1] Tryz.func130
def gw:=cX [] [6] Tryz.func131
def wK:=cX [] [] Tryz.func132
def wJ:=cX [] [3] Tryz.func133
def wI:=cX [] [] Tryz.func134
def wH:=cX [] [] Tryz.func135
def wG:=cX [] [3,4,5] Tryz.func136
def wF:=cX [] [1] Tryz.func137
def X1:=cX [] [] Tryz.func138
def gv:=cX [] [] Tryz.func139
def X0:=cX [] [] Tryz.func140
def wE:=cX [] [2] Tryz.func147
def wD:=cX [] [1,19] Tryz.func158
def wB:=cX [] [] Tryz.func159
def gu:=RI [] [1] Tryz.func160
def gr:=cX [] [2] Tryz.func161
def wA:=cX [] [] Tryz.func162
set_option maxRecDepth 100000
def v8:=cX [] [] Tryz.func163
def gq:=cX [] [2] Tryz.func164
def vw:=cX [] [] Tryz.func179
def vt:=cX [] [] Tryz.func180
def vr:=cX [] [3] Tryz.func181
def vq:=cX [] [] Tryz.func182
def vo:=cX [] [1] Tryz.func183
def vj:=cX [] [1] Tryz.func184
def vg:=cX [] [2,3] Tryz.func185
def ve:=cX [] [1] Tryz.func186
def vd:=cX [] [2,3] Tryz.func187
def vZ:=cX [] [3,4] Tryz.func188
def vY:=cX [] [] Tryz.func189
def vX:=cX [] [] Tryz.func190
def vW:=cX [] [] Tryz.func191
def vV:=cX [] [2,3] Tryz.func192
def vU:=RI [] [2,3] Tryz.func193
def vT:=RI [] [1] Tryz.func194
abbrev iM:AV:=(.Bt [⟨(some 2),.alloc [(.b false)],none⟩])
def pQ:List Ao:=[⟨(some 3),.Y6 (.func 258) [] [(.t 2)],none⟩]
abbrev iI:AV:=(.seq [2] (.Bt [⟨(some 4),.mv (.t 0),none⟩,
 ⟨(some 5),.Ix (.t 4) [],none⟩])
 (.seq [2] (.Bt [⟨none,.store 1 (.t 2) (.c (.b true)),none⟩])
 .ret))
def rB:Tryz.f195.body.bind (H9 Tryz.prog Tryz.f195.ntmps [] [])=some (erase iM,pQ,(.t 3),erase iI):=by kernel_rfl
def vS {args:List V} (hn:args.length<=6) {Z:AE} {Q:R->AE->Prop} (h:W Tryz.prog (.seq [0,2] iM (.Bt pQ)) (CY (fH Tryz.prog (.t 3) [0,2] iI [.c 2 none] Q)) (A2 0 args) Z):A6 Tryz.prog 195 args Z Q:=
 Fa Tryz.func195 (by kernel_rfl) rB (by kernel_rfl) hn (p8 h)
def vR:=cX [] [] Tryz.func196
def vQ:=cX [] [1] Tryz.func197
def gp:=cX [] [] Tryz.func198
def vP:=cX [] [7] Tryz.func199
def vO:=cX [] [3,4,5] Tryz.func200
def vN:=cX [] [3,4] Tryz.func201
def vM:=cX [] [] Tryz.func202
def vL:=RI [] [1] Tryz.func203
def vK:=cX [] [2,3] Tryz.func204
def vJ:=cX [] [1] Tryz.func205
def vI:=cX [] [] Tryz.func206
def gm:=cX [] [] Tryz.func207
def vH:=cX [] [] Tryz.func213
def vG:=cX [] [] Tryz.func214
set_option maxRecDepth 100000
def vF:=cX [] [] Tryz.func227
def vE:=cX [] [] Tryz.func228
def vD:=cX [] [] Tryz.func229
def vC:=cX [] [3] Tryz.func230
def gl:=cX [] [] Tryz.func231
def vB:=cX [] [] Tryz.func232
def vA:=cX [] [1] Tryz.func233
def u9:=cX [] [3] Tryz.func234
def u0:=cX [] [] Tryz.func235
def uz:=cX [] [] Tryz.func237
def uy:=cX [] [] Tryz.func250
def ux:=cX [] [3,5] Tryz.func251
def uw:=cX [] [3] Tryz.func252
def uv:=cX [] [2] Tryz.func253
def uu:=cX [] [2] Tryz.func254
def ur:=cX [] [2] Tryz.func255
def uq:=cX [] [2] Tryz.func256
def uo:=cX [] [2] Tryz.func257
def pO:List Ao:=[⟨(some 1),.mv (.t 4),none⟩]
abbrev iH:AV:=(.seq [0,1,6] (.Bt [⟨(some 5),.mv (.t 1),none⟩,
 ⟨(some 6),.bQ 2 true (.t 5),none⟩])
 (.cond (.t 6)
 (.seq [0] (.seq [0,1,3] (.Bt [⟨(some 8),.mv (.t 1),none⟩,
  ⟨(some 9),.bM 318 (.a []) true (.t 8),none⟩,
  ⟨(some 7),.mv (.t 9),none⟩,
  ⟨(some 10),.extract 0 (.t 7),none⟩,
  ⟨(some 11),.extract 1 (.t 7),none⟩,
  ⟨(some 2),.alloc [],none⟩,
  ⟨none,.store 0 (.t 2) (.t 10),none⟩,
  ⟨(some 3),.mv (.t 11),none⟩])
 (.seq [0,1,13] (.Bt [⟨(some 12),.mv (.t 3),none⟩,
  ⟨(some 13),.not (.t 12),none⟩])
 (.cond (.t 13)
 (.Bt [⟨(some 14),.mv (.t 1),none⟩,
  ⟨none,.panic (.t 14),none⟩])
 .skip)))
 (.Bt [⟨none,.store 1 (.t 0) (.c (.b false)),none⟩]))
 .skip))
def rA:Tryz.f258.body.bind (resRec Tryz.prog Tryz.f258.ntmps [] [])=some (4,pO,erase iH):=by kernel_rfl
def aX {args:List V} (hn:args.length<=15) {m:Option V} {Z:AE} {Q:AE->Prop} (h:W Tryz.prog (.seq [0,1] (.Bt pO) iH) (M8 Q) (put (some 4) (m.getD .De) (A2 0 args)) Z):HA Tryz.prog 258 args m Z Q:=
 H0 Tryz.func258 (by kernel_rfl) rA rfl hn (lE h)
def um:=cX [] [1] Tryz.func259
def uk:=cX [] [] Tryz.func260
def uj:=cX [] [] Tryz.func261
def ui:=cX [] [2] Tryz.func262
def uh:=cX [] [] Tryz.func263
def ug:=cX [] [4] Tryz.func264
def gk:=cX [] [6] Tryz.func265
def uf:=cX [] [2] Tryz.func266
set_option maxRecDepth 100000
def ue:=cX [] [] Tryz.func267
def ud:=cX [] [] Tryz.func271
def uc:=cX [] [] Tryz.func277
def ub:=cX [] [] Tryz.func278
def ua:=cX [] [] Tryz.func279
def uZ:=cX [] [] Tryz.func280
def uY:=cX [] [] Tryz.func289
def uX:=cX [] [0] Tryz.func290
def uW:=cX [] [2] Tryz.func291
def uV:=cX [] [] Tryz.func292
def gj:=cX [] [1] Tryz.func293
def uU:=cX [] [] Tryz.func294
def uT:=cX [] [1] Tryz.func295
def uS:=cX [] [] Tryz.func296
def uR:=cX [] [] Tryz.func297
def uQ:=cX [] [1] Tryz.func298
def uP:=cX [] [2] Tryz.func299
def uO:=cX [] [1] Tryz.func304
def uN:=cX [] [] Tryz.func306
def uM:=cX [] [3,4,5] Tryz.func307
def uL:=cX [] [] Tryz.func308
def uK:=cX [] [] Tryz.func309
def uJ:=cX [] [] Tryz.func317
def uI:=cX [] [] Tryz.func318
set_option maxRecDepth 100000
def uH:=cX [] [] Tryz.func319
def uG:=cX [] [2,3] Tryz.func320
def uF:=cX [] [1] Tryz.func321
def uE:=cX [] [1] Tryz.func322
def uD:=cX [] [1] Tryz.func324
def uC:=cX [] [] Tryz.func325
def uB:=RI [] [] Tryz.func326
def uA:=RI [] [3] Tryz.func327
def tz:=cX [] [] Tryz.func328
def tx:=cX [] [] Tryz.func329
def gi:=cX [] [3] Tryz.func330
def tw:=cX [] [] Tryz.func331
def tv:=cX [] [3] Tryz.func332
def tu:=cX [] [2] Tryz.func333
def tt:=cX [] [4,5,6,7] Tryz.func334
def ts:=cX [] [4,5] Tryz.func341
def tr:=cX [] [] Tryz.func342
def tq:=cX [] [] Tryz.func352
def tp:=cX [] [1] Tryz.func354
def tn:=RI [] [1] Tryz.func355
def tl:=cX [] [1] Tryz.func356
def tk:=cX [] [1] Tryz.func357
def tj:=RI [] [2] Tryz.func358
def ti:=cX [] [1] Tryz.func359
def th:=cX [] [] Tryz.func360
def tg:=cX [] [0] Tryz.func361
def gh:=cX [] [] Tryz.func362
def tf:=cX [] [] Tryz.func363
def te:=cX [] [2] Tryz.func364
def td:=cX [] [] Tryz.func365
def tc:=cX [] [] Tryz.func366
def tb:=cX [] [] Tryz.func367
def ta:=cX [] [4] Tryz.func368
set_option maxRecDepth 100000
def tZ:=cX [] [2,3] Tryz.func371
def tY:=RI [] [2,3] Tryz.func372
def tX:=RI [] [1] Tryz.func373
def tW:=cX [] [] Tryz.func380
def tV:=cX [] [] Tryz.func381
def gg:=cX [] [] Tryz.func382
def tU:=cX [] [] Tryz.func383
def tT:=cX [] [] Tryz.func384
def tS:=cX [] [] Tryz.func385
def tR:=cX [] [2,3] Tryz.func387
abbrev iK:AV:=(.Bt [⟨(some 4),.alloc [(.b false)],none⟩])
def pN:List Ao:=[⟨(some 5),.Y6 (.func 396) [] [(.t 4)],none⟩]
abbrev iG:AV:=(.seq [4] (.Bt [⟨(some 6),.mv (.t 0),none⟩,
 ⟨(some 7),.mv (.t 1),none⟩,
 ⟨(some 8),.call 397 [(.t 6),(.t 7)],none⟩,
 ⟨(some 9),.call 398 [(.t 8)],none⟩])
 (.seq [4] (.Bt [⟨none,.store 1 (.t 4) (.c (.b true)),none⟩])
 .ret))
def q9:Tryz.f388.body.bind (H9 Tryz.prog Tryz.f388.ntmps [] [])=some (erase iK,pN,(.t 5),erase iG):=by kernel_rfl
def tQ {args:List V} (hn:args.length<=10) {Z:AE} {Q:R->AE->Prop} (h:W Tryz.prog (.seq [0,1,4] iK (.Bt pN)) (CY (fH Tryz.prog (.t 5) [0,1,4] iG [.c 4 none] Q)) (A2 0 args) Z):A6 Tryz.prog 388 args Z Q:=
 Fa Tryz.func388 (by kernel_rfl) q9 (by kernel_rfl) hn (p8 h)
def tP:=cX [] [] Tryz.func390
def tN:=cX [] [] Tryz.func391
def tM:=cX [] [4,5,6] Tryz.func392
def tL:=cX [] [5] Tryz.func393
def tK:=cX [] [] Tryz.func394
def tJ:=cX [] [] Tryz.func395
def pM:List Ao:=[⟨(some 5),.bM 433 (.a []) true (.t 4),none⟩,
    ⟨(some 3),.mv (.t 5),none⟩,
    ⟨(some 6),.extract 0 (.t 3),none⟩,
    ⟨(some 7),.extract 1 (.t 3),none⟩,
    ⟨(some 1),.alloc [],none⟩,
    ⟨none,.store 0 (.t 1) (.t 6),none⟩,
    ⟨(some 2),.mv (.t 7),none⟩]
abbrev iF:AV:=(.seq [0,8] (.Bt [⟨(some 8),.mv (.t 2),none⟩])
 (.cond (.t 8)
 (.Bt [⟨none,.store 1 (.t 0) (.c (.b false)),none⟩])
 .skip))
def q8:Tryz.f396.body.bind (resRec Tryz.prog Tryz.f396.ntmps [] [])=some (4,pM,erase iF):=by kernel_rfl
def aW {args:List V} (hn:args.length<=9) {m:Option V} {Z:AE} {Q:AE->Prop} (h:W Tryz.prog (.seq [0,2] (.Bt pM) iF) (M8 Q) (put (some 4) (m.getD .De) (A2 0 args)) Z):HA Tryz.prog 396 args m Z Q:=
 H0 Tryz.func396 (by kernel_rfl) q8 rfl hn (lE h)
def tI:=cX [] [11] Tryz.func397
def tH:=cX [] [] Tryz.func398
def tG:=cX [] [] Tryz.func399
def tF:=cX [] [] Tryz.func400
def tE:=cX [] [2] Tryz.func401
def tD:=cX [] [2,3] Tryz.func402
def tC:=cX [] [3] Tryz.func403
def gd:=cX [] [3] Tryz.func404
def tB:=cX [] [] Tryz.func405
def tA:=cX [] [] Tryz.func406
def s9:=RI [] [] Tryz.func408
def s8:=cX [] [3] Tryz.func409
def s7:=cX [] [3] Tryz.func410
def s6:=cX [] [3] Tryz.func411
def s5:=cX [] [3] Tryz.func412
def sy:=cX [] [4] Tryz.func413
def sx:=cX [] [2,3] Tryz.func414
def sw:=cX [] [] Tryz.func415
def su:=cX [] [4,5] Tryz.func431
def ss:=cX [] [3,4,5] Tryz.func432
@[reducible] noncomputable def zP:=Tryz.prog
end Go.Gl
namespace Go.Gl
open Go.Proofs
attribute [local irreducible] A6 Ar Ah AR AI Ae AQ AT AK Ad AN AO Ay A7 Sat AY A5 Ai W
def gW (xs:List Int) (f:Bool) (x:Int) (hx:xs.length<=AX):Pure zP 250 [.l (iL xs) f,.i .i64 x] (.b (xs.contains x)):=by
 refine uy kZ ?_;refine zh ?_;(repeat clear U K);repeat intro K U
 refine By xs.length (fun k (_:Unit)=>[(5,eI (A9 k))]) (fun _ _=>[]) (fun k _=>x∉xs.take k) () rfl (by simp) Sat.nil ?_;rintro k - Z hk hn -;refine zh ?_;(repeat clear U K);repeat intro K U
 refine GU hk hx (fun y hy hlt=>?_) fun hk=>?_
 .refine zh ?_;(repeat clear U K);repeat intro K U
  refine JO hy hx rfl ?_;refine zh ?_;(repeat clear U K);repeat intro K U
  refine aL (fun he=>?_) (fun he=>?_)
  .refine zh ?_;(repeat clear U K);repeat intro K U
   refine AF ?_;have:x∈xs:=he ▸ Bz hy;simp[this]
  .refine zh ?_;(repeat clear U K);repeat intro K U
   refine⟨hlt,(),rfl,?_,Sat.nil⟩;rw[AL hy];simp only[FC,LV,not_or];exact⟨hn,fun e=>he e.symm⟩
 .refine zh ?_;(repeat clear U K);repeat intro K U
  refine AF ?_;rw[Ap hk]at hn;simp[hn]
def QL (xs:List Int) (f:Bool) (x:Int) (hx:xs.length<=AX):Pure zP 318 [.l (iL xs) f,.i .i64 x] (.l (iL (xs.filter (· != x))) false):=by
 refine uI kZ ?_;refine zh ?_;(repeat clear U K);repeat intro K U
 refine By xs.length (fun k v=>[(5,v),(6,eI (A9 k))]) (fun k v=>[.own v 1 (iL ((xs.take k).filter (· != x)))]) (fun _ _=>True) (.l [] true) rfl trivial (FA Sat.nil 1) ?_;rintro k v Z hk - hs;refine zh ?_;(repeat clear U K);repeat intro K U
 refine GU hk hx (fun y hy hlt=>?_) fun hk=>?_
 .refine zh ?_;(repeat clear U K);repeat intro K U
  refine JO hy hx rfl ?_;refine zh ?_;(repeat clear U K);repeat intro K U
  refine ny (fun he=>?_) (fun he=>?_)
  .conv=>whnf
   repeat((first|clear U K|(apply zk;intro K U)|fail);conv=>whnf)
   refine JO hy hx rfl ?_;refine zh ?_;(repeat clear U K);repeat intro K U
   refine F0 hs 0 (x:=y) rfl (by have:=Q8 (· != x) (xs.take k);simp only[LY]at this;have hM:=Mx;omega) Bc fun v' Z' hs'=>?_
   refine zh ?_;(repeat clear U K);repeat intro K U
   refine⟨hlt,v',rfl,trivial,?_⟩;rw[AL hy,List.filter_append];simpa[he]using hs'
  .refine zh ?_;(repeat clear U K);repeat intro K U
   refine⟨hlt,v,rfl,trivial,?_⟩;rw[AL hy,List.filter_append];simpa[he]using hs
 .refine zh ?_;(repeat clear U K);repeat intro K U
  exact EF hs 0 rfl (by rw[Ap hk])
def free (ls:List (List Int)) (x:Int):Bool:=ls.all fun l=> !(l.drop 1).contains x
def nu (ls:List (List Int)) (f:Bool) (x:Int) (hl:ls.length<=AX) (hls: ∀l∈ls,l.length<=AX):Pure zP 319 [.l (Ek ls) f,.i .i64 x] (.b (free ls x)):=by
 refine uH kZ ?_;refine zh ?_;(repeat clear U K);repeat intro K U
 refine By ls.length (fun k (_:Unit)=>[(5,eI (A9 k))]) (fun _ _=>[]) (fun k _=> ∀l∈ls.take k,x∉l.drop 1) () rfl (by simp) Sat.nil ?_;rintro k - Z hk hn -;refine zh ?_;(repeat clear U K);repeat intro K U
 refine GU hk hl (fun y hy hlt=>?_) fun hk=>?_
 .have hb:=hls _ (Bz hy)
  have next:(x∉y.drop 1)-> ∀l∈ls.take (k+1),x∉l.drop 1:=fun hc l hm=>by
   rw[AL hy]at hm;rcases FC.1 hm with hm|hm
   .exact hn l hm
   .rw[LV.1 hm];exact hc
  refine zh ?_;(repeat clear U K);repeat intro K U
  refine JO hy hl rfl ?_;refine zh ?_;(repeat clear U K);repeat intro K U
  refine⟨fun h=>?_,fun h=>?_⟩<;>(try rw[h])
  .have hp:=of_decide_eq_true h
   simp only[BL]at hp;refine zh ?_;(repeat clear U K);repeat intro K U
   refine JO hy hl rfl ?_;refine zh ?_;(repeat clear U K);repeat intro K U
   refine Vu 1 rfl (by omega) (fun _=>rfl) ?_;refine zh ?_;(repeat clear U K);repeat intro K U
   refine(gW _ _ _ (by rw[lH];omega)).use ?_;refine zh ?_;(repeat clear U K);repeat intro K U
   refine⟨fun hc=>?_,fun hc=>?_⟩
   .refine zh ?_;(repeat clear U K);repeat intro K U
    refine AF ?_
    have:free ls x=false:=by
     simp only[free,List.all_eq_false];exact⟨y,Bz hy,by simpa using hc⟩
    rw[this]
   .refine zh ?_;(repeat clear U K);repeat intro K U
    exact⟨hlt,(),rfl,next (by simpa using hc),Sat.nil⟩
  .have hp: ¬_:=of_decide_eq_false h
   simp only[BL]at hp;refine zh ?_;(repeat clear U K);repeat intro K U
   refine⟨hlt,(),rfl,next ?_,Sat.nil⟩;rw[List.drop_eq_nil_of_le (by omega)];simp
 .refine zh ?_;(repeat clear U K);repeat intro K U
  rw[Ap hk]at hn;refine AF ?_;have:free ls x=true:=by simpa[free]using hn
  rw[this]
def Aw (ls:List (List Int)) (c:Int):List Int:=if c<3 then []else ls.getD (c - 3).toNat []
def YS (ls:List (List Int)) (f:Bool) (c:Int) (hc:c<3+ls.length) (hm:ls.length<=AX):Pure zP 317 [.l (Ek ls) f,.i .i64 c] (.l (iL (Aw ls c)) false):=by
 refine uJ kZ ?_;refine zh ?_;(repeat clear U K);repeat intro K U
 refine fork (fun h=>?_) (fun h=>?_)
 .refine zh ?_;(repeat clear U K);repeat intro K U
  refine Ab (.l (fun h=>(by cases h)) ?_);rw[Aw,if_pos h];exact .nil
 .refine zh ?_;(repeat clear U K);repeat intro K U
  simp only[AX]at hm;have hlt:(c - 3).toNat<ls.length:=by omega
  refine RZ (c - 3).toNat (Cw hlt) (by rw[wrap64 (by omega) (by omega)];omega) rfl ?_;refine zh ?_;(repeat clear U K);repeat intro K U
  refine AF ?_;rw[Aw,if_neg h,DL,Cw hlt];rfl
def EG (ls os:List (List Int)) (c:Int):Option (List (List Int)):=
 if(Aw ls c).any fun p=>(os.getD p.toNat []).isEmpty then none else some ((Aw ls c).map (fun p=>(os.getD p.toNat []).filter (· != 0))++[Aw ls c])
def yF (o:Option (List (List Int))):V:=match o with|some l=> .t [.l (Ek l) false,.b true]|none=> .t [.l [] false,.b false]
def jb (ls os:List (List Int)) (f:Bool) (w:V) (c:Int) (hc:c<3+ls.length) (hm:ls.length<=AX) (hos: ∀o∈os,o.length<=AX) (hpl:(Aw ls c).length<1000000)
    (hp: ∀p∈Aw ls c,0<=p/\p.toNat<os.length):Be zP 289 [.l (Ek ls) f,w,.i .i64 c] [.own w 1 (Ek os)] fun r post=>r= .ret (yF (EG ls os c))/\post= [.own w 1 (Ek os)]:=by
 have hM:=Mx;intro Z hs;refine uY kZ ?_
 conv=>whnf
 repeat((first|clear U K|apply st|(apply zk;intro K U)|fail);conv=>whnf)
 refine(YS _ _ _ hc hm).use ?_;refine zh ?_;(repeat clear U K);repeat intro K U
 refine By (Aw ls c).length (fun k v=>[(8,v),(10,eI (A9 k))]) (fun k v=>[.own w 1 (Ek os),.own v 1 (Ek (((Aw ls c).take k).map fun p=>(os.getD p.toNat []).filter (· != 0)))]) (fun k _=> ∀p∈(Aw ls c).take k,(os.getD p.toNat []).isEmpty=false)
  (.l [] true) rfl (by simp) (FA hs 1) ?_
 rintro k v Z hk hne hs;refine zh ?_;(repeat clear U K);repeat intro K U
 refine GU hk (by omega) (fun p hpk hlt=>?_) fun hk=>?_
 .obtain ⟨hp0,hp1⟩:=hp _ (Bz hpk)
  have hq:=Cw hp1
  have hgd:os.getD p.toNat []=os[p.toNat]:=by
   rw[DL,hq];rfl
  have hqm:(Ek os)[p.toNat]? =some [.l (iL os[p.toNat]) false]:=by rw[Mu,hq];rfl
  refine zh ?_;(repeat clear U K);repeat intro K U
  refine JO hpk (by omega) rfl ?_;refine zh ?_;(repeat clear U K);repeat intro K U
  refine eW hs 0 p.toNat rfl (by omega) (by simpa using hp1) ?_
  conv=>whnf
  refine IG hs 0 rfl hqm ?_;refine zh ?_;(repeat clear U K);repeat intro K U
  refine aL (fun he=>?_) (fun he=>?_)
  .refine zh ?_;(repeat clear U K);repeat intro K U
   have hn:EG ls os c=none:=by
    simp only[EG];rw[if_pos];rw[KM];refine⟨p,Bz hpk,?_⟩;rw[hgd];have:(os[p.toNat]).length=0:=by simpa using he
    simp[Y5.1 this]
   rw[hn];exact Am (l':=[.own w 1 (Ek os)]) hs (by simp) (.t (.cons (.l (fun h=>(by cases h)) .nil) (.cons (.refl _) .nil))) fun Z' hs'=>⟨_,⟨rfl,rfl⟩,hs'⟩
  .refine zh ?_;(repeat clear U K);repeat intro K U
   refine JO hpk (by omega) rfl ?_;refine zh ?_;(repeat clear U K);repeat intro K U
   refine eW hs 0 p.toNat rfl (by omega) (by simpa using hp1) ?_
   conv=>whnf
   refine IG hs 0 rfl hqm ?_
   conv=>whnf
   refine(QL _ _ _ (hos _ (List.getElem_mem hp1))).use ?_
   conv=>whnf
   refine F0 hs 1 (x:=os[p.toNat].filter (· != 0)) rfl (by have hM:=Mx;simp;omega) C7 fun v' Z' hs'=>?_
   refine zh ?_;(repeat clear U K);repeat intro K U
   refine⟨hlt,v',rfl,fun q hm=>?_,?_⟩
   .rw [AL hpk]at hm
    rcases FC.1 hm with hm|hm
    .exact hne q hm
    .rw[LV.1 hm,hgd]
     have:(os[p.toNat]).length≠0:=by
      intro e;exact he (by simp[e])
     cases hq:os[p.toNat]with
     | nil=>rw[hq]at this;exact absurd rfl this
     | cons _ _=>rfl
   .rw[AL hpk,Uw,List.map_singleton,hgd]
    exact hs'
 .rw[Ap hk]at hne hs
  refine zh ?_;(repeat clear U K);repeat intro K U
  refine F0 hs 1 (x:=Aw ls c) rfl (by have hM:=Mx;simp;omega) C7 fun v' Z' hs'=>?_
  refine zh ?_;(repeat clear U K);repeat intro K U
  have hn:EG ls os c=some ((Aw ls c).map (fun p=>(os.getD p.toNat []).filter (· != 0))++[Aw ls c]):=by
   simp only[EG];rw[if_neg];rw[KM];rintro⟨p,h1,h2⟩;rw[hne p h1]at h2;cases h2
  rw[hn];obtain⟨Z2,h1,h2,h3⟩:=JR hs' 1 rfl;exact G0 h1 (.t (.cons h2 (.cons (.refl _) .nil))) ⟨_,⟨rfl,rfl⟩,h3⟩
end Go.Gl
