import Derived.Shelf.Sort.Plain
import Derived.Test.YtinppljblkpedaaGreatProg
import Derived.KernelRfl
import Derived.Test.YtinppljblkpedaaGreatU12
import Derived.Test.YtinppljblkpedaaGreatU13
import Derived.Test.YtinppljblkpedaaGreatU14
set_option linter.all false
set_option linter.defProp false
set_option maxHeartbeats 8000000
noncomputable section
namespace Go.Gl
open Go.Proofs Go.Shelf
abbrev H0 (x y:Int):Bool:=decide (x<=y)
def kE {P:Program} {f:FuncId} (hok:okF P f=true)
    (hc: ∀(blk cap:Nat) (zs:List Int) (w:World),Sort.Holds (Value.int .i64) w blk 0 zs.toArray->blk<w.heap.size->zs.length<4611686018427387904->
     Calls P f #[.slice (some ⟨blk,0,none⟩) zs.length cap] w fun e w'=>e= .returned (.tuple #[])/\ ∃n os,w'=Sort.grow (Sort.putRow (Value.int .i64) (Sort.ahead w n) blk 0 (zs.mergeSort fun x y=>decide (x<=y)).toArray) os)
    (xs:List Int) (n len cap:Nat):BL P f [.sl n len cap] [.own (.sl n len cap) 1 (iL xs)] fun r post=>r= .ret (.t [])/\post= [.own (.sl n len cap) 1 (iL (xs.mergeSort H0))]:=by
 intro Z hs;refine⟨hok,fun F w cs hR hv=>?_⟩;rcases hs.get (i:=0) rfl with⟨h,_⟩|⟨n',cap',h,hn⟩
 .cases h
 cases h;rw[Bc]at hv;obtain⟨c,e,hb,h1,h2,h3,h4⟩:=FG hR hn;rw[Bc]at h2 h3;have hM:Ab=17592186044416:=rfl;rw[BI]at h4
 have hcell: ∀j x,xs[j]? =some x->c[j]? =some (Value.int .i64 x)/\IntKind.i64.min<=x/\x<=IntKind.i64.max:=fun j x hx=>by
  have:=(h4 j [.i .i64 x] (by rw[LY,hx];rfl)).2;simp only[BX,Nat.mul_one,GZ]at this;obtain⟨⟨d,hd,hr⟩,_⟩:=this;simp only[Ac]at hr;obtain⟨rfl,hr⟩:=hr;exact⟨hd,hr⟩
 have hcs:cs= #[.slice (some ⟨n,0,none⟩) xs.length cap]:=by
  obtain⟨hsz,hv⟩:=hv;simp only[BX,Ac]at hv;obtain⟨⟨d,hd,rfl,_⟩,_⟩:=hv;simp at hsz;apply Array.ext_getElem?;intro i;rcases i with _|i
  .simpa using hd
  .rw[Array.getElem?_eq_none (by omega),Array.getElem?_eq_none (by simp)]
 subst hcs
 have hH:Sort.Holds (Value.int .i64) w n 0 xs.toArray:=fun j hj=>by
  have hj':j<xs.length:=by simpa using hj
  obtain⟨h5,_⟩:=hcell j xs[j] (Cd hj');refine⟨?_,?_⟩
  .rw[GZ,Db hb,h5]
   simp[getElem!_pos,hj']
  .rw[GZ];exact RN hb
 refine(hc n cap xs w hH (hR.lt hn) (by omega)).mono fun e' w' ⟨he,k,os,hw⟩=>?_
 subst he;have hlen:(xs.mergeSort H0).length=xs.length:=List.length_mergeSort _
 have hheap: ∀m,m<w.heap.size->w'.heap[m]? =if m=n then some (.cells (Sort.putCells (Value.int .i64) 0 (xs.mergeSort H0).toArray c) e (0,0))else w.heap[m]? :=fun m hm=>by
  rw[hw];simp only[Sort.grow,Sort.putRow,Sort.mapBlock,Sort.ahead];rw[Array.getElem?_append_left (by simpa using hm),Array.getElem?_modify];by_cases e1:n=m
  .subst e1
   rw[if_pos rfl,if_pos rfl,hb];rfl
  .rw[if_neg e1,if_neg (Ne.symm e1)]
 have hadv:B8 F Z w (BZ Z n (.arr 1 (iL (xs.mergeSort H0)) cap)) w':=by
  refine⟨fun m hm h0=>?_,?_,by rw[hw];rfl,by rw[hw];rfl,by rw[hw];rfl,fun m h0 _=>?_⟩
  .rw[hheap m hm,if_neg]
   intro e1;subst e1;rw[hn]at h0;cases h0
  .rw[hw];simp[Sort.grow]
  .rw[Ci _ _ (fun e1=>by subst e1;rw[hn]at h0;cases h0)];exact h0
 refine⟨.ret (.t []),BZ Z n (.arr 1 (iL (xs.mergeSort H0)) cap),⟨_,⟨rfl,rfl⟩,?_⟩,?_,?_,hadv⟩
 .refine⟨fun a ha=>?_,List.pairwise_singleton _ _⟩
  rw[Jf.1 ha];exact .inr ⟨n,cap,by simp[hlen],D1 _ _ _⟩
 .exact⟨_,rfl,by simp[Ac,BX]⟩
 .refine hR.step hadv fun m o ho=>?_
  by_cases e1:m=n
  .subst e1
   rw[D1]at ho;cases ho;refine .inr ⟨(hR.own _ _ hn).1,_,(hheap m (hR.lt hn)).trans (if_pos rfl),_,_,rfl,by simpa[Sort.putCells]using h1,by simpa[hlen]using h2,by simpa[hlen]using h3,?_⟩;rw[BI];intro i r hi;rw[LY]at hi;cases hx:(xs.mergeSort H0)[i]? with
   | none=>rw[hx]at hi;cases hi
   | some x=>
     rw[hx]at hi;cases hi;have hil:i<xs.length:=by have:=(Ip.1 hx).1;omega
     have hxm:x∈xs:=(List.mergeSort_perm xs H0).mem_iff.1 (B6 hx);obtain⟨j,hj⟩:=List.getElem?_of_mem hxm;have hbd:=(hcell j x hj).2;obtain⟨hci,_⟩:=hcell i xs[i] (Cd hil);have hcl:i<c.size:=(rW.1 hci).1;refine⟨rfl,?_⟩;simp only[BX,Nat.mul_one,GZ,Ac,and_true];refine⟨_,?_,rfl,hbd⟩;simp only[Sort.putCells,Array.getElem?_mapIdx];rw[hci];have hxe:=(Ip.1 hx).2;simp[hlen,hil,getElem!_pos,hxe]
  .rw[Ci _ _ e1]at ho
   exact .inl ⟨ho,(hheap m (hR.lt ho)).trans (if_neg e1)⟩
def nq (xs:List Int) (n len cap:Nat):BL Tryz.prog 212 [.sl n len cap] [.own (.sl n len cap) 1 (iL xs)] fun r post=>r= .ret (.t [])/\post= [.own (.sl n len cap) 1 (iL (xs.mergeSort H0))]:=
 kE (by kernel_rfl) (fun blk cap zs w h1 h2 h3=>Any.slices_Sort_int Tryz.ou blk 0 cap zs w h1 h2 h3) xs n len cap
end Go.Gl
namespace Go.Gl
open Go.Proofs
set_option maxRecDepth 100000
def fp:=cX [] [3] Tryz.func3
def ctr8:=cX [] [2] Tryz.func8
def ctr9:=cX [] [] Tryz.func9
def gX:=cX [] [2] Tryz.func10
def AAu:=cX [] [3] Tryz.func11
def Zu:=Jg [] [3,5] Tryz.func12
def AAt:=Jg [] [] Tryz.func13
def AAs:=Jg [] [1] Tryz.func14
def AAr:=cX [] [2,3] Tryz.func15
def AAq:=cX [] [4,5] Tryz.func17
def AAp:=cX [] [] Tryz.func18
def AAo:=cX [] [1] Tryz.func25
def AAn:=cX [] [2,3] Tryz.func28
def AAm:=cX [] [1] Tryz.func29
def AAl:=cX [] [] Tryz.func34
def AAk:=cX [] [2] Tryz.func36
def rI:=Jg [] [] Tryz.func37
def gV:=cX [] [2] Tryz.func38
def Zt:=cX [] [3,4,5] Tryz.func39
def AAj:=cX [] [] Tryz.func40
def Zs:=cX [] [3,5] Tryz.func41
def Zr:=cX [] [3,5] Tryz.func42
def AAi:=Jg [] [] Tryz.func43
def gU:=Jg [] [2] Tryz.func44
def AAh:=cX [] [2,3] Tryz.func45
def AAg:=Jg [] [1] Tryz.func46
def rH:=Jg [] [] Tryz.func47
def AAf:=Jg [] [2,3] Tryz.func48
def gT:=Jg [] [3] Tryz.func49
def rG:=cX [] [1] Tryz.func50
def AAe:=cX [] [2] Tryz.func51
def AAd:=cX [] [1] Tryz.func52
set_option maxRecDepth 100000
def AAc:=cX [] [2] Tryz.func53
def AAb:=cX [] [2] Tryz.func54
def AAa:=Jg [] [1] Tryz.func55
def rF:=Jg [] [2,3] Tryz.func56
def gS:=Jg [] [] Tryz.func57
def AAZ:=cX [] [] Tryz.func58
def AAY:=cX [] [1,19] Tryz.func59
def AAX:=cX [] [2] Tryz.func60
def AAW:=cX [] [2,3] Tryz.func61
def AAV:=cX [] [2,3] Tryz.func62
abbrev rN:Aq:=(.H3 [⟨(some 4),.alloc [(.b false)],none⟩])
def yl:List BD:=[⟨(some 5),.ra (.func 128) [] [(.t 4)],none⟩]
abbrev rM:Aq:=(.seq [4] (.H3 [⟨(some 6),.mv (.t 0),none⟩,
 ⟨(some 7),.mv (.t 1),none⟩,
 ⟨(some 8),.call 64 [(.t 6),(.t 7)],none⟩,
 ⟨(some 9),.call 129 [(.t 8)],none⟩])
 (.seq [4] (.H3 [⟨none,.store 1 (.t 4) (.c (.b true)),none⟩])
 .ret))
def zH:Tryz.f63.body.bind (P4 Tryz.prog Tryz.f63.ntmps [] [])=some (erase rN,yl,(.t 5),erase rM):=by kernel_rfl
def AAU {args:List V} (hn:args.length<=10) {Z:AE} {Q:R->AE->Prop} (h:W Tryz.prog (.seq [0,1,4] rN (.H3 yl)) (CZ (fo Tryz.prog (.t 5) [0,1,4] rM [.c 4 none] Q)) (C1 0 args) Z):As Tryz.prog 63 args Z Q:=
 RV Tryz.func63 (by kernel_rfl) zH (by kernel_rfl) hn (rR h)
def AAT:=cX [] [11] Tryz.func64
def AAS:=Jg [] [3] Tryz.func65
def AAR:=Jg [] [] Tryz.func66
def Zq:=cX [] [4] Tryz.func67
def AAQ:=cX [] [1] Tryz.func68
def MR:=cX [143] [5] Tryz.func69
def AAP:=cX [] [] Tryz.func70
def rE:=Jg [] [1] Tryz.func71
def AAO:=cX [] [2,3] Tryz.func72
def AAN:=cX [] [1] Tryz.func85
def AAM:=cX [] [1] Tryz.func90
def AAL:=cX [] [1] Tryz.func94
def AAK:=cX [] [1] Tryz.func95
def AAJ:=cX [] [2,3] Tryz.func96
def AAI:=cX [] [1] Tryz.func97
def AAH:=cX [] [3] Tryz.func99
def jI:=cX [] [2,3] Tryz.func100
def x6:=cX [] [4] Tryz.func101
def jH:=cX [] [] Tryz.func102
def x5:=cX [] [] Tryz.func103
set_option maxRecDepth 100000
def x4:=cX [] [2] Tryz.func104
def jG:=cX [] [2] Tryz.func105
def x3:=cX [] [2] Tryz.func106
def x2:=cX [] [] Tryz.func107
def xz:=cX [] [2] Tryz.func108
def xy:=Jg [] [2,3] Tryz.func109
def xx:=Jg [] [2] Tryz.func110
def Ye:=Jg [] [2] Tryz.func111
def xw:=cX [] [1] Tryz.func112
def xu:=cX [] [1] Tryz.func113
def xr:=cX [] [2,3] Tryz.func114
def xq:=cX [] [] Tryz.func115
def xp:=cX [] [] Tryz.func116
def xn:=Jg [] [] Tryz.func117
def Yd:=cX [] [2,3] Tryz.func118
def xl:=Jg [] [1] Tryz.func119
def xk:=cX [] [1] Tryz.func120
def xj:=cX [] [2] Tryz.func121
def xi:=cX [] [] Tryz.func122
def xh:=cX [] [4,5,6] Tryz.func123
def xg:=cX [] [1] Tryz.func124
def xe:=cX [] [5] Tryz.func125
def xd:=cX [] [] Tryz.func126
def xc:=cX [] [] Tryz.func127
def qp:List BD:=[⟨(some 5),.rY 212 (.a []) true (.t 4),none⟩,
    ⟨(some 3),.mv (.t 5),none⟩,
    ⟨(some 6),.extract 0 (.t 3),none⟩,
    ⟨(some 7),.extract 1 (.t 3),none⟩,
    ⟨(some 1),.alloc [],none⟩,
    ⟨none,.store 0 (.t 1) (.t 6),none⟩,
    ⟨(some 2),.mv (.t 7),none⟩]
abbrev jb:Aq:=(.seq [0,8] (.H3 [⟨(some 8),.mv (.t 2),none⟩])
 (.cond (.t 8)
 (.H3 [⟨none,.store 1 (.t 0) (.c (.b false)),none⟩])
 .skip))
def sw:Tryz.f128.body.bind (resRec Tryz.prog Tryz.f128.ntmps [] [])=some (4,qp,erase jb):=by kernel_rfl
def bZ {args:List V} (hn:args.length<=9) {m:Option V} {Z:AE} {Q:AE->Prop} (h:W Tryz.prog (.seq [0,2] (.H3 qp) jb) (R6 Q) (put (some 4) (m.getD .K7) (C1 0 args)) Z):O3 Tryz.prog 128 args m Z Q:=
 TI Tryz.func128 (by kernel_rfl) sw rfl hn (qc h)
def xb:=cX [] [] Tryz.func129
def xa:=cX [] [3] Tryz.func130
def xZ:=cX [] [3] Tryz.func131
def xY:=cX [] [3] Tryz.func132
def xX:=cX [] [3] Tryz.func133
def xW:=cX [] [] Tryz.func134
def xV:=cX [] [] Tryz.func135
def xU:=Jg [] [] Tryz.func137
def jF:=cX [] [] Tryz.func138
def jE:=cX [] [2,3] Tryz.func139
def xT:=cX [] [3] Tryz.func140
def xS:=cX [] [2] Tryz.func141
def xR:=cX [] [2] Tryz.func142
def xQ:=Jg [] [] Tryz.func143
def xP:=Jg [] [1] Tryz.func144
def xO:=cX [] [] Tryz.func145
set_option maxRecDepth 100000
def xN:=cX [] [3] Tryz.func157
def xM:=cX [] [1] Tryz.func165
def xL:=cX [] [] Tryz.func166
def xK:=cX [] [1] Tryz.func172
def jD:=cX [] [6] Tryz.func173
def xJ:=cX [] [] Tryz.func174
def xI:=cX [] [2] Tryz.func176
def xH:=cX [] [2] Tryz.func177
def xG:=cX [] [2] Tryz.func178
def xE:=cX [] [2] Tryz.func179
def xD:=cX [] [] Tryz.func180
def xC:=cX [] [2,3] Tryz.func181
def jC:=cX [] [] Tryz.func182
def xB:=Jg [] [2] Tryz.func183
def xA:=cX [] [] Tryz.func184
def w9:=cX [] [] Tryz.func185
def w8:=Jg [] [2,3] Tryz.func186
def w7:=Jg [] [] Tryz.func187
def wz:=cX [] [1] Tryz.func188
def jB:=cX [] [3] Tryz.func189
def wy:=cX [] [4,5] Tryz.func190
def Yc:=cX [] [7] Tryz.func191
def wx:=cX [] [4,5,7] Tryz.func192
def wu:=cX [] [] Tryz.func193
def J1:=cX [] [] Tryz.func194
def wq:=cX [] [] Tryz.func195
def wm:=Jg [] [] Tryz.func197
def wj:=cX [] [3] Tryz.func198
def jA:=cX [] [3,4] Tryz.func199
def wi:=cX [] [4,5] Tryz.func200
def wh:=cX [] [] Tryz.func201
def iz:=cX [] [3] Tryz.func202
def iy:=cX [] [] Tryz.func203
def wg:=cX [] [3] Tryz.func204
def we:=cX [] [2] Tryz.func205
set_option maxRecDepth 100000
def wc:=cX [] [4,5,6,7] Tryz.func206
def wb:=cX [] [] Tryz.func207
def wa:=cX [] [] Tryz.func208
def wZ:=cX [] [2] Tryz.func209
def iv:=cX [] [2,3] Tryz.func210
def iu:=cX [] [3] Tryz.func211
def wY:=cX [] [] Tryz.func212
def wX:=cX [] [3] Tryz.func213
def wW:=cX [] [4] Tryz.func214
def wV:=cX [] [] Tryz.func215
def wU:=cX [] [3] Tryz.func216
def Yb:=cX [] [3] Tryz.func217
def wT:=cX [] [] Tryz.func218
def wS:=cX [] [2] Tryz.func219
def wR:=cX [] [] Tryz.func220
def wQ:=cX [] [2] Tryz.func221
def wP:=cX [] [] Tryz.func222
def wO:=cX [] [1] Tryz.func223
def wN:=cX [] [2] Tryz.func225
abbrev jc:Aq:=(.H3 [⟨(some 2),.alloc [(.b false)],none⟩])
def qo:List BD:=[⟨(some 3),.ra (.func 301) [] [(.t 2)],none⟩]
abbrev ja:Aq:=(.seq [2] (.H3 [⟨(some 4),.mv (.t 0),none⟩,
 ⟨(some 5),.Py (.t 4) [],none⟩])
 (.seq [2] (.H3 [⟨none,.store 1 (.t 2) (.c (.b true)),none⟩])
 .ret))
def su:Tryz.f236.body.bind (P4 Tryz.prog Tryz.f236.ntmps [] [])=some (erase jc,qo,(.t 3),erase ja):=by kernel_rfl
def wM {args:List V} (hn:args.length<=6) {Z:AE} {Q:R->AE->Prop} (h:W Tryz.prog (.seq [0,2] jc (.H3 qo)) (CZ (fo Tryz.prog (.t 3) [0,2] ja [.c 2 none] Q)) (C1 0 args) Z):As Tryz.prog 236 args Z Q:=
 RV Tryz.func236 (by kernel_rfl) su (by kernel_rfl) hn (rR h)
def wL:=cX [] [] Tryz.func237
def wK:=cX [] [1] Tryz.func238
def ir:=cX [] [] Tryz.func239
def wJ:=cX [] [7] Tryz.func240
def wI:=cX [] [3,4,5] Tryz.func241
def wH:=cX [] [3,4] Tryz.func242
def wG:=cX [] [] Tryz.func243
def wF:=cX [] [1] Tryz.func244
def wE:=cX [] [] Tryz.func246
def wD:=cX [] [] Tryz.func254
def wB:=cX [] [] Tryz.func255
def wA:=cX [] [] Tryz.func256
def v8:=cX [] [2,3] Tryz.func257
def v7:=cX [] [3,4] Tryz.func258
set_option maxRecDepth 100000
def im:=cX [] [1,16] Tryz.func259
def Ya:=cX [] [] Tryz.func260
def vz:=Jg [] [] Tryz.func261
def il:=Jg [] [1] Tryz.func262
def vw:=cX [] [2,3] Tryz.func263
def vt:=cX [] [7] Tryz.func264
def ik:=Jg [] [5] Tryz.func265
def vr:=cX [] [4,5] Tryz.func266
def vq:=cX [] [] Tryz.func267
def vj:=cX [] [] Tryz.func268
def ij:=cX [] [] Tryz.func269
def vg:=cX [] [] Tryz.func270
def ve:=cX [] [2] Tryz.func271
def vd:=cX [] [] Tryz.func272
def vZ:=cX [] [] Tryz.func273
def vY:=cX [] [] Tryz.func274
def vX:=cX [] [4] Tryz.func275
def vW:=cX [] [] Tryz.func276
def ig:=cX [] [] Tryz.func277
def vV:=cX [] [] Tryz.func278
def vU:=cX [] [] Tryz.func279
def vT:=cX [] [2,3] Tryz.func280
def vS:=cX [] [] Tryz.func281
def vR:=cX [] [2] Tryz.func282
def vQ:=cX [] [] Tryz.func283
def vP:=cX [] [] Tryz.func284
def vO:=cX [] [1] Tryz.func285
def ie:=cX [] [] Tryz.func286
def vN:=cX [] [] Tryz.func287
def qn:List BD:=[⟨(some 1),.mv (.t 4),none⟩]
abbrev jZ:Aq:=(.seq [0,1,6] (.H3 [⟨(some 5),.mv (.t 1),none⟩,
 ⟨(some 6),.rj 2 true (.t 5),none⟩])
 (.cond (.t 6)
 (.seq [0] (.seq [0,1,3] (.H3 [⟨(some 8),.mv (.t 1),none⟩,
  ⟨(some 9),.rY 424 (.a []) true (.t 8),none⟩,
  ⟨(some 7),.mv (.t 9),none⟩,
  ⟨(some 10),.extract 0 (.t 7),none⟩,
  ⟨(some 11),.extract 1 (.t 7),none⟩,
  ⟨(some 2),.alloc [],none⟩,
  ⟨none,.store 0 (.t 2) (.t 10),none⟩,
  ⟨(some 3),.mv (.t 11),none⟩])
 (.seq [0,1,13] (.H3 [⟨(some 12),.mv (.t 3),none⟩,
  ⟨(some 13),.not (.t 12),none⟩])
 (.cond (.t 13)
 (.H3 [⟨(some 14),.mv (.t 1),none⟩,
  ⟨none,.panic (.t 14),none⟩])
 .skip)))
 (.H3 [⟨none,.store 1 (.t 0) (.c (.b false)),none⟩]))
 .skip))
def sr:Tryz.f301.body.bind (resRec Tryz.prog Tryz.f301.ntmps [] [])=some (4,qn,erase jZ):=by kernel_rfl
def bY {args:List V} (hn:args.length<=15) {m:Option V} {Z:AE} {Q:AE->Prop} (h:W Tryz.prog (.seq [0,1] (.H3 qn) jZ) (R6 Q) (put (some 4) (m.getD .K7) (C1 0 args)) Z):O3 Tryz.prog 301 args m Z Q:=
 TI Tryz.func301 (by kernel_rfl) sr rfl hn (qc h)
def vM:=cX [] [] Tryz.func302
def vL:=cX [] [] Tryz.func303
def vK:=cX [] [] Tryz.func304
def vJ:=cX [] [4] Tryz.func305
def ic:=cX [] [6] Tryz.func306
set_option maxRecDepth 100000
def vI:=cX [] [] Tryz.func315
def vH:=cX [] [3,5] Tryz.func316
def ib:=cX [] [2] Tryz.func317
def vG:=cX [] [] Tryz.func318
def vF:=cX [] [] Tryz.func319
def ia:=cX [] [2] Tryz.func320
def vE:=cX [] [] Tryz.func321
def vD:=cX [] [2] Tryz.func322
def vC:=cX [] [] Tryz.func323
def vB:=Jg [] [2,3] Tryz.func324
def vA:=cX [] [] Tryz.func325
def u9:=cX [] [] Tryz.func326
def u7:=cX [] [] Tryz.func327
def u6:=cX [] [] Tryz.func337
def u5:=cX [] [] Tryz.func338
def u4:=cX [] [] Tryz.func339
def u3:=cX [] [] Tryz.func340
def uz:=cX [] [] Tryz.func341
def uy:=Jg [] [] Tryz.func342
def ux:=Jg [] [3] Tryz.func343
def uw:=cX [] [] Tryz.func344
def uv:=cX [] [] Tryz.func355
def uu:=cX [] [0] Tryz.func356
def ur:=cX [] [] Tryz.func357
def uq:=cX [] [] Tryz.func358
def uo:=cX [] [3] Tryz.func359
def um:=cX [] [] Tryz.func360
def uj:=cX [] [1] Tryz.func361
set_option maxRecDepth 100000
def ui:=cX [] [3] Tryz.func362
def uh:=cX [] [] Tryz.func363
def ug:=cX [] [] Tryz.func370
def uf:=cX [] [0] Tryz.func371
def ue:=cX [] [] Tryz.func384
def ud:=cX [] [] Tryz.func385
def uc:=cX [] [] Tryz.func386
def ub:=cX [] [] Tryz.func387
def ua:=cX [] [] Tryz.func388
def uZ:=cX [] [] Tryz.func389
def uY:=cX [] [] Tryz.func390
def uX:=cX [] [] Tryz.func391
def uW:=cX [] [] Tryz.func393
def iZ:=cX [] [] Tryz.func394
def uV:=cX [] [] Tryz.func395
def uU:=cX [] [3,4,5] Tryz.func404
def uT:=cX [] [] Tryz.func405
def uS:=cX [] [] Tryz.func406
def uQ:=cX [] [4,5] Tryz.func424
def uP:=cX [] [3,4,5] Tryz.func425
@[reducible] noncomputable def zP:=Tryz.prog
end Go.Gl
namespace Go.Gl
open Go.Proofs
attribute [local irreducible] As Ag AY AQ AL AX AP AR AK AW AM AN Ai Ap Sat AT An AZ W
def iN (xs:List Int) (f:Bool) (x:Int) (hx:xs.length<=Ab):Pure zP 315 [.l (iL xs) f,.i .i64 x] (.b (xs.contains x)):=by
 refine vI kZ ?_;refine zh ?_;(repeat clear U K);repeat intro K U
 refine B4 xs.length (fun k (_:Unit)=>[(5,eI (A7 k))]) (fun _ _=>[]) (fun k _=>x∉xs.take k) () rfl (by simp) Sat.nil ?_;rintro k - Z hk hn -;refine zh ?_;(repeat clear U K);repeat intro K U
 refine Gv hk hx (fun y hy hlt=>?_) fun hk=>?_
 .refine zh ?_;(repeat clear U K);repeat intro K U
  refine Jm hy hx rfl ?_;refine zh ?_;(repeat clear U K);repeat intro K U
  refine bN (fun he=>?_) (fun he=>?_)
  .refine zh ?_;(repeat clear U K);repeat intro K U
   refine AG ?_;have:x∈xs:=he ▸ B6 hy;simp[this]
  .refine zh ?_;(repeat clear U K);repeat intro K U
   refine⟨hlt,(),rfl,?_,Sat.nil⟩;rw[AU hy];simp only[Dn,Jf,not_or];exact⟨hn,fun e=>he e.symm⟩
 .refine zh ?_;(repeat clear U K);repeat intro K U
  refine AG ?_;rw[BA hk]at hn;simp[hn]
def Qt (xs:List Int) (f:Bool) (x:Int) (hx:xs.length<=Ab):Pure zP 385 [.l (iL xs) f,.i .i64 x] (.l (iL (xs.filter (· != x))) false):=by
 refine ud kZ ?_;refine zh ?_;(repeat clear U K);repeat intro K U
 refine B4 xs.length (fun k v=>[(5,v),(6,eI (A7 k))]) (fun k v=>[.own v 1 (iL ((xs.take k).filter (· != x)))]) (fun _ _=>True) (.l [] true) rfl trivial (EY Sat.nil 1) ?_;rintro k v Z hk - hs;refine zh ?_;(repeat clear U K);repeat intro K U
 refine Gv hk hx (fun y hy hlt=>?_) fun hk=>?_
 .refine zh ?_;(repeat clear U K);repeat intro K U
  refine Jm hy hx rfl ?_;refine zh ?_;(repeat clear U K);repeat intro K U
  refine pd (fun he=>?_) (fun he=>?_)
  .conv=>whnf
   repeat((first|clear U K|(apply zk;intro K U)|fail);conv=>whnf)
   refine Jm hy hx rfl ?_;refine zh ?_;(repeat clear U K);repeat intro K U
   refine GO hs 0 (x:=y) rfl (by have:=TZ (· != x) (xs.take k);simp only[Je]at this;have hM:=Mx;omega) Cs fun v' Z' hs'=>?_
   refine zh ?_;(repeat clear U K);repeat intro K U
   refine⟨hlt,v',rfl,trivial,?_⟩;rw[AU hy,List.filter_append];simpa[he]using hs'
  .refine zh ?_;(repeat clear U K);repeat intro K U
   refine⟨hlt,v,rfl,trivial,?_⟩;rw[AU hy,List.filter_append];simpa[he]using hs
 .refine zh ?_;(repeat clear U K);repeat intro K U
  exact G0 hs 0 rfl (by rw[BA hk])
def free (ls:List (List Int)) (x:Int):Bool:=ls.all fun l=> !(l.drop 1).contains x
def pZ (ls:List (List Int)) (f:Bool) (x:Int) (hl:ls.length<=Ab) (hls: ∀l∈ls,l.length<=Ab):Pure zP 386 [.l (EV ls) f,.i .i64 x] (.b (free ls x)):=by
 refine uc kZ ?_;refine zh ?_;(repeat clear U K);repeat intro K U
 refine B4 ls.length (fun k (_:Unit)=>[(5,eI (A7 k))]) (fun _ _=>[]) (fun k _=> ∀l∈ls.take k,x∉l.drop 1) () rfl (by simp) Sat.nil ?_;rintro k - Z hk hn -;refine zh ?_;(repeat clear U K);repeat intro K U
 refine Gv hk hl (fun y hy hlt=>?_) fun hk=>?_
 .have hb:=hls _ (B6 hy)
  have next:(x∉y.drop 1)-> ∀l∈ls.take (k+1),x∉l.drop 1:=fun hc l hm=>by
   rw[AU hy]at hm;rcases Dn.1 hm with hm|hm
   .exact hn l hm
   .rw[Jf.1 hm];exact hc
  refine zh ?_;(repeat clear U K);repeat intro K U
  refine Jm hy hl rfl ?_;refine zh ?_;(repeat clear U K);repeat intro K U
  refine⟨fun h=>?_,fun h=>?_⟩<;>(try rw[h])
  .have hp:=of_decide_eq_true h
   simp only[Bc]at hp;refine zh ?_;(repeat clear U K);repeat intro K U
   refine Jm hy hl rfl ?_;refine zh ?_;(repeat clear U K);repeat intro K U
   refine V9 1 rfl (by omega) (fun _=>rfl) ?_;refine zh ?_;(repeat clear U K);repeat intro K U
   refine(iN _ _ _ (by rw[yN];omega)).use ?_;refine zh ?_;(repeat clear U K);repeat intro K U
   refine⟨fun hc=>?_,fun hc=>?_⟩
   .refine zh ?_;(repeat clear U K);repeat intro K U
    refine AG ?_
    have:free ls x=false:=by
     simp only[free,List.all_eq_false];exact⟨y,B6 hy,by simpa using hc⟩
    rw[this]
   .refine zh ?_;(repeat clear U K);repeat intro K U
    exact⟨hlt,(),rfl,next (by simpa using hc),Sat.nil⟩
  .have hp: ¬_:=of_decide_eq_false h
   simp only[Bc]at hp;refine zh ?_;(repeat clear U K);repeat intro K U
   refine⟨hlt,(),rfl,next ?_,Sat.nil⟩;rw[List.drop_eq_nil_of_le (by omega)];simp
 .refine zh ?_;(repeat clear U K);repeat intro K U
  rw[BA hk]at hn;refine AG ?_;have:free ls x=true:=by simpa[free]using hn
  rw[this]
def A3 (ls:List (List Int)) (c:Int):List Int:=if c<3 then []else ls.getD (c - 3).toNat []
def Y2 (ls:List (List Int)) (f:Bool) (c:Int) (hc:c<3+ls.length) (hm:ls.length<=Ab):Pure zP 384 [.l (EV ls) f,.i .i64 c] (.l (iL (A3 ls c)) false):=by
 refine ue kZ ?_;refine zh ?_;(repeat clear U K);repeat intro K U
 refine fork (fun h=>?_) (fun h=>?_)
 .refine zh ?_;(repeat clear U K);repeat intro K U
  refine Af (.l (fun h=>(by cases h)) ?_);rw[A3,if_pos h];exact .nil
 .refine zh ?_;(repeat clear U K);repeat intro K U
  simp only[Ab]at hm;have hlt:(c - 3).toNat<ls.length:=by omega
  refine VR (c - 3).toNat (Cd hlt) (by rw[wrap64 (by omega) (by omega)];omega) rfl ?_;refine zh ?_;(repeat clear U K);repeat intro K U
  refine AG ?_;rw[A3,if_neg h,Cq,Cd hlt];rfl
def Ed (ls os:List (List Int)) (c:Int):Option (List (List Int)):=
 if(A3 ls c).any fun p=>(os.getD p.toNat []).isEmpty then none else some ((A3 ls c).map (fun p=>(os.getD p.toNat []).filter (· != 0))++[A3 ls c])
def zO (o:Option (List (List Int))):V:=match o with|some l=> .t [.l (EV l) false,.b true]|none=> .t [.l [] false,.b false]
def lI (ls os:List (List Int)) (f:Bool) (w:V) (c:Int) (hc:c<3+ls.length) (hm:ls.length<=Ab) (hos: ∀o∈os,o.length<=Ab) (hpl:(A3 ls c).length<1000000)
    (hp: ∀p∈A3 ls c,0<=p/\p.toNat<os.length):BL zP 355 [.l (EV ls) f,w,.i .i64 c] [.own w 1 (EV os)] fun r post=>r= .ret (zO (Ed ls os c))/\post= [.own w 1 (EV os)]:=by
 have hM:=Mx;intro Z hs;refine uv kZ ?_
 conv=>whnf
 repeat((first|clear U K|apply st|(apply zk;intro K U)|fail);conv=>whnf)
 refine(Y2 _ _ _ hc hm).use ?_;refine zh ?_;(repeat clear U K);repeat intro K U
 refine B4 (A3 ls c).length (fun k v=>[(8,v),(10,eI (A7 k))]) (fun k v=>[.own w 1 (EV os),.own v 1 (EV (((A3 ls c).take k).map fun p=>(os.getD p.toNat []).filter (· != 0)))]) (fun k _=> ∀p∈(A3 ls c).take k,(os.getD p.toNat []).isEmpty=false)
  (.l [] true) rfl (by simp) (EY hs 1) ?_
 rintro k v Z hk hne hs;refine zh ?_;(repeat clear U K);repeat intro K U
 refine Gv hk (by omega) (fun p hpk hlt=>?_) fun hk=>?_
 .obtain ⟨hp0,hp1⟩:=hp _ (B6 hpk)
  have hq:=Cd hp1
  have hgd:os.getD p.toNat []=os[p.toNat]:=by
   rw[Cq,hq];rfl
  have hqm:(EV os)[p.toNat]? =some [.l (iL os[p.toNat]) false]:=by rw[LY,hq];rfl
  refine zh ?_;(repeat clear U K);repeat intro K U
  refine Jm hpk (by omega) rfl ?_;refine zh ?_;(repeat clear U K);repeat intro K U
  refine fG hs 0 p.toNat rfl (by omega) (by simpa using hp1) ?_
  conv=>whnf
  refine I0 hs 0 rfl hqm ?_;refine zh ?_;(repeat clear U K);repeat intro K U
  refine bN (fun he=>?_) (fun he=>?_)
  .refine zh ?_;(repeat clear U K);repeat intro K U
   have hn:Ed ls os c=none:=by
    simp only[Ed];rw[if_pos];rw[GY];refine⟨p,B6 hpk,?_⟩;rw[hgd];have:(os[p.toNat]).length=0:=by simpa using he
    simp[Xv.1 this]
   rw[hn];exact Au (l':=[.own w 1 (EV os)]) hs (by simp) (.t (.cons (.l (fun h=>(by cases h)) .nil) (.cons (.refl _) .nil))) fun Z' hs'=>⟨_,⟨rfl,rfl⟩,hs'⟩
  .refine zh ?_;(repeat clear U K);repeat intro K U
   refine Jm hpk (by omega) rfl ?_;refine zh ?_;(repeat clear U K);repeat intro K U
   refine fG hs 0 p.toNat rfl (by omega) (by simpa using hp1) ?_
   conv=>whnf
   refine I0 hs 0 rfl hqm ?_
   conv=>whnf
   refine(Qt _ _ _ (hos _ (List.getElem_mem hp1))).use ?_
   conv=>whnf
   refine GO hs 1 (x:=os[p.toNat].filter (· != 0)) rfl (by have hM:=Mx;simp;omega) DQ fun v' Z' hs'=>?_
   refine zh ?_;(repeat clear U K);repeat intro K U
   refine⟨hlt,v',rfl,fun q hm=>?_,?_⟩
   .rw [AU hpk]at hm
    rcases Dn.1 hm with hm|hm
    .exact hne q hm
    .rw[Jf.1 hm,hgd]
     have:(os[p.toNat]).length≠0:=by
      intro e;exact he (by simp[e])
     cases hq:os[p.toNat]with
     | nil=>rw[hq]at this;exact absurd rfl this
     | cons _ _=>rfl
   .rw[AU hpk,LX,List.map_singleton,hgd]
    exact hs'
 .rw[BA hk]at hne hs
  refine zh ?_;(repeat clear U K);repeat intro K U
  refine GO hs 1 (x:=A3 ls c) rfl (by have hM:=Mx;simp;omega) DQ fun v' Z' hs'=>?_
  refine zh ?_;(repeat clear U K);repeat intro K U
  have hn:Ed ls os c=some ((A3 ls c).map (fun p=>(os.getD p.toNat []).filter (· != 0))++[A3 ls c]):=by
   simp only[Ed];rw[if_neg];rw[GY];rintro⟨p,h1,h2⟩;rw[hne p h1]at h2;cases h2
  rw[hn];obtain⟨Z2,h1,h2,h3⟩:=HT hs' 1 rfl;exact Fx h1 (.t (.cons h2 (.cons (.refl _) .nil))) ⟨_,⟨rfl,rfl⟩,h3⟩
def Vn {w:AF} (h:Fc (.a (A5 w))):w.parents.length<=Ab/\(∀l∈w.parents,l.length<=Ab)/\w.owner.length<=Ab:=by
 simp only[A5,J0,Ey,Gw,J9,Bc]at h;exact⟨h.1.1,fun l hl=>(h.1.2 l hl).1.1,h.2.1.1⟩
def OR {xs:List Int} {g:Bool} (h:Fc (.l (iL xs) g)):xs.length<=Ab:=by
 simp only[Gw,Bc]at h;exact h.1
def JL {f:Fact} (h:Fc (.a (xF f))):f.kids.length<=Ab/\f.path.length<=Ab/\ ∀k∈f.kids,Fc (.a (xF k)):=by
 simp only[J0,Ey,Gw,J9,Bc]at h;exact⟨h.2.2.2.2.2.1.1,h.2.2.1.1,fun k hk=>by have:=h.2.2.2.2.2.1.2 k hk;rw[BC]at this;exact this⟩
def O1 (w:AF) (c:Int):Bool:=decide (0<=c)&&decide (c<3+w.parents.length)
def mC (w:AF) (c:Int):Pure zP 177 [.a (A5 w),eI c] (.b (O1 w c)):=by
 refine Pure.fit (by kernel_rfl) fun hf=>?_
 have⟨h1,h2,h3⟩:=Vn hf.1;have hM:=Mx;refine xH kZ ?_
 conv=>whnf
 repeat'((first|clear U K|apply st|(apply zk;intro K U)|refine zn ?_|refine za (fun hc=>?_) fun hc=>?_|fail)<;>conv=>whnf)
 .exact AG (by rw[Bc,wrap64 (by omega) (by omega)];simp[O1,hc])
 .exact AG (by simp[O1,hc];intros;omega)
def IA (w:AF) (s:Int):Bool:=decide (0<=s)&&decide (s<w.owner.length)
def EH (w:AF) (p:List Int):Bool:=p.all (IA w)&&decide (p.length<=2)
def oM (w:AF) (p:List Int) (g:Bool):Pure zP 178 [.a (A5 w),.l (iL p) g] (.b (EH w p)):=by
 refine Pure.fit (by kernel_rfl) fun hf=>?_
 have⟨h1,h2,h3⟩:=Vn hf.1;have h4:=OR hf.2.1;have hM:=Mx;refine xG kZ ?_;refine zu ?_;(repeat clear U K);repeat intro K U
 refine B4 p.length (fun k (_:Unit)=>[(9,eI (A7 k))]) (fun _ _=>[]) (fun k _=>p.all (IA w)=(p.drop k).all (IA w)) () rfl rfl Sat.nil ?_;rintro k - Z hk hn hs
 conv=>whnf
 repeat'((first|clear U K|apply st|(apply zk;intro K U)|refine zn ?_|(refine fc (fun x hx hlt hc=>?_) (fun hk hc=>?_)<;>(try rw[hc])<;>clear hc)|(refine zd (fun hc=>?_) (fun hc=>?_)<;>try exact⟨⟩)|fail)<;>conv=>whnf)
 .exact AG (by rw[EH,hn,drop_cons hx];simp[IA,hc];intros;omega)
 .exact⟨hlt,(),rfl,by rw[hn,drop_cons hx];simp[IA, *],hs⟩
 .exact AG (by rw[EH,hn,drop_cons hx];simp[IA,hc];intros;omega)
 .exact AG (by rw[EH,hn,Aj hk];simp;omega)
def Be (f:Fact):Bool:=f.op==2||f.op==3||f.op==4
def au (f:Fact):Pure zP 97 [.a (xF f)] (.b (Be f)):=by
 refine AAI kZ ?_
 conv=>whnf
 repeat'((first|clear U K|apply st|(apply zk;intro K U)|refine zn ?_|refine za (fun hc=>?_) fun hc=>?_|fail)<;>conv=>whnf)
 all_goals exact AG (by simp[Be, *])
def DD:List (Int->Int)->Int->Int->Int
 | [],n,_=>n
 | k::r,n,most=>if n<=most then DD r (n+k (most - n)) most else n
def B5 (f:Fact):Int->Int:=f.Fe fun _ l most=>DD l 1 most
def Ig (f:Fact) (most:Int):B5 f most=DD (f.kids.map B5) 1 most:=by
 rw[B5,Fact.CJ];rfl
def RD {most:Int}: ∀(l:List (Int->Int)) (n:Int),(∀g∈l,∀m,0<=m->1<=g m/\g m<=m+1)->1<=n->n<=most+1->1<=DD l n most/\DD l n most<=most+1
 | [],n,_,h1,h2=>⟨h1,h2⟩
 | g ::r,n,h,h1,h2=>by
   rw[DD];split
   .have:=h g (List.mem_cons_self ..) (most - n) (by omega)
    exact RD r _ (fun g hg=>h g (List.mem_cons_of_mem _ hg)) (by omega) (by omega)
   .exact⟨h1,h2⟩
def Lt (f:Fact): ∀m,0<=m->1<=B5 f m/\B5 f m<=m+1:=by
 induction f using Fact.ind with
 | h f ih=>
   intro m hm;rw[Ig];refine RD _ _ (fun g hg=>?_) (by omega) (by omega);obtain⟨k,hk,rfl⟩:=GK.1 hg;exact ih k hk
def k9 (f:Fact): ∀most:Int,0<=most->most<=1000->Pure zP 176 [.a (xF f),eI most] (eI (B5 f most)):=by
 induction f using Fact.ind with
 | h f ih=>
   intro most h0 h1;refine Pure.fit (by kernel_rfl) fun hf=>?_
   have⟨h2,h3,h4⟩:=JL hf.1;have hM:=Mx;refine xI kZ ?_;refine zu ?_;(repeat clear U K);repeat intro K U
   refine B4 f.kids.length (fun k (n:Int)=>[(5,eI n),(6,eI (A7 k))]) (fun _ _=>[]) (fun k n=>1<=n/\n<=most+1/\B5 f most=DD ((f.kids.drop k).map B5) n most) 1 rfl ⟨by omega,by omega,by rw[List.drop_zero];exact Ig f most⟩ Sat.nil ?_;rintro k n Z hk ⟨hn1,hn2,hn⟩ hs
   conv=>whnf
   repeat'((first|clear U K|apply st|(apply zk;intro K U)|refine zn ?_|(refine fc (fun x hx hlt hc=>?_) (fun hk hc=>?_)<;>(try rw[hc])<;>clear hc)|refine za (fun hc=>?_) fun hc=>?_|fail)<;>conv=>whnf)
   .rw[wrap64 (by omega) (by omega)]
    have hb:=Lt x (most - n) (by omega);refine(ih x (B6 hx) (most - n) (by omega) (by omega)).use ?_;refine zu ?_;(repeat clear U K);repeat intro K U
    rw[wrap64 (by omega) (by omega)];exact⟨hlt,_,rfl,⟨by omega,by omega,by rw[hn,drop_cons hx,CK,DD,if_pos hc]⟩,hs⟩
   .exact AG (by rw[hn,drop_cons hx,CK,DD,if_neg (by omega)])
   .exact AG (by rw[hn,Aj hk];rfl)
def lA (f:Fact):Pure zP 94 [.a (xF f)] (eI (B5 f 24)):=by
 refine AAL kZ ?_;refine zu ?_;(repeat clear U K);repeat intro K U
 refine(k9 f 24 (by omega) (by omega)).use ?_;exact zW
def CC (f:Fact):Nat:=f.Fe fun _ l=>1+l.sum
def EU (f:Fact):CC f=1+(f.kids.map CC).sum:=Fact.CJ _ f
def bb {f k:Fact} (h:k∈f.kids):CC k<CC f:=by
 have: ∀l:List Fact,k∈l->CC k<=(l.map CC).sum:=fun l=>by
  induction l with
  | nil=>intro h;cases h
  | cons x r ih=>
    intro h;simp only[CK,List.sum_cons];rcases Ep.1 h with rfl|h
    .omega
    .have:=ih h;omega
 have:=this _ h;rw[EU f];omega
def RC {most:Int}: ∀(l:List Fact) (n:Int),(∀k∈l,∀m,0<=m->B5 k m<=m->B5 k m=CC k)->0<=n->DD (l.map B5) n most<=most->DD (l.map B5) n most=n+(l.map CC).sum
 | [],n,_,_,_=>by simp[DD]
 | k :: r, n,h,h0,h1=>by
   simp only[CK,DD]at *;split at h1
   .rename_i hc
    rw[if_pos hc];have hb:=Lt k (most - n) (by omega)
    have hge: ∀(l:List Fact) (a:Int),a<=DD (l.map B5) a most:=fun l=>by
     induction l with
     | nil=>intro a;exact Int.le_refl _
     | cons y l ih=>
       intro a;simp only[CK,DD];split
       .have:=Lt y (most - a) (by omega)
        have:=ih (a+B5 y (most - a));omega
       .exact Int.le_refl _
    have h2:=hge r (n+B5 k (most - n));have h3:=h k (List.mem_cons_self ..) (most - n) (by omega) (by omega);have h4:=RC r (n+B5 k (most - n)) (fun k' hk'=>h k' (List.mem_cons_of_mem _ hk')) (by omega) h1;simp only[List.sum_cons];omega
   .rename_i hc
    omega
def G3 (f:Fact): ∀m,0<=m->B5 f m<=m->B5 f m=CC f:=by
 induction f using Fact.ind with
 | h f ih=>
   intro m h0 h1;rw[Ig]at *;rw[RC f.kids 1 ih (by omega) h1,EU];omega
def HN (a b:Int):Int:=if a<b then b else a
def ET (f:Fact):Int:=f.Fe fun _ l=>l.foldl HN 0+1
def Im (f:Fact):ET f=(f.kids.map ET).foldl HN 0+1:=Fact.CJ _ f
def LV {m:Int}: ∀(l:List Int) (a:Int),(∀x∈l,x<=m)->a<=m->l.foldl HN a<=m
 | [],_,_,h=>h
 | x::r,a,h,h'=>by
   refine LV r _ (fun y hy=>h y (List.mem_cons_of_mem _ hy)) ?_;have:=h x (List.mem_cons_self ..);unfold HN;split<;>omega
def F1: ∀(l:List Int) (a:Int),a<=l.foldl HN a
 | [],_=>Int.le_refl _
 | x::r,a=>by
   refine Int.le_trans ?_ (F1 r _);unfold HN;split<;>omega
def ZQ (f:Fact):1<=ET f/\ET f<=CC f:=by
 induction f using Fact.ind with
 | h f ih=>
   rw[Im];have h1:=F1 (f.kids.map ET) 0
   have h2:(f.kids.map ET).foldl HN 0<=(CC f:Int) - 1:=by
    refine LV _ _ (fun x hx=>?_) (by have:=EU f;omega);obtain⟨k,hk,rfl⟩:=GK.1 hx;have:=(ih k hk).2;have:=bb hk;omega
   omega
def Ek {α:Type} {xs:List α} {k:Nat} {x:α} {β:Type} (g:α->β) (h:β->β->β) (a:β) (hx:xs[k]? =some x):((xs.take (k+1)).map g).foldl h a=h (((xs.take k).map g).foldl h a) (g x):=by
 rw[AU hx,LX,List.foldl_append];rfl
def ly (f:Fact):CC f<=Ab->Pure zP 95 [.a (xF f)] (eI (ET f)):=by
 induction f using Fact.ind with
 | h f ih=>
   intro hc;refine Pure.fit (by kernel_rfl) fun hf=>?_
   have⟨h2,h3,h4⟩:=JL hf.1;have hM:=Mx;refine AAK kZ ?_;refine zu ?_;(repeat clear U K);repeat intro K U
   refine B4 f.kids.length (fun k (_:Unit)=>[(3,eI (((f.kids.take k).map ET).foldl HN 0)),(9,eI (A7 k))]) (fun _ _=>[]) (fun _ _=>True) () rfl trivial Sat.nil ?_;rintro k - Z hk - hs
   conv=>whnf
   repeat'((first|clear U K|apply st|(apply zk;intro K U)|refine zn ?_|refine zr fun Z hs=>?_|(refine fc (fun x hx hlt hc=>?_) (fun hk hc=>?_)<;>(try rw[hc])<;>clear hc)|refine zp fun nn hnn Z hs=>?_|fail)<;>conv=>whnf)
   .refine(ih x (B6 hx) (by have:=bb (B6 hx);omega)).use ?_
    refine zu ?_;(repeat clear U K);repeat intro K U
    exact⟨hlt,(),by rw[Ek _ _ _ hx];rfl,trivial,Sat.nil⟩
   .have:=ZQ f
    rw[Im]at this;exact AG (by rw[BA hk,wrap64 (by omega) (by omega),<-Im])
def Cj (f:Fact):Int:=f.Fe fun f l=>l.foldl HN (if Be f then f.arg+1 else 0)
def EE (f:Fact):Cj f=(f.kids.map Cj).foldl HN (if Be f then f.arg+1 else 0):=Fact.CJ _ f
def Pz (f:Fact):Bool:=f.Fe fun f l=>decide (0<=f.arg)&&decide (f.arg<3)&&l.all id
def M9 (f:Fact):Pz f=(decide (0<=f.arg)&&decide (f.arg<3)&&(f.kids.map Pz).all id):=Fact.CJ _ f
def kD (f:Fact):Pz f=true->Pure zP 29 [.a (xF f)] (eI (Cj f)):=by
 induction f using Fact.ind with
 | h f ih=>
   intro ha;refine Pure.fit (by kernel_rfl) fun hf=>?_
   have⟨h2,h3,h4⟩:=JL hf.1;have hM:=Mx;rw[M9]at ha;simp only[A4,B7,List.all_map,Cu]at ha;refine AAm kZ ?_;refine zu ?_;(repeat clear U K);repeat intro K U
   refine(au f).use ?_
   conv=>whnf
   repeat'((first|clear U K|apply st|(apply zk;intro K U)|refine zn ?_|refine za (fun hc=>?_) fun hc=>?_|fail)<;>conv=>whnf)
   .refine B4 f.kids.length (fun k (_:Unit)=>[(3,eI (((f.kids.take k).map Cj).foldl HN (if Be f then f.arg+1 else 0))),(14,eI (A7 k))]) (fun _ _=>[]) (fun _ _=>True) () (by rw[wrap64 (by omega) (by omega),if_pos hc];rfl) trivial Sat.nil ?_
    rintro k - Z hk - hs
    conv=>whnf
    repeat'((first|clear U K|apply st|(apply zk;intro K U)|refine zn ?_|refine zr fun Z hs=>?_|(refine fc (fun x hx hlt hc=>?_) (fun hk hc=>?_)<;>(try rw[hc])<;>clear hc)|refine zp fun nn hnn Z hs=>?_|fail)<;>conv=>whnf)
    .refine(ih x (B6 hx) (ha.2 x (B6 hx))).use ?_
     refine zu ?_;(repeat clear U K);repeat intro K U
     exact⟨hlt,(),by rw[Ek _ _ _ hx];rfl,trivial,Sat.nil⟩
    .exact AG (by rw[BA hk,<-EE])
   .refine B4 f.kids.length (fun k (_:Unit)=>[(3,eI (((f.kids.take k).map Cj).foldl HN (if Be f then f.arg+1 else 0))),(14,eI (A7 k))]) (fun _ _=>[]) (fun _ _=>True) () (by rw[if_neg (c:=Be f=true) (by simp[hc])];rfl) trivial Sat.nil ?_
    rintro k - Z hk - hs
    conv=>whnf
    repeat'((first|clear U K|apply st|(apply zk;intro K U)|refine zn ?_|refine zr fun Z hs=>?_|(refine fc (fun x hx hlt hc=>?_) (fun hk hc=>?_)<;>(try rw[hc])<;>clear hc)|refine zp fun nn hnn Z hs=>?_|fail)<;>conv=>whnf)
    .refine(ih x (B6 hx) (ha.2 x (B6 hx))).use ?_
     refine zu ?_;(repeat clear U K);repeat intro K U
     exact⟨hlt,(),by rw[Ek _ _ _ hx];rfl,trivial,Sat.nil⟩
    .exact AG (by rw[BA hk,<-EE])
end Go.Gl
