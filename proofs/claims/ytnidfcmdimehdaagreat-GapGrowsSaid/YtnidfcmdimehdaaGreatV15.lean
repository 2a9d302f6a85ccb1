import Derived.Shelf.Sort.Plain
import Derived.Test.YtnidfcmdimehdaaGreatProg
import Derived.KernelRfl
import Derived.Test.YtnidfcmdimehdaaGreatV12
import Derived.Test.YtnidfcmdimehdaaGreatV13
import Derived.Test.YtnidfcmdimehdaaGreatV14
set_option linter.all false
set_option linter.defProp false
set_option maxHeartbeats 8000000
noncomputable section
namespace Go.Gl
open Go.Proofs Go.Shelf
abbrev HZ (x y:Int):Bool:=decide (x<=y)
def jk {P:Program} {f:FuncId} (hok:okF P f=true)
    (hc: ∀(blk cap:Nat) (zs:List Int) (w:World),Sort.Holds (Value.int .i64) w blk 0 zs.toArray->blk<w.heap.size->zs.length<4611686018427387904->
     Calls P f #[.slice (some ⟨blk,0,none⟩) zs.length cap] w fun e w'=>e= .returned (.tuple #[])/\ ∃n os,w'=Sort.grow (Sort.putRow (Value.int .i64) (Sort.ahead w n) blk 0 (zs.mergeSort fun x y=>decide (x<=y)).toArray) os)
    (xs:List Int) (n len cap:Nat):BO P f [.sl n len cap] [.own (.sl n len cap) 1 (iL xs)] fun r post=>r= .ret (.t [])/\post= [.own (.sl n len cap) 1 (iL (xs.mergeSort HZ))]:=by
 intro Z hs;refine⟨hok,fun F w cs hR hv=>?_⟩;rcases hs.get (i:=0) rfl with⟨h,_⟩|⟨n',cap',h,hn⟩
 .cases h
 cases h;rw[CW]at hv;obtain⟨c,e,hb,h1,h2,h3,h4⟩:=E5 hR hn;rw[CW]at h2 h3;have hM:Ad=17592186044416:=rfl;rw[BC]at h4
 have hcell: ∀j x,xs[j]? =some x->c[j]? =some (Value.int .i64 x)/\IntKind.i64.min<=x/\x<=IntKind.i64.max:=fun j x hx=>by
  have:=(h4 j [.i .i64 x] (by rw[OU,hx];rfl)).2;simp only[BV,Nat.mul_one,Gq]at this;obtain⟨⟨d,hd,hr⟩,_⟩:=this;simp only[AY]at hr;obtain⟨rfl,hr⟩:=hr;exact⟨hd,hr⟩
 have hcs:cs= #[.slice (some ⟨n,0,none⟩) xs.length cap]:=by
  obtain⟨hsz,hv⟩:=hv;simp only[BV,AY]at hv;obtain⟨⟨d,hd,rfl,_⟩,_⟩:=hv;simp at hsz;apply Array.ext_getElem?;intro i;rcases i with _|i
  .simpa using hd
  .rw[Array.getElem?_eq_none (by omega),Array.getElem?_eq_none (by simp)]
 subst hcs
 have hH:Sort.Holds (Value.int .i64) w n 0 xs.toArray:=fun j hj=>by
  have hj':j<xs.length:=by simpa using hj
  obtain⟨h5,_⟩:=hcell j xs[j] (Dp hj');refine⟨?_,?_⟩
  .rw[Gq,DZ hb,h5]
   simp[getElem!_pos,hj']
  .rw[Gq];exact RG hb
 refine(hc n cap xs w hH (hR.lt hn) (by omega)).mono fun e' w' ⟨he,k,os,hw⟩=>?_
 subst he;have hlen:(xs.mergeSort HZ).length=xs.length:=List.length_mergeSort _
 have hheap: ∀m,m<w.heap.size->w'.heap[m]? =if m=n then some (.cells (Sort.putCells (Value.int .i64) 0 (xs.mergeSort HZ).toArray c) e (0,0))else w.heap[m]? :=fun m hm=>by
  rw[hw];simp only[Sort.grow,Sort.putRow,Sort.mapBlock,Sort.ahead];rw[Array.getElem?_append_left (by simpa using hm),Array.getElem?_modify];by_cases e1:n=m
  .subst e1
   rw[if_pos rfl,if_pos rfl,hb];rfl
  .rw[if_neg e1,if_neg (Ne.symm e1)]
 have hadv:B7 F Z w (Bu Z n (.arr 1 (iL (xs.mergeSort HZ)) cap)) w':=by
  refine⟨fun m hm h0=>?_,?_,by rw[hw];rfl,by rw[hw];rfl,by rw[hw];rfl,fun m h0 _=>?_⟩
  .rw[hheap m hm,if_neg]
   intro e1;subst e1;rw[hn]at h0;cases h0
  .rw[hw];simp[Sort.grow]
  .rw[CY _ _ (fun e1=>by subst e1;rw[hn]at h0;cases h0)];exact h0
 refine⟨.ret (.t []),Bu Z n (.arr 1 (iL (xs.mergeSort HZ)) cap),⟨_,⟨rfl,rfl⟩,?_⟩,?_,?_,hadv⟩
 .refine⟨fun a ha=>?_,List.pairwise_singleton _ _⟩
  rw[Lu.1 ha];exact .inr ⟨n,cap,by simp[hlen],C3 _ _ _⟩
 .exact⟨_,rfl,by simp[AY,BV]⟩
 .refine hR.step hadv fun m o ho=>?_
  by_cases e1:m=n
  .subst e1
   rw[C3]at ho;cases ho;refine .inr ⟨(hR.own _ _ hn).1,_,(hheap m (hR.lt hn)).trans (if_pos rfl),_,_,rfl,by simpa[Sort.putCells]using h1,by simpa[hlen]using h2,by simpa[hlen]using h3,?_⟩;rw[BC];intro i r hi;rw[OU]at hi;cases hx:(xs.mergeSort HZ)[i]? with
   | none=>rw[hx]at hi;cases hi
   | some x=>
     rw[hx]at hi;cases hi;have hil:i<xs.length:=by have:=(JM.1 hx).1;omega
     have hxm:x∈xs:=(List.mergeSort_perm xs HZ).mem_iff.1 (Cm hx);obtain⟨j,hj⟩:=List.getElem?_of_mem hxm;have hbd:=(hcell j x hj).2;obtain⟨hci,_⟩:=hcell i xs[i] (Dp hil);have hcl:i<c.size:=(rL.1 hci).1;refine⟨rfl,?_⟩;simp only[BV,Nat.mul_one,Gq,AY,and_true];refine⟨_,?_,rfl,hbd⟩;simp only[Sort.putCells,Array.getElem?_mapIdx];rw[hci];have hxe:=(JM.1 hx).2;simp[hlen,hil,getElem!_pos,hxe]
  .rw[CY _ _ e1]at ho
   exact .inl ⟨ho,(hheap m (hR.lt ho)).trans (if_neg e1)⟩
def m4 (xs:List Int) (n len cap:Nat):BO Tryz.prog 190 [.sl n len cap] [.own (.sl n len cap) 1 (iL xs)] fun r post=>r= .ret (.t [])/\post= [.own (.sl n len cap) 1 (iL (xs.mergeSort HZ))]:=
 jk (by kernel_rfl) (fun blk cap zs w h1 h2 h3=>Any.slices_Sort_int Tryz.oF blk 0 cap zs w h1 h2 h3) xs n len cap
end Go.Gl
namespace Go.Gl
open Go.Proofs
set_option maxRecDepth 100000
def yL:=cX [] [3] Tryz.func3
def sF:=cX [] [2] Tryz.func7
def sE:=cX [] [2] Tryz.func8
def zm:=X1 [] [] Tryz.func10
def zj:=cX [] [] Tryz.func11
def zi:=cX [] [] Tryz.func12
def zf:=cX [] [1] Tryz.func13
def zZ:=cX [] [] Tryz.func14
def zV:=X1 [] [1] Tryz.func27
def gN:=X1 [] [3] Tryz.func31
def zU:=cX [] [1] Tryz.func32
def zT:=cX [] [2] Tryz.func33
def zS:=cX [] [1] Tryz.func34
def zR:=cX [] [2,3] Tryz.func35
set_option maxRecDepth 100000
def zQ:=cX [] [] Tryz.func45
def zO:=cX [] [] Tryz.func46
def zN:=cX [] [1] Tryz.func47
def zM:=cX [] [] Tryz.func48
def zL:=cX [] [2,3] Tryz.func49
def qv:=cX [] [2] Tryz.func51
def zK:=cX [] [2] Tryz.func52
def zJ:=cX [] [] Tryz.func53
def qu:=cX [] [] Tryz.func66
def zI:=cX [] [1,19] Tryz.func76
def zH:=cX [] [2] Tryz.func77
def zG:=cX [] [2,3] Tryz.func78
def zF:=cX [] [2,3] Tryz.func79
abbrev rC:AT:=(.DA [⟨(some 4),.alloc [(.b false)],none⟩])
def x8:List Ao:=[⟨(some 5),.ep (.func 126) [] [(.t 4)],none⟩]
abbrev rB:AT:=(.seq [4] (.DA [⟨(some 6),.mv (.t 0),none⟩,
 ⟨(some 7),.mv (.t 1),none⟩,
 ⟨(some 8),.call 81 [(.t 6),(.t 7)],none⟩,
 ⟨(some 9),.call 127 [(.t 8)],none⟩])
 (.seq [4] (.DA [⟨none,.store 1 (.t 4) (.c (.b true)),none⟩])
 .ret))
def yY:Tryz.f80.body.bind (LI Tryz.prog Tryz.f80.ntmps [] [])=some (erase rC,x8,(.t 5),erase rB):=by kernel_rfl
def zE {args:List V} (hn:args.length<=10) {Z:AE} {Q:R->AE->Prop} (h:W Tryz.prog (.seq [0,1,4] rC (.DA x8)) (CU (fo Tryz.prog (.t 5) [0,1,4] rB [.c 4 none] Q)) (A5 0 args) Z):Av Tryz.prog 80 args Z Q:=
 It Tryz.func80 (by kernel_rfl) yY (by kernel_rfl) hn (rG h)
def zD:=cX [] [11] Tryz.func81
set_option maxRecDepth 100000
def gM:=X1 [] [2] Tryz.func87
def zB:=cX [] [1] Tryz.func88
def zA:=cX [] [1] Tryz.func89
def y9:=cX [] [2,3] Tryz.func90
def y8:=cX [] [] Tryz.func91
def y7:=cX [] [] Tryz.func92
def y6:=X1 [] [] Tryz.func93
def gL:=cX [] [2,3] Tryz.func94
def y5:=cX [] [] Tryz.func95
def y4:=cX [] [2,3] Tryz.func96
def qt:=X1 [] [1] Tryz.func99
def xI:=cX [] [1] Tryz.func101
def xH:=cX [] [2,3] Tryz.func102
def xG:=cX [] [1] Tryz.func103
def ig:=cX [] [6] Tryz.func104
def xE:=cX [] [] Tryz.func105
def xD:=X1 [] [2] Tryz.func106
def xC:=cX [] [] Tryz.func107
def xB:=cX [] [] Tryz.func108
def xA:=cX [] [] Tryz.func109
def ie:=cX [] [] Tryz.func114
def w9:=cX [] [2,3] Tryz.func116
def w8:=cX [] [1] Tryz.func118
def w7:=cX [] [2] Tryz.func119
def wz:=cX [] [] Tryz.func120
def wy:=cX [] [4,5,6] Tryz.func121
def wx:=cX [] [1] Tryz.func122
def wu:=cX [] [5] Tryz.func123
def wq:=cX [] [] Tryz.func124
def wm:=cX [] [] Tryz.func125
def qX:List Ao:=[⟨(some 5),.ee 206 (.a []) true (.t 4),none⟩,
    ⟨(some 3),.mv (.t 5),none⟩,
    ⟨(some 6),.extract 0 (.t 3),none⟩,
    ⟨(some 7),.extract 1 (.t 3),none⟩,
    ⟨(some 1),.alloc [],none⟩,
    ⟨none,.store 0 (.t 1) (.t 6),none⟩,
    ⟨(some 2),.mv (.t 7),none⟩]
abbrev jE:AT:=(.seq [0,8] (.DA [⟨(some 8),.mv (.t 2),none⟩])
 (.cond (.t 8)
 (.DA [⟨none,.store 1 (.t 0) (.c (.b false)),none⟩])
 .skip))
def sY:Tryz.f126.body.bind (resRec Tryz.prog Tryz.f126.ntmps [] [])=some (4,qX,erase jE):=by kernel_rfl
def bF {args:List V} (hn:args.length<=9) {m:Option V} {Z:AE} {Q:AE->Prop} (h:W Tryz.prog (.seq [0,2] (.DA qX) jE) (PC Q) (put (some 4) (m.getD .Dv) (A5 0 args)) Z):Hn Tryz.prog 126 args m Z Q:=
 Kc Tryz.func126 (by kernel_rfl) sY rfl hn (mJ h)
def wk:=cX [] [] Tryz.func127
set_option maxRecDepth 100000
def wj:=cX [] [3] Tryz.func128
def wi:=cX [] [3] Tryz.func129
def wh:=cX [] [3] Tryz.func130
def wg:=cX [] [3] Tryz.func131
def we:=cX [] [] Tryz.func133
def wc:=X1 [] [] Tryz.func135
def ic:=cX [] [] Tryz.func136
def wb:=cX [] [1] Tryz.func142
def wa:=cX [] [1] Tryz.func143
def wZ:=cX [] [3] Tryz.func144
def wY:=cX [] [4,5] Tryz.func145
def YW:=cX [] [7] Tryz.func146
def wX:=cX [] [4,5,7] Tryz.func147
def wW:=cX [] [] Tryz.func148
def UE:=cX [] [] Tryz.func149
def wV:=cX [] [] Tryz.func150
def wU:=X1 [] [] Tryz.func152
def wT:=cX [] [3] Tryz.func153
def ib:=cX [] [3,4] Tryz.func154
def wS:=cX [] [4,5] Tryz.func155
def wR:=X1 [] [1] Tryz.func156
def wQ:=cX [] [] Tryz.func159
def wP:=cX [] [] Tryz.func160
def wO:=cX [] [3] Tryz.func161
def wN:=cX [] [] Tryz.func162
def wM:=cX [] [1] Tryz.func163
def wL:=cX [] [1] Tryz.func164
def wK:=cX [] [2,3] Tryz.func165
def wJ:=cX [] [1] Tryz.func166
def wI:=cX [] [2,3] Tryz.func167
def wH:=cX [] [3,4] Tryz.func168
def ia:=cX [] [1,16] Tryz.func169
set_option maxRecDepth 100000
def YV:=cX [] [] Tryz.func170
def wG:=X1 [] [] Tryz.func171
def wF:=cX [] [] Tryz.func173
def wE:=cX [] [] Tryz.func178
def wD:=cX [] [] Tryz.func179
def iZ:=cX [] [3] Tryz.func180
def wB:=cX [] [] Tryz.func181
def wA:=cX [] [3] Tryz.func182
def v8:=cX [] [2] Tryz.func183
def v7:=cX [] [4,5,6,7] Tryz.func184
def vw:=cX [] [] Tryz.func185
def vt:=cX [] [] Tryz.func186
def vr:=cX [] [2] Tryz.func187
def vq:=cX [] [2,3] Tryz.func188
def iY:=cX [] [3] Tryz.func189
def vo:=cX [] [] Tryz.func190
def vj:=cX [] [3] Tryz.func191
def vg:=cX [] [4] Tryz.func192
def ve:=cX [] [1] Tryz.func201
def vd:=cX [] [] Tryz.func202
def vZ:=cX [] [] Tryz.func203
def vY:=cX [] [1] Tryz.func204
def vX:=X1 [] [1] Tryz.func205
def vW:=cX [] [4,5] Tryz.func209
def vV:=cX [] [] Tryz.func210
def vU:=cX [] [3,5] Tryz.func211
set_option maxRecDepth 100000
def vT:=cX [] [3] Tryz.func212
def vS:=cX [] [2] Tryz.func213
def vR:=cX [] [2] Tryz.func214
def vQ:=cX [] [2] Tryz.func215
def iX:=cX [] [2] Tryz.func216
def vP:=cX [] [] Tryz.func217
def vO:=cX [] [] Tryz.func218
def iW:=cX [] [2] Tryz.func219
def vN:=cX [] [] Tryz.func220
def iV:=cX [] [] Tryz.func227
def vM:=cX [] [] Tryz.func228
def vL:=cX [] [2] Tryz.func229
def vK:=cX [] [] Tryz.func230
def vJ:=cX [] [] Tryz.func231
def vI:=cX [] [] Tryz.func232
def vH:=cX [] [4] Tryz.func233
def vG:=cX [] [] Tryz.func234
def vF:=cX [] [] Tryz.func235
def vE:=cX [] [] Tryz.func236
def vD:=cX [] [] Tryz.func237
def vC:=cX [] [2,3] Tryz.func238
abbrev jG:AT:=(.DA [⟨(some 2),.alloc [(.b false)],none⟩])
def qW:List Ao:=[⟨(some 3),.ep (.func 288) [] [(.t 2)],none⟩]
abbrev jD:AT:=(.seq [2] (.DA [⟨(some 4),.mv (.t 0),none⟩,
 ⟨(some 5),.Je (.t 4) [],none⟩])
 (.seq [2] (.DA [⟨none,.store 1 (.t 2) (.c (.b true)),none⟩])
 .ret))
def sX:Tryz.f242.body.bind (LI Tryz.prog Tryz.f242.ntmps [] [])=some (erase jG,qW,(.t 3),erase jD):=by kernel_rfl
def vB {args:List V} (hn:args.length<=6) {Z:AE} {Q:R->AE->Prop} (h:W Tryz.prog (.seq [0,2] jG (.DA qW)) (CU (fo Tryz.prog (.t 3) [0,2] jD [.c 2 none] Q)) (A5 0 args) Z):Av Tryz.prog 242 args Z Q:=
 It Tryz.func242 (by kernel_rfl) sX (by kernel_rfl) hn (rG h)
def vA:=cX [] [] Tryz.func243
def u9:=cX [] [1] Tryz.func244
def iU:=cX [] [] Tryz.func245
def u7:=cX [] [7] Tryz.func246
def u6:=cX [] [3,4,5] Tryz.func247
def uz:=cX [] [3,4] Tryz.func248
def uy:=cX [] [] Tryz.func249
def ux:=cX [] [1] Tryz.func250
def uw:=cX [] [] Tryz.func251
def uv:=cX [] [1] Tryz.func252
set_option maxRecDepth 100000
def uu:=X1 [] [2,3] Tryz.func255
def ur:=cX [] [] Tryz.func256
def uq:=cX [] [0] Tryz.func257
def uo:=cX [] [2] Tryz.func258
def um:=cX [] [] Tryz.func259
def uk:=cX [] [] Tryz.func260
def uj:=cX [] [3] Tryz.func261
def iT:=cX [] [] Tryz.func262
def ui:=cX [] [] Tryz.func263
def uh:=cX [] [1] Tryz.func264
def ug:=cX [] [3] Tryz.func265
def uf:=cX [] [] Tryz.func266
def ue:=cX [] [] Tryz.func273
def ud:=cX [] [] Tryz.func274
def uc:=cX [] [] Tryz.func275
def ub:=cX [] [] Tryz.func285
def ua:=cX [] [] Tryz.func286
def qV:List Ao:=[⟨(some 1),.mv (.t 4),none⟩]
abbrev jC:AT:=(.seq [0,1,6] (.DA [⟨(some 5),.mv (.t 1),none⟩,
 ⟨(some 6),.ew 2 true (.t 5),none⟩])
 (.cond (.t 6)
 (.seq [0] (.seq [0,1,3] (.DA [⟨(some 8),.mv (.t 1),none⟩,
  ⟨(some 9),.ee 368 (.a []) true (.t 8),none⟩,
  ⟨(some 7),.mv (.t 9),none⟩,
  ⟨(some 10),.extract 0 (.t 7),none⟩,
  ⟨(some 11),.extract 1 (.t 7),none⟩,
  ⟨(some 2),.alloc [],none⟩,
  ⟨none,.store 0 (.t 2) (.t 10),none⟩,
  ⟨(some 3),.mv (.t 11),none⟩])
 (.seq [0,1,13] (.DA [⟨(some 12),.mv (.t 3),none⟩,
  ⟨(some 13),.not (.t 12),none⟩])
 (.cond (.t 13)
 (.DA [⟨(some 14),.mv (.t 1),none⟩,
  ⟨none,.panic (.t 14),none⟩])
 .skip)))
 (.DA [⟨none,.store 1 (.t 0) (.c (.b false)),none⟩]))
 .skip))
def sW:Tryz.f288.body.bind (resRec Tryz.prog Tryz.f288.ntmps [] [])=some (4,qV,erase jC):=by kernel_rfl
def bE {args:List V} (hn:args.length<=15) {m:Option V} {Z:AE} {Q:AE->Prop} (h:W Tryz.prog (.seq [0,1] (.DA qV) jC) (PC Q) (put (some 4) (m.getD .Dv) (A5 0 args)) Z):Hn Tryz.prog 288 args m Z Q:=
 Kc Tryz.func288 (by kernel_rfl) sW rfl hn (mJ h)
def uZ:=cX [] [] Tryz.func289
def uY:=cX [] [] Tryz.func290
def uX:=cX [] [2] Tryz.func291
def uW:=cX [] [] Tryz.func292
def uV:=cX [] [4] Tryz.func293
def iS:=cX [] [6] Tryz.func294
def uU:=cX [] [] Tryz.func295
set_option maxRecDepth 100000
def uT:=cX [] [] Tryz.func296
def uS:=cX [] [] Tryz.func297
def uR:=cX [] [] Tryz.func298
def uQ:=cX [] [] Tryz.func299
def uP:=cX [] [] Tryz.func300
def uO:=cX [] [] Tryz.func301
def uN:=cX [] [] Tryz.func302
def uM:=cX [] [] Tryz.func303
def uK:=cX [] [] Tryz.func313
def uJ:=cX [] [] Tryz.func314
def uI:=cX [] [3,4,5] Tryz.func315
def uH:=cX [] [] Tryz.func316
def uG:=X1 [] [] Tryz.func325
def uF:=X1 [] [3] Tryz.func326
def uE:=cX [] [] Tryz.func327
def uD:=cX [] [] Tryz.func329
def uC:=cX [] [0] Tryz.func330
def uB:=cX [] [] Tryz.func331
def iR:=cX [] [] Tryz.func332
def uA:=cX [] [] Tryz.func333
def tz:=cX [] [] Tryz.func334
def tx:=cX [] [4,5] Tryz.func352
def tw:=cX [] [3,4,5] Tryz.func353
@[reducible] noncomputable def zP:=Tryz.prog
end Go.Gl
namespace Go.Gl
open Go.Proofs
attribute [local irreducible] Av An Af AQ AL Ac AP AS AK Ab AN AO As A3 Sat AV A0 Ag W
def iH (xs:List Int) (f:Bool) (x:Int) (hx:xs.length<=Ad):Pure zP 210 [.l (iL xs) f,.i .i64 x] (.b (xs.contains x)):=by
 refine vV kZ ?_;refine zh ?_;(repeat clear U K);repeat intro K U
 refine Cn xs.length (fun k (_:Unit)=>[(5,eI (BR k))]) (fun _ _=>[]) (fun k _=>x∉xs.take k) () rfl (by simp) Sat.nil ?_;rintro k - Z hk hn -;refine zh ?_;(repeat clear U K);repeat intro K U
 refine GZ hk hx (fun y hy hlt=>?_) fun hk=>?_
 .refine zh ?_;(repeat clear U K);repeat intro K U
  refine JV hy hx rfl ?_;refine zh ?_;(repeat clear U K);repeat intro K U
  refine an (fun he=>?_) (fun he=>?_)
  .refine zh ?_;(repeat clear U K);repeat intro K U
   refine AJ ?_;have:x∈xs:=he ▸ Cm hy;simp[this]
  .refine zh ?_;(repeat clear U K);repeat intro K U
   refine⟨hlt,(),rfl,?_,Sat.nil⟩;rw[AU hy];simp only[Ds,Lu,not_or];exact⟨hn,fun e=>he e.symm⟩
 .refine zh ?_;(repeat clear U K);repeat intro K U
  refine AJ ?_;rw[BI hk]at hn;simp[hn]
def Qo (xs:List Int) (f:Bool) (x:Int) (hx:xs.length<=Ad):Pure zP 297 [.l (iL xs) f,.i .i64 x] (.l (iL (xs.filter (· != x))) false):=by
 refine uS kZ ?_;refine zh ?_;(repeat clear U K);repeat intro K U
 refine Cn xs.length (fun k v=>[(5,v),(6,eI (BR k))]) (fun k v=>[.own v 1 (iL ((xs.take k).filter (· != x)))]) (fun _ _=>True) (.l [] true) rfl trivial (IU Sat.nil 1) ?_;rintro k v Z hk - hs;refine zh ?_;(repeat clear U K);repeat intro K U
 refine GZ hk hx (fun y hy hlt=>?_) fun hk=>?_
 .refine zh ?_;(repeat clear U K);repeat intro K U
  refine JV hy hx rfl ?_;refine zh ?_;(repeat clear U K);repeat intro K U
  refine o6 (fun he=>?_) (fun he=>?_)
  .conv=>whnf
   repeat((first|clear U K|(apply zk;intro K U)|fail);conv=>whnf)
   refine JV hy hx rfl ?_;refine zh ?_;(repeat clear U K);repeat intro K U
   refine GR hs 0 (x:=y) rfl (by have:=Xv (· != x) (xs.take k);simp only[Lv]at this;have hM:=Mx;omega) Cy fun v' Z' hs'=>?_
   refine zh ?_;(repeat clear U K);repeat intro K U
   refine⟨hlt,v',rfl,trivial,?_⟩;rw[AU hy,List.filter_append];simpa[he]using hs'
  .refine zh ?_;(repeat clear U K);repeat intro K U
   refine⟨hlt,v,rfl,trivial,?_⟩;rw[AU hy,List.filter_append];simpa[he]using hs
 .refine zh ?_;(repeat clear U K);repeat intro K U
  exact Ge hs 0 rfl (by rw[BI hk])
def free (ls:List (List Int)) (x:Int):Bool:=ls.all fun l=> !(l.drop 1).contains x
def oz (ls:List (List Int)) (f:Bool) (x:Int) (hl:ls.length<=Ad) (hls: ∀l∈ls,l.length<=Ad):Pure zP 298 [.l (Es ls) f,.i .i64 x] (.b (free ls x)):=by
 refine uR kZ ?_;refine zh ?_;(repeat clear U K);repeat intro K U
 refine Cn ls.length (fun k (_:Unit)=>[(5,eI (BR k))]) (fun _ _=>[]) (fun k _=> ∀l∈ls.take k,x∉l.drop 1) () rfl (by simp) Sat.nil ?_;rintro k - Z hk hn -;refine zh ?_;(repeat clear U K);repeat intro K U
 refine GZ hk hl (fun y hy hlt=>?_) fun hk=>?_
 .have hb:=hls _ (Cm hy)
  have next:(x∉y.drop 1)-> ∀l∈ls.take (k+1),x∉l.drop 1:=fun hc l hm=>by
   rw[AU hy]at hm;rcases Ds.1 hm with hm|hm
   .exact hn l hm
   .rw[Lu.1 hm];exact hc
  refine zh ?_;(repeat clear U K);repeat intro K U
  refine JV hy hl rfl ?_;refine zh ?_;(repeat clear U K);repeat intro K U
  refine⟨fun h=>?_,fun h=>?_⟩<;>(try rw[h])
  .have hp:=of_decide_eq_true h
   simp only[CW]at hp;refine zh ?_;(repeat clear U K);repeat intro K U
   refine JV hy hl rfl ?_;refine zh ?_;(repeat clear U K);repeat intro K U
   refine WL 1 rfl (by omega) (fun _=>rfl) ?_;refine zh ?_;(repeat clear U K);repeat intro K U
   refine(iH _ _ _ (by rw[List.length_drop];omega)).use ?_;refine zh ?_;(repeat clear U K);repeat intro K U
   refine⟨fun hc=>?_,fun hc=>?_⟩
   .refine zh ?_;(repeat clear U K);repeat intro K U
    refine AJ ?_
    have:free ls x=false:=by
     simp only[free,List.all_eq_false];exact⟨y,Cm hy,by simpa using hc⟩
    rw[this]
   .refine zh ?_;(repeat clear U K);repeat intro K U
    exact⟨hlt,(),rfl,next (by simpa using hc),Sat.nil⟩
  .have hp: ¬_:=of_decide_eq_false h
   simp only[CW]at hp;refine zh ?_;(repeat clear U K);repeat intro K U
   refine⟨hlt,(),rfl,next ?_,Sat.nil⟩;rw[List.drop_eq_nil_of_le (by omega)];simp
 .refine zh ?_;(repeat clear U K);repeat intro K U
  rw[BI hk]at hn;refine AJ ?_;have:free ls x=true:=by simpa[free]using hn
  rw[this]
def Ax (ls:List (List Int)) (c:Int):List Int:=if c<3 then []else ls.getD (c - 3).toNat []
def Yw (ls:List (List Int)) (f:Bool) (c:Int) (hc:c<3+ls.length) (hm:ls.length<=Ad):Pure zP 296 [.l (Es ls) f,.i .i64 c] (.l (iL (Ax ls c)) false):=by
 refine uT kZ ?_;refine zh ?_;(repeat clear U K);repeat intro K U
 refine fork (fun h=>?_) (fun h=>?_)
 .refine zh ?_;(repeat clear U K);repeat intro K U
  refine Be (.l (fun h=>(by cases h)) ?_);rw[Ax,if_pos h];exact .nil
 .refine zh ?_;(repeat clear U K);repeat intro K U
  simp only[Ad]at hm;have hlt:(c - 3).toNat<ls.length:=by omega
  refine VX (c - 3).toNat (Dp hlt) (by rw[wrap64 (by omega) (by omega)];omega) rfl ?_;refine zh ?_;(repeat clear U K);repeat intro K U
  refine AJ ?_;rw[Ax,if_neg h,DK,Dp hlt];rfl
def EX (ls os:List (List Int)) (c:Int):Option (List (List Int)):=
 if(Ax ls c).any fun p=>(os.getD p.toNat []).isEmpty then none else some ((Ax ls c).map (fun p=>(os.getD p.toNat []).filter (· != 0))++[Ax ls c])
def yd (o:Option (List (List Int))):V:=match o with|some l=> .t [.l (Es l) false,.b true]|none=> .t [.l [] false,.b false]
def kS (ls os:List (List Int)) (f:Bool) (w:V) (c:Int) (hc:c<3+ls.length) (hm:ls.length<=Ad) (hos: ∀o∈os,o.length<=Ad) (hpl:(Ax ls c).length<1000000)
    (hp: ∀p∈Ax ls c,0<=p/\p.toNat<os.length):BO zP 256 [.l (Es ls) f,w,.i .i64 c] [.own w 1 (Es os)] fun r post=>r= .ret (yd (EX ls os c))/\post= [.own w 1 (Es os)]:=by
 have hM:=Mx;intro Z hs;refine ur kZ ?_
 conv=>whnf
 repeat((first|clear U K|apply st|(apply zk;intro K U)|fail);conv=>whnf)
 refine(Yw _ _ _ hc hm).use ?_;refine zh ?_;(repeat clear U K);repeat intro K U
 refine Cn (Ax ls c).length (fun k v=>[(8,v),(10,eI (BR k))]) (fun k v=>[.own w 1 (Es os),.own v 1 (Es (((Ax ls c).take k).map fun p=>(os.getD p.toNat []).filter (· != 0)))]) (fun k _=> ∀p∈(Ax ls c).take k,(os.getD p.toNat []).isEmpty=false)
  (.l [] true) rfl (by simp) (IU hs 1) ?_
 rintro k v Z hk hne hs;refine zh ?_;(repeat clear U K);repeat intro K U
 refine GZ hk (by omega) (fun p hpk hlt=>?_) fun hk=>?_
 .obtain ⟨hp0,hp1⟩:=hp _ (Cm hpk)
  have hq:=Dp hp1
  have hgd:os.getD p.toNat []=os[p.toNat]:=by
   rw[DK,hq];rfl
  have hqm:(Es os)[p.toNat]? =some [.l (iL os[p.toNat]) false]:=by rw[OU,hq];rfl
  refine zh ?_;(repeat clear U K);repeat intro K U
  refine JV hpk (by omega) rfl ?_;refine zh ?_;(repeat clear U K);repeat intro K U
  refine fH hs 0 p.toNat rfl (by omega) (by simpa using hp1) ?_
  conv=>whnf
  refine Ie hs 0 rfl hqm ?_;refine zh ?_;(repeat clear U K);repeat intro K U
  refine an (fun he=>?_) (fun he=>?_)
  .refine zh ?_;(repeat clear U K);repeat intro K U
   have hn:EX ls os c=none:=by
    simp only[EX];rw[if_pos];rw[Gx];refine⟨p,Cm hpk,?_⟩;rw[hgd];have:(os[p.toNat]).length=0:=by simpa using he
    simp[Xy.1 this]
   rw[hn];exact Ay (l':=[.own w 1 (Es os)]) hs (by simp) (.t (.cons (.l (fun h=>(by cases h)) .nil) (.cons (.refl _) .nil))) fun Z' hs'=>⟨_,⟨rfl,rfl⟩,hs'⟩
  .refine zh ?_;(repeat clear U K);repeat intro K U
   refine JV hpk (by omega) rfl ?_;refine zh ?_;(repeat clear U K);repeat intro K U
   refine fH hs 0 p.toNat rfl (by omega) (by simpa using hp1) ?_
   conv=>whnf
   refine Ie hs 0 rfl hqm ?_
   conv=>whnf
   refine(Qo _ _ _ (hos _ (List.getElem_mem hp1))).use ?_
   conv=>whnf
   refine GR hs 1 (x:=os[p.toNat].filter (· != 0)) rfl (by have hM:=Mx;simp;omega) DJ fun v' Z' hs'=>?_
   refine zh ?_;(repeat clear U K);repeat intro K U
   refine⟨hlt,v',rfl,fun q hm=>?_,?_⟩
   .rw [AU hpk]at hm
    rcases Ds.1 hm with hm|hm
    .exact hne q hm
    .rw[Lu.1 hm,hgd]
     have:(os[p.toNat]).length≠0:=by
      intro e;exact he (by simp[e])
     cases hq:os[p.toNat]with
     | nil=>rw[hq]at this;exact absurd rfl this
     | cons _ _=>rfl
   .rw[AU hpk,VB,List.map_singleton,hgd]
    exact hs'
 .rw[BI hk]at hne hs
  refine zh ?_;(repeat clear U K);repeat intro K U
  refine GR hs 1 (x:=Ax ls c) rfl (by have hM:=Mx;simp;omega) DJ fun v' Z' hs'=>?_
  refine zh ?_;(repeat clear U K);repeat intro K U
  have hn:EX ls os c=some ((Ax ls c).map (fun p=>(os.getD p.toNat []).filter (· != 0))++[Ax ls c]):=by
   simp only[EX];rw[if_neg];rw[Gx];rintro⟨p,h1,h2⟩;rw[hne p h1]at h2;cases h2
  rw[hn];obtain⟨Z2,h1,h2,h3⟩:=I6 hs' 1 rfl;exact Ij h1 (.t (.cons h2 (.cons (.refl _) .nil))) ⟨_,⟨rfl,rfl⟩,h3⟩
def Vo {w:AG} (h:FF (.a (BL w))):w.parents.length<=Ad/\(∀l∈w.parents,l.length<=Ad)/\w.owner.length<=Ad:=by
 simp only[BL,Ji,Eo,IZ,Jr,CW]at h;exact⟨h.1.1,fun l hl=>(h.1.2 l hl).1.1,h.2.1.1⟩
def Vp {xs:List Int} {g:Bool} (h:FF (.l (iL xs) g)):xs.length<=Ad:=by
 simp only[IZ,CW]at h;exact h.1
def SH {f:Fact} (h:FF (.a (xF f))):f.kids.length<=Ad/\f.path.length<=Ad/\ ∀k∈f.kids,FF (.a (xF k)):=by
 simp only[Ji,Eo,IZ,Jr,CW]at h;exact⟨h.2.2.2.2.2.1.1,h.2.2.1.1,fun k hk=>by have:=h.2.2.2.2.2.1.2 k hk;rw[Bw]at this;exact this⟩
def Pw (w:AG) (c:Int):Bool:=decide (0<=c)&&decide (c<3+w.parents.length)
def lR (w:AG) (c:Int):Pure zP 214 [.a (BL w),eI c] (.b (Pw w c)):=by
 refine Pure.fit (by kernel_rfl) fun hf=>?_
 have⟨h1,h2,h3⟩:=Vo hf.1;have hM:=Mx;refine vR kZ ?_
 conv=>whnf
 repeat'((first|clear U K|apply st|(apply zk;intro K U)|refine zn ?_|refine za (fun hc=>?_) fun hc=>?_|fail)<;>conv=>whnf)
 .exact AJ (by rw[CW,wrap64 (by omega) (by omega)];simp[Pw,hc])
 .exact AJ (by simp[Pw,hc];intros;omega)
def Ho (w:AG) (s:Int):Bool:=decide (0<=s)&&decide (s<w.owner.length)
def Ez (w:AG) (p:List Int):Bool:=p.all (Ho w)&&decide (p.length<=2)
def nX (w:AG) (p:List Int) (g:Bool):Pure zP 215 [.a (BL w),.l (iL p) g] (.b (Ez w p)):=by
 refine Pure.fit (by kernel_rfl) fun hf=>?_
 have⟨h1,h2,h3⟩:=Vo hf.1;have h4:=Vp hf.2.1;have hM:=Mx;refine vQ kZ ?_;refine zu ?_;(repeat clear U K);repeat intro K U
 refine Cn p.length (fun k (_:Unit)=>[(9,eI (BR k))]) (fun _ _=>[]) (fun k _=>p.all (Ho w)=(p.drop k).all (Ho w)) () rfl rfl Sat.nil ?_;rintro k - Z hk hn hs
 conv=>whnf
 repeat'((first|clear U K|apply st|(apply zk;intro K U)|refine zn ?_|(refine fc (fun x hx hlt hc=>?_) (fun hk hc=>?_)<;>(try rw[hc])<;>clear hc)|(refine zd (fun hc=>?_) (fun hc=>?_)<;>try exact⟨⟩)|fail)<;>conv=>whnf)
 .exact AJ (by rw[Ez,hn,drop_cons hx];simp[Ho,hc];intros;omega)
 .exact⟨hlt,(),rfl,by rw[hn,drop_cons hx];simp[Ho, *],hs⟩
 .exact AJ (by rw[Ez,hn,drop_cons hx];simp[Ho,hc];intros;omega)
 .exact AJ (by rw[Ez,hn,Au hk];simp;omega)
def B4 (f:Fact):Bool:=f.op==2||f.op==3||f.op==4
def aO (f:Fact):Pure zP 166 [.a (xF f)] (.b (B4 f)):=by
 refine wJ kZ ?_
 conv=>whnf
 repeat'((first|clear U K|apply st|(apply zk;intro K U)|refine zn ?_|refine za (fun hc=>?_) fun hc=>?_|fail)<;>conv=>whnf)
 all_goals exact AJ (by simp[B4, *])
def Dg:List (Int->Int)->Int->Int->Int
 | [],n,_=>n
 | k::r,n,most=>if n<=most then Dg r (n+k (most - n)) most else n
def Ca (f:Fact):Int->Int:=f.Hm fun _ l most=>Dg l 1 most
def KU (f:Fact) (most:Int):Ca f most=Dg (f.kids.map Ca) 1 most:=by
 rw[Ca,Fact.Dn];rfl
def Q2 {most:Int}: ∀(l:List (Int->Int)) (n:Int),(∀g∈l,∀m,0<=m->1<=g m/\g m<=m+1)->1<=n->n<=most+1->1<=Dg l n most/\Dg l n most<=most+1
 | [],n,_,h1,h2=>⟨h1,h2⟩
 | g ::r,n,h,h1,h2=>by
   rw[Dg];split
   .have:=h g (List.mem_cons_self ..) (most - n) (by omega)
    exact Q2 r _ (fun g hg=>h g (List.mem_cons_of_mem _ hg)) (by omega) (by omega)
   .exact⟨h1,h2⟩
def Lg (f:Fact): ∀m,0<=m->1<=Ca f m/\Ca f m<=m+1:=by
 induction f using Fact.ind with
 | h f ih=>
   intro m hm;rw[KU];refine Q2 _ _ (fun g hg=>?_) (by omega) (by omega);obtain⟨k,hk,rfl⟩:=Hc.1 hg;exact ih k hk
def kG (f:Fact): ∀most:Int,0<=most->most<=1000->Pure zP 213 [.a (xF f),eI most] (eI (Ca f most)):=by
 induction f using Fact.ind with
 | h f ih=>
   intro most h0 h1;refine Pure.fit (by kernel_rfl) fun hf=>?_
   have⟨h2,h3,h4⟩:=SH hf.1;have hM:=Mx;refine vS kZ ?_;refine zu ?_;(repeat clear U K);repeat intro K U
   refine Cn f.kids.length (fun k (n:Int)=>[(5,eI n),(6,eI (BR k))]) (fun _ _=>[]) (fun k n=>1<=n/\n<=most+1/\Ca f most=Dg ((f.kids.drop k).map Ca) n most) 1 rfl ⟨by omega,by omega,by rw[List.drop_zero];exact KU f most⟩ Sat.nil ?_;rintro k n Z hk ⟨hn1,hn2,hn⟩ hs
   conv=>whnf
   repeat'((first|clear U K|apply st|(apply zk;intro K U)|refine zn ?_|(refine fc (fun x hx hlt hc=>?_) (fun hk hc=>?_)<;>(try rw[hc])<;>clear hc)|refine za (fun hc=>?_) fun hc=>?_|fail)<;>conv=>whnf)
   .rw[wrap64 (by omega) (by omega)]
    have hb:=Lg x (most - n) (by omega);refine(ih x (Cm hx) (most - n) (by omega) (by omega)).use ?_;refine zu ?_;(repeat clear U K);repeat intro K U
    rw[wrap64 (by omega) (by omega)];exact⟨hlt,_,rfl,⟨by omega,by omega,by rw[hn,drop_cons hx,EZ,Dg,if_pos hc]⟩,hs⟩
   .exact AJ (by rw[hn,drop_cons hx,EZ,Dg,if_neg (by omega)])
   .exact AJ (by rw[hn,Au hk];rfl)
def kH (f:Fact):Pure zP 163 [.a (xF f)] (eI (Ca f 24)):=by
 refine wM kZ ?_;refine zu ?_;(repeat clear U K);repeat intro K U
 refine(kG f 24 (by omega) (by omega)).use ?_;exact zW
def NP (f:Fact):Nat:=f.Hm fun _ l=>1+l.sum
def LN (f:Fact):NP f=1+(f.kids.map NP).sum:=Fact.Dn _ f
def bG {f k:Fact} (h:k∈f.kids):NP k<NP f:=by
 have: ∀l:List Fact,k∈l->NP k<=(l.map NP).sum:=fun l=>by
  induction l with
  | nil=>intro h;cases h
  | cons x r ih=>
    intro h;simp only[EZ,List.sum_cons];rcases Fg.1 h with rfl|h
    .omega
    .have:=ih h;omega
 have:=this _ h;rw[LN f];omega
def Q1 {most:Int}: ∀(l:List Fact) (n:Int),(∀k∈l,∀m,0<=m->Ca k m<=m->Ca k m=NP k)->0<=n->Dg (l.map Ca) n most<=most->Dg (l.map Ca) n most=n+(l.map NP).sum
 | [],n,_,_,_=>by simp[Dg]
 | k :: r, n,h,h0,h1=>by
   simp only[EZ,Dg]at *;split at h1
   .rename_i hc
    rw[if_pos hc];have hb:=Lg k (most - n) (by omega)
    have hge: ∀(l:List Fact) (a:Int),a<=Dg (l.map Ca) a most:=fun l=>by
     induction l with
     | nil=>intro a;exact Int.le_refl _
     | cons y l ih=>
       intro a;simp only[EZ,Dg];split
       .have:=Lg y (most - a) (by omega)
        have:=ih (a+Ca y (most - a));omega
       .exact Int.le_refl _
    have h2:=hge r (n+Ca k (most - n));have h3:=h k (List.mem_cons_self ..) (most - n) (by omega) (by omega);have h4:=Q1 r (n+Ca k (most - n)) (fun k' hk'=>h k' (List.mem_cons_of_mem _ hk')) (by omega) h1;simp only[List.sum_cons];omega
   .rename_i hc
    omega
def Lf (f:Fact): ∀m,0<=m->Ca f m<=m->Ca f m=NP f:=by
 induction f using Fact.ind with
 | h f ih=>
   intro m h0 h1;rw[KU]at *;rw[Q1 f.kids 1 ih (by omega) h1,LN];omega
def Km (a b:Int):Int:=if a<b then b else a
def EM (f:Fact):Int:=f.Hm fun _ l=>l.foldl Km 0+1
def IL (f:Fact):EM f=(f.kids.map EM).foldl Km 0+1:=Fact.Dn _ f
def K9 {m:Int}: ∀(l:List Int) (a:Int),(∀x∈l,x<=m)->a<=m->l.foldl Km a<=m
 | [],_,_,h=>h
 | x::r,a,h,h'=>by
   refine K9 r _ (fun y hy=>h y (List.mem_cons_of_mem _ hy)) ?_;have:=h x (List.mem_cons_self ..);unfold Km;split<;>omega
def K6: ∀(l:List Int) (a:Int),a<=l.foldl Km a
 | [],_=>Int.le_refl _
 | x::r,a=>by
   refine Int.le_trans ?_ (K6 r _);unfold Km;split<;>omega
def ZP (f:Fact):1<=EM f/\EM f<=NP f:=by
 induction f using Fact.ind with
 | h f ih=>
   rw[IL];have h1:=K6 (f.kids.map EM) 0
   have h2:(f.kids.map EM).foldl Km 0<=(NP f:Int) - 1:=by
    refine K9 _ _ (fun x hx=>?_) (by have:=LN f;omega);obtain⟨k,hk,rfl⟩:=Hc.1 hx;have:=(ih k hk).2;have:=bG hk;omega
   omega
def Gf {α:Type} {xs:List α} {k:Nat} {x:α} {β:Type} (g:α->β) (h:β->β->β) (a:β) (hx:xs[k]? =some x):((xs.take (k+1)).map g).foldl h a=h (((xs.take k).map g).foldl h a) (g x):=by
 rw[AU hx,VB,List.foldl_append];rfl
def lK (f:Fact):NP f<=Ad->Pure zP 164 [.a (xF f)] (eI (EM f)):=by
 induction f using Fact.ind with
 | h f ih=>
   intro hc;refine Pure.fit (by kernel_rfl) fun hf=>?_
   have⟨h2,h3,h4⟩:=SH hf.1;have hM:=Mx;refine wL kZ ?_;refine zu ?_;(repeat clear U K);repeat intro K U
   refine Cn f.kids.length (fun k (_:Unit)=>[(3,eI (((f.kids.take k).map EM).foldl Km 0)),(9,eI (BR k))]) (fun _ _=>[]) (fun _ _=>True) () rfl trivial Sat.nil ?_;rintro k - Z hk - hs
   conv=>whnf
   repeat'((first|clear U K|apply st|(apply zk;intro K U)|refine zn ?_|refine zr fun Z hs=>?_|(refine fc (fun x hx hlt hc=>?_) (fun hk hc=>?_)<;>(try rw[hc])<;>clear hc)|refine zp fun nn hnn Z hs=>?_|fail)<;>conv=>whnf)
   .refine(ih x (Cm hx) (by have:=bG (Cm hx);omega)).use ?_
    refine zu ?_;(repeat clear U K);repeat intro K U
    exact⟨hlt,(),by rw[Gf _ _ _ hx];rfl,trivial,Sat.nil⟩
   .have:=ZP f
    rw[IL]at this;exact AJ (by rw[BI hk,wrap64 (by omega) (by omega),<-IL])
def GV (f:Fact):Int:=f.Hm fun f l=>l.foldl Km (if B4 f then f.arg+1 else 0)
def KM (f:Fact):GV f=(f.kids.map GV).foldl Km (if B4 f then f.arg+1 else 0):=Fact.Dn _ f
def SL (f:Fact):Bool:=f.Hm fun f l=>decide (0<=f.arg)&&decide (f.arg<3)&&l.all id
def Qh (f:Fact):SL f=(decide (0<=f.arg)&&decide (f.arg<3)&&(f.kids.map SL).all id):=Fact.Dn _ f
def jj (f:Fact):SL f=true->Pure zP 103 [.a (xF f)] (eI (GV f)):=by
 induction f using Fact.ind with
 | h f ih=>
   intro ha;refine Pure.fit (by kernel_rfl) fun hf=>?_
   have⟨h2,h3,h4⟩:=SH hf.1;have hM:=Mx;rw[Qh]at ha;simp only[A4,Cp,List.all_map,Dj]at ha;refine xG kZ ?_;refine zu ?_;(repeat clear U K);repeat intro K U
   refine(aO f).use ?_
   conv=>whnf
   repeat'((first|clear U K|apply st|(apply zk;intro K U)|refine zn ?_|refine za (fun hc=>?_) fun hc=>?_|fail)<;>conv=>whnf)
   .refine Cn f.kids.length (fun k (_:Unit)=>[(3,eI (((f.kids.take k).map GV).foldl Km (if B4 f then f.arg+1 else 0))),(14,eI (BR k))]) (fun _ _=>[]) (fun _ _=>True) () (by rw[wrap64 (by omega) (by omega),if_pos hc];rfl) trivial Sat.nil ?_
    rintro k - Z hk - hs
    conv=>whnf
    repeat'((first|clear U K|apply st|(apply zk;intro K U)|refine zn ?_|refine zr fun Z hs=>?_|(refine fc (fun x hx hlt hc=>?_) (fun hk hc=>?_)<;>(try rw[hc])<;>clear hc)|refine zp fun nn hnn Z hs=>?_|fail)<;>conv=>whnf)
    .refine(ih x (Cm hx) (ha.2 x (Cm hx))).use ?_
     refine zu ?_;(repeat clear U K);repeat intro K U
     exact⟨hlt,(),by rw[Gf _ _ _ hx];rfl,trivial,Sat.nil⟩
    .exact AJ (by rw[BI hk,<-KM])
   .refine Cn f.kids.length (fun k (_:Unit)=>[(3,eI (((f.kids.take k).map GV).foldl Km (if B4 f then f.arg+1 else 0))),(14,eI (BR k))]) (fun _ _=>[]) (fun _ _=>True) () (by rw[if_neg (c:=B4 f=true) (by simp[hc])];rfl) trivial Sat.nil ?_
    rintro k - Z hk - hs
    conv=>whnf
    repeat'((first|clear U K|apply st|(apply zk;intro K U)|refine zn ?_|refine zr fun Z hs=>?_|(refine fc (fun x hx hlt hc=>?_) (fun hk hc=>?_)<;>(try rw[hc])<;>clear hc)|refine zp fun nn hnn Z hs=>?_|fail)<;>conv=>whnf)
    .refine(ih x (Cm hx) (ha.2 x (Cm hx))).use ?_
     refine zu ?_;(repeat clear U K);repeat intro K U
     exact⟨hlt,(),by rw[Gf _ _ _ hx];rfl,trivial,Sat.nil⟩
    .exact AJ (by rw[BI hk,<-KM])
end Go.Gl
