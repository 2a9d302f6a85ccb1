import Derived.Shelf.Sort.Plain
import Derived.Test.YtnidfcmdimehdaaGreatProg
import Derived.KernelRfl
import Derived.Test.YtnidfcmdimehdaaGreatU12
import Derived.Test.YtnidfcmdimehdaaGreatU13
import Derived.Test.YtnidfcmdimehdaaGreatU14
set_option linter.all false
set_option linter.defProp false
set_option maxHeartbeats 8000000
noncomputable section
namespace Go.Gl
open Go.Proofs Go.Shelf
abbrev Hq (x y:Int):Bool:=decide (x<=y)
def jC {P:Program} {f:FuncId} (hok:okF P f=true)
    (hc: ∀(blk cap:Nat) (zs:List Int) (w:World),Sort.Holds (Value.int .i64) w blk 0 zs.toArray->blk<w.heap.size->zs.length<4611686018427387904->
     Calls P f #[.slice (some ⟨blk,0,none⟩) zs.length cap] w fun e w'=>e= .returned (.tuple #[])/\ ∃n os,w'=Sort.grow (Sort.putRow (Value.int .i64) (Sort.ahead w n) blk 0 (zs.mergeSort fun x y=>decide (x<=y)).toArray) os)
    (xs:List Int) (n len cap:Nat):BL P f [.sl n len cap] [.own (.sl n len cap) 1 (iL xs)] fun r post=>r= .ret (.t [])/\post= [.own (.sl n len cap) 1 (iL (xs.mergeSort Hq))]:=by
 intro Z hs;refine⟨hok,fun F w cs hR hv=>?_⟩;rcases hs.get (i:=0) rfl with⟨h,_⟩|⟨n',cap',h,hn⟩
 .cases h
 cases h;rw[Bh]at hv;obtain⟨c,e,hb,h1,h2,h3,h4⟩:=FO hR hn;rw[Bh]at h2 h3;have hM:AZ=17592186044416:=rfl;rw[BF]at h4
 have hcell: ∀j x,xs[j]? =some x->c[j]? =some (Value.int .i64 x)/\IntKind.i64.min<=x/\x<=IntKind.i64.max:=fun j x hx=>by
  have:=(h4 j [.i .i64 x] (by rw[JV,hx];rfl)).2;simp only[BU,Nat.mul_one,G7]at this;obtain⟨⟨d,hd,hr⟩,_⟩:=this;simp only[Ae]at hr;obtain⟨rfl,hr⟩:=hr;exact⟨hd,hr⟩
 have hcs:cs= #[.slice (some ⟨n,0,none⟩) xs.length cap]:=by
  obtain⟨hsz,hv⟩:=hv;simp only[BU,Ae]at hv;obtain⟨⟨d,hd,rfl,_⟩,_⟩:=hv;simp at hsz;apply Array.ext_getElem?;intro i;rcases i with _|i
  .simpa using hd
  .rw[Array.getElem?_eq_none (by omega),Array.getElem?_eq_none (by simp)]
 subst hcs
 have hH:Sort.Holds (Value.int .i64) w n 0 xs.toArray:=fun j hj=>by
  have hj':j<xs.length:=by simpa using hj
  obtain⟨h5,_⟩:=hcell j xs[j] (CQ hj');refine⟨?_,?_⟩
  .rw[G7,Da hb,h5]
   simp[getElem!_pos,hj']
  .rw[G7];exact RL hb
 refine(hc n cap xs w hH (hR.lt hn) (by omega)).mono fun e' w' ⟨he,k,os,hw⟩=>?_
 subst he;have hlen:(xs.mergeSort Hq).length=xs.length:=List.length_mergeSort _
 have hheap: ∀m,m<w.heap.size->w'.heap[m]? =if m=n then some (.cells (Sort.putCells (Value.int .i64) 0 (xs.mergeSort Hq).toArray c) e (0,0))else w.heap[m]? :=fun m hm=>by
  rw[hw];simp only[Sort.grow,Sort.putRow,Sort.mapBlock,Sort.ahead];rw[Array.getElem?_append_left (by simpa using hm),Array.getElem?_modify];by_cases e1:n=m
  .subst e1
   rw[if_pos rfl,if_pos rfl,hb];rfl
  .rw[if_neg e1,if_neg (Ne.symm e1)]
 have hadv:B3 F Z w (Bz Z n (.arr 1 (iL (xs.mergeSort Hq)) cap)) w':=by
  refine⟨fun m hm h0=>?_,?_,by rw[hw];rfl,by rw[hw];rfl,by rw[hw];rfl,fun m h0 _=>?_⟩
  .rw[hheap m hm,if_neg]
   intro e1;subst e1;rw[hn]at h0;cases h0
  .rw[hw];simp[Sort.grow]
  .rw[Cg _ _ (fun e1=>by subst e1;rw[hn]at h0;cases h0)];exact h0
 refine⟨.ret (.t []),Bz Z n (.arr 1 (iL (xs.mergeSort Hq)) cap),⟨_,⟨rfl,rfl⟩,?_⟩,?_,?_,hadv⟩
 .refine⟨fun a ha=>?_,List.pairwise_singleton _ _⟩
  rw[JT.1 ha];exact .inr ⟨n,cap,by simp[hlen],D3 _ _ _⟩
 .exact⟨_,rfl,by simp[Ae,BU]⟩
 .refine hR.step hadv fun m o ho=>?_
  by_cases e1:m=n
  .subst e1
   rw[D3]at ho;cases ho;refine .inr ⟨(hR.own _ _ hn).1,_,(hheap m (hR.lt hn)).trans (if_pos rfl),_,_,rfl,by simpa[Sort.putCells]using h1,by simpa[hlen]using h2,by simpa[hlen]using h3,?_⟩;rw[BF];intro i r hi;rw[JV]at hi;cases hx:(xs.mergeSort Hq)[i]? with
   | none=>rw[hx]at hi;cases hi
   | some x=>
     rw[hx]at hi;cases hi;have hil:i<xs.length:=by have:=(JA.1 hx).1;omega
     have hxm:x∈xs:=(List.mergeSort_perm xs Hq).mem_iff.1 (BY hx);obtain⟨j,hj⟩:=List.getElem?_of_mem hxm;have hbd:=(hcell j x hj).2;obtain⟨hci,_⟩:=hcell i xs[i] (CQ hil);have hcl:i<c.size:=(qH.1 hci).1;refine⟨rfl,?_⟩;simp only[BU,Nat.mul_one,G7,Ae,and_true];refine⟨_,?_,rfl,hbd⟩;simp only[Sort.putCells,Array.getElem?_mapIdx];rw[hci];have hxe:=(JA.1 hx).2;simp[hlen,hil,getElem!_pos,hxe]
  .rw[Cg _ _ e1]at ho
   exact .inl ⟨ho,(hheap m (hR.lt ho)).trans (if_neg e1)⟩
def mL (xs:List Int) (n len cap:Nat):BL Tryz.prog 190 [.sl n len cap] [.own (.sl n len cap) 1 (iL xs)] fun r post=>r= .ret (.t [])/\post= [.own (.sl n len cap) 1 (iL (xs.mergeSort Hq))]:=
 jC (by kernel_rfl) (fun blk cap zs w h1 h2 h3=>Any.slices_Sort_int Tryz.nD blk 0 cap zs w h1 h2 h3) xs n len cap
end Go.Gl
namespace Go.Gl
open Go.Proofs
set_option maxRecDepth 100000
def ctr4:=cX [] [1] Tryz.func4
def qu:=cX [] [2] Tryz.func7
def qt:=cX [] [2] Tryz.func8
def ctr9:=cX [] [] Tryz.func9
def zx:=cX [] [] Tryz.func11
def zw:=cX [] [1] Tryz.func13
def Zb:=cX [] [3,5] Tryz.func15
def Za:=cX [] [3] Tryz.func16
def zt:=cX [] [] Tryz.func17
def fQ:=cX [] [2] Tryz.func18
def px:=cX [] [2] Tryz.func19
def ZZ:=cX [] [3,4,5] Tryz.func20
def zq:=cX [] [2] Tryz.func24
def ZY:=Je [] [3,5] Tryz.func26
def zm:=Je [] [1] Tryz.func27
def fP:=Je [] [3] Tryz.func31
def pw:=cX [] [1] Tryz.func32
def zj:=cX [] [2] Tryz.func33
def zi:=cX [] [1] Tryz.func34
def pv:=cX [] [2,3] Tryz.func35
def pt:=Je [] [] Tryz.func36
def zf:=cX [] [] Tryz.func37
def ZX:=cX [] [3,5] Tryz.func38
def zZ:=Je [] [] Tryz.func39
def fO:=Je [] [2] Tryz.func40
def zV:=cX [] [2,3] Tryz.func41
def zU:=Je [] [1] Tryz.func42
def pq:=Je [] [] Tryz.func43
set_option maxRecDepth 100000
def zT:=Je [] [2,3] Tryz.func44
def zS:=cX [] [] Tryz.func45
def zR:=cX [] [] Tryz.func46
def zQ:=cX [] [1] Tryz.func47
def zO:=cX [] [2] Tryz.func50
def po:=cX [] [2] Tryz.func51
def zN:=cX [] [2] Tryz.func52
def zM:=cX [] [] Tryz.func53
def zL:=cX [] [2] Tryz.func54
def zK:=Je [] [2] Tryz.func55
def zJ:=cX [] [] Tryz.func56
def zI:=cX [] [1] Tryz.func57
def zH:=cX [] [2] Tryz.func58
def zG:=cX [] [2] Tryz.func59
def zF:=Je [] [2] Tryz.func60
def pj:=cX [] [2] Tryz.func61
def zE:=cX [] [] Tryz.func62
def zD:=cX [] [2] Tryz.func63
def zB:=cX [] [3] Tryz.func64
def zA:=cX [] [4] Tryz.func65
def ph:=cX [] [] Tryz.func66
def y9:=cX [] [] Tryz.func67
def y8:=cX [] [2] Tryz.func70
def y7:=cX [] [2] Tryz.func71
def y6:=cX [] [2] Tryz.func72
def y5:=Je [] [1] Tryz.func73
def pg:=Je [] [2,3] Tryz.func74
def fN:=Je [] [] Tryz.func75
def y4:=cX [] [1,19] Tryz.func76
def y3:=cX [] [2] Tryz.func77
def y2:=cX [] [2,3] Tryz.func78
def y1:=cX [] [2,3] Tryz.func79
abbrev p7:Ao:=(.Hs [⟨(some 4),.alloc [(.b false)],none⟩])
def xq:List A8:=[⟨(some 5),.qP (.func 126) [] [(.t 4)],none⟩]
abbrev p6:Ao:=(.seq [4] (.Hs [⟨(some 6),.mv (.t 0),none⟩,
 ⟨(some 7),.mv (.t 1),none⟩,
 ⟨(some 8),.call 81 [(.t 6),(.t 7)],none⟩,
 ⟨(some 9),.call 127 [(.t 8)],none⟩])
 (.seq [4] (.Hs [⟨none,.store 1 (.t 4) (.c (.b true)),none⟩])
 .ret))
def yJ:Tryz.f80.body.bind (Py Tryz.prog Tryz.f80.ntmps [] [])=some (erase p7,xq,(.t 5),erase p6):=by kernel_rfl
def y0 {args:List V} (hn:args.length<=10) {Z:AD} {Q:R->AD->Prop} (h:W Tryz.prog (.seq [0,1,4] p7 (.Hs xq)) (CZ (ed Tryz.prog (.t 5) [0,1,4] p6 [.c 4 none] Q)) (Ct 0 args) Z):As Tryz.prog 80 args Z Q:=
 RU Tryz.func80 (by kernel_rfl) yJ (by kernel_rfl) hn (qB h)
def yz:=cX [] [11] Tryz.func81
set_option maxRecDepth 100000
def fM:=Je [] [2] Tryz.func87
def yy:=cX [] [1] Tryz.func88
def yx:=cX [] [1] Tryz.func89
def yw:=cX [] [2,3] Tryz.func90
def yu:=cX [] [] Tryz.func91
def yr:=cX [] [] Tryz.func92
def yq:=Je [] [] Tryz.func93
def fL:=cX [] [2,3] Tryz.func94
def yp:=cX [] [] Tryz.func95
def yo:=cX [] [2,3] Tryz.func96
def yn:=cX [] [2] Tryz.func97
def ym:=Je [] [2,3] Tryz.func98
def pf:=Je [] [1] Tryz.func99
def wi:=Je [] [2] Tryz.func100
def wh:=cX [] [1] Tryz.func101
def wg:=cX [] [2,3] Tryz.func102
def we:=cX [] [1] Tryz.func103
def gr:=cX [] [6] Tryz.func104
def wc:=cX [] [] Tryz.func105
def wb:=Je [] [2] Tryz.func106
def wa:=cX [] [] Tryz.func107
def wZ:=cX [] [] Tryz.func108
def wY:=cX [] [] Tryz.func109
def wX:=cX [] [2] Tryz.func110
def wW:=cX [] [2] Tryz.func111
def UA:=cX [] [2] Tryz.func112
def gq:=cX [] [3] Tryz.func113
def gp:=cX [] [] Tryz.func114
def wV:=cX [] [2,3] Tryz.func116
def wU:=Je [] [1] Tryz.func117
def wT:=cX [] [1] Tryz.func118
def wS:=cX [] [2] Tryz.func119
def wR:=cX [] [] Tryz.func120
def wQ:=cX [] [4,5,6] Tryz.func121
def wP:=cX [] [1] Tryz.func122
def wO:=cX [] [5] Tryz.func123
def wN:=cX [] [] Tryz.func124
def wM:=cX [] [] Tryz.func125
def pN:List A8:=[⟨(some 5),.qL 206 (.a []) true (.t 4),none⟩,
    ⟨(some 3),.mv (.t 5),none⟩,
    ⟨(some 6),.extract 0 (.t 3),none⟩,
    ⟨(some 7),.extract 1 (.t 3),none⟩,
    ⟨(some 1),.alloc [],none⟩,
    ⟨none,.store 0 (.t 1) (.t 6),none⟩,
    ⟨(some 2),.mv (.t 7),none⟩]
abbrev iJ:Ao:=(.seq [0,8] (.Hs [⟨(some 8),.mv (.t 2),none⟩])
 (.cond (.t 8)
 (.Hs [⟨none,.store 1 (.t 0) (.c (.b false)),none⟩])
 .skip))
def rQ:Tryz.f126.body.bind (resRec Tryz.prog Tryz.f126.ntmps [] [])=some (4,pN,erase iJ):=by kernel_rfl
def az {args:List V} (hn:args.length<=9) {m:Option V} {Z:AD} {Q:AD->Prop} (h:W Tryz.prog (.seq [0,2] (.Hs pN) iJ) (R9 Q) (put (some 4) (m.getD .K0) (Ct 0 args)) Z):Oz Tryz.prog 126 args m Z Q:=
 TH Tryz.func126 (by kernel_rfl) rQ rfl hn (o0 h)
def wL:=cX [] [] Tryz.func127
set_option maxRecDepth 100000
def wK:=cX [] [3] Tryz.func128
def wJ:=cX [] [3] Tryz.func129
def wI:=cX [] [3] Tryz.func130
def wH:=cX [] [3] Tryz.func131
def wG:=cX [] [] Tryz.func133
def wF:=Je [] [] Tryz.func135
def gm:=cX [] [] Tryz.func136
def wE:=cX [] [1] Tryz.func142
def wD:=cX [] [1] Tryz.func143
def gl:=cX [] [3] Tryz.func144
def wB:=cX [] [4,5] Tryz.func145
def YL:=cX [] [7] Tryz.func146
def wA:=cX [] [4,5,7] Tryz.func147
def vz:=cX [] [] Tryz.func148
def Jw:=cX [] [] Tryz.func149
def vw:=cX [] [] Tryz.func150
def vt:=Je [] [] Tryz.func152
def vr:=cX [] [3] Tryz.func153
def gk:=cX [] [3,4] Tryz.func154
def vq:=cX [] [4,5] Tryz.func155
def vo:=Je [] [1] Tryz.func156
def vj:=Je [] [2,3] Tryz.func157
def vg:=Je [] [] Tryz.func158
def ve:=cX [] [] Tryz.func159
def vd:=cX [] [] Tryz.func160
def vZ:=cX [] [3] Tryz.func161
def vY:=cX [] [] Tryz.func162
def vX:=cX [] [1] Tryz.func163
def vW:=cX [] [1] Tryz.func164
def vV:=cX [] [2,3] Tryz.func165
def vU:=cX [] [1] Tryz.func166
def vT:=cX [] [2,3] Tryz.func167
def vS:=cX [] [3,4] Tryz.func168
def gj:=cX [] [1,16] Tryz.func169
set_option maxRecDepth 100000
def YK:=cX [] [] Tryz.func170
def vR:=Je [] [] Tryz.func171
def vQ:=cX [] [] Tryz.func173
def vP:=cX [] [3] Tryz.func174
def vO:=cX [] [3,4,5] Tryz.func175
def YJ:=cX [] [4] Tryz.func176
def vN:=Je [] [3] Tryz.func177
def vM:=cX [] [] Tryz.func178
def vL:=cX [] [] Tryz.func179
def gi:=cX [] [3] Tryz.func180
def vK:=cX [] [] Tryz.func181
def vJ:=cX [] [3] Tryz.func182
def vI:=cX [] [2] Tryz.func183
def vH:=cX [] [4,5,6,7] Tryz.func184
def vG:=cX [] [] Tryz.func185
def vF:=cX [] [] Tryz.func186
def vE:=cX [] [2] Tryz.func187
def gh:=cX [] [2,3] Tryz.func188
def gg:=cX [] [3] Tryz.func189
def vD:=cX [] [] Tryz.func190
def vC:=cX [] [3] Tryz.func191
def vB:=cX [] [4] Tryz.func192
def vA:=cX [] [1] Tryz.func201
def u9:=cX [] [] Tryz.func202
def u5:=cX [] [] Tryz.func203
def u4:=cX [] [1] Tryz.func204
def gd:=Je [] [1] Tryz.func205
def u3:=cX [] [2,3] Tryz.func206
def uz:=cX [] [7] Tryz.func207
def gb:=Je [] [5] Tryz.func208
def uy:=cX [] [4,5] Tryz.func209
def ux:=cX [] [] Tryz.func210
def uw:=cX [] [3,5] Tryz.func211
set_option maxRecDepth 100000
def uv:=cX [] [3] Tryz.func212
def uu:=cX [] [2] Tryz.func213
def ur:=cX [] [2] Tryz.func214
def uq:=cX [] [2] Tryz.func215
def ga:=cX [] [2] Tryz.func216
def uo:=cX [] [] Tryz.func217
def um:=cX [] [] Tryz.func218
def gZ:=cX [] [2] Tryz.func219
def uk:=cX [] [] Tryz.func220
def uj:=cX [] [2,3] Tryz.func221
def gY:=cX [] [2] Tryz.func222
def ui:=cX [] [2] Tryz.func223
def uh:=cX [] [3] Tryz.func224
def ug:=cX [] [] Tryz.func225
def uf:=cX [] [] Tryz.func226
def gX:=cX [] [] Tryz.func227
def ue:=cX [] [] Tryz.func228
def ud:=cX [] [2] Tryz.func229
def uc:=cX [] [] Tryz.func230
def ub:=cX [] [] Tryz.func231
def ua:=cX [] [] Tryz.func232
def uZ:=cX [] [4] Tryz.func233
def uY:=cX [] [] Tryz.func234
def gV:=cX [] [] Tryz.func235
def uX:=cX [] [] Tryz.func236
def uW:=cX [] [] Tryz.func237
def uV:=cX [] [2,3] Tryz.func238
abbrev iK:Ao:=(.Hs [⟨(some 2),.alloc [(.b false)],none⟩])
def pM:List A8:=[⟨(some 3),.qP (.func 288) [] [(.t 2)],none⟩]
abbrev iI:Ao:=(.seq [2] (.Hs [⟨(some 4),.mv (.t 0),none⟩,
 ⟨(some 5),.Pv (.t 4) [],none⟩])
 (.seq [2] (.Hs [⟨none,.store 1 (.t 2) (.c (.b true)),none⟩])
 .ret))
def rP:Tryz.f242.body.bind (Py Tryz.prog Tryz.f242.ntmps [] [])=some (erase iK,pM,(.t 3),erase iI):=by kernel_rfl
def uU {args:List V} (hn:args.length<=6) {Z:AD} {Q:R->AD->Prop} (h:W Tryz.prog (.seq [0,2] iK (.Hs pM)) (CZ (ed Tryz.prog (.t 3) [0,2] iI [.c 2 none] Q)) (Ct 0 args) Z):As Tryz.prog 242 args Z Q:=
 RU Tryz.func242 (by kernel_rfl) rP (by kernel_rfl) hn (qB h)
def uT:=cX [] [] Tryz.func243
def uS:=cX [] [1] Tryz.func244
def gU:=cX [] [] Tryz.func245
def uR:=cX [] [7] Tryz.func246
def uQ:=cX [] [3,4,5] Tryz.func247
def uP:=cX [] [3,4] Tryz.func248
def uO:=cX [] [] Tryz.func249
def uN:=cX [] [1] Tryz.func250
def uM:=cX [] [] Tryz.func251
def uK:=cX [] [1] Tryz.func252
def uJ:=cX [] [2] Tryz.func253
set_option maxRecDepth 100000
def uI:=cX [] [] Tryz.func254
def uH:=Je [] [2,3] Tryz.func255
def uG:=cX [] [] Tryz.func256
def uF:=cX [] [0] Tryz.func257
def uE:=cX [] [2] Tryz.func258
def uD:=cX [] [] Tryz.func259
def uC:=cX [] [] Tryz.func260
def uB:=cX [] [3] Tryz.func261
def gT:=cX [] [] Tryz.func262
def uA:=cX [] [] Tryz.func263
def tz:=cX [] [1] Tryz.func264
def tx:=cX [] [3] Tryz.func265
def tw:=cX [] [] Tryz.func266
def tv:=cX [] [2] Tryz.func267
def tu:=cX [] [3] Tryz.func268
def tt:=cX [] [] Tryz.func269
def ts:=cX [] [] Tryz.func270
def tr:=cX [] [] Tryz.func271
def tq:=cX [] [] Tryz.func272
def tp:=cX [] [] Tryz.func273
def tn:=cX [] [] Tryz.func274
def tl:=cX [] [] Tryz.func275
def tk:=cX [] [] Tryz.func285
def tj:=cX [] [] Tryz.func286
def pK:List A8:=[⟨(some 1),.mv (.t 4),none⟩]
abbrev iH:Ao:=(.seq [0,1,6] (.Hs [⟨(some 5),.mv (.t 1),none⟩,
 ⟨(some 6),.qW 2 true (.t 5),none⟩])
 (.cond (.t 6)
 (.seq [0] (.seq [0,1,3] (.Hs [⟨(some 8),.mv (.t 1),none⟩,
  ⟨(some 9),.qL 368 (.a []) true (.t 8),none⟩,
  ⟨(some 7),.mv (.t 9),none⟩,
  ⟨(some 10),.extract 0 (.t 7),none⟩,
  ⟨(some 11),.extract 1 (.t 7),none⟩,
  ⟨(some 2),.alloc [],none⟩,
  ⟨none,.store 0 (.t 2) (.t 10),none⟩,
  ⟨(some 3),.mv (.t 11),none⟩])
 (.seq [0,1,13] (.Hs [⟨(some 12),.mv (.t 3),none⟩,
  ⟨(some 13),.not (.t 12),none⟩])
 (.cond (.t 13)
 (.Hs [⟨(some 14),.mv (.t 1),none⟩,
  ⟨none,.panic (.t 14),none⟩])
 .skip)))
 (.Hs [⟨none,.store 1 (.t 0) (.c (.b false)),none⟩]))
 .skip))
def rO:Tryz.f288.body.bind (resRec Tryz.prog Tryz.f288.ntmps [] [])=some (4,pK,erase iH):=by kernel_rfl
def aw {args:List V} (hn:args.length<=15) {m:Option V} {Z:AD} {Q:AD->Prop} (h:W Tryz.prog (.seq [0,1] (.Hs pK) iH) (R9 Q) (put (some 4) (m.getD .K0) (Ct 0 args)) Z):Oz Tryz.prog 288 args m Z Q:=
 TH Tryz.func288 (by kernel_rfl) rO rfl hn (o0 h)
def ti:=cX [] [] Tryz.func289
def th:=cX [] [] Tryz.func290
def tg:=cX [] [2] Tryz.func291
def tf:=cX [] [] Tryz.func292
def te:=cX [] [4] Tryz.func293
def gS:=cX [] [6] Tryz.func294
def td:=cX [] [] Tryz.func295
set_option maxRecDepth 100000
def tc:=cX [] [] Tryz.func296
def tb:=cX [] [] Tryz.func297
def ta:=cX [] [] Tryz.func298
def tZ:=cX [] [] Tryz.func299
def tY:=cX [] [] Tryz.func300
def tX:=cX [] [] Tryz.func301
def tW:=cX [] [] Tryz.func302
def tV:=cX [] [] Tryz.func303
def Ng:=cX [] [1] Tryz.func304
def tU:=cX [] [1] Tryz.func305
def tT:=cX [] [1] Tryz.func306
def tS:=cX [] [2] Tryz.func307
def tR:=cX [] [] Tryz.func313
def tQ:=cX [] [] Tryz.func314
def tP:=cX [] [3,4,5] Tryz.func315
def tN:=cX [] [] Tryz.func316
def tM:=cX [] [1] Tryz.func317
def tL:=cX [] [1] Tryz.func318
def tK:=Je [] [1] Tryz.func319
def tJ:=cX [] [1] Tryz.func320
def tI:=cX [] [1] Tryz.func321
def tH:=Je [] [2] Tryz.func322
def tG:=cX [] [1] Tryz.func323
def tF:=Je [] [] Tryz.func325
def tE:=Je [] [3] Tryz.func326
def tD:=cX [] [] Tryz.func327
def tC:=cX [] [] Tryz.func328
def tB:=cX [] [] Tryz.func329
def tA:=cX [] [0] Tryz.func330
def s9:=cX [] [] Tryz.func331
def gR:=cX [] [] Tryz.func332
def s8:=cX [] [] Tryz.func333
def s7:=cX [] [] Tryz.func334
def s6:=cX [] [4,5] Tryz.func352
def s5:=cX [] [3,4,5] Tryz.func353
@[reducible] noncomputable def zP:=Tryz.prog
end Go.Gl
namespace Go.Gl
open Go.Proofs
attribute [local irreducible] As Af AV AQ AI AU AP AR AJ AT AM AN Ag Ar Sat AS Ap AX W
def gG (xs:List Int) (f:Bool) (x:Int) (hx:xs.length<=AZ):Pure zP 210 [.l (iL xs) f,.i .i64 x] (.b (xs.contains x)):=by
 refine ux kZ ?_;refine zh ?_;(repeat clear U K);repeat intro K U
 refine Ba xs.length (fun k (_:Unit)=>[(5,eI (Au k))]) (fun _ _=>[]) (fun k _=>x∉xs.take k) () rfl (by simp) Sat.nil ?_;rintro k - Z hk hn -;refine zh ?_;(repeat clear U K);repeat intro K U
 refine Gh hk hx (fun y hy hlt=>?_) fun hk=>?_
 .refine zh ?_;(repeat clear U K);repeat intro K U
  refine Jl hy hx rfl ?_;refine zh ?_;(repeat clear U K);repeat intro K U
  refine aY (fun he=>?_) (fun he=>?_)
  .refine zh ?_;(repeat clear U K);repeat intro K U
   refine AF ?_;have:x∈xs:=he ▸ BY hy;simp[this]
  .refine zh ?_;(repeat clear U K);repeat intro K U
   refine⟨hlt,(),rfl,?_,Sat.nil⟩;rw[AO hy];simp only[Du,JT,not_or];exact⟨hn,fun e=>he e.symm⟩
 .refine zh ?_;(repeat clear U K);repeat intro K U
  refine AF ?_;rw[Ak hk]at hn;simp[hn]
def Qp (xs:List Int) (f:Bool) (x:Int) (hx:xs.length<=AZ):Pure zP 297 [.l (iL xs) f,.i .i64 x] (.l (iL (xs.filter (· != x))) false):=by
 refine tb kZ ?_;refine zh ?_;(repeat clear U K);repeat intro K U
 refine Ba xs.length (fun k v=>[(5,v),(6,eI (Au k))]) (fun k v=>[.own v 1 (iL ((xs.take k).filter (· != x)))]) (fun _ _=>True) (.l [] true) rfl trivial (Ce Sat.nil 1) ?_;rintro k v Z hk - hs;refine zh ?_;(repeat clear U K);repeat intro K U
 refine Gh hk hx (fun y hy hlt=>?_) fun hk=>?_
 .refine zh ?_;(repeat clear U K);repeat intro K U
  refine Jl hy hx rfl ?_;refine zh ?_;(repeat clear U K);repeat intro K U
  refine ny (fun he=>?_) (fun he=>?_)
  .conv=>whnf
   repeat((first|clear U K|(apply zk;intro K U)|fail);conv=>whnf)
   refine Jl hy hx rfl ?_;refine zh ?_;(repeat clear U K);repeat intro K U
   refine GJ hs 0 (x:=y) rfl (by have:=NI (· != x) (xs.take k);simp only[Ib]at this;have hM:=Mx;omega) Bg fun v' Z' hs'=>?_
   refine zh ?_;(repeat clear U K);repeat intro K U
   refine⟨hlt,v',rfl,trivial,?_⟩;rw[AO hy,List.filter_append];simpa[he]using hs'
  .refine zh ?_;(repeat clear U K);repeat intro K U
   refine⟨hlt,v,rfl,trivial,?_⟩;rw[AO hy,List.filter_append];simpa[he]using hs
 .refine zh ?_;(repeat clear U K);repeat intro K U
  exact Ee hs 0 rfl (by rw[Ak hk])
def free (ls:List (List Int)) (x:Int):Bool:=ls.all fun l=> !(l.drop 1).contains x
def nt (ls:List (List Int)) (f:Bool) (x:Int) (hl:ls.length<=AZ) (hls: ∀l∈ls,l.length<=AZ):Pure zP 298 [.l (EF ls) f,.i .i64 x] (.b (free ls x)):=by
 refine ta kZ ?_;refine zh ?_;(repeat clear U K);repeat intro K U
 refine Ba ls.length (fun k (_:Unit)=>[(5,eI (Au k))]) (fun _ _=>[]) (fun k _=> ∀l∈ls.take k,x∉l.drop 1) () rfl (by simp) Sat.nil ?_;rintro k - Z hk hn -;refine zh ?_;(repeat clear U K);repeat intro K U
 refine Gh hk hl (fun y hy hlt=>?_) fun hk=>?_
 .have hb:=hls _ (BY hy)
  have next:(x∉y.drop 1)-> ∀l∈ls.take (k+1),x∉l.drop 1:=fun hc l hm=>by
   rw[AO hy]at hm;rcases Du.1 hm with hm|hm
   .exact hn l hm
   .rw[JT.1 hm];exact hc
  refine zh ?_;(repeat clear U K);repeat intro K U
  refine Jl hy hl rfl ?_;refine zh ?_;(repeat clear U K);repeat intro K U
  refine⟨fun h=>?_,fun h=>?_⟩<;>(try rw[h])
  .have hp:=of_decide_eq_true h
   simp only[Bh]at hp;refine zh ?_;(repeat clear U K);repeat intro K U
   refine Jl hy hl rfl ?_;refine zh ?_;(repeat clear U K);repeat intro K U
   refine V2 1 rfl (by omega) (fun _=>rfl) ?_;refine zh ?_;(repeat clear U K);repeat intro K U
   refine(gG _ _ _ (by rw[lB];omega)).use ?_;refine zh ?_;(repeat clear U K);repeat intro K U
   refine⟨fun hc=>?_,fun hc=>?_⟩
   .refine zh ?_;(repeat clear U K);repeat intro K U
    refine AF ?_
    have:free ls x=false:=by
     simp only[free,List.all_eq_false];exact⟨y,BY hy,by simpa using hc⟩
    rw[this]
   .refine zh ?_;(repeat clear U K);repeat intro K U
    exact⟨hlt,(),rfl,next (by simpa using hc),Sat.nil⟩
  .have hp: ¬_:=of_decide_eq_false h
   simp only[Bh]at hp;refine zh ?_;(repeat clear U K);repeat intro K U
   refine⟨hlt,(),rfl,next ?_,Sat.nil⟩;rw[List.drop_eq_nil_of_le (by omega)];simp
 .refine zh ?_;(repeat clear U K);repeat intro K U
  rw[Ak hk]at hn;refine AF ?_;have:free ls x=true:=by simpa[free]using hn
  rw[this]
def A4 (ls:List (List Int)) (c:Int):List Int:=if c<3 then []else ls.getD (c - 3).toNat []
def Yj (ls:List (List Int)) (f:Bool) (c:Int) (hc:c<3+ls.length) (hm:ls.length<=AZ):Pure zP 296 [.l (EF ls) f,.i .i64 c] (.l (iL (A4 ls c)) false):=by
 refine tc kZ ?_;refine zh ?_;(repeat clear U K);repeat intro K U
 refine fork (fun h=>?_) (fun h=>?_)
 .refine zh ?_;(repeat clear U K);repeat intro K U
  refine AY (.l (fun h=>(by cases h)) ?_);rw[A4,if_pos h];exact .nil
 .refine zh ?_;(repeat clear U K);repeat intro K U
  simp only[AZ]at hm;have hlt:(c - 3).toNat<ls.length:=by omega
  refine VQ (c - 3).toNat (CQ hlt) (by rw[wrap64 (by omega) (by omega)];omega) rfl ?_;refine zh ?_;(repeat clear U K);repeat intro K U
  refine AF ?_;rw[A4,if_neg h,Co,CQ hlt];rfl
def Eg (ls os:List (List Int)) (c:Int):Option (List (List Int)):=
 if(A4 ls c).any fun p=>(os.getD p.toNat []).isEmpty then none else some ((A4 ls c).map (fun p=>(os.getD p.toNat []).filter (· != 0))++[A4 ls c])
def yP (o:Option (List (List Int))):V:=match o with|some l=> .t [.l (EF l) false,.b true]|none=> .t [.l [] false,.b false]
def jl (ls os:List (List Int)) (f:Bool) (w:V) (c:Int) (hc:c<3+ls.length) (hm:ls.length<=AZ) (hos: ∀o∈os,o.length<=AZ) (hpl:(A4 ls c).length<1000000)
    (hp: ∀p∈A4 ls c,0<=p/\p.toNat<os.length):BL zP 256 [.l (EF ls) f,w,.i .i64 c] [.own w 1 (EF os)] fun r post=>r= .ret (yP (Eg ls os c))/\post= [.own w 1 (EF os)]:=by
 have hM:=Mx;intro Z hs;refine uG kZ ?_
 conv=>whnf
 repeat((first|clear U K|apply st|(apply zk;intro K U)|fail);conv=>whnf)
 refine(Yj _ _ _ hc hm).use ?_;refine zh ?_;(repeat clear U K);repeat intro K U
 refine Ba (A4 ls c).length (fun k v=>[(8,v),(10,eI (Au k))]) (fun k v=>[.own w 1 (EF os),.own v 1 (EF (((A4 ls c).take k).map fun p=>(os.getD p.toNat []).filter (· != 0)))]) (fun k _=> ∀p∈(A4 ls c).take k,(os.getD p.toNat []).isEmpty=false)
  (.l [] true) rfl (by simp) (Ce hs 1) ?_
 rintro k v Z hk hne hs;refine zh ?_;(repeat clear U K);repeat intro K U
 refine Gh hk (by omega) (fun p hpk hlt=>?_) fun hk=>?_
 .obtain ⟨hp0,hp1⟩:=hp _ (BY hpk)
  have hq:=CQ hp1
  have hgd:os.getD p.toNat []=os[p.toNat]:=by
   rw[Co,hq];rfl
  have hqm:(EF os)[p.toNat]? =some [.l (iL os[p.toNat]) false]:=by rw[JV,hq];rfl
  refine zh ?_;(repeat clear U K);repeat intro K U
  refine Jl hpk (by omega) rfl ?_;refine zh ?_;(repeat clear U K);repeat intro K U
  refine eE hs 0 p.toNat rfl (by omega) (by simpa using hp1) ?_
  conv=>whnf
  refine Ip hs 0 rfl hqm ?_;refine zh ?_;(repeat clear U K);repeat intro K U
  refine aY (fun he=>?_) (fun he=>?_)
  .refine zh ?_;(repeat clear U K);repeat intro K U
   have hn:Eg ls os c=none:=by
    simp only[Eg];rw[if_pos];rw[G1];refine⟨p,BY hpk,?_⟩;rw[hgd];have:(os[p.toNat]).length=0:=by simpa using he
    simp[VA.1 this]
   rw[hn];exact Aj (l':=[.own w 1 (EF os)]) hs (by simp) (.t (.cons (.l (fun h=>(by cases h)) .nil) (.cons (.refl _) .nil))) fun Z' hs'=>⟨_,⟨rfl,rfl⟩,hs'⟩
  .refine zh ?_;(repeat clear U K);repeat intro K U
   refine Jl hpk (by omega) rfl ?_;refine zh ?_;(repeat clear U K);repeat intro K U
   refine eE hs 0 p.toNat rfl (by omega) (by simpa using hp1) ?_
   conv=>whnf
   refine Ip hs 0 rfl hqm ?_
   conv=>whnf
   refine(Qp _ _ _ (hos _ (List.getElem_mem hp1))).use ?_
   conv=>whnf
   refine GJ hs 1 (x:=os[p.toNat].filter (· != 0)) rfl (by have hM:=Mx;simp;omega) DI fun v' Z' hs'=>?_
   refine zh ?_;(repeat clear U K);repeat intro K U
   refine⟨hlt,v',rfl,fun q hm=>?_,?_⟩
   .rw [AO hpk]at hm
    rcases Du.1 hm with hm|hm
    .exact hne q hm
    .rw[JT.1 hm,hgd]
     have:(os[p.toNat]).length≠0:=by
      intro e;exact he (by simp[e])
     cases hq:os[p.toNat]with
     | nil=>rw[hq]at this;exact absurd rfl this
     | cons _ _=>rfl
   .rw[AO hpk,ND,List.map_singleton,hgd]
    exact hs'
 .rw[Ak hk]at hne hs
  refine zh ?_;(repeat clear U K);repeat intro K U
  refine GJ hs 1 (x:=A4 ls c) rfl (by have hM:=Mx;simp;omega) DI fun v' Z' hs'=>?_
  refine zh ?_;(repeat clear U K);repeat intro K U
  have hn:Eg ls os c=some ((A4 ls c).map (fun p=>(os.getD p.toNat []).filter (· != 0))++[A4 ls c]):=by
   simp only[Eg];rw[if_neg];rw[G1];rintro⟨p,h1,h2⟩;rw[hne p h1]at h2;cases h2
  rw[hn];obtain⟨Z2,h1,h2,h3⟩:=Gb hs' 1 rfl;exact Ft h1 (.t (.cons h2 (.cons (.refl _) .nil))) ⟨_,⟨rfl,rfl⟩,h3⟩
def Vi {w:AE} (h:Fb (.a (Ax w))):w.parents.length<=AZ/\(∀l∈w.parents,l.length<=AZ)/\w.owner.length<=AZ:=by
 simp only[Ax,Hk,Dg,Hj,J5,Bh]at h;exact⟨h.1.1,fun l hl=>(h.1.2 l hl).1.1,h.2.1.1⟩
def L8 {xs:List Int} {g:Bool} (h:Fb (.l (iL xs) g)):xs.length<=AZ:=by
 simp only[Hj,Bh]at h;exact h.1
def JK {f:Fact} (h:Fb (.a (xF f))):f.kids.length<=AZ/\f.path.length<=AZ/\ ∀k∈f.kids,Fb (.a (xF k)):=by
 simp only[Hk,Dg,Hj,J5,Bh]at h;exact⟨h.2.2.2.2.2.1.1,h.2.2.1.1,fun k hk=>by have:=h.2.2.2.2.2.1.2 k hk;rw[A9]at this;exact this⟩
def R3 (w:AE) (c:Int):Bool:=decide (0<=c)&&decide (c<3+w.parents.length)
def kI (w:AE) (c:Int):Pure zP 214 [.a (Ax w),eI c] (.b (R3 w c)):=by
 refine Pure.fit (by kernel_rfl) fun hf=>?_
 have⟨h1,h2,h3⟩:=Vi hf.1;have hM:=Mx;refine ur kZ ?_
 conv=>whnf
 repeat'((first|clear U K|apply st|(apply zk;intro K U)|refine zn ?_|refine za (fun hc=>?_) fun hc=>?_|fail)<;>conv=>whnf)
 .exact AF (by rw[Bh,wrap64 (by omega) (by omega)];simp[R3,hc])
 .exact AF (by simp[R3,hc];intros;omega)
def JE (w:AE) (s:Int):Bool:=decide (0<=s)&&decide (s<w.owner.length)
def Ex (w:AE) (p:List Int):Bool:=p.all (JE w)&&decide (p.length<=2)
def mg (w:AE) (p:List Int) (g:Bool):Pure zP 215 [.a (Ax w),.l (iL p) g] (.b (Ex w p)):=by
 refine Pure.fit (by kernel_rfl) fun hf=>?_
 have⟨h1,h2,h3⟩:=Vi hf.1;have h4:=L8 hf.2.1;have hM:=Mx;refine uq kZ ?_;refine zu ?_;(repeat clear U K);repeat intro K U
 refine Ba p.length (fun k (_:Unit)=>[(9,eI (Au k))]) (fun _ _=>[]) (fun k _=>p.all (JE w)=(p.drop k).all (JE w)) () rfl rfl Sat.nil ?_;rintro k - Z hk hn hs
 conv=>whnf
 repeat'((first|clear U K|apply st|(apply zk;intro K U)|refine zn ?_|(refine fc (fun x hx hlt hc=>?_) (fun hk hc=>?_)<;>(try rw[hc])<;>clear hc)|(refine zd (fun hc=>?_) (fun hc=>?_)<;>try exact⟨⟩)|fail)<;>conv=>whnf)
 .exact AF (by rw[Ex,hn,drop_cons hx];simp[JE,hc];intros;omega)
 .exact⟨hlt,(),rfl,by rw[hn,drop_cons hx];simp[JE, *],hs⟩
 .exact AF (by rw[Ex,hn,drop_cons hx];simp[JE,hc];intros;omega)
 .exact AF (by rw[Ex,hn,Ad hk];simp;omega)
def Bu (f:Fact):Bool:=f.op==2||f.op==3||f.op==4
def aH (f:Fact):Pure zP 166 [.a (xF f)] (.b (Bu f)):=by
 refine vU kZ ?_
 conv=>whnf
 repeat'((first|clear U K|apply st|(apply zk;intro K U)|refine zn ?_|refine za (fun hc=>?_) fun hc=>?_|fail)<;>conv=>whnf)
 all_goals exact AF (by simp[Bu, *])
def C2:List (Int->Int)->Int->Int->Int
 | [],n,_=>n
 | k::r,n,most=>if n<=most then C2 r (n+k (most - n)) most else n
def B1 (f:Fact):Int->Int:=f.Fv fun _ l most=>C2 l 1 most
def IS (f:Fact) (most:Int):B1 f most=C2 (f.kids.map B1) 1 most:=by
 rw[B1,Fact.CT];rfl
def Q7 {most:Int}: ∀(l:List (Int->Int)) (n:Int),(∀g∈l,∀m,0<=m->1<=g m/\g m<=m+1)->1<=n->n<=most+1->1<=C2 l n most/\C2 l n most<=most+1
 | [],n,_,h1,h2=>⟨h1,h2⟩
 | g ::r,n,h,h1,h2=>by
   rw[C2];split
   .have:=h g (List.mem_cons_self ..) (most - n) (by omega)
    exact Q7 r _ (fun g hg=>h g (List.mem_cons_of_mem _ hg)) (by omega) (by omega)
   .exact⟨h1,h2⟩
def Lg (f:Fact): ∀m,0<=m->1<=B1 f m/\B1 f m<=m+1:=by
 induction f using Fact.ind with
 | h f ih=>
   intro m hm;rw[IS];refine Q7 _ _ (fun g hg=>?_) (by omega) (by omega);obtain⟨k,hk,rfl⟩:=GL.1 hg;exact ih k hk
def jc (f:Fact): ∀most:Int,0<=most->most<=1000->Pure zP 213 [.a (xF f),eI most] (eI (B1 f most)):=by
 induction f using Fact.ind with
 | h f ih=>
   intro most h0 h1;refine Pure.fit (by kernel_rfl) fun hf=>?_
   have⟨h2,h3,h4⟩:=JK hf.1;have hM:=Mx;refine uu kZ ?_;refine zu ?_;(repeat clear U K);repeat intro K U
   refine Ba f.kids.length (fun k (n:Int)=>[(5,eI n),(6,eI (Au k))]) (fun _ _=>[]) (fun k n=>1<=n/\n<=most+1/\B1 f most=C2 ((f.kids.drop k).map B1) n most) 1 rfl ⟨by omega,by omega,by rw[List.drop_zero];exact IS f most⟩ Sat.nil ?_;rintro k n Z hk ⟨hn1,hn2,hn⟩ hs
   conv=>whnf
   repeat'((first|clear U K|apply st|(apply zk;intro K U)|refine zn ?_|(refine fc (fun x hx hlt hc=>?_) (fun hk hc=>?_)<;>(try rw[hc])<;>clear hc)|refine za (fun hc=>?_) fun hc=>?_|fail)<;>conv=>whnf)
   .rw[wrap64 (by omega) (by omega)]
    have hb:=Lg x (most - n) (by omega);refine(ih x (BY hx) (most - n) (by omega) (by omega)).use ?_;refine zu ?_;(repeat clear U K);repeat intro K U
    rw[wrap64 (by omega) (by omega)];exact⟨hlt,_,rfl,⟨by omega,by omega,by rw[hn,drop_cons hx,Cn,C2,if_pos hc]⟩,hs⟩
   .exact AF (by rw[hn,drop_cons hx,Cn,C2,if_neg (by omega)])
   .exact AF (by rw[hn,Ad hk];rfl)
def jd (f:Fact):Pure zP 163 [.a (xF f)] (eI (B1 f 24)):=by
 refine vX kZ ?_;refine zu ?_;(repeat clear U K);repeat intro K U
 refine(jc f 24 (by omega) (by omega)).use ?_;exact zW
def CA (f:Fact):Nat:=f.Fv fun _ l=>1+l.sum
def ET (f:Fact):CA f=1+(f.kids.map CA).sum:=Fact.CT _ f
def bA {f k:Fact} (h:k∈f.kids):CA k<CA f:=by
 have: ∀l:List Fact,k∈l->CA k<=(l.map CA).sum:=fun l=>by
  induction l with
  | nil=>intro h;cases h
  | cons x r ih=>
    intro h;simp only[Cn,List.sum_cons];rcases Ff.1 h with rfl|h
    .omega
    .have:=ih h;omega
 have:=this _ h;rw[ET f];omega
def Q6 {most:Int}: ∀(l:List Fact) (n:Int),(∀k∈l,∀m,0<=m->B1 k m<=m->B1 k m=CA k)->0<=n->C2 (l.map B1) n most<=most->C2 (l.map B1) n most=n+(l.map CA).sum
 | [],n,_,_,_=>by simp[C2]
 | k :: r, n,h,h0,h1=>by
   simp only[Cn,C2]at *;split at h1
   .rename_i hc
    rw[if_pos hc];have hb:=Lg k (most - n) (by omega)
    have hge: ∀(l:List Fact) (a:Int),a<=C2 (l.map B1) a most:=fun l=>by
     induction l with
     | nil=>intro a;exact Int.le_refl _
     | cons y l ih=>
       intro a;simp only[Cn,C2];split
       .have:=Lg y (most - a) (by omega)
        have:=ih (a+B1 y (most - a));omega
       .exact Int.le_refl _
    have h2:=hge r (n+B1 k (most - n));have h3:=h k (List.mem_cons_self ..) (most - n) (by omega) (by omega);have h4:=Q6 r (n+B1 k (most - n)) (fun k' hk'=>h k' (List.mem_cons_of_mem _ hk')) (by omega) h1;simp only[List.sum_cons];omega
   .rename_i hc
    omega
def Ix (f:Fact): ∀m,0<=m->B1 f m<=m->B1 f m=CA f:=by
 induction f using Fact.ind with
 | h f ih=>
   intro m h0 h1;rw[IS]at *;rw[Q6 f.kids 1 ih (by omega) h1,ET];omega
def Ky (a b:Int):Int:=if a<b then b else a
def ES (f:Fact):Int:=f.Fv fun _ l=>l.foldl Ky 0+1
def IW (f:Fact):ES f=(f.kids.map ES).foldl Ky 0+1:=Fact.CT _ f
def LI {m:Int}: ∀(l:List Int) (a:Int),(∀x∈l,x<=m)->a<=m->l.foldl Ky a<=m
 | [],_,_,h=>h
 | x::r,a,h,h'=>by
   refine LI r _ (fun y hy=>h y (List.mem_cons_of_mem _ hy)) ?_;have:=h x (List.mem_cons_self ..);unfold Ky;split<;>omega
def LG: ∀(l:List Int) (a:Int),a<=l.foldl Ky a
 | [],_=>Int.le_refl _
 | x::r,a=>by
   refine Int.le_trans ?_ (LG r _);unfold Ky;split<;>omega
def ZB (f:Fact):1<=ES f/\ES f<=CA f:=by
 induction f using Fact.ind with
 | h f ih=>
   rw[IW];have h1:=LG (f.kids.map ES) 0
   have h2:(f.kids.map ES).foldl Ky 0<=(CA f:Int) - 1:=by
    refine LI _ _ (fun x hx=>?_) (by have:=ET f;omega);obtain⟨k,hk,rfl⟩:=GL.1 hx;have:=(ih k hk).2;have:=bA hk;omega
   omega
def Gq {α:Type} {xs:List α} {k:Nat} {x:α} {β:Type} (g:α->β) (h:β->β->β) (a:β) (hx:xs[k]? =some x):((xs.take (k+1)).map g).foldl h a=h (((xs.take k).map g).foldl h a) (g x):=by
 rw[AO hx,ND,List.foldl_append];rfl
def kD (f:Fact):CA f<=AZ->Pure zP 164 [.a (xF f)] (eI (ES f)):=by
 induction f using Fact.ind with
 | h f ih=>
   intro hc;refine Pure.fit (by kernel_rfl) fun hf=>?_
   have⟨h2,h3,h4⟩:=JK hf.1;have hM:=Mx;refine vW kZ ?_;refine zu ?_;(repeat clear U K);repeat intro K U
   refine Ba f.kids.length (fun k (_:Unit)=>[(3,eI (((f.kids.take k).map ES).foldl Ky 0)),(9,eI (Au k))]) (fun _ _=>[]) (fun _ _=>True) () rfl trivial Sat.nil ?_;rintro k - Z hk - hs
   conv=>whnf
   repeat'((first|clear U K|apply st|(apply zk;intro K U)|refine zn ?_|refine zr fun Z hs=>?_|(refine fc (fun x hx hlt hc=>?_) (fun hk hc=>?_)<;>(try rw[hc])<;>clear hc)|refine zp fun nn hnn Z hs=>?_|fail)<;>conv=>whnf)
   .refine(ih x (BY hx) (by have:=bA (BY hx);omega)).use ?_
    refine zu ?_;(repeat clear U K);repeat intro K U
    exact⟨hlt,(),by rw[Gq _ _ _ hx];rfl,trivial,Sat.nil⟩
   .have:=ZB f
    rw[IW]at this;exact AF (by rw[Ak hk,wrap64 (by omega) (by omega),<-IW])
def Gd (f:Fact):Int:=f.Fv fun f l=>l.foldl Ky (if Bu f then f.arg+1 else 0)
def Kb (f:Fact):Gd f=(f.kids.map Gd).foldl Ky (if Bu f then f.arg+1 else 0):=Fact.CT _ f
def SS (f:Fact):Bool:=f.Fv fun f l=>decide (0<=f.arg)&&decide (f.arg<3)&&l.all id
def Qk (f:Fact):SS f=(decide (0<=f.arg)&&decide (f.arg<3)&&(f.kids.map SS).all id):=Fact.CT _ f
def jB (f:Fact):SS f=true->Pure zP 103 [.a (xF f)] (eI (Gd f)):=by
 induction f using Fact.ind with
 | h f ih=>
   intro ha;refine Pure.fit (by kernel_rfl) fun hf=>?_
   have⟨h2,h3,h4⟩:=JK hf.1;have hM:=Mx;rw[Qk]at ha;simp only[A7,CF,List.all_map,DT]at ha;refine we kZ ?_;refine zu ?_;(repeat clear U K);repeat intro K U
   refine(aH f).use ?_
   conv=>whnf
   repeat'((first|clear U K|apply st|(apply zk;intro K U)|refine zn ?_|refine za (fun hc=>?_) fun hc=>?_|fail)<;>conv=>whnf)
   .refine Ba f.kids.length (fun k (_:Unit)=>[(3,eI (((f.kids.take k).map Gd).foldl Ky (if Bu f then f.arg+1 else 0))),(14,eI (Au k))]) (fun _ _=>[]) (fun _ _=>True) () (by rw[wrap64 (by omega) (by omega),if_pos hc];rfl) trivial Sat.nil ?_
    rintro k - Z hk - hs
    conv=>whnf
    repeat'((first|clear U K|apply st|(apply zk;intro K U)|refine zn ?_|refine zr fun Z hs=>?_|(refine fc (fun x hx hlt hc=>?_) (fun hk hc=>?_)<;>(try rw[hc])<;>clear hc)|refine zp fun nn hnn Z hs=>?_|fail)<;>conv=>whnf)
    .refine(ih x (BY hx) (ha.2 x (BY hx))).use ?_
     refine zu ?_;(repeat clear U K);repeat intro K U
     exact⟨hlt,(),by rw[Gq _ _ _ hx];rfl,trivial,Sat.nil⟩
    .exact AF (by rw[Ak hk,<-Kb])
   .refine Ba f.kids.length (fun k (_:Unit)=>[(3,eI (((f.kids.take k).map Gd).foldl Ky (if Bu f then f.arg+1 else 0))),(14,eI (Au k))]) (fun _ _=>[]) (fun _ _=>True) () (by rw[if_neg (c:=Bu f=true) (by simp[hc])];rfl) trivial Sat.nil ?_
    rintro k - Z hk - hs
    conv=>whnf
    repeat'((first|clear U K|apply st|(apply zk;intro K U)|refine zn ?_|refine zr fun Z hs=>?_|(refine fc (fun x hx hlt hc=>?_) (fun hk hc=>?_)<;>(try rw[hc])<;>clear hc)|refine zp fun nn hnn Z hs=>?_|fail)<;>conv=>whnf)
    .refine(ih x (BY hx) (ha.2 x (BY hx))).use ?_
     refine zu ?_;(repeat clear U K);repeat intro K U
     exact⟨hlt,(),by rw[Gq _ _ _ hx];rfl,trivial,Sat.nil⟩
    .exact AF (by rw[Ak hk,<-Kb])
end Go.Gl
