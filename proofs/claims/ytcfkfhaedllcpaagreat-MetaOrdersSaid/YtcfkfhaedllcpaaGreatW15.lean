import Derived.Shelf.Sort.Plain
import Derived.Test.YtcfkfhaedllcpaaGreatProg
import Derived.KernelRfl
import Derived.Test.YtcfkfhaedllcpaaGreatW12
import Derived.Test.YtcfkfhaedllcpaaGreatW13
import Derived.Test.YtcfkfhaedllcpaaGreatW14
set_option linter.all false
set_option linter.defProp false
set_option maxHeartbeats 8000000
noncomputable section
namespace Go.Gl
open Go.Proofs Go.Shelf
abbrev G8 (x y:Int):Bool:=decide (x<=y)
def gy {P:Program} {f:FuncId} (hok:okF P f=true)
    (hc: ∀(blk cap:Nat) (zs:List Int) (w:World),Sort.Holds (Value.int .i64) w blk 0 zs.toArray->blk<w.heap.size->zs.length<4611686018427387904->
     Calls P f #[.slice (some ⟨blk,0,none⟩) zs.length cap] w fun e w'=>e= .returned (.tuple #[])/\ ∃n os,w'=Sort.grow (Sort.putRow (Value.int .i64) (Sort.ahead w n) blk 0 (zs.mergeSort fun x y=>decide (x<=y)).toArray) os)
    (xs:List Int) (n len cap:Nat):Bc P f [.sl n len cap] [.own (.sl n len cap) 1 (iL xs)] fun r post=>r= .ret (.t [])/\post= [.own (.sl n len cap) 1 (iL (xs.mergeSort G8))]:=by
 intro Z hs;refine⟨hok,fun F w cs hR hv=>?_⟩;rcases hs.get (i:=0) rfl with⟨h,_⟩|⟨n',cap',h,hn⟩
 .cases h
 cases h;rw[BU]at hv;obtain⟨c,e,hb,h1,h2,h3,h4⟩:=Er hR hn;rw[BU]at h2 h3;have hM:AY=17592186044416:=rfl;rw[BE]at h4
 have hcell: ∀j x,xs[j]? =some x->c[j]? =some (Value.int .i64 x)/\IntKind.i64.min<=x/\x<=IntKind.i64.max:=fun j x hx=>by
  have:=(h4 j [.i .i64 x] (by rw[Md,hx];rfl)).2;simp only[BT,Nat.mul_one,Gj]at this;obtain⟨⟨d,hd,hr⟩,_⟩:=this;simp only[Ab]at hr;obtain⟨rfl,hr⟩:=hr;exact⟨hd,hr⟩
 have hcs:cs= #[.slice (some ⟨n,0,none⟩) xs.length cap]:=by
  obtain⟨hsz,hv⟩:=hv;simp only[BT,Ab]at hv;obtain⟨⟨d,hd,rfl,_⟩,_⟩:=hv;simp at hsz;apply Array.ext_getElem?;intro i;rcases i with _|i
  .simpa using hd
  .rw[Array.getElem?_eq_none (by omega),Array.getElem?_eq_none (by simp)]
 subst hcs
 have hH:Sort.Holds (Value.int .i64) w n 0 xs.toArray:=fun j hj=>by
  have hj':j<xs.length:=by simpa using hj
  obtain⟨h5,_⟩:=hcell j xs[j] (Cy hj');refine⟨?_,?_⟩
  .rw[Gj,DM hb,h5]
   simp[getElem!_pos,hj']
  .rw[Gj];exact QY hb
 refine(hc n cap xs w hH (hR.lt hn) (by omega)).mono fun e' w' ⟨he,k,os,hw⟩=>?_
 subst he;have hlen:(xs.mergeSort G8).length=xs.length:=List.length_mergeSort _
 have hheap: ∀m,m<w.heap.size->w'.heap[m]? =if m=n then some (.cells (Sort.putCells (Value.int .i64) 0 (xs.mergeSort G8).toArray c) e (0,0))else w.heap[m]? :=fun m hm=>by
  rw[hw];simp only[Sort.grow,Sort.putRow,Sort.mapBlock,Sort.ahead];rw[Array.getElem?_append_left (by simpa using hm),Array.getElem?_modify];by_cases e1:n=m
  .subst e1
   rw[if_pos rfl,if_pos rfl,hb];rfl
  .rw[if_neg e1,if_neg (Ne.symm e1)]
 have hadv:Bu F Z w (Bd Z n (.arr 1 (iL (xs.mergeSort G8)) cap)) w':=by
  refine⟨fun m hm h0=>?_,?_,by rw[hw];rfl,by rw[hw];rfl,by rw[hw];rfl,fun m h0 _=>?_⟩
  .rw[hheap m hm,if_neg]
   intro e1;subst e1;rw[hn]at h0;cases h0
  .rw[hw];simp[Sort.grow]
  .rw[CY _ _ (fun e1=>by subst e1;rw[hn]at h0;cases h0)];exact h0
 refine⟨.ret (.t []),Bd Z n (.arr 1 (iL (xs.mergeSort G8)) cap),⟨_,⟨rfl,rfl⟩,?_⟩,?_,?_,hadv⟩
 .refine⟨fun a ha=>?_,List.pairwise_singleton _ _⟩
  rw[LD.1 ha];exact .inr ⟨n,cap,by simp[hlen],C2 _ _ _⟩
 .exact⟨_,rfl,by simp[Ab,BT]⟩
 .refine hR.step hadv fun m o ho=>?_
  by_cases e1:m=n
  .subst e1
   rw[C2]at ho;cases ho;refine .inr ⟨(hR.own _ _ hn).1,_,(hheap m (hR.lt hn)).trans (if_pos rfl),_,_,rfl,by simpa[Sort.putCells]using h1,by simpa[hlen]using h2,by simpa[hlen]using h3,?_⟩;rw[BE];intro i r hi;rw[Md]at hi;cases hx:(xs.mergeSort G8)[i]? with
   | none=>rw[hx]at hi;cases hi
   | some x=>
     rw[hx]at hi;cases hi;have hil:i<xs.length:=by have:=(IN.1 hx).1;omega
     have hxm:x∈xs:=(List.mergeSort_perm xs G8).mem_iff.1 (B1 hx);obtain⟨j,hj⟩:=List.getElem?_of_mem hxm;have hbd:=(hcell j x hj).2;obtain⟨hci,_⟩:=hcell i xs[i] (Cy hil);have hcl:i<c.size:=(nq.1 hci).1;refine⟨rfl,?_⟩;simp only[BT,Nat.mul_one,Gj,Ab,and_true];refine⟨_,?_,rfl,hbd⟩;simp only[Sort.putCells,Array.getElem?_mapIdx];rw[hci];have hxe:=(IN.1 hx).2;simp[hlen,hil,getElem!_pos,hxe]
  .rw[CY _ _ e1]at ho
   exact .inl ⟨ho,(hheap m (hR.lt ho)).trans (if_neg e1)⟩
def kz (xs:List Int) (n len cap:Nat):Bc Tryz.prog 279 [.sl n len cap] [.own (.sl n len cap) 1 (iL xs)] fun r post=>r= .ret (.t [])/\post= [.own (.sl n len cap) 1 (iL (xs.mergeSort G8))]:=
 gy (by kernel_rfl) (fun blk cap zs w h1 h2 h3=>Any.slices_Sort_int Tryz.mA blk 0 cap zs w h1 h2 h3) xs n len cap
end Go.Gl
namespace Go.Gl
open Go.Proofs
set_option maxRecDepth 100000
def kU:=cX [] [3] Tryz.func5
def ee:=cX [] [3,4] Tryz.func13
def xf:=cX [] [] Tryz.func17
def xe:=cX [] [1] Tryz.func21
def xd:=cX [] [3] Tryz.func22
def xc:=Ui [] [2] Tryz.func23
def ou:=Ui [] [1] Tryz.func24
def ed:=cX [] [] Tryz.func25
def xb:=cX [] [] Tryz.func26
def xa:=cX [] [] Tryz.func27
def xZ:=cX [] [2,3] Tryz.func31
def xY:=Ui [] [2] Tryz.func47
def VH:=cX [] [2,3] Tryz.func48
def xX:=cX [] [] Tryz.func51
set_option maxRecDepth 100000
def xW:=cX [] [1] Tryz.func71
def xV:=cX [] [2] Tryz.func72
def xU:=cX [] [3] Tryz.func73
def xT:=Ui [] [3] Tryz.func74
def xS:=cX [] [2] Tryz.func75
def xR:=cX [] [1] Tryz.func76
def Y1:=cX [] [2,3] Tryz.func81
def xQ:=Ui [] [1] Tryz.func94
def xP:=cX [] [] Tryz.func96
def ot:=cX [] [1,16] Tryz.func97
def ec:=cX [] [] Tryz.func98
def xO:=Ui [] [] Tryz.func99
set_option maxRecDepth 100000
def u0:=cX [] [1] Tryz.func128
def uz:=cX [] [2,3] Tryz.func129
def uy:=cX [] [1] Tryz.func130
def gD:=cX [] [6] Tryz.func131
def ux:=cX [] [] Tryz.func132
def uw:=cX [] [3] Tryz.func133
def uv:=cX [] [] Tryz.func134
def uu:=cX [] [] Tryz.func135
def ur:=cX [] [3,4,5] Tryz.func136
def uq:=cX [] [1] Tryz.func137
def Xe:=cX [] [] Tryz.func138
def gC:=cX [] [] Tryz.func139
def Xd:=cX [] [] Tryz.func140
def uo:=cX [] [1,19] Tryz.func158
def um:=cX [] [] Tryz.func159
def gB:=Ui [] [1] Tryz.func160
def gA:=cX [] [2] Tryz.func161
def uk:=cX [] [] Tryz.func162
set_option maxRecDepth 100000
def uj:=cX [] [] Tryz.func163
def fy:=cX [] [2] Tryz.func164
def ui:=cX [] [] Tryz.func179
def uh:=cX [] [] Tryz.func180
def ug:=cX [] [3] Tryz.func181
def uf:=cX [] [] Tryz.func182
def ue:=cX [] [1] Tryz.func183
def ud:=cX [] [1] Tryz.func184
def uc:=cX [] [2,3] Tryz.func185
def ub:=cX [] [1] Tryz.func186
def ua:=cX [] [2,3] Tryz.func187
def uZ:=cX [] [3,4] Tryz.func188
def uY:=cX [] [] Tryz.func189
def uX:=cX [] [] Tryz.func190
def uW:=cX [] [] Tryz.func191
def uU:=cX [] [2,3] Tryz.func192
def uT:=Ui [] [2,3] Tryz.func193
def uS:=Ui [] [1] Tryz.func194
abbrev gU:AV:=(.B5 [⟨(some 2),.alloc [(.b false)],none⟩])
def oS:List Am:=[⟨(some 3),.Yi (.func 258) [] [(.t 2)],none⟩]
abbrev gR:AV:=(.seq [2] (.B5 [⟨(some 4),.mv (.t 0),none⟩,
 ⟨(some 5),.Ih (.t 4) [],none⟩])
 (.seq [2] (.B5 [⟨none,.store 1 (.t 2) (.c (.b true)),none⟩])
 .ret))
def qK:Tryz.f195.body.bind (Hr Tryz.prog Tryz.f195.ntmps [] [])=some (erase gU,oS,(.t 3),erase gR):=by kernel_rfl
def uR {args:List V} (hn:args.length<=6) {Z:AE} {Q:R->AE->Prop} (h:W Tryz.prog (.seq [0,2] gU (.B5 oS)) (CX (eH Tryz.prog (.t 3) [0,2] gR [.c 2 none] Q)) (A2 0 args) Z):A3 Tryz.prog 195 args Z Q:=
 FP Tryz.func195 (by kernel_rfl) qK (by kernel_rfl) hn (o8 h)
def uQ:=cX [] [] Tryz.func196
def uP:=cX [] [1] Tryz.func197
def fw:=cX [] [] Tryz.func198
def uO:=cX [] [7] Tryz.func199
def uN:=cX [] [3,4,5] Tryz.func200
def uM:=cX [] [3,4] Tryz.func201
def uL:=cX [] [] Tryz.func202
def uK:=Ui [] [1] Tryz.func203
def uJ:=cX [] [2,3] Tryz.func204
def uI:=cX [] [1] Tryz.func205
def uH:=cX [] [] Tryz.func206
def fv:=cX [] [] Tryz.func207
def uG:=cX [] [] Tryz.func213
def uF:=cX [] [] Tryz.func214
set_option maxRecDepth 100000
def uE:=cX [] [] Tryz.func227
def uD:=cX [] [] Tryz.func228
def uC:=cX [] [] Tryz.func229
def uB:=cX [] [3] Tryz.func230
def fu:=cX [] [] Tryz.func231
def uA:=cX [] [] Tryz.func232
def tz:=cX [] [1] Tryz.func233
def tx:=cX [] [3] Tryz.func234
def tw:=cX [] [] Tryz.func235
def tv:=cX [] [] Tryz.func237
def tu:=cX [] [] Tryz.func250
def tt:=cX [] [3,5] Tryz.func251
def ts:=cX [] [3] Tryz.func252
def tr:=cX [] [2] Tryz.func253
def tq:=cX [] [2] Tryz.func254
def tp:=cX [] [2] Tryz.func255
def tn:=cX [] [2] Tryz.func256
def tl:=cX [] [2] Tryz.func257
def oR:List Am:=[⟨(some 1),.mv (.t 4),none⟩]
abbrev gQ:AV:=(.seq [0,1,6] (.B5 [⟨(some 5),.mv (.t 1),none⟩,
 ⟨(some 6),.aX 2 true (.t 5),none⟩])
 (.cond (.t 6)
 (.seq [0] (.seq [0,1,3] (.B5 [⟨(some 8),.mv (.t 1),none⟩,
  ⟨(some 9),.aT 318 (.a []) true (.t 8),none⟩,
  ⟨(some 7),.mv (.t 9),none⟩,
  ⟨(some 10),.extract 0 (.t 7),none⟩,
  ⟨(some 11),.extract 1 (.t 7),none⟩,
  ⟨(some 2),.alloc [],none⟩,
  ⟨none,.store 0 (.t 2) (.t 10),none⟩,
  ⟨(some 3),.mv (.t 11),none⟩])
 (.seq [0,1,13] (.B5 [⟨(some 12),.mv (.t 3),none⟩,
  ⟨(some 13),.not (.t 12),none⟩])
 (.cond (.t 13)
 (.B5 [⟨(some 14),.mv (.t 1),none⟩,
  ⟨none,.panic (.t 14),none⟩])
 .skip)))
 (.B5 [⟨none,.store 1 (.t 0) (.c (.b false)),none⟩]))
 .skip))
def qJ:Tryz.f258.body.bind (resRec Tryz.prog Tryz.f258.ntmps [] [])=some (4,oR,erase gQ):=by kernel_rfl
def Z2 {args:List V} (hn:args.length<=15) {m:Option V} {Z:AE} {Q:AE->Prop} (h:W Tryz.prog (.seq [0,1] (.B5 oR) gQ) (Ms Q) (put (some 4) (m.getD .DZ) (A2 0 args)) Z):Gs Tryz.prog 258 args m Z Q:=
 Hi Tryz.func258 (by kernel_rfl) qJ rfl hn (oC h)
def tk:=cX [] [1] Tryz.func259
def tj:=cX [] [] Tryz.func260
def ti:=cX [] [] Tryz.func261
def th:=cX [] [2] Tryz.func262
def tg:=cX [] [] Tryz.func263
def tf:=cX [] [4] Tryz.func264
def ft:=cX [] [6] Tryz.func265
def te:=cX [] [2] Tryz.func266
set_option maxRecDepth 100000
def td:=cX [] [] Tryz.func267
def tc:=cX [] [] Tryz.func271
def tb:=cX [] [] Tryz.func277
def ta:=cX [] [] Tryz.func278
def tZ:=cX [] [] Tryz.func279
def tY:=cX [] [] Tryz.func280
def tX:=cX [] [] Tryz.func289
def tW:=cX [] [0] Tryz.func290
def tV:=cX [] [2] Tryz.func291
def tU:=cX [] [] Tryz.func292
def fq:=cX [] [1] Tryz.func293
def tT:=cX [] [] Tryz.func294
def tS:=cX [] [1] Tryz.func295
def tR:=cX [] [] Tryz.func296
def tQ:=cX [] [] Tryz.func297
def tP:=cX [] [1] Tryz.func298
def tN:=cX [] [2] Tryz.func299
def tM:=cX [] [1] Tryz.func304
def tL:=cX [] [] Tryz.func306
def tK:=cX [] [3,4,5] Tryz.func307
def tJ:=cX [] [] Tryz.func308
def tI:=cX [] [] Tryz.func309
def tH:=cX [] [] Tryz.func317
def tG:=cX [] [] Tryz.func318
set_option maxRecDepth 100000
def tF:=cX [] [] Tryz.func319
def tE:=cX [] [2,3] Tryz.func320
def tD:=cX [] [1] Tryz.func321
def tC:=cX [] [1] Tryz.func322
def tB:=cX [] [1] Tryz.func324
def tA:=cX [] [] Tryz.func325
def s9:=Ui [] [] Tryz.func326
def s8:=Ui [] [3] Tryz.func327
def s7:=cX [] [] Tryz.func328
def s6:=cX [] [] Tryz.func329
def fp:=cX [] [3] Tryz.func330
def s5:=cX [] [] Tryz.func331
def sy:=cX [] [3] Tryz.func332
def sx:=cX [] [2] Tryz.func333
def sw:=cX [] [4,5,6,7] Tryz.func334
def su:=cX [] [4,5] Tryz.func341
def ss:=cX [] [] Tryz.func342
def sr:=cX [] [] Tryz.func352
def so:=cX [] [1] Tryz.func354
def sm:=Ui [] [1] Tryz.func355
def sj:=cX [] [1] Tryz.func356
def sh:=cX [] [1] Tryz.func357
def sg:=Ui [] [2] Tryz.func358
def sf:=cX [] [1] Tryz.func359
def se:=cX [] [] Tryz.func360
def sd:=cX [] [0] Tryz.func361
def fo:=cX [] [] Tryz.func362
def sc:=cX [] [] Tryz.func363
def sb:=cX [] [2] Tryz.func364
def sa:=cX [] [] Tryz.func365
def sZ:=cX [] [] Tryz.func366
def sY:=cX [] [] Tryz.func367
def sX:=cX [] [4] Tryz.func368
set_option maxRecDepth 100000
def sW:=cX [] [2,3] Tryz.func371
def sV:=Ui [] [2,3] Tryz.func372
def sU:=Ui [] [1] Tryz.func373
def sT:=cX [] [] Tryz.func380
def sS:=cX [] [] Tryz.func381
def fm:=cX [] [] Tryz.func382
def sR:=cX [] [] Tryz.func383
def sQ:=cX [] [] Tryz.func384
def sP:=cX [] [] Tryz.func385
def sO:=cX [] [2,3] Tryz.func387
abbrev gT:AV:=(.B5 [⟨(some 4),.alloc [(.b false)],none⟩])
def oQ:List Am:=[⟨(some 5),.Yi (.func 396) [] [(.t 4)],none⟩]
abbrev gP:AV:=(.seq [4] (.B5 [⟨(some 6),.mv (.t 0),none⟩,
 ⟨(some 7),.mv (.t 1),none⟩,
 ⟨(some 8),.call 397 [(.t 6),(.t 7)],none⟩,
 ⟨(some 9),.call 398 [(.t 8)],none⟩])
 (.seq [4] (.B5 [⟨none,.store 1 (.t 4) (.c (.b true)),none⟩])
 .ret))
def qI:Tryz.f388.body.bind (Hr Tryz.prog Tryz.f388.ntmps [] [])=some (erase gT,oQ,(.t 5),erase gP):=by kernel_rfl
def sN {args:List V} (hn:args.length<=10) {Z:AE} {Q:R->AE->Prop} (h:W Tryz.prog (.seq [0,1,4] gT (.B5 oQ)) (CX (eH Tryz.prog (.t 5) [0,1,4] gP [.c 4 none] Q)) (A2 0 args) Z):A3 Tryz.prog 388 args Z Q:=
 FP Tryz.func388 (by kernel_rfl) qI (by kernel_rfl) hn (o8 h)
def sM:=cX [] [] Tryz.func390
def sL:=cX [] [] Tryz.func391
def sK:=cX [] [4,5,6] Tryz.func392
def sJ:=cX [] [5] Tryz.func393
def sI:=cX [] [] Tryz.func394
def sH:=cX [] [] Tryz.func395
def oP:List Am:=[⟨(some 5),.aT 433 (.a []) true (.t 4),none⟩,
    ⟨(some 3),.mv (.t 5),none⟩,
    ⟨(some 6),.extract 0 (.t 3),none⟩,
    ⟨(some 7),.extract 1 (.t 3),none⟩,
    ⟨(some 1),.alloc [],none⟩,
    ⟨none,.store 0 (.t 1) (.t 6),none⟩,
    ⟨(some 2),.mv (.t 7),none⟩]
abbrev gO:AV:=(.seq [0,8] (.B5 [⟨(some 8),.mv (.t 2),none⟩])
 (.cond (.t 8)
 (.B5 [⟨none,.store 1 (.t 0) (.c (.b false)),none⟩])
 .skip))
def qH:Tryz.f396.body.bind (resRec Tryz.prog Tryz.f396.ntmps [] [])=some (4,oP,erase gO):=by kernel_rfl
def Z1 {args:List V} (hn:args.length<=9) {m:Option V} {Z:AE} {Q:AE->Prop} (h:W Tryz.prog (.seq [0,2] (.B5 oP) gO) (Ms Q) (put (some 4) (m.getD .DZ) (A2 0 args)) Z):Gs Tryz.prog 396 args m Z Q:=
 Hi Tryz.func396 (by kernel_rfl) qH rfl hn (oC h)
def sG:=cX [] [11] Tryz.func397
def sF:=cX [] [] Tryz.func398
def sE:=cX [] [] Tryz.func399
def sD:=cX [] [] Tryz.func400
def sC:=cX [] [2] Tryz.func401
def sB:=cX [] [2,3] Tryz.func402
def sA:=cX [] [3] Tryz.func403
def fl:=cX [] [3] Tryz.func404
def r9:=cX [] [] Tryz.func405
def r8:=cX [] [] Tryz.func406
def r5:=Ui [] [] Tryz.func408
def rz:=cX [] [3] Tryz.func409
def ry:=cX [] [3] Tryz.func410
def ru:=cX [] [3] Tryz.func411
def rn:=cX [] [3] Tryz.func412
def rm:=cX [] [4] Tryz.func413
def rl:=cX [] [2,3] Tryz.func414
def rj:=cX [] [] Tryz.func415
def ri:=cX [] [4,5] Tryz.func431
def rh:=cX [] [3,4,5] Tryz.func432
@[reducible] noncomputable def zP:=Tryz.prog
end Go.Gl
namespace Go.Gl
open Go.Proofs
attribute [local irreducible] A3 Aq Af AR AJ Ad AQ AT AK Ac AM AN Ax A5 Sat AX A4 Ah W
def fe (xs:List Int) (f:Bool) (x:Int) (hx:xs.length<=AY):Pure zP 250 [.l (iL xs) f,.i .i64 x] (.b (xs.contains x)):=by
 refine tu kZ ?_;refine zh ?_;(repeat clear U K);repeat intro K U
 refine B0 xs.length (fun k (_:Unit)=>[(5,eI (A8 k))]) (fun _ _=>[]) (fun k _=>x∉xs.take k) () rfl (by simp) Sat.nil ?_;rintro k - Z hk hn -;refine zh ?_;(repeat clear U K);repeat intro K U
 refine GD hk hx (fun y hy hlt=>?_) fun hk=>?_
 .refine zh ?_;(repeat clear U K);repeat intro K U
  refine I2 hy hx rfl ?_;refine zh ?_;(repeat clear U K);repeat intro K U
  refine Zq (fun he=>?_) (fun he=>?_)
  .refine zh ?_;(repeat clear U K);repeat intro K U
   refine AF ?_;have:x∈xs:=he ▸ B1 hy;simp[this]
  .refine zh ?_;(repeat clear U K);repeat intro K U
   refine⟨hlt,(),rfl,?_,Sat.nil⟩;rw[AL hy];simp only[E4,LD,not_or];exact⟨hn,fun e=>he e.symm⟩
 .refine zh ?_;(repeat clear U K);repeat intro K U
  refine AF ?_;rw[Au hk]at hn;simp[hn]
def P6 (xs:List Int) (f:Bool) (x:Int) (hx:xs.length<=AY):Pure zP 318 [.l (iL xs) f,.i .i64 x] (.l (iL (xs.filter (· != x))) false):=by
 refine tG kZ ?_;refine zh ?_;(repeat clear U K);repeat intro K U
 refine B0 xs.length (fun k v=>[(5,v),(6,eI (A8 k))]) (fun k v=>[.own v 1 (iL ((xs.take k).filter (· != x)))]) (fun _ _=>True) (.l [] true) rfl trivial (El Sat.nil 1) ?_;rintro k v Z hk - hs;refine zh ?_;(repeat clear U K);repeat intro K U
 refine GD hk hx (fun y hy hlt=>?_) fun hk=>?_
 .refine zh ?_;(repeat clear U K);repeat intro K U
  refine I2 hy hx rfl ?_;refine zh ?_;(repeat clear U K);repeat intro K U
  refine mq (fun he=>?_) (fun he=>?_)
  .conv=>whnf
   repeat((first|clear U K|(apply zk;intro K U)|fail);conv=>whnf)
   refine I2 hy hx rfl ?_;refine zh ?_;(repeat clear U K);repeat intro K U
   refine Fj hs 0 (x:=y) rfl (by have:=Qs (· != x) (xs.take k);simp only[Mf]at this;have hM:=Mx;omega) BZ fun v' Z' hs'=>?_
   refine zh ?_;(repeat clear U K);repeat intro K U
   refine⟨hlt,v',rfl,trivial,?_⟩;rw[AL hy,List.filter_append];simpa[he]using hs'
  .refine zh ?_;(repeat clear U K);repeat intro K U
   refine⟨hlt,v,rfl,trivial,?_⟩;rw[AL hy,List.filter_append];simpa[he]using hs
 .refine zh ?_;(repeat clear U K);repeat intro K U
  exact EC hs 0 rfl (by rw[Au hk])
def free (ls:List (List Int)) (x:Int):Bool:=ls.all fun l=> !(l.drop 1).contains x
def ml (ls:List (List Int)) (f:Bool) (x:Int) (hl:ls.length<=AY) (hls: ∀l∈ls,l.length<=AY):Pure zP 319 [.l (Ee ls) f,.i .i64 x] (.b (free ls x)):=by
 refine tF kZ ?_;refine zh ?_;(repeat clear U K);repeat intro K U
 refine B0 ls.length (fun k (_:Unit)=>[(5,eI (A8 k))]) (fun _ _=>[]) (fun k _=> ∀l∈ls.take k,x∉l.drop 1) () rfl (by simp) Sat.nil ?_;rintro k - Z hk hn -;refine zh ?_;(repeat clear U K);repeat intro K U
 refine GD hk hl (fun y hy hlt=>?_) fun hk=>?_
 .have hb:=hls _ (B1 hy)
  have next:(x∉y.drop 1)-> ∀l∈ls.take (k+1),x∉l.drop 1:=fun hc l hm=>by
   rw[AL hy]at hm;rcases E4.1 hm with hm|hm
   .exact hn l hm
   .rw[LD.1 hm];exact hc
  refine zh ?_;(repeat clear U K);repeat intro K U
  refine I2 hy hl rfl ?_;refine zh ?_;(repeat clear U K);repeat intro K U
  refine⟨fun h=>?_,fun h=>?_⟩<;>(try rw[h])
  .have hp:=of_decide_eq_true h
   simp only[BU]at hp;refine zh ?_;(repeat clear U K);repeat intro K U
   refine I2 hy hl rfl ?_;refine zh ?_;(repeat clear U K);repeat intro K U
   refine VY 1 rfl (by omega) (fun _=>rfl) ?_;refine zh ?_;(repeat clear U K);repeat intro K U
   refine(fe _ _ _ (by rw[pF];omega)).use ?_;refine zh ?_;(repeat clear U K);repeat intro K U
   refine⟨fun hc=>?_,fun hc=>?_⟩
   .refine zh ?_;(repeat clear U K);repeat intro K U
    refine AF ?_
    have:free ls x=false:=by
     simp only[free,List.all_eq_false];exact⟨y,B1 hy,by simpa using hc⟩
    rw[this]
   .refine zh ?_;(repeat clear U K);repeat intro K U
    exact⟨hlt,(),rfl,next (by simpa using hc),Sat.nil⟩
  .have hp: ¬_:=of_decide_eq_false h
   simp only[BU]at hp;refine zh ?_;(repeat clear U K);repeat intro K U
   refine⟨hlt,(),rfl,next ?_,Sat.nil⟩;rw[List.drop_eq_nil_of_le (by omega)];simp
 .refine zh ?_;(repeat clear U K);repeat intro K U
  rw[Au hk]at hn;refine AF ?_;have:free ls x=true:=by simpa[free]using hn
  rw[this]
def Aw (ls:List (List Int)) (c:Int):List Int:=if c<3 then []else ls.getD (c - 3).toNat []
def X4 (ls:List (List Int)) (f:Bool) (c:Int) (hc:c<3+ls.length) (hm:ls.length<=AY):Pure zP 317 [.l (Ee ls) f,.i .i64 c] (.l (iL (Aw ls c)) false):=by
 refine tH kZ ?_;refine zh ?_;(repeat clear U K);repeat intro K U
 refine fork (fun h=>?_) (fun h=>?_)
 .refine zh ?_;(repeat clear U K);repeat intro K U
  refine Ap (.l (fun h=>(by cases h)) ?_);rw[Aw,if_pos h];exact .nil
 .refine zh ?_;(repeat clear U K);repeat intro K U
  simp only[AY]at hm;have hlt:(c - 3).toNat<ls.length:=by omega
  refine Uy (c - 3).toNat (Cy hlt) (by rw[wrap64 (by omega) (by omega)];omega) rfl ?_;refine zh ?_;(repeat clear U K);repeat intro K U
  refine AF ?_;rw[Aw,if_neg h,DH,Cy hlt];rfl
def ED (ls os:List (List Int)) (c:Int):Option (List (List Int)):=
 if(Aw ls c).any fun p=>(os.getD p.toNat []).isEmpty then none else some ((Aw ls c).map (fun p=>(os.getD p.toNat []).filter (· != 0))++[Aw ls c])
def wq (o:Option (List (List Int))):V:=match o with|some l=> .t [.l (Ee l) false,.b true]|none=> .t [.l [] false,.b false]
def ia (ls os:List (List Int)) (f:Bool) (w:V) (c:Int) (hc:c<3+ls.length) (hm:ls.length<=AY) (hos: ∀o∈os,o.length<=AY) (hpl:(Aw ls c).length<1000000)
    (hp: ∀p∈Aw ls c,0<=p/\p.toNat<os.length):Bc zP 289 [.l (Ee ls) f,w,.i .i64 c] [.own w 1 (Ee os)] fun r post=>r= .ret (wq (ED ls os c))/\post= [.own w 1 (Ee os)]:=by
 have hM:=Mx;intro Z hs;refine tX kZ ?_
 conv=>whnf
 repeat((first|clear U K|apply st|(apply zk;intro K U)|fail);conv=>whnf)
 refine(X4 _ _ _ hc hm).use ?_;refine zh ?_;(repeat clear U K);repeat intro K U
 refine B0 (Aw ls c).length (fun k v=>[(8,v),(10,eI (A8 k))]) (fun k v=>[.own w 1 (Ee os),.own v 1 (Ee (((Aw ls c).take k).map fun p=>(os.getD p.toNat []).filter (· != 0)))]) (fun k _=> ∀p∈(Aw ls c).take k,(os.getD p.toNat []).isEmpty=false)
  (.l [] true) rfl (by simp) (El hs 1) ?_
 rintro k v Z hk hne hs;refine zh ?_;(repeat clear U K);repeat intro K U
 refine GD hk (by omega) (fun p hpk hlt=>?_) fun hk=>?_
 .obtain ⟨hp0,hp1⟩:=hp _ (B1 hpk)
  have hq:=Cy hp1
  have hgd:os.getD p.toNat []=os[p.toNat]:=by
   rw[DH,hq];rfl
  have hqm:(Ee os)[p.toNat]? =some [.l (iL os[p.toNat]) false]:=by rw[Md,hq];rfl
  refine zh ?_;(repeat clear U K);repeat intro K U
  refine I2 hpk (by omega) rfl ?_;refine zh ?_;(repeat clear U K);repeat intro K U
  refine dd hs 0 p.toNat rfl (by omega) (by simpa using hp1) ?_
  conv=>whnf
  refine H0 hs 0 rfl hqm ?_;refine zh ?_;(repeat clear U K);repeat intro K U
  refine Zq (fun he=>?_) (fun he=>?_)
  .refine zh ?_;(repeat clear U K);repeat intro K U
   have hn:ED ls os c=none:=by
    simp only[ED];rw[if_pos];rw[J0];refine⟨p,B1 hpk,?_⟩;rw[hgd];have:(os[p.toNat]).length=0:=by simpa using he
    simp[Yh.1 this]
   rw[hn];exact Ak (l':=[.own w 1 (Ee os)]) hs (by simp) (.t (.cons (.l (fun h=>(by cases h)) .nil) (.cons (.refl _) .nil))) fun Z' hs'=>⟨_,⟨rfl,rfl⟩,hs'⟩
  .refine zh ?_;(repeat clear U K);repeat intro K U
   refine I2 hpk (by omega) rfl ?_;refine zh ?_;(repeat clear U K);repeat intro K U
   refine dd hs 0 p.toNat rfl (by omega) (by simpa using hp1) ?_
   conv=>whnf
   refine H0 hs 0 rfl hqm ?_
   conv=>whnf
   refine(P6 _ _ _ (hos _ (List.getElem_mem hp1))).use ?_
   conv=>whnf
   refine Fj hs 1 (x:=os[p.toNat].filter (· != 0)) rfl (by have hM:=Mx;simp;omega) C3 fun v' Z' hs'=>?_
   refine zh ?_;(repeat clear U K);repeat intro K U
   refine⟨hlt,v',rfl,fun q hm=>?_,?_⟩
   .rw [AL hpk]at hm
    rcases E4.1 hm with hm|hm
    .exact hne q hm
    .rw[LD.1 hm,hgd]
     have:(os[p.toNat]).length≠0:=by
      intro e;exact he (by simp[e])
     cases hq:os[p.toNat]with
     | nil=>rw[hq]at this;exact absurd rfl this
     | cons _ _=>rfl
   .rw[AL hpk,Uf,List.map_singleton,hgd]
    exact hs'
 .rw[Au hk]at hne hs
  refine zh ?_;(repeat clear U K);repeat intro K U
  refine Fj hs 1 (x:=Aw ls c) rfl (by have hM:=Mx;simp;omega) C3 fun v' Z' hs'=>?_
  refine zh ?_;(repeat clear U K);repeat intro K U
  have hn:ED ls os c=some ((Aw ls c).map (fun p=>(os.getD p.toNat []).filter (· != 0))++[Aw ls c]):=by
   simp only[ED];rw[if_neg];rw[J0];rintro⟨p,h1,h2⟩;rw[hne p h1]at h2;cases h2
  rw[hn];obtain⟨Z2,h1,h2,h3⟩:=IZ hs' 1 rfl;exact Gg h1 (.t (.cons h2 (.cons (.refl _) .nil))) ⟨_,⟨rfl,rfl⟩,h3⟩
def U7 {w:AI} (h:E0 (.a (A1 w))):w.parents.length<=AY/\(∀l∈w.parents,l.length<=AY)/\w.owner.length<=AY:=by
 simp only[A1,Gy,DQ,Gx,JH,BU]at h;exact⟨h.1.1,fun l hl=>(h.1.2 l hl).1.1,h.2.1.1⟩
def LX {xs:List Int} {g:Bool} (h:E0 (.l (iL xs) g)):xs.length<=AY:=by
 simp only[Gx,BU]at h;exact h.1
def J8 {f:Fact} (h:E0 (.a (xF f))):f.kids.length<=AY/\f.path.length<=AY/\ ∀k∈f.kids,E0 (.a (xF k)):=by
 simp only[Gy,DQ,Gx,JH,BU]at h;exact⟨h.2.2.2.2.2.1.1,h.2.2.1.1,fun k hk=>by have:=h.2.2.2.2.2.1.2 k hk;rw[BV]at this;exact this⟩
def Q7 (w:AI) (c:Int):Bool:=decide (0<=c)&&decide (c<3+w.parents.length)
def jX (w:AI) (c:Int):Pure zP 254 [.a (A1 w),eI c] (.b (Q7 w c)):=by
 refine Pure.fit (by kernel_rfl) fun hf=>?_
 have⟨h1,h2,h3⟩:=U7 hf.1;have hM:=Mx;refine tq kZ ?_
 conv=>whnf
 repeat'((first|clear U K|apply st|(apply zk;intro K U)|refine zn ?_|refine za (fun hc=>?_) fun hc=>?_|fail)<;>conv=>whnf)
 .exact AF (by rw[BU,wrap64 (by omega) (by omega)];simp[Q7,hc])
 .exact AF (by simp[Q7,hc];intros;omega)
def IU (w:AI) (s:Int):Bool:=decide (0<=s)&&decide (s<w.owner.length)
def E5 (w:AI) (p:List Int):Bool:=p.all (IU w)&&decide (p.length<=2)
def lT (w:AI) (p:List Int) (g:Bool):Pure zP 255 [.a (A1 w),.l (iL p) g] (.b (E5 w p)):=by
 refine Pure.fit (by kernel_rfl) fun hf=>?_
 have⟨h1,h2,h3⟩:=U7 hf.1;have h4:=LX hf.2.1;have hM:=Mx;refine tp kZ ?_;refine zu ?_;(repeat clear U K);repeat intro K U
 refine B0 p.length (fun k (_:Unit)=>[(9,eI (A8 k))]) (fun _ _=>[]) (fun k _=>p.all (IU w)=(p.drop k).all (IU w)) () rfl rfl Sat.nil ?_;rintro k - Z hk hn hs
 conv=>whnf
 repeat'((first|clear U K|apply st|(apply zk;intro K U)|refine zn ?_|(refine fc (fun x hx hlt hc=>?_) (fun hk hc=>?_)<;>(try rw[hc])<;>clear hc)|(refine zd (fun hc=>?_) (fun hc=>?_)<;>try exact⟨⟩)|fail)<;>conv=>whnf)
 .exact AF (by rw[E5,hn,drop_cons hx];simp[IU,hc];intros;omega)
 .exact⟨hlt,(),rfl,by rw[hn,drop_cons hx];simp[IU, *],hs⟩
 .exact AF (by rw[E5,hn,drop_cons hx];simp[IU,hc];intros;omega)
 .exact AF (by rw[E5,hn,Ao hk];simp;omega)
def B7 (f:Fact):Bool:=f.op==2||f.op==3||f.op==4
def Zc (f:Fact):Pure zP 186 [.a (xF f)] (.b (B7 f)):=by
 refine ub kZ ?_
 conv=>whnf
 repeat'((first|clear U K|apply st|(apply zk;intro K U)|refine zn ?_|refine za (fun hc=>?_) fun hc=>?_|fail)<;>conv=>whnf)
 all_goals exact AF (by simp[B7, *])
def DS:List (Int->Int)->Int->Int->Int
 | [],n,_=>n
 | k::r,n,most=>if n<=most then DS r (n+k (most - n)) most else n
def CQ (f:Fact):Int->Int:=f.Hp fun _ l most=>DS l 1 most
def Jq (f:Fact) (most:Int):CQ f most=DS (f.kids.map CQ) 1 most:=by
 rw[CQ,Fact.Du];rfl
def QK {most:Int}: ∀(l:List (Int->Int)) (n:Int),(∀g∈l,∀m,0<=m->1<=g m/\g m<=m+1)->1<=n->n<=most+1->1<=DS l n most/\DS l n most<=most+1
 | [],n,_,h1,h2=>⟨h1,h2⟩
 | g ::r,n,h,h1,h2=>by
   rw[DS];split
   .have:=h g (List.mem_cons_self ..) (most - n) (by omega)
    exact QK r _ (fun g hg=>h g (List.mem_cons_of_mem _ hg)) (by omega) (by omega)
   .exact⟨h1,h2⟩
def K0 (f:Fact): ∀m,0<=m->1<=CQ f m/\CQ f m<=m+1:=by
 induction f using Fact.ind with
 | h f ih=>
   intro m hm;rw[Jq];refine QK _ _ (fun g hg=>?_) (by omega) (by omega);obtain⟨k,hk,rfl⟩:=Mg.1 hg;exact ih k hk
def iP (f:Fact): ∀most:Int,0<=most->most<=1000->Pure zP 253 [.a (xF f),eI most] (eI (CQ f most)):=by
 induction f using Fact.ind with
 | h f ih=>
   intro most h0 h1;refine Pure.fit (by kernel_rfl) fun hf=>?_
   have⟨h2,h3,h4⟩:=J8 hf.1;have hM:=Mx;refine tr kZ ?_;refine zu ?_;(repeat clear U K);repeat intro K U
   refine B0 f.kids.length (fun k (n:Int)=>[(5,eI n),(6,eI (A8 k))]) (fun _ _=>[]) (fun k n=>1<=n/\n<=most+1/\CQ f most=DS ((f.kids.drop k).map CQ) n most) 1 rfl ⟨by omega,by omega,by rw[List.drop_zero];exact Jq f most⟩ Sat.nil ?_;rintro k n Z hk ⟨hn1,hn2,hn⟩ hs
   conv=>whnf
   repeat'((first|clear U K|apply st|(apply zk;intro K U)|refine zn ?_|(refine fc (fun x hx hlt hc=>?_) (fun hk hc=>?_)<;>(try rw[hc])<;>clear hc)|refine za (fun hc=>?_) fun hc=>?_|fail)<;>conv=>whnf)
   .rw[wrap64 (by omega) (by omega)]
    have hb:=K0 x (most - n) (by omega);refine(ih x (B1 hx) (most - n) (by omega) (by omega)).use ?_;refine zu ?_;(repeat clear U K);repeat intro K U
    rw[wrap64 (by omega) (by omega)];exact⟨hlt,_,rfl,⟨by omega,by omega,by rw[hn,drop_cons hx,Ex,DS,if_pos hc]⟩,hs⟩
   .exact AF (by rw[hn,drop_cons hx,Ex,DS,if_neg (by omega)])
   .exact AF (by rw[hn,Ao hk];rfl)
def iQ (f:Fact):Pure zP 183 [.a (xF f)] (eI (CQ f 24)):=by
 refine ue kZ ?_;refine zu ?_;(repeat clear U K);repeat intro K U
 refine(iP f 24 (by omega) (by omega)).use ?_;exact zW
def Me (f:Fact):Nat:=f.Hp fun _ l=>1+l.sum
def Kf (f:Fact):Me f=1+(f.kids.map Me).sum:=Fact.Du _ f
def Z3 {f k:Fact} (h:k∈f.kids):Me k<Me f:=by
 have: ∀l:List Fact,k∈l->Me k<=(l.map Me).sum:=fun l=>by
  induction l with
  | nil=>intro h;cases h
  | cons x r ih=>
    intro h;simp only[Ex,List.sum_cons];rcases Fm.1 h with rfl|h
    .omega
    .have:=ih h;omega
 have:=this _ h;rw[Kf f];omega
def QJ {most:Int}: ∀(l:List Fact) (n:Int),(∀k∈l,∀m,0<=m->CQ k m<=m->CQ k m=Me k)->0<=n->DS (l.map CQ) n most<=most->DS (l.map CQ) n most=n+(l.map Me).sum
 | [],n,_,_,_=>by simp[DS]
 | k :: r, n,h,h0,h1=>by
   simp only[Ex,DS]at *;split at h1
   .rename_i hc
    rw[if_pos hc];have hb:=K0 k (most - n) (by omega)
    have hge: ∀(l:List Fact) (a:Int),a<=DS (l.map CQ) a most:=fun l=>by
     induction l with
     | nil=>intro a;exact Int.le_refl _
     | cons y l ih=>
       intro a;simp only[Ex,DS];split
       .have:=K0 y (most - a) (by omega)
        have:=ih (a+CQ y (most - a));omega
       .exact Int.le_refl _
    have h2:=hge r (n+CQ k (most - n));have h3:=h k (List.mem_cons_self ..) (most - n) (by omega) (by omega);have h4:=QJ r (n+CQ k (most - n)) (fun k' hk'=>h k' (List.mem_cons_of_mem _ hk')) (by omega) h1;simp only[List.sum_cons];omega
   .rename_i hc
    omega
def Ky (f:Fact): ∀m,0<=m->CQ f m<=m->CQ f m=Me f:=by
 induction f using Fact.ind with
 | h f ih=>
   intro m h0 h1;rw[Jq]at *;rw[QJ f.kids 1 ih (by omega) h1,Kf];omega
def Jz (a b:Int):Int:=if a<b then b else a
def D4 (f:Fact):Int:=f.Hp fun _ l=>l.foldl Jz 0+1
def Hg (f:Fact):D4 f=(f.kids.map D4).foldl Jz 0+1:=Fact.Du _ f
def KE {m:Int}: ∀(l:List Int) (a:Int),(∀x∈l,x<=m)->a<=m->l.foldl Jz a<=m
 | [],_,_,h=>h
 | x::r,a,h,h'=>by
   refine KE r _ (fun y hy=>h y (List.mem_cons_of_mem _ hy)) ?_;have:=h x (List.mem_cons_self ..);unfold Jz;split<;>omega
def KC: ∀(l:List Int) (a:Int),a<=l.foldl Jz a
 | [],_=>Int.le_refl _
 | x::r,a=>by
   refine Int.le_trans ?_ (KC r _);unfold Jz;split<;>omega
def YX (f:Fact):1<=D4 f/\D4 f<=Me f:=by
 induction f using Fact.ind with
 | h f ih=>
   rw[Hg];have h1:=KC (f.kids.map D4) 0
   have h2:(f.kids.map D4).foldl Jz 0<=(Me f:Int) - 1:=by
    refine KE _ _ (fun x hx=>?_) (by have:=Kf f;omega);obtain⟨k,hk,rfl⟩:=Mg.1 hx;have:=(ih k hk).2;have:=Z3 hk;omega
   omega
def GI {α:Type} {xs:List α} {k:Nat} {x:α} {β:Type} (g:α->β) (h:β->β->β) (a:β) (hx:xs[k]? =some x):((xs.take (k+1)).map g).foldl h a=h (((xs.take k).map g).foldl h a) (g x):=by
 rw[AL hx,Uf,List.foldl_append];rfl
def jR (f:Fact):Me f<=AY->Pure zP 184 [.a (xF f)] (eI (D4 f)):=by
 induction f using Fact.ind with
 | h f ih=>
   intro hc;refine Pure.fit (by kernel_rfl) fun hf=>?_
   have⟨h2,h3,h4⟩:=J8 hf.1;have hM:=Mx;refine ud kZ ?_;refine zu ?_;(repeat clear U K);repeat intro K U
   refine B0 f.kids.length (fun k (_:Unit)=>[(3,eI (((f.kids.take k).map D4).foldl Jz 0)),(9,eI (A8 k))]) (fun _ _=>[]) (fun _ _=>True) () rfl trivial Sat.nil ?_;rintro k - Z hk - hs
   conv=>whnf
   repeat'((first|clear U K|apply st|(apply zk;intro K U)|refine zn ?_|refine zr fun Z hs=>?_|(refine fc (fun x hx hlt hc=>?_) (fun hk hc=>?_)<;>(try rw[hc])<;>clear hc)|refine zp fun nn hnn Z hs=>?_|fail)<;>conv=>whnf)
   .refine(ih x (B1 hx) (by have:=Z3 (B1 hx);omega)).use ?_
    refine zu ?_;(repeat clear U K);repeat intro K U
    exact⟨hlt,(),by rw[GI _ _ _ hx];rfl,trivial,Sat.nil⟩
   .have:=YX f
    rw[Hg]at this;exact AF (by rw[Au hk,wrap64 (by omega) (by omega),<-Hg])
def GC (f:Fact):Int:=f.Hp fun f l=>l.foldl Jz (if B7 f then f.arg+1 else 0)
def Jm (f:Fact):GC f=(f.kids.map GC).foldl Jz (if B7 f then f.arg+1 else 0):=Fact.Du _ f
def Ri (f:Fact):Bool:=f.Hp fun f l=>decide (0<=f.arg)&&decide (f.arg<3)&&l.all id
def Pz (f:Fact):Ri f=(decide (0<=f.arg)&&decide (f.arg<3)&&(f.kids.map Ri).all id):=Fact.Du _ f
def gx (f:Fact):Ri f=true->Pure zP 130 [.a (xF f)] (eI (GC f)):=by
 induction f using Fact.ind with
 | h f ih=>
   intro ha;refine Pure.fit (by kernel_rfl) fun hf=>?_
   have⟨h2,h3,h4⟩:=J8 hf.1;have hM:=Mx;rw[Pz]at ha;simp only[BD,CN,List.all_map,E3]at ha;refine uy kZ ?_;refine zu ?_;(repeat clear U K);repeat intro K U
   refine(Zc f).use ?_
   conv=>whnf
   repeat'((first|clear U K|apply st|(apply zk;intro K U)|refine zn ?_|refine za (fun hc=>?_) fun hc=>?_|fail)<;>conv=>whnf)
   .refine B0 f.kids.length (fun k (_:Unit)=>[(3,eI (((f.kids.take k).map GC).foldl Jz (if B7 f then f.arg+1 else 0))),(14,eI (A8 k))]) (fun _ _=>[]) (fun _ _=>True) () (by rw[wrap64 (by omega) (by omega),if_pos hc];rfl) trivial Sat.nil ?_
    rintro k - Z hk - hs
    conv=>whnf
    repeat'((first|clear U K|apply st|(apply zk;intro K U)|refine zn ?_|refine zr fun Z hs=>?_|(refine fc (fun x hx hlt hc=>?_) (fun hk hc=>?_)<;>(try rw[hc])<;>clear hc)|refine zp fun nn hnn Z hs=>?_|fail)<;>conv=>whnf)
    .refine(ih x (B1 hx) (ha.2 x (B1 hx))).use ?_
     refine zu ?_;(repeat clear U K);repeat intro K U
     exact⟨hlt,(),by rw[GI _ _ _ hx];rfl,trivial,Sat.nil⟩
    .exact AF (by rw[Au hk,<-Jm])
   .refine B0 f.kids.length (fun k (_:Unit)=>[(3,eI (((f.kids.take k).map GC).foldl Jz (if B7 f then f.arg+1 else 0))),(14,eI (A8 k))]) (fun _ _=>[]) (fun _ _=>True) () (by rw[if_neg (c:=B7 f=true) (by simp[hc])];rfl) trivial Sat.nil ?_
    rintro k - Z hk - hs
    conv=>whnf
    repeat'((first|clear U K|apply st|(apply zk;intro K U)|refine zn ?_|refine zr fun Z hs=>?_|(refine fc (fun x hx hlt hc=>?_) (fun hk hc=>?_)<;>(try rw[hc])<;>clear hc)|refine zp fun nn hnn Z hs=>?_|fail)<;>conv=>whnf)
    .refine(ih x (B1 hx) (ha.2 x (B1 hx))).use ?_
     refine zu ?_;(repeat clear U K);repeat intro K U
     exact⟨hlt,(),by rw[GI _ _ _ hx];rfl,trivial,Sat.nil⟩
    .exact AF (by rw[Au hk,<-Jm])
end Go.Gl
