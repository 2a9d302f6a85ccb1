import Derived.Shelf.Sort.Plain
import Derived.Test.YtnidfcmdimehdaaGreatProg
import Derived.KernelRfl
import Derived.Test.YtnidfcmdimehdaaGreatW12
import Derived.Test.YtnidfcmdimehdaaGreatW13
import Derived.Test.YtnidfcmdimehdaaGreatW14
set_option linter.all false
set_option linter.defProp false
set_option maxHeartbeats 8000000
noncomputable section
namespace Go.Gl
open Go.Proofs Go.Shelf
abbrev Gq (x y:Int):Bool:=decide (x<=y)
def iF {P:Program} {f:FuncId} (hok:okF P f=true)
    (hc: ∀(blk cap:Nat) (zs:List Int) (w:World),Sort.Holds (Value.int .i64) w blk 0 zs.toArray->blk<w.heap.size->zs.length<4611686018427387904->
     Calls P f #[.slice (some ⟨blk,0,none⟩) zs.length cap] w fun e w'=>e= .returned (.tuple #[])/\ ∃n os,w'=Sort.grow (Sort.putRow (Value.int .i64) (Sort.ahead w n) blk 0 (zs.mergeSort fun x y=>decide (x<=y)).toArray) os)
    (xs:List Int) (n len cap:Nat):BK P f [.sl n len cap] [.own (.sl n len cap) 1 (iL xs)] fun r post=>r= .ret (.t [])/\post= [.own (.sl n len cap) 1 (iL (xs.mergeSort Gq))]:=by
 intro Z hs;refine⟨hok,fun F w cs hR hv=>?_⟩;rcases hs.get (i:=0) rfl with⟨h,_⟩|⟨n',cap',h,hn⟩
 .cases h
 cases h;rw[C4]at hv;obtain⟨c,e,hb,h1,h2,h3,h4⟩:=EV hR hn;rw[C4]at h2 h3;have hM:As=17592186044416:=rfl;rw[A7]at h4
 have hcell: ∀j x,xs[j]? =some x->c[j]? =some (Value.int .i64 x)/\IntKind.i64.min<=x/\x<=IntKind.i64.max:=fun j x hx=>by
  have:=(h4 j [.i .i64 x] (by rw[Np,hx];rfl)).2;simp only[BI,Nat.mul_one,F9]at this;obtain⟨⟨d,hd,hr⟩,_⟩:=this;simp only[Ac]at hr;obtain⟨rfl,hr⟩:=hr;exact⟨hd,hr⟩
 have hcs:cs= #[.slice (some ⟨n,0,none⟩) xs.length cap]:=by
  obtain⟨hsz,hv⟩:=hv;simp only[BI,Ac]at hv;obtain⟨⟨d,hd,rfl,_⟩,_⟩:=hv;simp at hsz;apply Array.ext_getElem?;intro i;rcases i with _|i
  .simpa using hd
  .rw[Array.getElem?_eq_none (by omega),Array.getElem?_eq_none (by simp)]
 subst hcs
 have hH:Sort.Holds (Value.int .i64) w n 0 xs.toArray:=fun j hj=>by
  have hj':j<xs.length:=by simpa using hj
  obtain⟨h5,_⟩:=hcell j xs[j] (Di hj');refine⟨?_,?_⟩
  .rw[F9,DE hb,h5]
   simp[getElem!_pos,hj']
  .rw[F9];exact QP hb
 refine(hc n cap xs w hH (hR.lt hn) (by omega)).mono fun e' w' ⟨he,k,os,hw⟩=>?_
 subst he;have hlen:(xs.mergeSort Gq).length=xs.length:=List.length_mergeSort _
 have hheap: ∀m,m<w.heap.size->w'.heap[m]? =if m=n then some (.cells (Sort.putCells (Value.int .i64) 0 (xs.mergeSort Gq).toArray c) e (0,0))else w.heap[m]? :=fun m hm=>by
  rw[hw];simp only[Sort.grow,Sort.putRow,Sort.mapBlock,Sort.ahead];rw[Array.getElem?_append_left (by simpa using hm),Array.getElem?_modify];by_cases e1:n=m
  .subst e1
   rw[if_pos rfl,if_pos rfl,hb];rfl
  .rw[if_neg e1,if_neg (Ne.symm e1)]
 have hadv:Bw F Z w (Bo Z n (.arr 1 (iL (xs.mergeSort Gq)) cap)) w':=by
  refine⟨fun m hm h0=>?_,?_,by rw[hw];rfl,by rw[hw];rfl,by rw[hw];rfl,fun m h0 _=>?_⟩
  .rw[hheap m hm,if_neg]
   intro e1;subst e1;rw[hn]at h0;cases h0
  .rw[hw];simp[Sort.grow]
  .rw[CW _ _ (fun e1=>by subst e1;rw[hn]at h0;cases h0)];exact h0
 refine⟨.ret (.t []),Bo Z n (.arr 1 (iL (xs.mergeSort Gq)) cap),⟨_,⟨rfl,rfl⟩,?_⟩,?_,?_,hadv⟩
 .refine⟨fun a ha=>?_,List.pairwise_singleton _ _⟩
  rw[MG.1 ha];exact .inr ⟨n,cap,by simp[hlen],Cw _ _ _⟩
 .exact⟨_,rfl,by simp[Ac,BI]⟩
 .refine hR.step hadv fun m o ho=>?_
  by_cases e1:m=n
  .subst e1
   rw[Cw]at ho;cases ho;refine .inr ⟨(hR.own _ _ hn).1,_,(hheap m (hR.lt hn)).trans (if_pos rfl),_,_,rfl,by simpa[Sort.putCells]using h1,by simpa[hlen]using h2,by simpa[hlen]using h3,?_⟩;rw[A7];intro i r hi;rw[Np]at hi;cases hx:(xs.mergeSort Gq)[i]? with
   | none=>rw[hx]at hi;cases hi
   | some x=>
     rw[hx]at hi;cases hi;have hil:i<xs.length:=by have:=(Je.1 hx).1;omega
     have hxm:x∈xs:=(List.mergeSort_perm xs Gq).mem_iff.1 (Dn hx);obtain⟨j,hj⟩:=List.getElem?_of_mem hxm;have hbd:=(hcell j x hj).2;obtain⟨hci,_⟩:=hcell i xs[i] (Di hil);have hcl:i<c.size:=(pV.1 hci).1;refine⟨rfl,?_⟩;simp only[BI,Nat.mul_one,F9,Ac,and_true];refine⟨_,?_,rfl,hbd⟩;simp only[Sort.putCells,Array.getElem?_mapIdx];rw[hci];have hxe:=(Je.1 hx).2;simp[hlen,hil,getElem!_pos,hxe]
  .rw[CW _ _ e1]at ho
   exact .inl ⟨ho,(hheap m (hR.lt ho)).trans (if_neg e1)⟩
def lN (xs:List Int) (n len cap:Nat):BK Tryz.prog 190 [.sl n len cap] [.own (.sl n len cap) 1 (iL xs)] fun r post=>r= .ret (.t [])/\post= [.own (.sl n len cap) 1 (iL (xs.mergeSort Gq))]:=
 iF (by kernel_rfl) (fun blk cap zs w h1 h2 h3=>Any.slices_Sort_int Tryz.mR blk 0 cap zs w h1 h2 h3) xs n len cap
end Go.Gl
namespace Go.Gl
open Go.Proofs
set_option maxRecDepth 100000
def dv:=cX [] [1] Tryz.func5
def xX:=cX [] [] Tryz.func11
def Yy:=cX [] [3,5] Tryz.func15
def Yx:=cX [] [3,4,5] Tryz.func20
def xW:=cX [] [2] Tryz.func21
def xV:=cX [] [] Tryz.func22
def xU:=cX [] [] Tryz.func23
def eW:=aL [] [3] Tryz.func31
def xT:=cX [] [2] Tryz.func33
def pB:=cX [] [2,3] Tryz.func35
set_option maxRecDepth 100000
def xS:=cX [] [] Tryz.func45
def xR:=cX [] [] Tryz.func46
def xQ:=cX [] [2] Tryz.func50
def pA:=cX [] [2] Tryz.func51
def xP:=cX [] [2] Tryz.func52
def xO:=cX [] [] Tryz.func53
def xN:=cX [] [4] Tryz.func65
def o8:=cX [] [] Tryz.func66
def xM:=cX [] [] Tryz.func67
def xL:=cX [] [] Tryz.func68
def xK:=cX [] [] Tryz.func69
def xJ:=cX [] [2] Tryz.func77
def xI:=cX [] [2,3] Tryz.func78
def xH:=cX [] [2,3] Tryz.func79
abbrev pK:AU:=(.Cl [⟨(some 4),.alloc [(.b false)],none⟩])
def vR:List Am:=[⟨(some 5),.dF (.func 126) [] [(.t 4)],none⟩]
abbrev pJ:AU:=(.seq [4] (.Cl [⟨(some 6),.mv (.t 0),none⟩,
 ⟨(some 7),.mv (.t 1),none⟩,
 ⟨(some 8),.call 81 [(.t 6),(.t 7)],none⟩,
 ⟨(some 9),.call 127 [(.t 8)],none⟩])
 (.seq [4] (.Cl [⟨none,.store 1 (.t 4) (.c (.b true)),none⟩])
 .ret))
def wK:Tryz.f80.body.bind (KA Tryz.prog Tryz.f80.ntmps [] [])=some (erase pK,vR,(.t 5),erase pJ):=by kernel_rfl
def xG {args:List V} (hn:args.length<=10) {Z:AE} {Q:R->AE->Prop} (h:W Tryz.prog (.seq [0,1,4] pK (.Cl vR)) (CG (du Tryz.prog (.t 5) [0,1,4] pJ [.c 4 none] Q)) (Az 0 args) Z):Ao Tryz.prog 80 args Z Q:=
 H4 Tryz.func80 (by kernel_rfl) wK (by kernel_rfl) hn (pQ h)
def xE:=cX [] [11] Tryz.func81
set_option maxRecDepth 100000
def eV:=aL [] [2] Tryz.func87
def xD:=cX [] [1] Tryz.func88
def xC:=cX [] [1] Tryz.func89
def xB:=cX [] [2,3] Tryz.func90
def xA:=cX [] [] Tryz.func92
def w9:=aL [] [] Tryz.func93
def w8:=cX [] [] Tryz.func95
def w7:=cX [] [2,3] Tryz.func96
def o7:=aL [] [1] Tryz.func99
def uU:=aL [] [2] Tryz.func106
def uT:=cX [] [] Tryz.func107
def uS:=cX [] [] Tryz.func108
def uR:=cX [] [] Tryz.func109
def gE:=cX [] [] Tryz.func114
def uQ:=cX [] [] Tryz.func115
def uP:=cX [] [2,3] Tryz.func116
def uO:=cX [] [1] Tryz.func118
def uN:=cX [] [2] Tryz.func119
def uM:=cX [] [] Tryz.func120
def uK:=cX [] [4,5,6] Tryz.func121
def uJ:=cX [] [1] Tryz.func122
def uI:=cX [] [5] Tryz.func123
def uH:=cX [] [] Tryz.func124
def uG:=cX [] [] Tryz.func125
def oe:List Am:=[⟨(some 5),.dD 206 (.a []) true (.t 4),none⟩,
    ⟨(some 3),.mv (.t 5),none⟩,
    ⟨(some 6),.extract 0 (.t 3),none⟩,
    ⟨(some 7),.extract 1 (.t 3),none⟩,
    ⟨(some 1),.alloc [],none⟩,
    ⟨none,.store 0 (.t 1) (.t 6),none⟩,
    ⟨(some 2),.mv (.t 7),none⟩]
abbrev gV:AU:=(.seq [0,8] (.Cl [⟨(some 8),.mv (.t 2),none⟩])
 (.cond (.t 8)
 (.Cl [⟨none,.store 1 (.t 0) (.c (.b false)),none⟩])
 .skip))
def qd:Tryz.f126.body.bind (resRec Tryz.prog Tryz.f126.ntmps [] [])=some (4,oe,erase gV):=by kernel_rfl
def Zu {args:List V} (hn:args.length<=9) {m:Option V} {Z:AE} {Q:AE->Prop} (h:W Tryz.prog (.seq [0,2] (.Cl oe) gV) (N8 Q) (put (some 4) (m.getD .DT) (Az 0 args)) Z):G0 Tryz.prog 126 args m Z Q:=
 JW Tryz.func126 (by kernel_rfl) qd rfl hn (kT h)
def uF:=cX [] [] Tryz.func127
set_option maxRecDepth 100000
def uE:=cX [] [3] Tryz.func128
def uD:=cX [] [3] Tryz.func129
def uC:=cX [] [3] Tryz.func130
def uB:=cX [] [3] Tryz.func131
def uA:=cX [] [] Tryz.func133
def tz:=aL [] [] Tryz.func135
def gD:=cX [] [] Tryz.func136
def tx:=cX [] [1] Tryz.func142
def tw:=cX [] [1] Tryz.func143
def gC:=cX [] [3] Tryz.func144
def tv:=cX [] [4,5] Tryz.func145
def Xk:=cX [] [7] Tryz.func146
def tu:=cX [] [4,5,7] Tryz.func147
def tt:=cX [] [] Tryz.func148
def Ip:=cX [] [] Tryz.func149
def ts:=cX [] [] Tryz.func150
def tr:=aL [] [] Tryz.func152
def tq:=cX [] [3] Tryz.func153
def gA:=cX [] [3,4] Tryz.func154
def tp:=cX [] [4,5] Tryz.func155
def tn:=aL [] [1] Tryz.func156
def fy:=cX [] [1,16] Tryz.func169
set_option maxRecDepth 100000
def Xj:=cX [] [] Tryz.func170
def tl:=aL [] [] Tryz.func171
def tk:=cX [] [] Tryz.func173
def tj:=cX [] [] Tryz.func178
def ti:=cX [] [] Tryz.func179
def fw:=cX [] [3] Tryz.func180
def th:=cX [] [] Tryz.func181
def tg:=cX [] [3] Tryz.func182
def tf:=cX [] [2] Tryz.func183
def te:=cX [] [4,5,6,7] Tryz.func184
def td:=cX [] [] Tryz.func185
def tc:=cX [] [] Tryz.func186
def tb:=cX [] [2] Tryz.func187
def ta:=cX [] [2,3] Tryz.func188
def fv:=cX [] [3] Tryz.func189
def tZ:=cX [] [] Tryz.func190
def tY:=cX [] [3] Tryz.func191
def tX:=cX [] [4] Tryz.func192
def tW:=cX [] [1] Tryz.func201
def tV:=cX [] [] Tryz.func202
def tU:=cX [] [] Tryz.func203
def tT:=cX [] [1] Tryz.func204
def tS:=aL [] [1] Tryz.func205
def tR:=cX [] [4,5] Tryz.func209
set_option maxRecDepth 100000
def fu:=cX [] [2] Tryz.func216
def tQ:=cX [] [] Tryz.func217
def tP:=cX [] [] Tryz.func218
def ft:=cX [] [2] Tryz.func219
def tN:=cX [] [] Tryz.func220
def fq:=cX [] [] Tryz.func227
def tM:=cX [] [] Tryz.func228
def tL:=cX [] [2] Tryz.func229
def tK:=cX [] [] Tryz.func230
def tJ:=cX [] [] Tryz.func231
def tI:=cX [] [] Tryz.func232
def tH:=cX [] [4] Tryz.func233
def tG:=cX [] [] Tryz.func234
def tF:=cX [] [] Tryz.func235
def tE:=cX [] [] Tryz.func236
def tD:=cX [] [] Tryz.func237
def tC:=cX [] [2,3] Tryz.func238
abbrev gY:AU:=(.Cl [⟨(some 2),.alloc [(.b false)],none⟩])
def od:List Am:=[⟨(some 3),.dF (.func 288) [] [(.t 2)],none⟩]
abbrev gU:AU:=(.seq [2] (.Cl [⟨(some 4),.mv (.t 0),none⟩,
 ⟨(some 5),.Ii (.t 4) [],none⟩])
 (.seq [2] (.Cl [⟨none,.store 1 (.t 2) (.c (.b true)),none⟩])
 .ret))
def qc:Tryz.f242.body.bind (KA Tryz.prog Tryz.f242.ntmps [] [])=some (erase gY,od,(.t 3),erase gU):=by kernel_rfl
def tB {args:List V} (hn:args.length<=6) {Z:AE} {Q:R->AE->Prop} (h:W Tryz.prog (.seq [0,2] gY (.Cl od)) (CG (du Tryz.prog (.t 3) [0,2] gU [.c 2 none] Q)) (Az 0 args) Z):Ao Tryz.prog 242 args Z Q:=
 H4 Tryz.func242 (by kernel_rfl) qc (by kernel_rfl) hn (pQ h)
def tA:=cX [] [] Tryz.func243
def s9:=cX [] [1] Tryz.func244
def fp:=cX [] [] Tryz.func245
def s8:=cX [] [7] Tryz.func246
def s7:=cX [] [3,4,5] Tryz.func247
def s6:=cX [] [3,4] Tryz.func248
def s5:=cX [] [] Tryz.func249
def sy:=cX [] [1] Tryz.func250
def sx:=cX [] [] Tryz.func251
def sw:=cX [] [1] Tryz.func252
set_option maxRecDepth 100000
def su:=aL [] [2,3] Tryz.func255
def ss:=cX [] [] Tryz.func259
def sr:=cX [] [] Tryz.func260
def sm:=cX [] [3] Tryz.func261
def fo:=cX [] [] Tryz.func262
def sj:=cX [] [] Tryz.func263
def sh:=cX [] [1] Tryz.func264
def sg:=cX [] [3] Tryz.func265
def sf:=cX [] [] Tryz.func266
def se:=cX [] [] Tryz.func273
def sd:=cX [] [] Tryz.func274
def sc:=cX [] [] Tryz.func275
def sb:=cX [] [] Tryz.func285
def sa:=cX [] [] Tryz.func286
def oa:List Am:=[⟨(some 1),.mv (.t 4),none⟩]
abbrev gT:AU:=(.seq [0,1,6] (.Cl [⟨(some 5),.mv (.t 1),none⟩,
 ⟨(some 6),.dI 2 true (.t 5),none⟩])
 (.cond (.t 6)
 (.seq [0] (.seq [0,1,3] (.Cl [⟨(some 8),.mv (.t 1),none⟩,
  ⟨(some 9),.dD 368 (.a []) true (.t 8),none⟩,
  ⟨(some 7),.mv (.t 9),none⟩,
  ⟨(some 10),.extract 0 (.t 7),none⟩,
  ⟨(some 11),.extract 1 (.t 7),none⟩,
  ⟨(some 2),.alloc [],none⟩,
  ⟨none,.store 0 (.t 2) (.t 10),none⟩,
  ⟨(some 3),.mv (.t 11),none⟩])
 (.seq [0,1,13] (.Cl [⟨(some 12),.mv (.t 3),none⟩,
  ⟨(some 13),.not (.t 12),none⟩])
 (.cond (.t 13)
 (.Cl [⟨(some 14),.mv (.t 1),none⟩,
  ⟨none,.panic (.t 14),none⟩])
 .skip)))
 (.Cl [⟨none,.store 1 (.t 0) (.c (.b false)),none⟩]))
 .skip))
def qb:Tryz.f288.body.bind (resRec Tryz.prog Tryz.f288.ntmps [] [])=some (4,oa,erase gT):=by kernel_rfl
def Zt {args:List V} (hn:args.length<=15) {m:Option V} {Z:AE} {Q:AE->Prop} (h:W Tryz.prog (.seq [0,1] (.Cl oa) gT) (N8 Q) (put (some 4) (m.getD .DT) (Az 0 args)) Z):G0 Tryz.prog 288 args m Z Q:=
 JW Tryz.func288 (by kernel_rfl) qb rfl hn (kT h)
def sZ:=cX [] [] Tryz.func289
def sY:=cX [] [] Tryz.func290
def sX:=cX [] [2] Tryz.func291
def sW:=cX [] [] Tryz.func292
def sV:=cX [] [4] Tryz.func293
def fm:=cX [] [6] Tryz.func294
def sU:=cX [] [] Tryz.func295
set_option maxRecDepth 100000
def sT:=cX [] [] Tryz.func299
def sS:=cX [] [] Tryz.func300
def sR:=cX [] [] Tryz.func301
def sQ:=cX [] [] Tryz.func302
def sP:=cX [] [] Tryz.func303
def sO:=cX [] [] Tryz.func313
def sN:=cX [] [] Tryz.func314
def sM:=cX [] [3,4,5] Tryz.func315
def sL:=cX [] [] Tryz.func316
def sK:=aL [] [] Tryz.func325
def sJ:=aL [] [3] Tryz.func326
def sI:=cX [] [] Tryz.func327
def sH:=cX [] [] Tryz.func329
def sG:=cX [] [0] Tryz.func330
def sF:=cX [] [] Tryz.func331
def fk:=cX [] [] Tryz.func332
def sE:=cX [] [] Tryz.func333
def sD:=cX [] [] Tryz.func334
def sC:=cX [] [4,5] Tryz.func352
def sB:=cX [] [3,4,5] Tryz.func353
@[reducible] noncomputable def zP:=Tryz.prog
end Go.Gl
namespace Go.Gl
open Go.Proofs
attribute [local irreducible] Ao Ai AY AO AJ AX AN AP AI AW AK AL Ak Au Sat AT Ar Aa W
def free (ls:List (List Int)) (x:Int):Bool:=ls.all fun l=> !(l.drop 1).contains x
def BU (ls:List (List Int)) (c:Int):List Int:=if c<3 then []else ls.getD (c - 3).toNat []
def LJ (ls os:List (List Int)) (c:Int):Option (List (List Int)):=
 if(BU ls c).any fun p=>(os.getD p.toNat []).isEmpty then none else some ((BU ls c).map (fun p=>(os.getD p.toNat []).filter (· != 0))++[BU ls c])
def eR {xs:List Int} {g:Bool} (h:E9 (.l (iL xs) g)):xs.length<=As:=by
 simp only[Io,C4]at h;exact h.1
def o5 {f:Fact} (h:E9 (.a (xF f))):f.kids.length<=As/\f.path.length<=As/\ ∀k∈f.kids,E9 (.a (xF k)):=by
 simp only[KF,Es,Io,Lq,C4]at h;exact⟨h.2.2.2.2.2.1.1,h.2.2.1.1,fun k hk=>by have:=h.2.2.2.2.2.1.2 k hk;rw[Bq]at this;exact this⟩
def XP (w:AG) (c:Int):Bool:=decide (0<=c)&&decide (c<3+w.parents.length)
def Ot (w:AG) (s:Int):Bool:=decide (0<=s)&&decide (s<w.owner.length)
def Ib (w:AG) (p:List Int):Bool:=p.all (Ot w)&&decide (p.length<=2)
def Cm (f:Fact):Bool:=f.op==2||f.op==3||f.op==4
def Dy:List (Int->Int)->Int->Int->Int
 | [],n,_=>n
 | k::r,n,most=>if n<=most then Dy r (n+k (most - n)) most else n
def Ct (f:Fact):Int->Int:=f.Gy fun _ l most=>Dy l 1 most
def M1 (f:Fact) (most:Int):Ct f most=Dy (f.kids.map Ct) 1 most:=by
 rw[Ct,Fact.DQ];rfl
def QG {most:Int}: ∀(l:List (Int->Int)) (n:Int),(∀g∈l,∀m,0<=m->1<=g m/\g m<=m+1)->1<=n->n<=most+1->1<=Dy l n most/\Dy l n most<=most+1
 | [],n,_,h1,h2=>⟨h1,h2⟩
 | g ::r,n,h,h1,h2=>by
   rw[Dy];split
   .have:=h g (List.mem_cons_self ..) (most - n) (by omega)
    exact QG r _ (fun g hg=>h g (List.mem_cons_of_mem _ hg)) (by omega) (by omega)
   .exact⟨h1,h2⟩
def QE (f:Fact): ∀m,0<=m->1<=Ct f m/\Ct f m<=m+1:=by
 induction f using Fact.ind with
 | h f ih=>
   intro m hm;rw[M1];refine QG _ _ (fun g hg=>?_) (by omega) (by omega);obtain⟨k,hk,rfl⟩:=H8.1 hg;exact ih k hk
def Qr (f:Fact):Nat:=f.Gy fun _ l=>1+l.sum
def PQ (f:Fact):Qr f=1+(f.kids.map Qr).sum:=Fact.DQ _ f
def QF {most:Int}: ∀(l:List Fact) (n:Int),(∀k∈l,∀m,0<=m->Ct k m<=m->Ct k m=Qr k)->0<=n->Dy (l.map Ct) n most<=most->Dy (l.map Ct) n most=n+(l.map Qr).sum
 | [],n,_,_,_=>by simp[Dy]
 | k :: r, n,h,h0,h1=>by
   simp only[Eg,Dy]at *;split at h1
   .rename_i hc
    rw[if_pos hc];have hb:=QE k (most - n) (by omega)
    have hge: ∀(l:List Fact) (a:Int),a<=Dy (l.map Ct) a most:=fun l=>by
     induction l with
     | nil=>intro a;exact Int.le_refl _
     | cons y l ih=>
       intro a;simp only[Eg,Dy];split
       .have:=QE y (most - a) (by omega)
        have:=ih (a+Ct y (most - a));omega
       .exact Int.le_refl _
    have h2:=hge r (n+Ct k (most - n));have h3:=h k (List.mem_cons_self ..) (most - n) (by omega) (by omega);have h4:=QF r (n+Ct k (most - n)) (fun k' hk'=>h k' (List.mem_cons_of_mem _ hk')) (by omega) h1;simp only[List.sum_cons];omega
   .rename_i hc
    omega
def QD (f:Fact): ∀m,0<=m->Ct f m<=m->Ct f m=Qr f:=by
 induction f using Fact.ind with
 | h f ih=>
   intro m h0 h1;rw[M1]at *;rw[QF f.kids 1 ih (by omega) h1,PQ];omega
def UZ (a b:Int):Int:=if a<b then b else a
def Ge (f:Fact):Int:=f.Gy fun _ l=>l.foldl UZ 0+1
def SV (f:Fact):Ge f=(f.kids.map Ge).foldl UZ 0+1:=Fact.DQ _ f
def P4 {α:Type} {xs:List α} {k:Nat} {x:α} {β:Type} (g:α->β) (h:β->β->β) (a:β) (hx:xs[k]? =some x):((xs.take (k+1)).map g).foldl h a=h (((xs.take k).map g).foldl h a) (g x):=by
 rw[An hx,Yh,List.foldl_append];rfl
def Il (f:Fact):Int:=f.Gy fun f l=>l.foldl UZ (if Cm f then f.arg+1 else 0)
def Rh (f:Fact):Il f=(f.kids.map Il).foldl UZ (if Cm f then f.arg+1 else 0):=Fact.DQ _ f
def VF (f:Fact):Bool:=f.Gy fun f l=>decide (0<=f.arg)&&decide (f.arg<3)&&l.all id
def WH (f:Fact):VF f=(decide (0<=f.arg)&&decide (f.arg<3)&&(f.kids.map VF).all id):=Fact.DQ _ f
def Cv (op:Int):Nat:=if op=5 then 1 else if op=6\/op=7 then 2 else 0
def aH (w:AG) (f:Fact):Bool:=
 if f.op=2 then f.n==0&&XP w f.cls else if f.op=3\/f.op=4 then f.cls==0&&(decide (-1000000000<=f.n)&&decide (f.n<=1000000000))else f.op==1||f.op==5||f.op==6||f.op==7
def Dr (w:AG) (f:Fact):Bool:=
 aH w f&&(f.kids.length==Cv f.op&&(decide (0<=f.arg)&&(decide (f.arg<3)&&(Ib w f.path&&(Cm f||(f.arg==0&&(f.path.length==0&&(f.cls==0&&f.n==0))))))))
def BM (w:AG) (f:Fact):Bool:=f.Gy fun f l=>Dr w f&&l.all id
def CO (w:AG) (f:Fact):BM w f=(Dr w f&&f.kids.all (BM w)):=by rw[BM,Fact.DQ,List.all_map];rfl
def EC (w:AG) (f:Fact):Bool:=decide (Ct f 24<=24)&&(decide (Ge f<=12)&&BM w f)
def yI (i:Nat) (pre:List Int) (c:Int):Bool:=decide (3<=c)&&(decide (c<3+i)&& !pre.contains c)
def aY (i:Nat):List Int->List Int->Bool
 | _,[]=>true
 | pre,c::r=>yI i pre c&&aY i (pre++[c]) r
def Ou:Nat->List (List Int)->Bool
 | _,[]=>true
 | i,l::r=>decide (l.length<=3)&&(aY i [] l&&Ou (i+1) r)
def FE (g:List (List Int)):Bool:=decide (g.length<=16)&&Ou 0 g
def fb {ls:List (List Int)} {g:Bool} (h:E9 (.l (Jg ls) g)):ls.length<=As/\ ∀l∈ls,l.length<=As:=by
 simp only[Io,C4,Lq,Es]at h;exact⟨h.1,fun l hl=>(h.2 l hl).1.1⟩
end Go.Gl
namespace Go.Gl
def par (ps:List (List Int)) (c:Nat):List Int:=if c<3 then []else ps.getD (c - 3) []
def ordered (ps:List (List Int)):Prop:= ∀c p,p∈par ps c->3<=p/\p<(c:Int)
def dO (ps:List (List Int)):Nat->Nat->Nat->Bool
 | 0,c,b=>c==b
 | f+1,c,b=>c==b||(par ps c).any fun p=>dO ps f p.toNat b
def GG (ps:List (List Int)) (c b:Nat):Bool:=dO ps c c b
def KU {ps:List (List Int)} (ho:ordered ps): ∀(f c b:Nat),c<=f->dO ps f c b=GG ps c b
 | 0,c,b,h=>by(obtain rfl:c=0:=by omega);rfl
 | f + 1,c,b,h=>by
   cases c with
   | zero=>
     have:par ps 0= []:=rfl;simp[GG,dO,this]
   | succ c=>
     simp only[GG,dO];congr 1
     have key: ∀l:List Int,(∀p∈l,p∈par ps (c+1))->(l.any fun p=>dO ps f p.toNat b)=l.any fun p=>dO ps c p.toNat b:=by
      intro l hl
      induction l with
      | nil=>rfl
      | cons p r ih=>
        have hp:=ho (c+1) p (hl p (.head _));simp only[Qj];rw[ih fun q hq=>hl q (.tail _ hq),KU ho f p.toNat b (by omega),KU ho c p.toNat b (by omega)]
     exact key _ fun p hp=>hp
def Eo {ps:List (List Int)} (ho:ordered ps) (c b:Nat):GG ps c b=(c==b||(par ps c).any fun p=>GG ps p.toNat b):=by
 cases c with
 | zero=>simp[GG,dO,par]
 | succ c=>
   simp only[GG,dO];congr 1
   have key: ∀l:List Int,(∀p∈l,p∈par ps (c+1))->(l.any fun p=>dO ps c p.toNat b)=l.any fun p=>dO ps p.toNat p.toNat b:=by
    intro l hl
    induction l with
    | nil=>rfl
    | cons p r ih=>
      have hp:=ho (c+1) p (hl p (.head _));simp only[Qj];rw[ih fun q hq=>hl q (.tail _ hq),KU ho c p.toNat b (by omega)];rfl
   exact key _ fun p hp=>hp
def FH {ps:List (List Int)} (ho:ordered ps) (c:Nat):GG ps c c=true:=by rw[Eo ho];simp
def er {ps:List (List Int)} (ho:ordered ps): ∀(c b:Nat),GG ps c b=true->b<=c:=by
 intro c
 induction c using Nat.strongRecOn with
 | _ c ih=>
   intro b h;rw[Eo ho]at h;simp only[Ek,Cy,GF]at h;rcases h with rfl|⟨p,hp,h⟩
   .omega
   .have:=ho c p hp
    have:=ih p.toNat (by omega) b h;omega
def Mq {ps:List (List Int)} (ho:ordered ps): ∀(a b c:Nat),GG ps a b=true->GG ps b c=true->GG ps a c=true:=by
 intro a
 induction a using Nat.strongRecOn with
 | _ a ih=>
   intro b c h k;rw[Eo ho]at h ⊢;simp only[Ek,Cy,GF]at h ⊢;rcases h with rfl|⟨p,hp,h⟩
   .rw[Eo ho]at k
    simpa using k
   .have:=ho a p hp
    exact .inr ⟨p,hp,ih p.toNat (by omega) b c h k⟩
def Ox (bs:List Bool) (i:Nat):List Int->List Bool
 | []=>bs
 | p::r=>Ox (bs.set p.toNat (bs.getD p.toNat false||bs.getD i false)) i r
def R0 (i:Nat): ∀(l:List Int) (bs:List Bool),(Ox bs i l).length=bs.length
 | [],bs=>rfl
 | p::r,bs=>by simp only[Ox];rw[R0 i r];simp
def Ku (ps:List (List Int)) (n c:Nat):Nat->List Bool
 | 0=>(List.replicate n false).set c true
 | k+1=>Ox (Ku ps n c k) (c - k) (par ps (c - k))
def TW (ps:List (List Int)) (n c:Nat): ∀k,(Ku ps n c k).length=n
 | 0=>by simp[Ku]
 | k+1=>by simp only[Ku];rw[R0,TW ps n c k]
def EY {bs:List Bool} {j:Nat} {x:Bool} (hj:j<bs.length) (b:Nat):(bs.set j x).getD b false=if b=j then x else bs.getD b false:=by
 simp only[Dh,List.getElem?_set];by_cases h:j=b
 .subst h;simp[hj]
 .rw[if_neg h,if_neg (fun e=>h e.symm)]
def M4 {i:Nat}: ∀(l:List Int) (bs:List Bool),(∀p∈l,0<=p/\p.toNat<bs.length/\p.toNat<i)-> ∀b,(Ox bs i l).getD b false=(bs.getD b false||(bs.getD i false&&l.contains (b:Int)))
 | [],bs,_,b=>by simp[Ox]
 | p ::r,bs,h,b=>by
   obtain⟨h1,h2,h3⟩:=h p (.head _);simp only[Ox];have hi:i≠p.toNat:=by omega
   rw[M4 r _ (fun q hq=>by have:=h q (.tail _ hq);simpa using this),EY h2,EY h2,if_neg hi];by_cases hb:b=p.toNat
   .subst hb
    have:((p.toNat:Nat):Int)=p:=by omega
    simp only[if_true,this,List.contains_cons,beq_self_eq_true,Bool.true_or,Bool.and_true];cases bs.getD p.toNat false<;>cases bs.getD i false<;>simp
   .rw[if_neg hb]
    have:((b:Int)==p)=false:=by simp;omega
    simp only[List.contains_cons,this,Bool.false_or]
def VQ {ps:List (List Int)} (ho:ordered ps) {n c:Nat} (hc:c<n): ∀k,k<=c - 2->(∀b,(Ku ps n c k).getD b false=true->GG ps c b=true)/\(Ku ps n c k).getD c false=true/\
    (∀j p,c - k<j->(Ku ps n c k).getD j false=true->p∈par ps j->(Ku ps n c k).getD p.toNat false=true)
 | 0,_=>by
   have hg: ∀b,(Ku ps n c 0).getD b false=decide (b=c):=fun b=>by
    simp only[Ku];rw[EY (by simpa using hc)];by_cases h:b=c
    .simp[h]
    .rw[if_neg h]
     simp[h,Dh,List.getElem?_replicate];split<;>rfl
   refine⟨fun b hb=>?_,by rw[hg];simp,fun j p hj hb hp=>?_⟩
   .rw[hg]at hb
    simp only[CT]at hb;subst hb;exact FH ho _
   .rw[hg]at hb
    simp only[CT]at hb;omega
 | k + 1,hk=>by
   obtain⟨h1,h2,h3⟩:=VQ ho hc k (by omega)
   have hpar: ∀p∈par ps (c - k),0<=p/\p.toNat<(Ku ps n c k).length/\p.toNat<c - k:=fun p hp=>by
    have:=ho _ p hp;rw[TW];omega
   have hg: ∀b,(Ku ps n c (k+1)).getD b false=((Ku ps n c k).getD b false||((Ku ps n c k).getD (c - k) false&&(par ps (c - k)).contains (b:Int))):=fun b=>by
    simp only[Ku];exact M4 _ _ hpar b
   refine⟨fun b hb=>?_,by rw[hg,h2];rfl,fun j p hj hb hp=>?_⟩
   .rw[hg]at hb
    simp only[Ek,A4,List.contains_iff_mem]at hb;rcases hb with hb|⟨hb,hm⟩
    .exact h1 b hb
    .refine Mq ho c (c - k) b (h1 _ hb) ?_
     rw[Eo ho];simp only[Ek,GF];exact .inr ⟨b,hm,by simpa using FH ho b⟩
   .have hjp:=ho j p hp
    have hb':(Ku ps n c k).getD j false=true:=by
     rw[hg]at hb;simp only[Ek,A4,List.contains_iff_mem]at hb;rcases hb with hb|⟨_,hm⟩
     .exact hb
     .have:=ho _ _ hm
      omega
    rw[hg];by_cases e:j=c - k
    .subst e
     rw[hb'];have:((p.toNat:Nat):Int)=p:=by omega
     simp only[this,Ed,Ek,List.contains_iff_mem];exact .inr hp
    .rw[h3 j p (by omega) hb' hp]
     rfl
def lI {ps:List (List Int)} (ho:ordered ps) {n c:Nat} (hc:c<n) (b:Nat):(Ku ps n c (c - 2)).getD b false=GG ps c b:=by
 obtain⟨h1,h2,h3⟩:=VQ ho hc (c - 2) (IN _)
 have key: ∀a,(Ku ps n c (c - 2)).getD a false=true-> ∀b,GG ps a b=true->(Ku ps n c (c - 2)).getD b false=true:=by
  intro a
  induction a using Nat.strongRecOn with
  | _ a ih=>
    intro ha b hb;rw[Eo ho]at hb;simp only[Ek,Cy,GF]at hb;rcases hb with rfl|⟨p,hp,hb⟩
    .exact ha
    .have:=ho a p hp
     exact ih p.toNat (by omega) (h3 a p (by omega) ha hp) b hb
 cases hb:GG ps c b with
 | true=>exact key c h2 b hb
 | false=>
   cases hq:(Ku ps n c (c - 2)).getD b false with
   | false=>rfl
   | true=>rw[h1 b hq]at hb;cases hb
end Go.Gl
namespace Go.Gl
open Go.Proofs
attribute [local irreducible] Ao Ai AY AO AJ AX AN AP AI AW AK AL Ak Au Sat AT Ar Aa W
def pick (ls:List (List Int)):Option Int:=(ls.find? fun l=>match l with| []=>false|x::_=>free ls x).bind List.head?
def total (ls:List (List Int)):Nat:=(ls.map List.length).sum
def DI:Nat->List (List Int)->List Int->List Int×Bool
 | 0,ls,out=>(out,ls.all List.isEmpty)
 | n+1,ls,out=>match pick ls with
   | none=>(out,ls.all List.isEmpty)
   | some x=>DI n (ls.map fun l=>l.filter (· != x)) (out++[x])
def DP (ls:List (List Int)):List Int×Bool:=DI (total ls) ls []
def KV {ls:List (List Int)} {x:Int} (h:pick ls=some x):total (ls.map fun l=>l.filter (· != x))<total ls:=by
 unfold pick at h;rw[Option.bind_eq_some_iff]at h;obtain⟨l,h1,h2⟩:=h;have hm:=List.mem_of_find?_eq_some h1;clear h1;cases l with
 | nil=>cases h2
 | cons y r=>
   simp only[List.head?_cons,GU]at h2;subst h2
   have hle: ∀ls:List (List Int),total (ls.map fun l=>l.filter (· != y))<=total ls:=fun ls=>by
    induction ls with
    | nil=>simp[total]
    | cons a bs ih=>
      have:=W9 (· != y) a;simp only[total,Eg,List.sum_cons]at *;omega
   induction ls with
   | nil=>cases hm
   | cons a bs ih=>
     rcases FR.1 hm with rfl|hm
     .have h1:=hle bs
      have h2:=W9 (· != y) r;simp only[total,Eg,List.sum_cons]at *;have:((y::r).filter (· != y)).length<=r.length:=by simpa using h2
      simp only[Kt];omega
     .have h1:=ih hm
      have h2:=W9 (· != y) a;simp only[total,Eg,List.sum_cons]at *;omega
def XH (ls:List (List Int)):Prop:=ls.length<=1000000/\ ∀l∈ls,l.length<=As/\ ∀x∈l,0<=x
def XH.filter {ls:List (List Int)} (h:XH ls) (x:Int):XH (ls.map fun l=>l.filter (· != x)):=by
 refine⟨by rw[C4];exact h.1,fun l hl=>?_⟩;obtain⟨l',hl',rfl⟩:=H8.1 hl;obtain⟨h1,h2⟩:=h.2 l' hl';exact⟨Nat.le_trans (W9 _ _) h1,fun y hy=>h2 y (Kv.1 hy).1⟩
def Wh : ∀ (n:Nat) (ls:List (List Int)) (out:List Int),total ls<=n->DI n ls out=DI (total ls) ls out:=by
 intro n
 induction n using Nat.strongRecOn with
 | _ n ih=>
   intro ls out hn;by_cases he:total ls=n
   .rw[he]
   .cases n with
    | zero=>omega
    | succ n=>
      cases hp:pick ls with
      | none=>
        cases ht:total ls with
        | zero=>simp[DI,hp]
        | succ m=>simp[DI,hp]
      | some x=>
        have h1:=KV hp;cases ht:total ls with
        | zero=>omega
        | succ m=>
          simp only[DI,hp];rw[ih n (by omega) _ _ (by omega),ih m (by omega) _ _ (by omega)]
def Wg {ls:List (List Int)} {x:Int} {out:List Int} (hp:pick ls=some x):DI (total ls) ls out=DI (total (ls.map fun l=>l.filter (· != x))) (ls.map fun l=>l.filter (· != x)) (out++[x]):=by
 have h1:=KV hp;cases ht:total ls with
 | zero=>omega
 | succ m=>
   simp only[DI,hp];exact Wh m _ _ (by omega)
def YB {ls:List (List Int)} {out:List Int} (hp:pick ls=none):DI (total ls) ls out=(out,ls.all List.isEmpty):=by
 cases ht:total ls with
 | zero=>rfl
 | succ m=>simp only[DI,hp]
def U2 (ls:List (List Int)) (l:List Int):Bool:=match l with| []=>false|x::_=>free ls x
def Hq (g os:List (List Int)) (c:Int):List Int:=
 match LJ g os c with
 | none=>[]
 | some l=>if(DP l).2 then [c]++(DP l).1++[0]else []
def CN (g:List (List Int)):Nat->List (List Int)
 | 0=>[[0]]
 | k+1=>CN g k++[Hq g (CN g k) ((k:Int)+1)]
def DY (g:List (List Int)):List (List Int):=CN g (2+g.length)
def K5 (g:List (List Int)):Prop:=g.length<=16/\ ∀(i:Nat) (l:List Int),g[i]? =some l->l.length<=3/\l.Nodup/\ ∀c∈l,(3:Int)<=c/\c<3+(i:Int)
def Fg (g:List (List Int)): ∀k,(CN g k).length=k+1
 | 0=>rfl
 | k+1=>by simp[CN,Fg g k]
def Kg: ∀(n:Nat) (ls:List (List Int)) (out:List Int),(DI n ls out).1.length<=out.length+n
 | 0,ls,out=>by simp[DI]
 | n + 1,ls,out=>by
   simp only[DI];split
   .simp
   .rename_i x _
    have:=Kg n (ls.map fun l=>l.filter (· != x)) (out++[x]);simp only[RG,List.length_singleton]at this;refine Nat.le_trans this ?_;omega
def We {ls:List (List Int)} (h: ∀l∈ls,∀x∈l,(0:Int)<=x) {x:Int} (hp:pick ls=some x):0<=x:=by
 unfold pick at hp;rw[Option.bind_eq_some_iff]at hp;obtain⟨l,h1,h2⟩:=hp;have hm:=List.mem_of_find?_eq_some h1;cases l with
 | nil=>cases h2
 | cons y r=>cases h2;exact h _ hm _ (.head _)
def Jz: ∀(n:Nat) (ls:List (List Int)) (out:List Int),(∀l∈ls,∀x∈l,(0:Int)<=x)->(∀x∈out,(0:Int)<=x)-> ∀x∈(DI n ls out).1,(0:Int)<=x
 | 0,ls,out,_,h2=>h2
 | n + 1,ls,out,h1,h2=>by
   simp only[DI];split
   .exact h2
   .rename_i y hy
    refine Jz n _ _ (fun l hl x hx=>?_) fun x hx=>?_
    .obtain⟨l',hl',rfl⟩:=H8.1 hl
     exact h1 _ hl' _ (Kv.1 hx).1
    .rcases Dm.1 hx with hx|hx
     .exact h2 x hx
     .rw[MG.1 hx];exact We h1 hy
def E8 {g:List (List Int)} (hg:K5 g) {c p:Int} (hp:p∈BU g c):3<=p/\p<c:=by
 unfold BU at hp;split at hp
 .cases hp
 .rename_i hc
  rw[Dh]at hp;cases hq:g[(c - 3).toNat]? with
  | none=>rw[hq]at hp;cases hp
  | some l=>
    rw[hq]at hp;obtain⟨_,_,h⟩:=hg.2 _ _ hq;have:=h p hp;omega
def Gm {g:List (List Int)} (hg:K5 g) (c:Int):(BU g c).length<=3:=by
 unfold BU;split
 .simp
 .rw[Dh]
  cases hq:g[(c - 3).toNat]? with
  | none=>simp
  | some l=>exact(hg.2 _ _ hq).1
def Nd {g os:List (List Int)} {c:Int} {ls:List (List Int)} (h:LJ g os c=some ls):ls=(BU g c).map (fun p=>(os.getD p.toNat []).filter (· != 0))++[BU g c]:=by
 unfold LJ at h;split at h
 .cases h
 .exact(Option.some.inj h).symm
def Vu {os:List (List Int)} {B:Nat} (h: ∀o∈os,o.length<=B) (n:Nat):(os.getD n []).length<=B:=by
 rw[Dh];cases hq:os[n]? with
 | none=>simp
 | some l=>exact h _ (Dn hq)
def Vt {os:List (List Int)} {Q:Int->Prop} (h: ∀o∈os,∀x∈o,Q x) (n:Nat): ∀x∈os.getD n [],Q x:=by
 rw[Dh];cases hq:os[n]? with
 | none=>simp
 | some l=>exact h _ (Dn hq)
def Q9 {g os:List (List Int)} {c:Int} {ls:List (List Int)} (h:LJ g os c=some ls) {B:Nat} (hB: ∀o∈os,o.length<=B):total ls<=(BU g c).length*(B+1):=by
 rw[Nd h];simp only[total,Yh,uj,List.sum_append,Eg,List.map_nil,List.sum_cons,List.sum_nil,Nat.add_zero]
 have: ∀ps:List Int,(ps.map (List.length∘fun p=>(os.getD p.toNat []).filter (· != 0))).sum<=ps.length*B:=fun ps=>by
  induction ps with
  | nil=>simp
  | cons p r ih=>
    simp only[Eg,List.sum_cons,Function.comp,Kt,Nat.succ_mul];have h1:=W9 (· != 0) (os.getD p.toNat []);have h2:=Vu hB p.toNat;simp only[Function.comp_def]at *;omega
 have:=this (BU g c);rw[Nat.mul_add,Nat.mul_one];simp only[Function.comp_def]at *;omega
def Wf {g os:List (List Int)} {c:Int} {B:Nat} (hB: ∀o∈os,o.length<=B):(Hq g os c).length<=(BU g c).length*(B+1)+2:=by
 unfold Hq;split
 .simp
 .rename_i ls h
  have h1:=Q9 h hB;have h2:=Kg (total ls) ls [];simp only[List.length_nil,F9]at h2;split
  .simp only[RG,List.length_singleton,DP]
   omega
  .simp
def Qi {g os:List (List Int)} {c:Int} (hg:K5 g) (hc:0<=c) (h: ∀o∈os,∀x∈o,(0:Int)<=x): ∀x∈Hq g os c,0<=x:=by
 unfold Hq;split
 .simp
 .rename_i ls hl
  split
  .intro x hx
   have hls: ∀l∈ls,∀x∈l,(0:Int)<=x:=by
    rw[Nd hl];intro l hl x hx;rcases Dm.1 hl with hl|hl
    .obtain⟨p,_,rfl⟩:=H8.1 hl
     exact Vt h p.toNat x (Kv.1 hx).1
    .rw[MG.1 hl]at hx
     have:=E8 hg hx;omega
   simp only[Dm,MG]at hx;rcases hx with(rfl|hx)|rfl
   .exact hc
   .exact Jz _ _ _ hls (by simp) x hx
   .exact Int.le_refl _
  .simp
def N4 (k:Nat):Nat:=5*3 ^ (k - 3) - 3
def qn (n:Nat):1<=3 ^ n:=Nat.one_le_pow _ _ (by omega)
def L4 {g : List (List Int)} (hg:K5 g): ∀(k:Nat),∀o∈CN g k,o.length<=N4 k/\ ∀x∈o,(0:Int)<=x
 | 0,o,ho=>by
   simp only[CN,MG]at ho;subst ho;simp[N4]
 | k + 1,o,ho=>by
   have ih:=L4 hg k
   have hmono:N4 k<=N4 (k+1):=by
    unfold N4;have:3 ^ (k - 3)<=3 ^ (k+1 - 3):=Nat.pow_le_pow_right (by omega) (by omega);omega
   simp only[CN,Dm,MG]at ho;rcases ho with ho|rfl
   .exact⟨Nat.le_trans (ih o ho).1 hmono,(ih o ho).2⟩
   .refine⟨?_,Qi hg (by omega) fun o ho=>(ih o ho).2⟩
    have h1:=Wf (g:=g) (c:=(k:Int)+1) fun o ho=>(ih o ho).1
    by_cases hk:k<3
    .have:BU g ((k:Int)+1)= []:=by
      apply List.eq_nil_iff_forall_not_mem.2;intro p hp;have:=E8 hg hp;omega
     rw[this]at h1
     have:N4 (k+1)=2:=by
      have:k+1 - 3=0:=by omega
      simp[N4,this]
     simpa[this]using h1
    .have h2:=Gm hg ((k:Int)+1)
     have h3:(BU g ((k:Int)+1)).length*(N4 k+1)<=3*(N4 k+1):=W8 _ h2;have:k+1 - 3=(k - 3)+1:=by omega
     unfold N4 at *;rw[this,Nat.pow_succ];have:=qn (k - 3);omega
def nz {k:Nat} (h:k<=18):N4 k<=71744535:=by
 unfold N4;have:3 ^ (k - 3)<=3 ^ 15:=Nat.pow_le_pow_right (by omega) (by omega);have e:(3:Nat) ^ 15=14348907:=by decide
 omega
def Eb {g:List (List Int)}: ∀ {k j:Nat},j<=k->(CN g k)[j]? =(CN g j)[j]?
 | 0,j,h=>by(obtain rfl:j=0:=by omega);rfl
 | k+1,j,h=>by
   by_cases e:j=k+1
   .subst e;rfl
   .rw[<-Eb (k:=k) (by omega),CN,dN (by rw[Fg];omega)]
def XQ (n:Int):Bool:=decide (-1000000000<=n)&&decide (n<=1000000000)
def Ow (k:Int):Bool:=k==1||k==4
def O6 {p:Prog} (h:E9 (.a (Ba p))):p.AQ.length<=As/\p.Ch.length<=As/\p.methods.length<=As/\p.nodes.length<=As:=by
 simp only[Ba,KF,Es,Io,C4]at h;exact⟨h.1.1,h.2.2.1.1,h.2.2.2.1.1,h.2.2.2.2.1.1⟩
def O3 (p:Prog) (x:Node):Int:=
 if x.op=1\/x.op=2\/x.op=3\/x.op=6\/x.op=18 then 0 else
 if x.op=4\/x.op=8\/x.op=17 then 1 else
 if x.op=7\/x.op=9\/x.op=11\/x.op=12\/x.op=13\/x.op=14\/x.op=15\/x.op=16 then 2 else
 if x.op=10 then 3 else
 if x.op=5/\0<=x.n/\x.n<p.Ch.length then p.Ch.getD x.n.toNat 0 else -1
def Su (p:Prog) (x:Node) (size:Int):Bool:=
 if x.op=1 then XQ x.n else if x.op=3 then decide (0<=x.n)&&decide (x.n<size)else if x.op=4\/x.op=7 then decide (0<=x.n)&&decide (x.n<p.AF)else
 if x.op=5 then decide (0<=x.n)&&decide (x.n<p.Ch.length)else if x.op=6\/x.op=8 then decide (3<=x.n)&&decide (x.n<3+p.AQ.length)else x.n==0
def Un (ps:List (List Int)) (a b:Int):Bool:=a==b||(b==0||(decide (3<=a)&&GG ps a.toNat b.toNat))
structure Nr (w:AG):Prop where
 len:w.parents.length<=60
 ord:ordered w.parents
 own: ∀c∈w.owner,(3:Int)<=c/\c<3+w.parents.length
 olen:w.owner.length<=40
def B2 (w:AG) (s:Int):Int:=w.owner.getD s.toNat 0
def hasB (w:AG) (c s:Int):Bool:=decide (3<=c)&&Un w.parents c (B2 w s)
end Go.Gl
