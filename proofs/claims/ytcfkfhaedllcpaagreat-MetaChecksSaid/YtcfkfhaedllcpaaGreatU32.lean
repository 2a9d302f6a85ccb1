import Derived.Test.YtcfkfhaedllcpaaGreatProg
import Derived.KernelRfl
import Derived.Test.YtcfkfhaedllcpaaGreatU31
set_option linter.all false
set_option linter.defProp false
set_option maxHeartbeats 8000000
noncomputable section
namespace Go.Gl
open Go.Proofs
set_option maxRecDepth 100000
def pd:=eX [] [] Tryz.func84
def oL:=eX [] [] Tryz.func124
def nu:=eX [] [] Tryz.func169
def nt:=eX [] [] Tryz.func170
def nr:=eX [] [] Tryz.func171
def n9:=eX [] [] Tryz.func160
def n8:=eX [] [] Tryz.func161
def n7:=eX [] [] Tryz.func162
def n6:=eX [] [] Tryz.func163
def n4:=eX [] [] Tryz.func164
def nk:=eX [] [] Tryz.func197
def nj:=eX [] [] Tryz.func198
def pb:=eX [] [] Tryz.func96
def ni:=eX [] [] Tryz.func199
def nc:=eZ [] [] Tryz.func203
def nb:=eX [] [] Tryz.func204
def na:=eX [] [] Tryz.func205
def nZ:=eX [] [] Tryz.func206
def Ve:List Ad:=[⟨(some 1),.mv (.t 4),none⟩]
abbrev TF:AK:=(.seq [0,1,6] (.Bh [⟨(some 5),.mv (.t 1),none⟩,
 ⟨(some 6),.TU 2 true (.t 5),none⟩])
 (.cond (.t 6)
 (.seq [0] (.seq [0,1,3] (.Bh [⟨(some 8),.mv (.t 1),none⟩,
  ⟨(some 9),.Un 318 (.a []) true (.t 8),none⟩,
  ⟨(some 7),.mv (.t 9),none⟩,
  ⟨(some 10),.extract 0 (.t 7),none⟩,
  ⟨(some 11),.extract 1 (.t 7),none⟩,
  ⟨(some 2),.alloc [],none⟩,
  ⟨none,.store 0 (.t 2) (.t 10),none⟩,
  ⟨(some 3),.mv (.t 11),none⟩])
 (.seq [0,1,13] (.Bh [⟨(some 12),.mv (.t 3),none⟩,
  ⟨(some 13),.not (.t 12),none⟩])
 (.cond (.t 13)
 (.Bh [⟨(some 14),.mv (.t 1),none⟩,
  ⟨none,.panic (.t 14),none⟩])
 .skip)))
 (.Bh [⟨none,.store 1 (.t 0) (.c (.b false)),none⟩]))
 .skip))
def YG:Tryz.f258.body.bind (resRec Tryz.prog Tryz.f258.ntmps [] [])=some (4,Ve,erase TF):=by kernel_rfl
def Z1:NZ:= .aX 15 4 Ve TF [0,1]
def Y2:Ga Tryz.prog 258 Z1:=fun _ _ _ _ hn h=>HM Tryz.func258 (by kernel_rfl) YG rfl hn h
def mo:Oi Tryz.prog:=⟨258,Z1,Y2⟩
def nY:=eX [] [] Tryz.func207
def m7:=eX [] [] Tryz.func236
def m6:=eX [] [] Tryz.func237
def ph:=eX [] [] Tryz.func78
abbrev aI:AK:=(.Bh [⟨(some 1),.load none (.t 0),none⟩,
 ⟨(some 2),.Di (.t 1),none⟩,
 ⟨(some 3),.BE 15 (.t 2),none⟩,
 ⟨(some 4),.load none (.t 3),none⟩,
 ⟨(some 5),.bin .sub (.t 4) (.c (.i .i64 1)),none⟩,
 ⟨(some 6),.Di (.t 1),none⟩,
 ⟨(some 7),.BE 15 (.t 6),none⟩,
 ⟨none,.store 1 (.t 7) (.t 5),none⟩])
def bT:Tryz.f238.body.bind (res Tryz.prog Tryz.f238.ntmps [] [])=some (erase aI):=by kernel_rfl
def Z2:NZ:= .fm 8 aI
def Y3:Ga Tryz.prog 238 Z2:=fun _ _ _ hn h=>R5 Tryz.func238 (by kernel_rfl) bT rfl hn h
def mz:Oi Tryz.prog:=⟨238,Z2,Y3⟩
def pf:=eX [] [] Tryz.func82
def oE:=eX [] [] Tryz.func143
def oD:=eX [] [] Tryz.func144
def oB:=eX [] [] Tryz.func146
def my:=eX [] [] Tryz.func239
def mw:=eX [] [] Tryz.func240
def mu:=eX [] [] Tryz.func241
def mr:=eX [] [] Tryz.func242
def mq:=eX [] [] Tryz.func243
def nH:=eX [] [] Tryz.func228
def nG:=eX [] [] Tryz.func229
def nF:=eX [] [] Tryz.func230
def nE:=eX [] [] Tryz.func231
def nC:=eX [] [] Tryz.func233
def nD:=eX [] [] Tryz.func232
def m9:=eX [] [] Tryz.func234
def ml:=eZ [] [] Tryz.func259
def mj:=eX [] [] Tryz.func260
def mh:=eX [] [] Tryz.func261
def mg:=eX [] [] Tryz.func262
def mf:=eX [] [] Tryz.func263
def oA:=eX [] [] Tryz.func159
def nh:=eX [] [] Tryz.func200
def ng:=eX [] [] Tryz.func201
def nf:=eX [] [] Tryz.func202
def ji:=eX [] [] Tryz.func431
def jh:=eX [] [] Tryz.func432
def mb:=eX [] [] Tryz.func266
def ma:=eX [] [] Tryz.func267
def mQ:=eX [] [] Tryz.func281
def oG:=eX [] [] Tryz.func141
def oF:=eX [] [] Tryz.func142
def oC:=eX [] [] Tryz.func145
def nK:=eX [] [] Tryz.func218
def nM:=eX [] [] Tryz.func217
def mP:=eX [] [] Tryz.func282
def mN:=eX [] [] Tryz.func284
def mO:=eX [] [] Tryz.func283
def mM:=eX [] [] Tryz.func285
def mL:=eX [] [] Tryz.func286
def mK:=eX [] [] Tryz.func287
def mJ:=eX [] [] Tryz.func288
set_option maxRecDepth 100000
def mU:=eX [] [] Tryz.func277
def mT:=eX [] [] Tryz.func278
def nR:=eX [] [] Tryz.func213
def mR:=eX [] [] Tryz.func280
def nQ:=eX [] [] Tryz.func214
def mS:=eX [] [] Tryz.func279
def m8:=eX [] [] Tryz.func235
def mI:=eX [] [] Tryz.func294
def mH:=eX [] [] Tryz.func295
def mG:=eX [] [] Tryz.func296
def mF:=eX [] [] Tryz.func297
def nJ:=eX [] [] Tryz.func226
def nI:=eX [] [] Tryz.func227
def me:=eX [] [] Tryz.func264
def mD:=eZ [] [] Tryz.func298
def mC:=eX [] [] Tryz.func299
def nX:=eX [] [] Tryz.func208
def nU:=eX [] [] Tryz.func210
def nV:=eX [] [] Tryz.func209
def nS:=eX [] [] Tryz.func212
def nP:=eX [] [] Tryz.func215
def nN:=eX [] [] Tryz.func216
def ly:=eX [] [] Tryz.func310
def lv:=eX [] [] Tryz.func311
def lu:=eX [] [] Tryz.func312
def lr:=eX [] [] Tryz.func313
def lq:=eX [] [] Tryz.func314
def lk:=eX [] [] Tryz.func316
def l4:=eX [] [] Tryz.func307
def mW:=eX [] [] Tryz.func271
def lz:=eX [] [] Tryz.func309
def l3:=eX [] [] Tryz.func308
def lj:=eX [] [] Tryz.func325
def lh:=eX [] [] Tryz.func326
def lg:=eX [] [] Tryz.func327
def la:=eX [] [] Tryz.func328
def mc:=eX [] [] Tryz.func265
def lZ:=eX [] [] Tryz.func329
def lX:=eX [] [] Tryz.func331
def lY:=eX [] [] Tryz.func330
def lV:=eX [] [] Tryz.func333
def lW:=eX [] [] Tryz.func332
def nT:=eX [] [] Tryz.func211
def mZ:=eX [] [] Tryz.func268
def mY:=eX [] [] Tryz.func269
def mX:=eX [] [] Tryz.func270
def mV:=eX [] [] Tryz.func272
def lB:=eX [] [] Tryz.func353
def ln:=eX [] [] Tryz.func315
def lN:=eX [] [] Tryz.func341
def lD:=eX [] [] Tryz.func351
def lC:=eX [] [] Tryz.func352
def lM:=eX [] [] Tryz.func342
def lL:=eX [] [] Tryz.func343
def lK:=eX [] [] Tryz.func344
def lJ:=eX [] [] Tryz.func345
def lI:=eX [] [] Tryz.func346
def lH:=eX [] [] Tryz.func347
def lG:=eX [] [] Tryz.func348
def lF:=eX [] [] Tryz.func349
def lE:=eX [] [] Tryz.func350
def lA:=eX [] [] Tryz.func360
def k9:=eX [] [] Tryz.func361
def k8:=eX [] [] Tryz.func362
def lU:=eX [] [] Tryz.func334
def kz:=eX [] [] Tryz.func364
set_option maxRecDepth 100000
def k7:=eX [] [] Tryz.func363
def mB:=eX [] [] Tryz.func300
def l9:=eX [] [] Tryz.func302
def mA:=eX [] [] Tryz.func301
def l7:=eX [] [] Tryz.func304
def l6:=eX [] [] Tryz.func305
def l5:=eX [] [] Tryz.func306
def ke:=eX [] [] Tryz.func373
def kg:=eX [] [] Tryz.func372
def kn:=eX [] [] Tryz.func371
def kY:=eX [] [] Tryz.func374
def kX:=eX [] [] Tryz.func375
def kW:=eX [] [] Tryz.func376
def kV:=eX [] [] Tryz.func377
def kU:=eX [] [] Tryz.func378
def kT:=eX [] [] Tryz.func379
def kS:=eX [] [] Tryz.func381
def kQ:=eX [] [] Tryz.func383
def kR:=eX [] [] Tryz.func382
def ky:=eX [] [] Tryz.func365
def kx:=eX [] [] Tryz.func366
def ku:=eX [] [] Tryz.func367
def kr:=eX [] [] Tryz.func368
def kP:=eX [] [] Tryz.func384
def lS:=eX [] [] Tryz.func336
def lT:=eX [] [] Tryz.func335
def l8:=eX [] [] Tryz.func303
def lP:=eX [] [] Tryz.func339
def lO:=eX [] [] Tryz.func340
def lR:=eX [] [] Tryz.func337
def kM:=eX [] [] Tryz.func387
abbrev TJ:AK:=(.Bh [⟨(some 4),.alloc [(.b false)],none⟩])
def Vd:List Ad:=[⟨(some 5),.TR (.func 396) [] [(.t 4)],none⟩]
abbrev TE:AK:=(.seq [4] (.Bh [⟨(some 6),.mv (.t 0),none⟩,
 ⟨(some 7),.mv (.t 1),none⟩,
 ⟨(some 8),.call 397 [(.t 6),(.t 7)],none⟩,
 ⟨(some 9),.call 398 [(.t 8)],none⟩])
 (.seq [4] (.Bh [⟨none,.store 1 (.t 4) (.c (.b true)),none⟩])
 .ret))
def YF:Tryz.f388.body.bind (Gq Tryz.prog Tryz.f388.ntmps [] [])=some (erase TJ,Vd,(.t 5),erase TE):=by kernel_rfl
def Z0:NZ:= .Zh 10 TJ Vd (.t 5) TE [.c 4 none] [0,1,4] [0,1,4]
def Y1:Ga Tryz.prog 388 Z0:=fun _ _ _ hn h=>Eo Tryz.func388 (by kernel_rfl) YF (by kernel_rfl) hn h
def kL:Oi Tryz.prog:=⟨388,Z0,Y1⟩
def kK:=eX [] [] Tryz.func389
def kJ:=eX [] [] Tryz.func390
def kO:=eX [] [] Tryz.func385
def lQ:=eX [] [] Tryz.func338
def ko:=eX [] [] Tryz.func370
def kq:=eX [] [] Tryz.func369
def kI:=eX [] [] Tryz.func391
def Vc:List Ad:=[⟨(some 5),.Un 433 (.a []) true (.t 4),none⟩,
    ⟨(some 3),.mv (.t 5),none⟩,
    ⟨(some 6),.extract 0 (.t 3),none⟩,
    ⟨(some 7),.extract 1 (.t 3),none⟩,
    ⟨(some 1),.alloc [],none⟩,
    ⟨none,.store 0 (.t 1) (.t 6),none⟩,
    ⟨(some 2),.mv (.t 7),none⟩]
abbrev TD:AK:=(.seq [0,8] (.Bh [⟨(some 8),.mv (.t 2),none⟩])
 (.cond (.t 8)
 (.Bh [⟨none,.store 1 (.t 0) (.c (.b false)),none⟩])
 .skip))
def YE:Tryz.f396.body.bind (resRec Tryz.prog Tryz.f396.ntmps [] [])=some (4,Vc,erase TD):=by kernel_rfl
def Zz:NZ:= .aX 9 4 Vc TD [0,2]
def Y0:Ga Tryz.prog 396 Zz:=fun _ _ _ _ hn h=>HM Tryz.func396 (by kernel_rfl) YE rfl hn h
def kD:Oi Tryz.prog:=⟨396,Zz,Y0⟩
def kC:=eX [] [] Tryz.func397
def kB:=eX [] [] Tryz.func398
def kN:=eX [] [] Tryz.func386
def kH:=eX [] [] Tryz.func392
def jw:=eX [] [] Tryz.func403
def jv:=eX [] [] Tryz.func404
def kG:=eX [] [] Tryz.func393
abbrev aH:AK:=(.seq [0,3] (.Bh [⟨(some 3),.box (.t 1),none⟩,
 ⟨(some 4),.mv (.c .pn),none⟩])
 (.seq [0,3,5,6] (.DH [0,3,5,6] [⟨0,⟨(some 8),.mv (.t 0),none⟩,[],[]⟩,
  ⟨1,⟨(some 9),.Di (.t 8),none⟩,[],[]⟩,
  ⟨2,⟨(some 10),.BE 1 (.t 9),none⟩,[],[]⟩,
  ⟨3,⟨(some 11),.load none (.t 10),none⟩,[],[]⟩,
  ⟨4,⟨(some 12),.load (some 4) (.t 3),none⟩,[],[]⟩,
  ⟨5,⟨(some 13),.lookup (.a [.i64,.i64,.i64,.i64]) .pn true (.t 11) (.t 12),none⟩,[],[]⟩,
  ⟨6,⟨(some 7),.mv (.t 13),none⟩,[],[]⟩,
  ⟨7,⟨(some 14),.extract 0 (.t 7),none⟩,[],[]⟩,
  ⟨8,⟨(some 15),.extract 1 (.t 7),none⟩,[],[]⟩,
  ⟨9,⟨(some 5),.mv (.t 14),none⟩,[],[]⟩,
  ⟨10,⟨(some 6),.mv (.t 15),none⟩,[],[]⟩])
 (.seq [5] (.seq [0,3,5,17] (.Bh [⟨(some 16),.mv (.t 6),none⟩,
  ⟨(some 17),.not (.t 16),none⟩])
 (.cond (.t 17)
 (.seq [0,3,5] (.Bh [⟨(some 18),.build [(.i .i64 0),(.i .i64 0),(.l [] true)] [(0,1,(.c (.i .i64 (-1000000000)))),(1,1,(.c (.i .i64 1000000000)))],none⟩,
  ⟨(some 19),.build [(.i .i64 0),(.i .i64 0),(.l [] true),(.i .u64 0),(.i .u64 0),(.b false),(.b false),(.l [] true)] [(0,3,(.t 18))],none⟩,
  ⟨(some 20),.box (.t 19),none⟩,
  ⟨(some 5),.mv (.t 20),none⟩])
 (.DH [5] [⟨0,⟨(some 21),.mv (.t 0),none⟩,[],[]⟩,
  ⟨1,⟨(some 22),.Di (.t 21),none⟩,[],[]⟩,
  ⟨2,⟨(some 23),.BE 1 (.t 22),none⟩,[],[]⟩,
  ⟨3,⟨(some 24),.load none (.t 23),none⟩,[],[]⟩,
  ⟨4,⟨(some 25),.load (some 4) (.t 3),none⟩,[],[]⟩,
  ⟨5,⟨(some 26),.mv (.t 5),none⟩,[],[]⟩,
  ⟨6,⟨none,.EI (.a [.i64,.i64,.i64,.i64]) (.t 24) (.t 25) (.t 26),none⟩,[],[]⟩]))
 .skip))
 (.seq [4] (.Bh [⟨(some 27),.mv (.t 5),none⟩,
  ⟨(some 4),.mv (.t 27),none⟩])
 .ret))))
def bS:Tryz.f407.body.bind (res Tryz.prog Tryz.f407.ntmps [] [])=some (erase aH):=by kernel_rfl
def Zy:NZ:= .fn 28 aH [.t 4]
def Yz:Ga Tryz.prog 407 Zy:=fun _ _ _ hn h=>CO Tryz.func407 (by kernel_rfl) bS (by kernel_rfl) hn h
def js:Oi Tryz.prog:=⟨407,Zy,Yz⟩
def jr:=eX [] [] Tryz.func408
def jq:=eX [] [] Tryz.func409
def jo:=eX [] [] Tryz.func410
def jn:=eX [] [] Tryz.func411
def jm:=eX [] [] Tryz.func412
def kF:=eX [] [] Tryz.func394
def jl:=eX [] [] Tryz.func413
def kE:=eX [] [] Tryz.func395
def jk:=eX [] [] Tryz.func414
def kA:=eC 7 88 Tryz.func399
def jy:=eX [] [] Tryz.func401
def jz:=eX [] [] Tryz.func400
def jj:=eX [] [] Tryz.func415
def jx:=eX [] [] Tryz.func402
def ju:=eX [] [] Tryz.func405
def qK:=eX [] [] Tryz.func27
def jt:=eX [] [] Tryz.func406
set_option maxRecDepth 100000
def gP:List (Oi Tryz.prog):=[qS,qI,qN,qO,qH,qG,qF,qR,qE,qQ,qP,pj,qJ,px,pw,pt,pv,qD,qC,qB,qA,p6,p7,py,p9,oK,pg,pc,oa,oZ,oY,oX,oW,oV,oU,oT,oS,oR,oQ,oP,oO,oN,po,pq,oM,pZ,pY,pX,qM,qL,pz,oj,og,oh,oe,od,p8,np,nq,oJ,oH,oI,n1,nz,ny,nv,pd,oL,nu,nt,nr,n9,n8,n7,n6,n4,nk,nj,pb,ni,nc,nb,na,nZ,mo,nY,m7,m6,ph,mz,pf,oE,oD,oB,my,mw,mu,mr,mq,nH,nG,nF,nE,nC,nD,m9,ml,mj,mh,mg,mf,oA,nh,ng,nf,ji,jh,mb,ma,mQ,oG,oF,oC,nK,nM,mP,mN,mO,mM,mL,mK,mJ,mU,mT,nR,mR,nQ,mS,m8,mI,mH,mG,mF,nJ,nI,me,mD,mC,nX,nU,nV,nS,nP,nN,ly,lv,lu,lr,lq,lk,l4,mW,lz,l3,lj,lh,lg,la,mc,lZ,lX,lY,lV,lW,nT,mZ,mY,mX,mV,lB,ln,lN,lD,lC,lM,lL,lK,lJ,lI,lH,lG,lF,lE,lA,k9,k8,lU,kz,k7,mB,l9,mA,l7,l6,l5,ke,kg,kn,kY,kX,kW,kV,kU,kT,kS,kQ,kR,ky,kx,ku,kr,kP,lS,lT,l8,lP,lO,lR,kM,kL,kK,kJ,kO,lQ,ko,kq,kI,kD,kC,kB,kN,kH,jw,jv,kG,js,jr,jq,jo,jn,jm,kF,jl,kE,jk,kA,jy,jz,jj,jx,ju,qK,jt]
def ak:Tr NZ:=fo gP
def SX:SQ (fun i=>Ga Tryz.prog i) id ak:=Qy gP
noncomputable section
abbrev jI (n:Int):V:= .i .i64 n
abbrev jN:V:= .l [] true
abbrev jL (l:List Int) (f:Bool):V:= .l (l.map fun n=>[jI n]) f
def j0:V:=(.l [[(jI 3),(jI 0)]] false)
def j1:V:=(.a [(jI 2),(jI 0),jN,(jI 3),(jI 0),jN])
def j2:V:=(.a [(jI 2),(jI 0),jN,(jI 4),(jI 0),jN])
def j3:V:=(.l [[(jI 4),(.l [[(jI 1),(jI 1)]] false)]] false)
def j4:V:=(.l [[(jI (-1)),(jI 1),(jI (-1)),(jI (-1))]] true)
def j5:V:=(.a [(.l [[jN],[(jL [3] false)]] false),(jL [3] false)])
def j6:V:=(.l [[jN,(jL [0] true),(.l [[(jI 0),(jI 1)]] true)],[(jL [3] true),jN,jN]] true)
def j7:V:=(.l [[(jI 1),(jI 0),(jI 2),(jI 0),jN,(jI 3),(jI 0),jN,(jI 0)],[(jI 1),(jI 0),(jI 2),(jI 0),jN,(jI 4),(jI 0),jN,(jI 1)],[(jI 1),(jI 1),(jI 1),(jI 0),jN,(jI 0),(jI 0),jN,(jI 2)]] true)
def j8:V:=(.a [j6,(jI 1),(jL [1,2] true),j7,(.l [[(jI 1),(jI 10),jN],[(jI 1),(jI 5),jN],[(jI 12),(jI 0),(jL [3,4] true)],[(jI 3),(jI 1),jN],[(jI 1),(jI 100),jN],[(jI 5),(jI 0),(jL [6] true)],[(jI 6),(jI 4),jN]] true),(jI 5)])
def j9:V:=(.a [j6,(jI 1),(jL [1,2] true),j7,(.l [[(jI 1),(jI 10),jN],[(jI 1),(jI 5),jN],[(jI 12),(jI 0),(jL [3,4] true)],[(jI 3),(jI 1),jN],[(jI 1),(jI 100),jN],[(jI 4),(jI 0),(jL [6] true)],[(jI 6),(jI 4),jN]] true),(jI 5)])
def mE (M:MM Tryz.prog) (f:Nat) (vs:List V) (v:V) (h:Xp (an ak) M.m 100000 f vs v=true:=by kernel_rfl):MM Tryz.prog:=M.add (M1 (SY SX) M.ok h)
def pE (M:MM Tryz.prog) (f:Nat) (vs:List V) (v:V) (h:Xp (an ak) M.m 100000 f vs v=true:=by kernel_rfl):Bi vs=true/\A2 v=true/\Pure Tryz.prog f vs v:=M1 (SY SX) M.ok h
def q0:MM Tryz.prog:=⟨fun _=>[],Wp⟩
def q1:=mE q0 76 [j8] (jI 0)
def q2:=mE q1 160 [j8] (.t [j5,(jI 0)])
def q3:=mE q2 307 [j5,j1,j2] (.t [(.b false),(jI 0)])
def q4:=mE q3 307 [j5,j2,j1] (.t [(.b true),(jI 0)])
def p0:=pE q4 18 [j8,(.a [(.l [[(jI 1),(jI 0),(jI 2)],[(jI 1),(jI 0),(jI 1)]] true),j4,(jL [-1,-1] true)]),(jI 9)] (.t [(.a [(jI 1),(jI 1),(jI 15),(.l [[(jI 1),(jI 1),j0],[(jI 1),(jI 0),j0]] false),j3,(jI 7)]),(jI 0)])
def p1:=pE q4 18 [j8,(.a [(.l [[(jI 2),(jI 0),(jI 1)],[(jI 1),(jI 0),(jI 1)]] true),j4,(jL [-1,-1] true)]),(jI 9)] (.t [(.a [(jI 1),(jI 1),(jI 10),(.l [[(jI 1),(jI 0),j0]] false),j3,(jI 8)]),(jI 0)])
def q5:=mE q4 76 [j9] (jI 0)
def q6:=mE q5 160 [j9] (.t [j5,(jI 0)])
def p2:=pE q6 18 [j9,(.a [(.l [[(jI 1),(jI 0),(jI 1)],[(jI 1),(jI 0),(jI 1)]] true),j4,(jL [-1,0] true)]),(jI 9)] (.t [(.a [(jI 1),(jI 1),(jI 101),(.l [[(jI 1),(jI 2),(.l [[(jI 3),(jI 0)],[(jI 1),(jI 1)]] false)]] false),j3,(jI 8)]),(jI 0)])
def q7:=mE q6 47 [j8,(jL [0,1] true)] (.t [(.a [jN,(.b false),jN,(jL [1,0] false),(.b false),jN]),(jI 0)])
def p3:=pE q7 15 [(jI 5),(.l [[(jI 1),(jI 4)],[(jI 2),(jI 0)],[(jI 1),(jI 2)]] true)] (.t [(.a [(jI 2),(jI 0)]),(jI 2),(jI 0)])
def qT:=((((q7.add p0).add p1).add p2).add p3)
def known:Pure Tryz.prog 12 [] (.b true):=(pE qT 12 [] (.b true)).2.2
end
end Go.Gl
