import Derived.Test.YtegbmnmnaijioaaGreatProg
import Derived.KernelRfl
import Derived.Test.YtegbmnmnaijioaaGreatB18
set_option linter.all false
set_option linter.defProp false
noncomputable section
namespace Go.Gl
open Go.Proofs
set_option maxRecDepth 100000
set_option maxHeartbeats 4000000
def yY:=eX [] [] Tryz.func153
def za:=eX [] [] Tryz.func96
def x6:=eZ [] [] Tryz.func205
def yh:=eX [] [] Tryz.func142
def yg:=eX [] [] Tryz.func143
def yi:=eX [] [] Tryz.func141
def x5:=eX [] [] Tryz.func206
def ye:=eX [] [] Tryz.func145
def yz:=eX [] [] Tryz.func117
def y0:=eX [] [] Tryz.func114
def x7:=eX [] [] Tryz.func201
def yx:=eX [] [] Tryz.func124
def xd:=eX [] [] Tryz.func238
def xc:=eX [] [] Tryz.func239
def xn:=eX [] [] Tryz.func218
def x8:=eC 1 8 Tryz.func200
def xm:=eX [] [] Tryz.func222
def xl:=eZ [] [] Tryz.func223
def yS:=eZ [] [] Tryz.func174
def yR:=eX [] [] Tryz.func175
def xk:=eX [] [] Tryz.func224
def xi:=eX [] [] Tryz.func226
def xj:=eX [] [] Tryz.func225
def xw:=eX [] [] Tryz.func212
abbrev lu:AY:=(.seq [2,3] (.DB [⟨(some 2),.box (.t 0),none⟩,
 ⟨(some 3),.box (.t 1),none⟩,
 ⟨(some 4),.mv (.c .pn),none⟩])
 (.seq [2,3,5,6] (.DB [⟨(some 8),.GU 1 (.t 2),none⟩,
  ⟨(some 9),.load none (.t 8),none⟩,
  ⟨(some 10),.load (some 4) (.t 3),none⟩,
  ⟨(some 11),.lookup (.a [.i64,.i64,.i64,.i64]) .pn true (.t 9) (.t 10),none⟩,
  ⟨(some 7),.mv (.t 11),none⟩,
  ⟨(some 12),.extract 0 (.t 7),none⟩,
  ⟨(some 13),.extract 1 (.t 7),none⟩,
  ⟨(some 5),.mv (.t 12),none⟩,
  ⟨(some 6),.mv (.t 13),none⟩])
 (.seq [5] (.seq [2,3,5,15] (.DB [⟨(some 14),.mv (.t 6),none⟩,
  ⟨(some 15),.not (.t 14),none⟩])
 (.cond (.t 15)
 (.seq [2,3,5] (.DB [⟨(some 16),.build [(.i .u64 0),(.i .u64 0),(.i .i64 0),(.i .i64 0),(.l [] true),(.b false),(.b false),(.l [] true)] [(2,1,(.c (.i .i64 (-1000000000)))),(3,1,(.c (.i .i64 1000000000)))],none⟩,
  ⟨(some 17),.box (.t 16),none⟩,
  ⟨(some 5),.mv (.t 17),none⟩])
 (.DB [⟨(some 18),.GU 1 (.t 2),none⟩,
  ⟨(some 19),.load none (.t 18),none⟩,
  ⟨(some 20),.load (some 4) (.t 3),none⟩,
  ⟨(some 21),.mv (.t 5),none⟩,
  ⟨none,.Eh (.a [.i64,.i64,.i64,.i64]) (.t 19) (.t 20) (.t 21),none⟩]))
 .skip))
 (.seq [4] (.DB [⟨(some 22),.mv (.t 5),none⟩,
  ⟨(some 4),.mv (.t 22),none⟩])
 .ret))))
def nE:Tryz.f213.body.bind (res Tryz.prog Tryz.f213.ntmps [] [])=some (erase lu):=by kernel_rfl
def lV:ZG:= .fn 23 lu [.t 4]
def jd:NX Tryz.prog 213 lV:=fun _ _ _ hn h=>EW Tryz.func213 (by kernel_rfl) nE (by kernel_rfl) hn h
def xv:bJ Tryz.prog:=⟨213,lV,jd⟩
def xu:=eX [] [] Tryz.func214
def xr:=eX [] [] Tryz.func215
def xq:=eX [] [] Tryz.func216
def xp:=eX [] [] Tryz.func217
def x4:=eX [] [] Tryz.func207
def xx:=eX [] [] Tryz.func211
def xG:=eX [] [] Tryz.func272
def xE:=eX [] [] Tryz.func273
def yO:=eX [] [] Tryz.func183
def yN:=eX [] [] Tryz.func184
def yM:=eX [] [] Tryz.func185
def xA:=eX [] [] Tryz.func281
abbrev Y5:AY:=(.DB [⟨(some 2),.alloc [(.b false)],none⟩])
def cS:List Au:=[⟨(some 3),.bB (.func 322) [] [(.t 2)],none⟩]
abbrev Y2:AY:=(.seq [2] (.DB [⟨(some 4),.mv (.t 0),none⟩,
 ⟨(some 5),.Ir (.t 4) [],none⟩])
 (.seq [2] (.DB [⟨none,.store 1 (.t 2) (.c (.b true)),none⟩])
 .ret))
def iK:Tryz.f280.body.bind (Jz Tryz.prog Tryz.f280.ntmps [] [])=some (erase Y5,cS,(.t 3),erase Y2):=by kernel_rfl
def lU:ZG:= .sP 6 Y5 cS (.t 3) Y2 [.c 2 none] [0,2] [0,2]
def jc:NX Tryz.prog 280 lU:=fun _ _ _ hn h=>H5 Tryz.func280 (by kernel_rfl) iK (by kernel_rfl) hn h
def xB:bJ Tryz.prog:=⟨280,lU,jc⟩
def wq:=eX [] [] Tryz.func289
def wm:=eX [] [] Tryz.func290
def xZ:=eX [] [] Tryz.func245
def xX:=eX [] [] Tryz.func247
def xY:=eX [] [] Tryz.func246
def xV:=eX [] [] Tryz.func249
def xW:=eX [] [] Tryz.func248
def xh:=eX [] [] Tryz.func227
def xg:=eX [] [] Tryz.func228
def xe:=eX [] [] Tryz.func229
def wi:=eX [] [] Tryz.func292
def wj:=eX [] [] Tryz.func291
def x3:=eX [] [] Tryz.func208
def wP:=eX [] [] Tryz.func317
def xT:=eX [] [] Tryz.func258
def xS:=eX [] [] Tryz.func259
set_option maxRecDepth 100000
set_option maxHeartbeats 4000000
def xb:=eX [] [] Tryz.func242
def xQ:=eX [] [] Tryz.func261
def xR:=eX [] [] Tryz.func260
def xP:=eX [] [] Tryz.func262
def w9:=eX [] [] Tryz.func282
def w8:=eX [] [] Tryz.func283
def w7:=eX [] [] Tryz.func284
def wu:=eX [] [] Tryz.func288
def cR:List Au:=[⟨(some 1),.mv (.t 4),none⟩]
abbrev Y1:AY:=(.seq [0,1,6] (.DB [⟨(some 5),.mv (.t 1),none⟩,
 ⟨(some 6),.bG 2 true (.t 5),none⟩])
 (.cond (.t 6)
 (.seq [0] (.seq [0,1,3] (.DB [⟨(some 8),.mv (.t 1),none⟩,
  ⟨(some 9),.a7 377 (.a []) true (.t 8),none⟩,
  ⟨(some 7),.mv (.t 9),none⟩,
  ⟨(some 10),.extract 0 (.t 7),none⟩,
  ⟨(some 11),.extract 1 (.t 7),none⟩,
  ⟨(some 2),.alloc [],none⟩,
  ⟨none,.store 0 (.t 2) (.t 10),none⟩,
  ⟨(some 3),.mv (.t 11),none⟩])
 (.seq [0,1,13] (.DB [⟨(some 12),.mv (.t 3),none⟩,
  ⟨(some 13),.not (.t 12),none⟩])
 (.cond (.t 13)
 (.DB [⟨(some 14),.mv (.t 1),none⟩,
  ⟨none,.panic (.t 14),none⟩])
 .skip)))
 (.DB [⟨none,.store 1 (.t 0) (.c (.b false)),none⟩]))
 .skip))
def iJ:Tryz.f322.body.bind (resRec Tryz.prog Tryz.f322.ntmps [] [])=some (4,cR,erase Y1):=by kernel_rfl
def lT:ZG:= .sK 15 4 cR Y1 [0,1]
def jb:NX Tryz.prog 322 lT:=fun _ _ _ _ hn h=>JS Tryz.func322 (by kernel_rfl) iJ rfl hn h
def wO:bJ Tryz.prog:=⟨322,lT,jb⟩
def wH:=eX [] [] Tryz.func329
def wc:=eX [] [] Tryz.func301
def xU:=eX [] [] Tryz.func250
def wb:=eX [] [] Tryz.func302
def zb:=eX [] [] Tryz.func95
def wh:=eX [] [] Tryz.func293
def wg:=eC 6 80 Tryz.func294
def we:=eX [] [] Tryz.func295
def yw:=eX [] [] Tryz.func125
def wG:=eX [] [] Tryz.func330
def xy:=eX [] [] Tryz.func210
def xz:=eX [] [] Tryz.func209
def wW:=eX [] [] Tryz.func310
def wV:=eX [] [] Tryz.func311
def yU:=eX [] [] Tryz.func170
def wU:=eX [] [] Tryz.func312
def yT:=eX [] [] Tryz.func171
def xJ:=eX [] [] Tryz.func268
def xO:=eX [] [] Tryz.func263
def wN:=eX [] [] Tryz.func323
def wM:=eX [] [] Tryz.func324
def wL:=eX [] [] Tryz.func325
def wK:=eX [] [] Tryz.func326
def wz:=eX [] [] Tryz.func285
def wy:=eX [] [] Tryz.func286
def wx:=eX [] [] Tryz.func287
def vK:=eX [] [] Tryz.func399
def vJ:=eX [] [] Tryz.func400
def wa:=eX [] [] Tryz.func303
def yQ:=eX [] [] Tryz.func180
def wZ:=eX [] [] Tryz.func304
def wY:=eX [] [] Tryz.func305
def wX:=eX [] [] Tryz.func306
def yv:=eX [] [] Tryz.func126
abbrev Y6:AY:=(.DB [⟨(some 4),.alloc [(.b false)],none⟩])
def cU:List Au:=[⟨(some 5),.bB (.func 191) [] [(.t 4)],none⟩]
abbrev Y4:AY:=(.seq [4] (.DB [⟨(some 6),.mv (.t 0),none⟩,
 ⟨(some 7),.mv (.t 1),none⟩,
 ⟨(some 8),.call 128 [(.t 6),(.t 7)],none⟩,
 ⟨(some 9),.call 192 [(.t 8)],none⟩])
 (.seq [4] (.DB [⟨none,.store 1 (.t 4) (.c (.b true)),none⟩])
 .ret))
def iN:Tryz.f127.body.bind (Jz Tryz.prog Tryz.f127.ntmps [] [])=some (erase Y6,cU,(.t 5),erase Y4):=by kernel_rfl
def lY:ZG:= .sP 10 Y6 cU (.t 5) Y4 [.c 4 none] [0,1,4] [0,1,4]
def jg:NX Tryz.prog 127 lY:=fun _ _ _ hn h=>H5 Tryz.func127 (by kernel_rfl) iN (by kernel_rfl) hn h
def yu:bJ Tryz.prog:=⟨127,lY,jg⟩
def xD:=eX [] [] Tryz.func278
def xC:=eX [] [] Tryz.func279
def wE:=eX [] [] Tryz.func338
def xa:=eX [] [] Tryz.func243
def wR:=eX [] [] Tryz.func315
def wS:=eX [] [] Tryz.func314
def ve:=eX [] [] Tryz.func352
def vd:=eX [] [] Tryz.func353
def wJ:=eX [] [] Tryz.func327
def wF:=eX [] [] Tryz.func336
set_option maxRecDepth 100000
set_option maxHeartbeats 4000000
def yL:=eX [] [] Tryz.func186
def cT:List Au:=[⟨(some 5),.a7 260 (.a []) true (.t 4),none⟩,
    ⟨(some 3),.mv (.t 5),none⟩,
    ⟨(some 6),.extract 0 (.t 3),none⟩,
    ⟨(some 7),.extract 1 (.t 3),none⟩,
    ⟨(some 1),.alloc [],none⟩,
    ⟨none,.store 0 (.t 1) (.t 6),none⟩,
    ⟨(some 2),.mv (.t 7),none⟩]
abbrev Y3:AY:=(.seq [0,8] (.DB [⟨(some 8),.mv (.t 2),none⟩])
 (.cond (.t 8)
 (.DB [⟨none,.store 1 (.t 0) (.c (.b false)),none⟩])
 .skip))
def iM:Tryz.f191.body.bind (resRec Tryz.prog Tryz.f191.ntmps [] [])=some (4,cT,erase Y3):=by kernel_rfl
def lX:ZG:= .sK 9 4 cT Y3 [0,2]
def jf:NX Tryz.prog 191 lX:=fun _ _ _ _ hn h=>JS Tryz.func191 (by kernel_rfl) iM rfl hn h
def yG:bJ Tryz.prog:=⟨191,lX,jf⟩
def yr:=eX [] [] Tryz.func128
def yF:=eX [] [] Tryz.func192
def vo:=eX [] [] Tryz.func348
def vj:=eX [] [] Tryz.func349
def wD:=eX [] [] Tryz.func339
def wB:=eX [] [] Tryz.func340
def wA:=eX [] [] Tryz.func341
def v8:=eX [] [] Tryz.func342
def v7:=eX [] [] Tryz.func343
def vw:=eX [] [] Tryz.func344
def vt:=eX [] [] Tryz.func345
def vr:=eX [] [] Tryz.func346
def vq:=eX [] [] Tryz.func347
def vU:=eX [] [] Tryz.func366
def vT:=eX [] [] Tryz.func367
def vS:=eX [] [] Tryz.func368
def wI:=eX [] [] Tryz.func328
def yK:=eX [] [] Tryz.func187
def yE:=eX [] [] Tryz.func193
def xK:=eX [] [] Tryz.func267
def vZ:=eX [] [] Tryz.func360
def vY:=eX [] [] Tryz.func361
def vX:=eX [] [] Tryz.func362
def vW:=eX [] [] Tryz.func363
def vV:=eX [] [] Tryz.func364
def yV:=eX [] [] Tryz.func162
def vQ:=eX [] [] Tryz.func376
def vP:=eX [] [] Tryz.func377
def yJ:=eX [] [] Tryz.func188
abbrev ly:AY:=(.seq [0,3] (.DB [⟨(some 3),.box (.t 1),none⟩,
 ⟨(some 4),.mv (.c .pn),none⟩])
 (.seq [0,3,5,6] (.G9 [0,3,5,6] [⟨0,⟨(some 8),.mv (.t 0),none⟩,[],[]⟩,
  ⟨1,⟨(some 9),.IE (.t 8),none⟩,[],[]⟩,
  ⟨2,⟨(some 10),.GU 1 (.t 9),none⟩,[],[]⟩,
  ⟨3,⟨(some 11),.load none (.t 10),none⟩,[],[]⟩,
  ⟨4,⟨(some 12),.load (some 4) (.t 3),none⟩,[],[]⟩,
  ⟨5,⟨(some 13),.lookup (.a [.i64,.i64,.i64,.i64]) .pn true (.t 11) (.t 12),none⟩,[],[]⟩,
  ⟨6,⟨(some 7),.mv (.t 13),none⟩,[],[]⟩,
  ⟨7,⟨(some 14),.extract 0 (.t 7),none⟩,[],[]⟩,
  ⟨8,⟨(some 15),.extract 1 (.t 7),none⟩,[],[]⟩,
  ⟨9,⟨(some 5),.mv (.t 14),none⟩,[],[]⟩,
  ⟨10,⟨(some 6),.mv (.t 15),none⟩,[],[]⟩])
 (.seq [5] (.seq [0,3,5,17] (.DB [⟨(some 16),.mv (.t 6),none⟩,
  ⟨(some 17),.not (.t 16),none⟩])
 (.cond (.t 17)
 (.seq [0,3,5] (.DB [⟨(some 18),.build [(.i .i64 0),(.i .i64 0),(.l [] true)] [(0,1,(.c (.i .i64 (-1000000000)))),(1,1,(.c (.i .i64 1000000000)))],none⟩,
  ⟨(some 19),.build [(.i .i64 0),(.i .i64 0),(.l [] true),(.i .u64 0),(.i .u64 0),(.b false),(.b false),(.l [] true)] [(0,3,(.t 18))],none⟩,
  ⟨(some 20),.box (.t 19),none⟩,
  ⟨(some 5),.mv (.t 20),none⟩])
 (.G9 [5] [⟨0,⟨(some 21),.mv (.t 0),none⟩,[],[]⟩,
  ⟨1,⟨(some 22),.IE (.t 21),none⟩,[],[]⟩,
  ⟨2,⟨(some 23),.GU 1 (.t 22),none⟩,[],[]⟩,
  ⟨3,⟨(some 24),.load none (.t 23),none⟩,[],[]⟩,
  ⟨4,⟨(some 25),.load (some 4) (.t 3),none⟩,[],[]⟩,
  ⟨5,⟨(some 26),.mv (.t 5),none⟩,[],[]⟩,
  ⟨6,⟨none,.Eh (.a [.i64,.i64,.i64,.i64]) (.t 24) (.t 25) (.t 26),none⟩,[],[]⟩]))
 .skip))
 (.seq [4] (.DB [⟨(some 27),.mv (.t 5),none⟩,
  ⟨(some 4),.mv (.t 27),none⟩])
 .ret))))
def nG:Tryz.f198.body.bind (res Tryz.prog Tryz.f198.ntmps [] [])=some (erase ly):=by kernel_rfl
def lW:ZG:= .fn 28 ly [.t 4]
def je:NX Tryz.prog 198 lW:=fun _ _ _ hn h=>EW Tryz.func198 (by kernel_rfl) nG (by kernel_rfl) hn h
def yA:bJ Tryz.prog:=⟨198,lW,je⟩
def x9:=eX [] [] Tryz.func199
def xI:=eX [] [] Tryz.func269
def yD:=eX [] [] Tryz.func194
def yC:=eX [] [] Tryz.func195
def yB:=eX [] [] Tryz.func196
def vR:=eX [] [] Tryz.func375
def vO:=eX [] [] Tryz.func379
def vM:=eX [] [] Tryz.func381
def vN:=eX [] [] Tryz.func380
def yI:=eX [] [] Tryz.func189
def xH:=eX [] [] Tryz.func270
def yP:=eX [] [] Tryz.func182
def vL:=eX [] [] Tryz.func382
def yH:=eX [] [] Tryz.func190
def wQ:=eX [] [] Tryz.func316
def xN:=eC 7 88 Tryz.func264
def xL:=eX [] [] Tryz.func266
def xM:=eX [] [] Tryz.func265
def vg:=eX [] [] Tryz.func350
def wT:=eX [] [] Tryz.func313
set_option maxRecDepth 100000
set_option maxHeartbeats 4000000
def sy:List (bJ Tryz.prog):=[e17,zu,e18,e19,e23,e22,z8,zt,e15,z7,e31,e25,zq,zr,e27,zp,zy,zm,zn,zo,zl,zk,y3,y2,zv,y1,ym,zx,zf,zh,zg,ze,zd,zi,e34,yq,yp,yl,yj,yk,yf,zj,z6,yX,yo,yn,yW,zw,yd,yc,yb,ya,yy,yZ,yY,za,x6,yh,yg,yi,x5,ye,yz,y0,x7,yx,xd,xc,xn,x8,xm,xl,yS,yR,xk,xi,xj,xw,xv,xu,xr,xq,xp,x4,xx,xG,xE,yO,yN,yM,xA,xB,wq,wm,xZ,xX,xY,xV,xW,xh,xg,xe,wi,wj,x3,wP,xT,xS,xb,xQ,xR,xP,w9,w8,w7,wu,wO,wH,wc,xU,wb,zb,wh,wg,we,yw,wG,xy,xz,wW,wV,yU,wU,yT,xJ,xO,wN,wM,wL,wK,wz,wy,wx,vK,vJ,wa,yQ,wZ,wY,wX,yv,yu,xD,xC,wE,xa,wR,wS,ve,vd,wJ,wF,yL,yG,yr,yF,vo,vj,wD,wB,wA,v8,v7,vw,vt,vr,vq,vU,vT,vS,wI,yK,yE,xK,vZ,vY,vX,vW,vV,yV,vQ,vP,yJ,yA,x9,xI,yD,yC,yB,vR,vO,vM,vN,yI,xH,yP,vL,yH,wQ,xN,xL,xM,vg,wT]
def mN:Tr ZG:=sX sy
def Xx:Xr (fun i=>NX Tryz.prog i) id mN:=WN sy
noncomputable section
abbrev jI (n:Int):V:= .i .i64 n
abbrev jN:V:= .l [] true
abbrev jL (l:List Int) (f:Bool):V:= .l (l.map fun n=>[jI n]) f
def j0:V:=(.b false)
def j1:V:=(jL [3] false)
def j2:V:=(jL [0] false)
def j3:V:=(jL [0,2] false)
def j4:V:=(jL [0,1] false)
def j5:V:=(.t [(.a [jN,j0,jN,jN,(.b true),jN]),(jI 0)])
def j6:V:=(.l [[jN,jN,jN],[(jL [3] true),jN,jN],[(jL [3] true),jN,jN]] true)
def j7:V:=(.t [(.a [(.l [[jN],[j1],[j1]] false),jN]),(jI 0)])
def j8:V:=(.a [j6,(jI 0),(jL [1] true),(.l [[(jI 1),(jI 0),(jI 2),(jI 0),jN,(jI 3),(jI 0),jN,(jI 0)],[(jI 1),(jI 0),(jI 2),(jI 0),jN,(jI 4),(jI 0),jN,(jI 1)],[(jI 1),(jI 0),(jI 2),(jI 0),jN,(jI 5),(jI 0),jN,(jI 2)]] false),(.l [[(jI 2),(jI 0),jN],[(jI 2),(jI 0),jN],[(jI 2),(jI 0),jN],[(jI 2),(jI 0),jN]] false),(jI 3)])
def j9:V:=(.a [j6,(jI 0),(jL [1] true),(.l [[(jI 1),(jI 0),(jI 2),(jI 0),jN,(jI 3),(jI 0),jN,(jI 0)],[(jI 1),(jI 0),(jI 2),(jI 0),jN,(jI 4),(jI 0),jN,(jI 1)],[(jI 1),(jI 0),(jI 2),(jI 0),jN,(jI 5),(jI 0),jN,(jI 2)],[(jI 4),(jI 0),(jI 7),(jI 0),jN,(jI 0),(jI 0),(.l [[(jI 2),(jI 0),jN,(jI 4),(jI 0),jN],[(jI 2),(jI 0),jN,(jI 5),(jI 0),jN]] true),(jI 3)]] false),(.l [[(jI 2),(jI 0),jN],[(jI 2),(jI 0),jN],[(jI 2),(jI 0),jN],[(jI 2),(jI 0),jN],[(jI 2),(jI 0),jN]] false),(jI 4)])
def mE (M:MM Tryz.prog) (f:Nat) (vs:List V) (v:V) (h:gW (mO mN) M.m 100000 f vs v=true:=by kernel_rfl):MM Tryz.prog:=M.add (Ql (Xy Xx) M.ok h)
def pE (M:MM Tryz.prog) (f:Nat) (vs:List V) (v:V) (h:gW (mO mN) M.m 100000 f vs v=true:=by kernel_rfl):B6 vs=true∧BL v=true∧Pure Tryz.prog f vs v:=Ql (Xy Xx) M.ok h
def q0:MM Tryz.prog:=⟨fun _=>[],ew⟩
def q1:=mE q0 150 [j8] (jI 0)
def q2:=mE q1 92 [j8] j7
def q3:=mE q2 133 [j8,jN] (.t [(.a [jN,j0,jN,jN,j0,jN]),(jI 5)])
def p0:=pE q3 23 [j8,(jI 0),(jL [1] true)] (.t [(.l [[jN,(jI 4)]] false),(jI 0)])
def p1:=pE q3 23 [j8,(jI 1),(jL [4] true)] (.t [jN,(jI 2)])
def q4:=mE q3 133 [j8,(jL [1,2] true)] j5
def p2:=pE q4 15 [j8,(jI 0),(jL [1,2] true)] (.t [(jI 3),(jI 0)])
def q5:=mE q4 133 [j8,j2] (.t [(.a [jN,j0,jN,j2,j0,jN]),(jI 0)])
def q6:=mE q5 133 [j8,j3] (.t [(.a [jN,j0,jN,(jL [2,0] false),j0,jN]),(jI 0)])
def q7:=mE q6 133 [j8,j4] (.t [(.a [jN,j0,jN,(jL [1,0] false),j0,jN]),(jI 0)])
def q8:=mE q7 133 [j8,(jL [0,1,2] false)] j5
def p3:=pE q8 18 [j8,(jI 0)] (.t [(.l [[jN,(jI 4)],[j2,(jI 1)],[j3,(jI 1)],[j4,(jI 1)],[(jL [0,1,2] false),(jI 3)]] false),(jI 0)])
def p4:=pE q8 19 [j8,(jI 0)] (.t [(.l [[jN,(jI 4)],[j2,(jI 1)],[j3,(jI 1)],[j4,(jI 1)]] false),(jI 0)])
def p5:=pE q8 23 [j8,(jI 0),(jL [4] true)] (.t [(.l [[j4,(jI 1)]] false),(jI 0)])
def p6:=pE q8 23 [j8,(jI 0),(jL [0] true)] (.t [jN,(jI 2)])
def p7:=pE q8 38 [j8,(jI 0),(jI 4)] (.t [(jL [1] false),(jI 0)])
def p8:=pE q8 38 [j8,(jI 0),(jI 3)] (.t [jN,(jI 5)])
def p9:=pE q8 38 [j8,(jI 0),(jI 1)] (.t [j1,(jI 0)])
def q9:=mE q8 150 [j9] (jI 0)
def zU:=mE q9 92 [j9] j7
def uL:=mE zU 133 [j9,(jL [0,1,2,3] true)] (.t [(.a [j1,j0,jN,jN,(.b true),jN]),(jI 0)])
def zX:=pE uL 15 [j9,(jI 0),(jL [0,1,2,3] true)] (.t [(jI 2),(jI 0)])
def zW:=pE uL 31 [j8,(jI 0)] (.t [(.a [(jI 5),(jI 0),jN,(jI 0),(jI 0),(.l [[(jI 2),(jI 0),jN,(jI 3),(jI 0),jN]] false)]),(jI 0)])
def zV:=pE uL 25 [j8,(jI 0),(jL [0,1] true)] (.t [(.a [(jI 6),(jI 0),jN,(jI 0),(jI 0),(.l [[(jI 2),(jI 0),jN,(jI 3),(jI 0),jN],[(jI 6),(jI 0),jN,(jI 0),(jI 0),(.l [[(jI 2),(jI 0),jN,(jI 4),(jI 0),jN],[(jI 5),(jI 0),jN,(jI 0),(jI 0),(.l [[(jI 2),(jI 0),jN,(jI 5),(jI 0),jN]] false)]] false)]] false)]),(jI 0)])
def qT:=(((((((((((((uL.add p0).add p1).add p2).add p3).add p4).add p5).add p6).add p7).add p8).add p9).add zX).add zW).add zV)
def known:Pure Tryz.prog 17 [] (.b true):=(pE qT 17 [] (.b true)).2.2
end
end Go.Gl
