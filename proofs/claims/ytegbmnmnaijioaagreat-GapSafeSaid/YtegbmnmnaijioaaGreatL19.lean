import Derived.Test.YtegbmnmnaijioaaGreatProg
import Derived.KernelRfl
import Derived.Test.YtegbmnmnaijioaaGreatL18
set_option linter.all false
set_option linter.defProp false
noncomputable section
namespace Go.Gl
open Go.Proofs
set_option maxRecDepth 100000
set_option maxHeartbeats 4000000
def e153:=eX [] [] Tryz.func153
def e96:=eX [] [] Tryz.func96
def zg:=eZ [] [] Tryz.func205
def e142:=eX [] [] Tryz.func142
def e143:=eX [] [] Tryz.func143
def e141:=eX [] [] Tryz.func141
def zf:=eX [] [] Tryz.func206
def e145:=eX [] [] Tryz.func145
def e117:=eX [] [] Tryz.func117
def e114:=eX [] [] Tryz.func114
def zh:=eX [] [] Tryz.func201
def e124:=eX [] [] Tryz.func124
def zJ:=eX [] [] Tryz.func238
def zI:=eX [] [] Tryz.func239
def zS:=eX [] [] Tryz.func218
def zi:=eC 1 8 Tryz.func200
def zR:=eX [] [] Tryz.func222
def zQ:=eZ [] [] Tryz.func223
def e174:=eZ [] [] Tryz.func174
def e175:=eX [] [] Tryz.func175
def zP:=eX [] [] Tryz.func224
def zN:=eX [] [] Tryz.func226
def zO:=eX [] [] Tryz.func225
def zY:=eX [] [] Tryz.func212
abbrev oJ:AX:=(.seq [2,3] (.Cs [⟨(some 2),.box (.t 0),none⟩,
 ⟨(some 3),.box (.t 1),none⟩,
 ⟨(some 4),.mv (.c .pn),none⟩])
 (.seq [2,3,5,6] (.Cs [⟨(some 8),.Fc 1 (.t 2),none⟩,
  ⟨(some 9),.load none (.t 8),none⟩,
  ⟨(some 10),.load (some 4) (.t 3),none⟩,
  ⟨(some 11),.lookup (.a [.i64,.i64,.i64,.i64]) .pn true (.t 9) (.t 10),none⟩,
  ⟨(some 7),.mv (.t 11),none⟩,
  ⟨(some 12),.extract 0 (.t 7),none⟩,
  ⟨(some 13),.extract 1 (.t 7),none⟩,
  ⟨(some 5),.mv (.t 12),none⟩,
  ⟨(some 6),.mv (.t 13),none⟩])
 (.seq [5] (.seq [2,3,5,15] (.Cs [⟨(some 14),.mv (.t 6),none⟩,
  ⟨(some 15),.not (.t 14),none⟩])
 (.cond (.t 15)
 (.seq [2,3,5] (.Cs [⟨(some 16),.build [(.i .u64 0),(.i .u64 0),(.i .i64 0),(.i .i64 0),(.l [] true),(.b false),(.b false),(.l [] true)] [(2,1,(.c (.i .i64 (-1000000000)))),(3,1,(.c (.i .i64 1000000000)))],none⟩,
  ⟨(some 17),.box (.t 16),none⟩,
  ⟨(some 5),.mv (.t 17),none⟩])
 (.Cs [⟨(some 18),.Fc 1 (.t 2),none⟩,
  ⟨(some 19),.load none (.t 18),none⟩,
  ⟨(some 20),.load (some 4) (.t 3),none⟩,
  ⟨(some 21),.mv (.t 5),none⟩,
  ⟨none,.D8 (.a [.i64,.i64,.i64,.i64]) (.t 19) (.t 20) (.t 21),none⟩]))
 .skip))
 (.seq [4] (.Cs [⟨(some 22),.mv (.t 5),none⟩,
  ⟨(some 4),.mv (.t 22),none⟩])
 .ret))))
def pg:Tryz.f213.body.bind (res Tryz.prog Tryz.f213.ntmps [] [])=some (erase oJ):=by kernel_rfl
def nz:Zv:= .fn 23 oJ [.t 4]
def l9:Nh Tryz.prog 213 nz:=fun _ _ _ hn h=>ER Tryz.func213 (by kernel_rfl) pg (by kernel_rfl) hn h
def zX:cn Tryz.prog:=⟨213,nz,l9⟩
def zW:=eX [] [] Tryz.func214
def zV:=eX [] [] Tryz.func215
def zU:=eX [] [] Tryz.func216
def zT:=eX [] [] Tryz.func217
def ze:=eX [] [] Tryz.func207
def zZ:=eX [] [] Tryz.func211
def yw:=eX [] [] Tryz.func272
def yu:=eX [] [] Tryz.func273
def z6:=eX [] [] Tryz.func183
def zy:=eX [] [] Tryz.func184
def zx:=eX [] [] Tryz.func185
def yo:=eX [] [] Tryz.func281
abbrev Zf:AX:=(.Cs [⟨(some 2),.alloc [(.b false)],none⟩])
def eS:List Aq:=[⟨(some 3),.cV (.func 322) [] [(.t 2)],none⟩]
abbrev Zc:AX:=(.seq [2] (.Cs [⟨(some 4),.mv (.t 0),none⟩,
 ⟨(some 5),.Ie (.t 4) [],none⟩])
 (.seq [2] (.Cs [⟨none,.store 1 (.t 2) (.c (.b true)),none⟩])
 .ret))
def kS:Tryz.f280.body.bind (J1 Tryz.prog Tryz.f280.ntmps [] [])=some (erase Zf,eS,(.t 3),erase Zc):=by kernel_rfl
def ny:Zv:= .uY 6 Zf eS (.t 3) Zc [.c 2 none] [0,2] [0,2]
def l8:Nh Tryz.prog 280 ny:=fun _ _ _ hn h=>Hw Tryz.func280 (by kernel_rfl) kS (by kernel_rfl) hn h
def yp:cn Tryz.prog:=⟨280,ny,l8⟩
def yg:=eX [] [] Tryz.func289
def yf:=eX [] [] Tryz.func290
def zF:=eX [] [] Tryz.func245
def zD:=eX [] [] Tryz.func247
def zE:=eX [] [] Tryz.func246
def zB:=eX [] [] Tryz.func249
def zC:=eX [] [] Tryz.func248
def zM:=eX [] [] Tryz.func227
def zL:=eX [] [] Tryz.func228
def zK:=eX [] [] Tryz.func229
def yd:=eX [] [] Tryz.func292
def ye:=eX [] [] Tryz.func291
def zd:=eX [] [] Tryz.func208
def yM:=eX [] [] Tryz.func317
def y9:=eX [] [] Tryz.func258
def y8:=eX [] [] Tryz.func259
set_option maxRecDepth 100000
set_option maxHeartbeats 4000000
def zH:=eX [] [] Tryz.func242
def y6:=eX [] [] Tryz.func261
def y7:=eX [] [] Tryz.func260
def y5:=eX [] [] Tryz.func262
def yn:=eX [] [] Tryz.func282
def ym:=eX [] [] Tryz.func283
def yl:=eX [] [] Tryz.func284
def yh:=eX [] [] Tryz.func288
def eR:List Aq:=[⟨(some 1),.mv (.t 4),none⟩]
abbrev Zb:AX:=(.seq [0,1,6] (.Cs [⟨(some 5),.mv (.t 1),none⟩,
 ⟨(some 6),.cZ 2 true (.t 5),none⟩])
 (.cond (.t 6)
 (.seq [0] (.seq [0,1,3] (.Cs [⟨(some 8),.mv (.t 1),none⟩,
  ⟨(some 9),.cT 377 (.a []) true (.t 8),none⟩,
  ⟨(some 7),.mv (.t 9),none⟩,
  ⟨(some 10),.extract 0 (.t 7),none⟩,
  ⟨(some 11),.extract 1 (.t 7),none⟩,
  ⟨(some 2),.alloc [],none⟩,
  ⟨none,.store 0 (.t 2) (.t 10),none⟩,
  ⟨(some 3),.mv (.t 11),none⟩])
 (.seq [0,1,13] (.Cs [⟨(some 12),.mv (.t 3),none⟩,
  ⟨(some 13),.not (.t 12),none⟩])
 (.cond (.t 13)
 (.Cs [⟨(some 14),.mv (.t 1),none⟩,
  ⟨none,.panic (.t 14),none⟩])
 .skip)))
 (.Cs [⟨none,.store 1 (.t 0) (.c (.b false)),none⟩]))
 .skip))
def kR:Tryz.f322.body.bind (resRec Tryz.prog Tryz.f322.ntmps [] [])=some (4,eR,erase Zb):=by kernel_rfl
def nv:Zv:= .uR 15 4 eR Zb [0,1]
def l7:Nh Tryz.prog 322 nv:=fun _ _ _ _ hn h=>JQ Tryz.func322 (by kernel_rfl) kR rfl hn h
def yL:cn Tryz.prog:=⟨322,nv,l7⟩
def yE:=eX [] [] Tryz.func329
def yZ:=eX [] [] Tryz.func301
def zA:=eX [] [] Tryz.func250
def yY:=eX [] [] Tryz.func302
def e95:=eX [] [] Tryz.func95
def yc:=eX [] [] Tryz.func293
def yb:=eC 6 80 Tryz.func294
def ya:=eX [] [] Tryz.func295
def e125:=eX [] [] Tryz.func125
def yD:=eX [] [] Tryz.func330
def za:=eX [] [] Tryz.func210
def zb:=eX [] [] Tryz.func209
def yT:=eX [] [] Tryz.func310
def yS:=eX [] [] Tryz.func311
def e170:=eX [] [] Tryz.func170
def yR:=eX [] [] Tryz.func312
def e171:=eX [] [] Tryz.func171
def yz:=eX [] [] Tryz.func268
def y4:=eX [] [] Tryz.func263
def yK:=eX [] [] Tryz.func323
def yJ:=eX [] [] Tryz.func324
def yI:=eX [] [] Tryz.func325
def yH:=eX [] [] Tryz.func326
def yk:=eX [] [] Tryz.func285
def yj:=eX [] [] Tryz.func286
def yi:=eX [] [] Tryz.func287
def xb:=eX [] [] Tryz.func399
def xa:=eX [] [] Tryz.func400
def yX:=eX [] [] Tryz.func303
def z8:=eX [] [] Tryz.func180
def yW:=eX [] [] Tryz.func304
def yV:=eX [] [] Tryz.func305
def yU:=eX [] [] Tryz.func306
def e126:=eX [] [] Tryz.func126
abbrev Zg:AX:=(.Cs [⟨(some 4),.alloc [(.b false)],none⟩])
def eV:List Aq:=[⟨(some 5),.cV (.func 191) [] [(.t 4)],none⟩]
abbrev Ze:AX:=(.seq [4] (.Cs [⟨(some 6),.mv (.t 0),none⟩,
 ⟨(some 7),.mv (.t 1),none⟩,
 ⟨(some 8),.call 128 [(.t 6),(.t 7)],none⟩,
 ⟨(some 9),.call 192 [(.t 8)],none⟩])
 (.seq [4] (.Cs [⟨none,.store 1 (.t 4) (.c (.b true)),none⟩])
 .ret))
def kU:Tryz.f127.body.bind (J1 Tryz.prog Tryz.f127.ntmps [] [])=some (erase Zg,eV,(.t 5),erase Ze):=by kernel_rfl
def oA:Zv:= .uY 10 Zg eV (.t 5) Ze [.c 4 none] [0,1,4] [0,1,4]
def mC:Nh Tryz.prog 127 oA:=fun _ _ _ hn h=>Hw Tryz.func127 (by kernel_rfl) kU (by kernel_rfl) hn h
def e127:cn Tryz.prog:=⟨127,oA,mC⟩
def yr:=eX [] [] Tryz.func278
def yq:=eX [] [] Tryz.func279
def yB:=eX [] [] Tryz.func338
def zG:=eX [] [] Tryz.func243
def yO:=eX [] [] Tryz.func315
def yP:=eX [] [] Tryz.func314
def xv:=eX [] [] Tryz.func352
def xu:=eX [] [] Tryz.func353
def yG:=eX [] [] Tryz.func327
def yC:=eX [] [] Tryz.func336
set_option maxRecDepth 100000
set_option maxHeartbeats 4000000
def zw:=eX [] [] Tryz.func186
def eT:List Aq:=[⟨(some 5),.cT 260 (.a []) true (.t 4),none⟩,
    ⟨(some 3),.mv (.t 5),none⟩,
    ⟨(some 6),.extract 0 (.t 3),none⟩,
    ⟨(some 7),.extract 1 (.t 3),none⟩,
    ⟨(some 1),.alloc [],none⟩,
    ⟨none,.store 0 (.t 1) (.t 6),none⟩,
    ⟨(some 2),.mv (.t 7),none⟩]
abbrev Zd:AX:=(.seq [0,8] (.Cs [⟨(some 8),.mv (.t 2),none⟩])
 (.cond (.t 8)
 (.Cs [⟨none,.store 1 (.t 0) (.c (.b false)),none⟩])
 .skip))
def kT:Tryz.f191.body.bind (resRec Tryz.prog Tryz.f191.ntmps [] [])=some (4,eT,erase Zd):=by kernel_rfl
def n9:Zv:= .uR 9 4 eT Zd [0,2]
def mB:Nh Tryz.prog 191 n9:=fun _ _ _ _ hn h=>JQ Tryz.func191 (by kernel_rfl) kT rfl hn h
def zq:cn Tryz.prog:=⟨191,n9,mB⟩
def e128:=eX [] [] Tryz.func128
def zp:=eX [] [] Tryz.func192
def xy:=eX [] [] Tryz.func348
def xx:=eX [] [] Tryz.func349
def yA:=eX [] [] Tryz.func339
def x9:=eX [] [] Tryz.func340
def x8:=eX [] [] Tryz.func341
def x7:=eX [] [] Tryz.func342
def x6:=eX [] [] Tryz.func343
def x5:=eX [] [] Tryz.func344
def x4:=eX [] [] Tryz.func345
def x3:=eX [] [] Tryz.func346
def xz:=eX [] [] Tryz.func347
def xl:=eX [] [] Tryz.func366
def xk:=eX [] [] Tryz.func367
def xj:=eX [] [] Tryz.func368
def yF:=eX [] [] Tryz.func328
def zv:=eX [] [] Tryz.func187
def zo:=eX [] [] Tryz.func193
def y0:=eX [] [] Tryz.func267
def xr:=eX [] [] Tryz.func360
def xq:=eX [] [] Tryz.func361
def xp:=eX [] [] Tryz.func362
def xn:=eX [] [] Tryz.func363
def xm:=eX [] [] Tryz.func364
def e162:=eX [] [] Tryz.func162
def xh:=eX [] [] Tryz.func376
def xg:=eX [] [] Tryz.func377
def zu:=eX [] [] Tryz.func188
abbrev oK:AX:=(.seq [0,3] (.Cs [⟨(some 3),.box (.t 1),none⟩,
 ⟨(some 4),.mv (.c .pn),none⟩])
 (.seq [0,3,5,6] (.G2 [0,3,5,6] [⟨0,⟨(some 8),.mv (.t 0),none⟩,[],[]⟩,
  ⟨1,⟨(some 9),.H5 (.t 8),none⟩,[],[]⟩,
  ⟨2,⟨(some 10),.Fc 1 (.t 9),none⟩,[],[]⟩,
  ⟨3,⟨(some 11),.load none (.t 10),none⟩,[],[]⟩,
  ⟨4,⟨(some 12),.load (some 4) (.t 3),none⟩,[],[]⟩,
  ⟨5,⟨(some 13),.lookup (.a [.i64,.i64,.i64,.i64]) .pn true (.t 11) (.t 12),none⟩,[],[]⟩,
  ⟨6,⟨(some 7),.mv (.t 13),none⟩,[],[]⟩,
  ⟨7,⟨(some 14),.extract 0 (.t 7),none⟩,[],[]⟩,
  ⟨8,⟨(some 15),.extract 1 (.t 7),none⟩,[],[]⟩,
  ⟨9,⟨(some 5),.mv (.t 14),none⟩,[],[]⟩,
  ⟨10,⟨(some 6),.mv (.t 15),none⟩,[],[]⟩])
 (.seq [5] (.seq [0,3,5,17] (.Cs [⟨(some 16),.mv (.t 6),none⟩,
  ⟨(some 17),.not (.t 16),none⟩])
 (.cond (.t 17)
 (.seq [0,3,5] (.Cs [⟨(some 18),.build [(.i .i64 0),(.i .i64 0),(.l [] true)] [(0,1,(.c (.i .i64 (-1000000000)))),(1,1,(.c (.i .i64 1000000000)))],none⟩,
  ⟨(some 19),.build [(.i .i64 0),(.i .i64 0),(.l [] true),(.i .u64 0),(.i .u64 0),(.b false),(.b false),(.l [] true)] [(0,3,(.t 18))],none⟩,
  ⟨(some 20),.box (.t 19),none⟩,
  ⟨(some 5),.mv (.t 20),none⟩])
 (.G2 [5] [⟨0,⟨(some 21),.mv (.t 0),none⟩,[],[]⟩,
  ⟨1,⟨(some 22),.H5 (.t 21),none⟩,[],[]⟩,
  ⟨2,⟨(some 23),.Fc 1 (.t 22),none⟩,[],[]⟩,
  ⟨3,⟨(some 24),.load none (.t 23),none⟩,[],[]⟩,
  ⟨4,⟨(some 25),.load (some 4) (.t 3),none⟩,[],[]⟩,
  ⟨5,⟨(some 26),.mv (.t 5),none⟩,[],[]⟩,
  ⟨6,⟨none,.D8 (.a [.i64,.i64,.i64,.i64]) (.t 24) (.t 25) (.t 26),none⟩,[],[]⟩]))
 .skip))
 (.seq [4] (.Cs [⟨(some 27),.mv (.t 5),none⟩,
  ⟨(some 4),.mv (.t 27),none⟩])
 .ret))))
def ph:Tryz.f198.body.bind (res Tryz.prog Tryz.f198.ntmps [] [])=some (erase oK):=by kernel_rfl
def n6:Zv:= .fn 28 oK [.t 4]
def mA:Nh Tryz.prog 198 n6:=fun _ _ _ hn h=>ER Tryz.func198 (by kernel_rfl) ph (by kernel_rfl) hn h
def zk:cn Tryz.prog:=⟨198,n6,mA⟩
def zj:=eX [] [] Tryz.func199
def yy:=eX [] [] Tryz.func269
def zn:=eX [] [] Tryz.func194
def zm:=eX [] [] Tryz.func195
def zl:=eX [] [] Tryz.func196
def xi:=eX [] [] Tryz.func375
def xf:=eX [] [] Tryz.func379
def xd:=eX [] [] Tryz.func381
def xe:=eX [] [] Tryz.func380
def zt:=eX [] [] Tryz.func189
def yx:=eX [] [] Tryz.func270
def z7:=eX [] [] Tryz.func182
def xc:=eX [] [] Tryz.func382
def zr:=eX [] [] Tryz.func190
def yN:=eX [] [] Tryz.func316
def y3:=eC 7 88 Tryz.func264
def y1:=eX [] [] Tryz.func266
def y2:=eX [] [] Tryz.func265
def xw:=eX [] [] Tryz.func350
def yQ:=eX [] [] Tryz.func313
set_option maxRecDepth 100000
set_option maxHeartbeats 4000000
def vA:List (cn Tryz.prog):=[e17,e66,e18,e19,e23,e22,e38,e67,e15,e40,e31,e25,e69,e68,e27,e70,e59,e73,e72,e71,e74,e78,e100,e101,e62,e102,e137,e60,e84,e82,e83,e92,e93,e81,e34,e131,e132,e138,e140,e139,e144,e79,e49,e159,e133,e134,e160,e61,e146,e147,e150,e151,e118,e152,e153,e96,zg,e142,e143,e141,zf,e145,e117,e114,zh,e124,zJ,zI,zS,zi,zR,zQ,e174,e175,zP,zN,zO,zY,zX,zW,zV,zU,zT,ze,zZ,yw,yu,z6,zy,zx,yo,yp,yg,yf,zF,zD,zE,zB,zC,zM,zL,zK,yd,ye,zd,yM,y9,y8,zH,y6,y7,y5,yn,ym,yl,yh,yL,yE,yZ,zA,yY,e95,yc,yb,ya,e125,yD,za,zb,yT,yS,e170,yR,e171,yz,y4,yK,yJ,yI,yH,yk,yj,yi,xb,xa,yX,z8,yW,yV,yU,e126,e127,yr,yq,yB,zG,yO,yP,xv,xu,yG,yC,zw,zq,e128,zp,xy,xx,yA,x9,x8,x7,x6,x5,x4,x3,xz,xl,xk,xj,yF,zv,zo,y0,xr,xq,xp,xn,xm,e162,xh,xg,zu,zk,zj,yy,zn,zm,zl,xi,xf,xd,xe,zt,yx,z7,xc,zr,yN,y3,y1,y2,xw,yQ]
def oj:Tr Zv:=ug vA
def Ye:Ya (fun i=>Nh Tryz.prog i) id oj:=W6 vA
noncomputable section
abbrev jI (n:Int):V:= .i .i64 n
abbrev jN:V:= .l [] true
abbrev jL (l:List Int) (f:Bool):V:= .l (l.map fun n=>[jI n]) f
def j0:V:=(.b false)
def j1:V:=(jL [3] false)
def j2:V:=(jL [0] false)
def j3:V:=(jL [0,2] false)
def j4:V:=(jL [0,1] false)
def j5:V:=(.t [(.a [jN,j0,jN,jN,(.b true),jN]),(jI 0)])
def j6:V:=(.l [[jN,jN,jN],[(jL [3] true),jN,jN],[(jL [3] true),jN,jN]] true)
def j7:V:=(.t [(.a [(.l [[jN],[j1],[j1]] false),jN]),(jI 0)])
def j8:V:=(.a [j6,(jI 0),(jL [1] true),(.l [[(jI 1),(jI 0),(jI 2),(jI 0),jN,(jI 3),(jI 0),jN,(jI 0)],[(jI 1),(jI 0),(jI 2),(jI 0),jN,(jI 4),(jI 0),jN,(jI 1)],[(jI 1),(jI 0),(jI 2),(jI 0),jN,(jI 5),(jI 0),jN,(jI 2)]] false),(.l [[(jI 2),(jI 0),jN],[(jI 2),(jI 0),jN],[(jI 2),(jI 0),jN],[(jI 2),(jI 0),jN]] false),(jI 3)])
def j9:V:=(.a [j6,(jI 0),(jL [1] true),(.l [[(jI 1),(jI 0),(jI 2),(jI 0),jN,(jI 3),(jI 0),jN,(jI 0)],[(jI 1),(jI 0),(jI 2),(jI 0),jN,(jI 4),(jI 0),jN,(jI 1)],[(jI 1),(jI 0),(jI 2),(jI 0),jN,(jI 5),(jI 0),jN,(jI 2)],[(jI 4),(jI 0),(jI 7),(jI 0),jN,(jI 0),(jI 0),(.l [[(jI 2),(jI 0),jN,(jI 4),(jI 0),jN],[(jI 2),(jI 0),jN,(jI 5),(jI 0),jN]] true),(jI 3)]] false),(.l [[(jI 2),(jI 0),jN],[(jI 2),(jI 0),jN],[(jI 2),(jI 0),jN],[(jI 2),(jI 0),jN],[(jI 2),(jI 0),jN]] false),(jI 4)])
def mE (M:MM Tryz.prog) (f:Nat) (vs:List V) (v:V) (h:je (om oj) M.m 100000 f vs v=true:=by kernel_rfl):MM Tryz.prog:=M.add (Q1 (Yf Ye) M.ok h)
def pE (M:MM Tryz.prog) (f:Nat) (vs:List V) (v:V) (h:je (om oj) M.m 100000 f vs v=true:=by kernel_rfl):B7 vs=true/\BF v=true/\Pure Tryz.prog f vs v:=Q1 (Yf Ye) M.ok h
def q0:MM Tryz.prog:=⟨fun _=>[],iB⟩
def q1:=mE q0 150 [j8] (jI 0)
def q2:=mE q1 92 [j8] j7
def q3:=mE q2 133 [j8,jN] (.t [(.a [jN,j0,jN,jN,j0,jN]),(jI 5)])
def p0:=pE q3 23 [j8,(jI 0),(jL [1] true)] (.t [(.l [[jN,(jI 4)]] false),(jI 0)])
def p1:=pE q3 23 [j8,(jI 1),(jL [4] true)] (.t [jN,(jI 2)])
def q4:=mE q3 133 [j8,(jL [1,2] true)] j5
def p2:=pE q4 15 [j8,(jI 0),(jL [1,2] true)] (.t [(jI 3),(jI 0)])
def q5:=mE q4 133 [j8,j2] (.t [(.a [jN,j0,jN,j2,j0,jN]),(jI 0)])
def q6:=mE q5 133 [j8,j3] (.t [(.a [jN,j0,jN,(jL [2,0] false),j0,jN]),(jI 0)])
def q7:=mE q6 133 [j8,j4] (.t [(.a [jN,j0,jN,(jL [1,0] false),j0,jN]),(jI 0)])
def q8:=mE q7 133 [j8,(jL [0,1,2] false)] j5
def p3:=pE q8 18 [j8,(jI 0)] (.t [(.l [[jN,(jI 4)],[j2,(jI 1)],[j3,(jI 1)],[j4,(jI 1)],[(jL [0,1,2] false),(jI 3)]] false),(jI 0)])
def p4:=pE q8 19 [j8,(jI 0)] (.t [(.l [[jN,(jI 4)],[j2,(jI 1)],[j3,(jI 1)],[j4,(jI 1)]] false),(jI 0)])
def p5:=pE q8 23 [j8,(jI 0),(jL [4] true)] (.t [(.l [[j4,(jI 1)]] false),(jI 0)])
def p6:=pE q8 23 [j8,(jI 0),(jL [0] true)] (.t [jN,(jI 2)])
def p7:=pE q8 38 [j8,(jI 0),(jI 4)] (.t [(jL [1] false),(jI 0)])
def p8:=pE q8 38 [j8,(jI 0),(jI 3)] (.t [jN,(jI 5)])
def p9:=pE q8 38 [j8,(jI 0),(jI 1)] (.t [j1,(jI 0)])
def q9:=mE q8 150 [j9] (jI 0)
def q10:=mE q9 92 [j9] j7
def wX:=mE q10 133 [j9,(jL [0,1,2,3] true)] (.t [(.a [j1,j0,jN,jN,(.b true),jN]),(jI 0)])
def p10:=pE wX 15 [j9,(jI 0),(jL [0,1,2,3] true)] (.t [(jI 2),(jI 0)])
def p11:=pE wX 31 [j8,(jI 0)] (.t [(.a [(jI 5),(jI 0),jN,(jI 0),(jI 0),(.l [[(jI 2),(jI 0),jN,(jI 3),(jI 0),jN]] false)]),(jI 0)])
def p12:=pE wX 25 [j8,(jI 0),(jL [0,1] true)] (.t [(.a [(jI 6),(jI 0),jN,(jI 0),(jI 0),(.l [[(jI 2),(jI 0),jN,(jI 3),(jI 0),jN],[(jI 6),(jI 0),jN,(jI 0),(jI 0),(.l [[(jI 2),(jI 0),jN,(jI 4),(jI 0),jN],[(jI 5),(jI 0),jN,(jI 0),(jI 0),(.l [[(jI 2),(jI 0),jN,(jI 5),(jI 0),jN]] false)]] false)]] false)]),(jI 0)])
def qT:=(((((((((((((wX.add p0).add p1).add p2).add p3).add p4).add p5).add p6).add p7).add p8).add p9).add p10).add p11).add p12)
def known:Pure Tryz.prog 17 [] (.b true):=(pE qT 17 [] (.b true)).2.2
end
end Go.Gl
