import Derived.Test.YtcfkfhaedllcpaaGreatProg
import Derived.KernelRfl
import Derived.Test.YtcfkfhaedllcpaaGreatW42
set_option linter.all false
set_option linter.defProp false
set_option maxHeartbeats 8000000
noncomputable section
namespace Go.Gl
open Go.Proofs
set_option maxRecDepth 100000
def e84:=eX [] [] Tryz.func84
def e124:=eX [] [] Tryz.func124
def e169:=eX [] [] Tryz.func169
def e170:=eX [] [] Tryz.func170
def e171:=eX [] [] Tryz.func171
def e160:=eX [] [] Tryz.func160
def e161:=eX [] [] Tryz.func161
def e162:=eX [] [] Tryz.func162
def e163:=eX [] [] Tryz.func163
def e164:=eX [] [] Tryz.func164
def e197:=eX [] [] Tryz.func197
def e198:=eX [] [] Tryz.func198
def e96:=eX [] [] Tryz.func96
def e199:=eX [] [] Tryz.func199
def e203:=eZ [] [] Tryz.func203
def e204:=eX [] [] Tryz.func204
def e205:=eX [] [] Tryz.func205
def e206:=eX [] [] Tryz.func206
def fI:List Am:=[⟨(some 1),.mv (.t 4),none⟩]
abbrev aK:AV:=(.seq [0,1,6] (.B5 [⟨(some 5),.mv (.t 1),none⟩,
 ⟨(some 6),.aX 2 true (.t 5),none⟩])
 (.cond (.t 6)
 (.seq [0] (.seq [0,1,3] (.B5 [⟨(some 8),.mv (.t 1),none⟩,
  ⟨(some 9),.aT 318 (.a []) true (.t 8),none⟩,
  ⟨(some 7),.mv (.t 9),none⟩,
  ⟨(some 10),.extract 0 (.t 7),none⟩,
  ⟨(some 11),.extract 1 (.t 7),none⟩,
  ⟨(some 2),.alloc [],none⟩,
  ⟨none,.store 0 (.t 2) (.t 10),none⟩,
  ⟨(some 3),.mv (.t 11),none⟩])
 (.seq [0,1,13] (.B5 [⟨(some 12),.mv (.t 3),none⟩,
  ⟨(some 13),.not (.t 12),none⟩])
 (.cond (.t 13)
 (.B5 [⟨(some 14),.mv (.t 1),none⟩,
  ⟨none,.panic (.t 14),none⟩])
 .skip)))
 (.B5 [⟨none,.store 1 (.t 0) (.c (.b false)),none⟩]))
 .skip))
def lG:Tryz.f258.body.bind (resRec Tryz.prog Tryz.f258.ntmps [] [])=some (4,fI,erase aK):=by kernel_rfl
def oe:S6:= .pK 15 4 fI aK [0,1]
def ma:Iv Tryz.prog 258 oe:=fun _ _ _ _ hn h=>Hi Tryz.func258 (by kernel_rfl) lG rfl hn h
def e258:Ue Tryz.prog:=⟨258,oe,ma⟩
def e207:=eX [] [] Tryz.func207
def e236:=eX [] [] Tryz.func236
def e237:=eX [] [] Tryz.func237
def e78:=eX [] [] Tryz.func78
abbrev oz:AV:=(.B5 [⟨(some 1),.load none (.t 0),none⟩,
 ⟨(some 2),.EX (.t 1),none⟩,
 ⟨(some 3),.Bs 15 (.t 2),none⟩,
 ⟨(some 4),.load none (.t 3),none⟩,
 ⟨(some 5),.bin .sub (.t 4) (.c (.i .i64 1)),none⟩,
 ⟨(some 6),.EX (.t 1),none⟩,
 ⟨(some 7),.Bs 15 (.t 6),none⟩,
 ⟨none,.store 1 (.t 7) (.t 5),none⟩])
def qM:Tryz.f238.body.bind (res Tryz.prog Tryz.f238.ntmps [] [])=some (erase oz):=by kernel_rfl
def og:S6:= .vr 8 oz
def mb:Iv Tryz.prog 238 og:=fun _ _ _ hn h=>YY Tryz.func238 (by kernel_rfl) qM rfl hn h
def e238:Ue Tryz.prog:=⟨238,og,mb⟩
def e82:=eX [] [] Tryz.func82
def e143:=eX [] [] Tryz.func143
def e144:=eX [] [] Tryz.func144
def e146:=eX [] [] Tryz.func146
def e239:=eX [] [] Tryz.func239
def e240:=eX [] [] Tryz.func240
def e241:=eX [] [] Tryz.func241
def e242:=eX [] [] Tryz.func242
def e243:=eX [] [] Tryz.func243
def e228:=eX [] [] Tryz.func228
def e229:=eX [] [] Tryz.func229
def e230:=eX [] [] Tryz.func230
def e231:=eX [] [] Tryz.func231
def e233:=eX [] [] Tryz.func233
def e232:=eX [] [] Tryz.func232
def e234:=eX [] [] Tryz.func234
def e259:=eZ [] [] Tryz.func259
def e260:=eX [] [] Tryz.func260
def e261:=eX [] [] Tryz.func261
def e262:=eX [] [] Tryz.func262
def e263:=eX [] [] Tryz.func263
def e159:=eX [] [] Tryz.func159
def e200:=eX [] [] Tryz.func200
def e201:=eX [] [] Tryz.func201
def e202:=eX [] [] Tryz.func202
def yh:=eX [] [] Tryz.func431
def yg:=eX [] [] Tryz.func432
def e266:=eX [] [] Tryz.func266
def e267:=eX [] [] Tryz.func267
def e281:=eX [] [] Tryz.func281
def e141:=eX [] [] Tryz.func141
def e142:=eX [] [] Tryz.func142
def e145:=eX [] [] Tryz.func145
def e218:=eX [] [] Tryz.func218
def e217:=eX [] [] Tryz.func217
def e282:=eX [] [] Tryz.func282
def e284:=eX [] [] Tryz.func284
def e283:=eX [] [] Tryz.func283
def e285:=eX [] [] Tryz.func285
def e286:=eX [] [] Tryz.func286
def e287:=eX [] [] Tryz.func287
def e288:=eX [] [] Tryz.func288
set_option maxRecDepth 100000
def e277:=eX [] [] Tryz.func277
def e278:=eX [] [] Tryz.func278
def e213:=eX [] [] Tryz.func213
def e280:=eX [] [] Tryz.func280
def e214:=eX [] [] Tryz.func214
def e279:=eX [] [] Tryz.func279
def e235:=eX [] [] Tryz.func235
def e294:=eX [] [] Tryz.func294
def e295:=eX [] [] Tryz.func295
def e296:=eX [] [] Tryz.func296
def e297:=eX [] [] Tryz.func297
def e226:=eX [] [] Tryz.func226
def e227:=eX [] [] Tryz.func227
def e264:=eX [] [] Tryz.func264
def e298:=eZ [] [] Tryz.func298
def e299:=eX [] [] Tryz.func299
def e208:=eX [] [] Tryz.func208
def e210:=eX [] [] Tryz.func210
def e209:=eX [] [] Tryz.func209
def e212:=eX [] [] Tryz.func212
def e215:=eX [] [] Tryz.func215
def e216:=eX [] [] Tryz.func216
def e310:=eX [] [] Tryz.func310
def e311:=eX [] [] Tryz.func311
def e312:=eX [] [] Tryz.func312
def e313:=eX [] [] Tryz.func313
def e314:=eX [] [] Tryz.func314
def e316:=eX [] [] Tryz.func316
def e307:=eX [] [] Tryz.func307
def e271:=eX [] [] Tryz.func271
def e309:=eX [] [] Tryz.func309
def e308:=eX [] [] Tryz.func308
def e325:=eX [] [] Tryz.func325
def e326:=eX [] [] Tryz.func326
def e327:=eX [] [] Tryz.func327
def e328:=eX [] [] Tryz.func328
def e265:=eX [] [] Tryz.func265
def e329:=eX [] [] Tryz.func329
def e331:=eX [] [] Tryz.func331
def e330:=eX [] [] Tryz.func330
def e333:=eX [] [] Tryz.func333
def e332:=eX [] [] Tryz.func332
def e211:=eX [] [] Tryz.func211
def e268:=eX [] [] Tryz.func268
def e269:=eX [] [] Tryz.func269
def e270:=eX [] [] Tryz.func270
def e272:=eX [] [] Tryz.func272
def zy:=eX [] [] Tryz.func353
def e315:=eX [] [] Tryz.func315
def e341:=eX [] [] Tryz.func341
def z7:=eX [] [] Tryz.func351
def z6:=eX [] [] Tryz.func352
def e342:=eX [] [] Tryz.func342
def e343:=eX [] [] Tryz.func343
def e344:=eX [] [] Tryz.func344
def e345:=eX [] [] Tryz.func345
def e346:=eX [] [] Tryz.func346
def e347:=eX [] [] Tryz.func347
def e348:=eX [] [] Tryz.func348
def e349:=eX [] [] Tryz.func349
def z8:=eX [] [] Tryz.func350
def zx:=eX [] [] Tryz.func360
def zw:=eX [] [] Tryz.func361
def zt:=eX [] [] Tryz.func362
def e334:=eX [] [] Tryz.func334
def zm:=eX [] [] Tryz.func364
set_option maxRecDepth 100000
def zq:=eX [] [] Tryz.func363
def e300:=eX [] [] Tryz.func300
def e302:=eX [] [] Tryz.func302
def e301:=eX [] [] Tryz.func301
def e304:=eX [] [] Tryz.func304
def e305:=eX [] [] Tryz.func305
def e306:=eX [] [] Tryz.func306
def zR:=eX [] [] Tryz.func373
def zS:=eX [] [] Tryz.func372
def zT:=eX [] [] Tryz.func371
def zQ:=eX [] [] Tryz.func374
def zO:=eX [] [] Tryz.func375
def zN:=eX [] [] Tryz.func376
def zM:=eX [] [] Tryz.func377
def zL:=eX [] [] Tryz.func378
def zK:=eX [] [] Tryz.func379
def zJ:=eX [] [] Tryz.func381
def zH:=eX [] [] Tryz.func383
def zI:=eX [] [] Tryz.func382
def zj:=eX [] [] Tryz.func365
def zi:=eX [] [] Tryz.func366
def zf:=eX [] [] Tryz.func367
def zZ:=eX [] [] Tryz.func368
def zG:=eX [] [] Tryz.func384
def e336:=eX [] [] Tryz.func336
def e335:=eX [] [] Tryz.func335
def e303:=eX [] [] Tryz.func303
def e339:=eX [] [] Tryz.func339
def e340:=eX [] [] Tryz.func340
def e337:=eX [] [] Tryz.func337
def zD:=eX [] [] Tryz.func387
abbrev aO:AV:=(.B5 [⟨(some 4),.alloc [(.b false)],none⟩])
def fH:List Am:=[⟨(some 5),.Yi (.func 396) [] [(.t 4)],none⟩]
abbrev aJ:AV:=(.seq [4] (.B5 [⟨(some 6),.mv (.t 0),none⟩,
 ⟨(some 7),.mv (.t 1),none⟩,
 ⟨(some 8),.call 397 [(.t 6),(.t 7)],none⟩,
 ⟨(some 9),.call 398 [(.t 8)],none⟩])
 (.seq [4] (.B5 [⟨none,.store 1 (.t 4) (.c (.b true)),none⟩])
 .ret))
def lF:Tryz.f388.body.bind (Hr Tryz.prog Tryz.f388.ntmps [] [])=some (erase aO,fH,(.t 5),erase aJ):=by kernel_rfl
def od:S6:= .oA 10 aO fH (.t 5) aJ [.c 4 none] [0,1,4] [0,1,4]
def mZ:Iv Tryz.prog 388 od:=fun _ _ _ hn h=>FP Tryz.func388 (by kernel_rfl) lF (by kernel_rfl) hn h
def zB:Ue Tryz.prog:=⟨388,od,mZ⟩
def zA:=eX [] [] Tryz.func389
def y9:=eX [] [] Tryz.func390
def zF:=eX [] [] Tryz.func385
def e338:=eX [] [] Tryz.func338
def zU:=eX [] [] Tryz.func370
def zV:=eX [] [] Tryz.func369
def y8:=eX [] [] Tryz.func391
def fG:List Am:=[⟨(some 5),.aT 433 (.a []) true (.t 4),none⟩,
    ⟨(some 3),.mv (.t 5),none⟩,
    ⟨(some 6),.extract 0 (.t 3),none⟩,
    ⟨(some 7),.extract 1 (.t 3),none⟩,
    ⟨(some 1),.alloc [],none⟩,
    ⟨none,.store 0 (.t 1) (.t 6),none⟩,
    ⟨(some 2),.mv (.t 7),none⟩]
abbrev aI:AV:=(.seq [0,8] (.B5 [⟨(some 8),.mv (.t 2),none⟩])
 (.cond (.t 8)
 (.B5 [⟨none,.store 1 (.t 0) (.c (.b false)),none⟩])
 .skip))
def lE:Tryz.f396.body.bind (resRec Tryz.prog Tryz.f396.ntmps [] [])=some (4,fG,erase aI):=by kernel_rfl
def oa:S6:= .pK 9 4 fG aI [0,2]
def mY:Iv Tryz.prog 396 oa:=fun _ _ _ _ hn h=>Hi Tryz.func396 (by kernel_rfl) lE rfl hn h
def y3:Ue Tryz.prog:=⟨396,oa,mY⟩
def y2:=eX [] [] Tryz.func397
def y1:=eX [] [] Tryz.func398
def zE:=eX [] [] Tryz.func386
def y7:=eX [] [] Tryz.func392
def yw:=eX [] [] Tryz.func403
def yv:=eX [] [] Tryz.func404
def y6:=eX [] [] Tryz.func393
abbrev oy:AV:=(.seq [0,3] (.B5 [⟨(some 3),.box (.t 1),none⟩,
 ⟨(some 4),.mv (.c .pn),none⟩])
 (.seq [0,3,5,6] (.EG [0,3,5,6] [⟨0,⟨(some 8),.mv (.t 0),none⟩,[],[]⟩,
  ⟨1,⟨(some 9),.EX (.t 8),none⟩,[],[]⟩,
  ⟨2,⟨(some 10),.Bs 1 (.t 9),none⟩,[],[]⟩,
  ⟨3,⟨(some 11),.load none (.t 10),none⟩,[],[]⟩,
  ⟨4,⟨(some 12),.load (some 4) (.t 3),none⟩,[],[]⟩,
  ⟨5,⟨(some 13),.lookup (.a [.i64,.i64,.i64,.i64]) .pn true (.t 11) (.t 12),none⟩,[],[]⟩,
  ⟨6,⟨(some 7),.mv (.t 13),none⟩,[],[]⟩,
  ⟨7,⟨(some 14),.extract 0 (.t 7),none⟩,[],[]⟩,
  ⟨8,⟨(some 15),.extract 1 (.t 7),none⟩,[],[]⟩,
  ⟨9,⟨(some 5),.mv (.t 14),none⟩,[],[]⟩,
  ⟨10,⟨(some 6),.mv (.t 15),none⟩,[],[]⟩])
 (.seq [5] (.seq [0,3,5,17] (.B5 [⟨(some 16),.mv (.t 6),none⟩,
  ⟨(some 17),.not (.t 16),none⟩])
 (.cond (.t 17)
 (.seq [0,3,5] (.B5 [⟨(some 18),.build [(.i .i64 0),(.i .i64 0),(.l [] true)] [(0,1,(.c (.i .i64 (-1000000000)))),(1,1,(.c (.i .i64 1000000000)))],none⟩,
  ⟨(some 19),.build [(.i .i64 0),(.i .i64 0),(.l [] true),(.i .u64 0),(.i .u64 0),(.b false),(.b false),(.l [] true)] [(0,3,(.t 18))],none⟩,
  ⟨(some 20),.box (.t 19),none⟩,
  ⟨(some 5),.mv (.t 20),none⟩])
 (.EG [5] [⟨0,⟨(some 21),.mv (.t 0),none⟩,[],[]⟩,
  ⟨1,⟨(some 22),.EX (.t 21),none⟩,[],[]⟩,
  ⟨2,⟨(some 23),.Bs 1 (.t 22),none⟩,[],[]⟩,
  ⟨3,⟨(some 24),.load none (.t 23),none⟩,[],[]⟩,
  ⟨4,⟨(some 25),.load (some 4) (.t 3),none⟩,[],[]⟩,
  ⟨5,⟨(some 26),.mv (.t 5),none⟩,[],[]⟩,
  ⟨6,⟨none,.FG (.a [.i64,.i64,.i64,.i64]) (.t 24) (.t 25) (.t 26),none⟩,[],[]⟩]))
 .skip))
 (.seq [4] (.B5 [⟨(some 27),.mv (.t 5),none⟩,
  ⟨(some 4),.mv (.t 27),none⟩])
 .ret))))
def qL:Tryz.f407.body.bind (res Tryz.prog Tryz.f407.ntmps [] [])=some (erase oy):=by kernel_rfl
def oZ:S6:= .fn 28 oy [.t 4]
def mX:Iv Tryz.prog 407 oZ:=fun _ _ _ hn h=>C8 Tryz.func407 (by kernel_rfl) qL (by kernel_rfl) hn h
def yq:Ue Tryz.prog:=⟨407,oZ,mX⟩
def yp:=eX [] [] Tryz.func408
def yo:=eX [] [] Tryz.func409
def yn:=eX [] [] Tryz.func410
def ym:=eX [] [] Tryz.func411
def yl:=eX [] [] Tryz.func412
def y5:=eX [] [] Tryz.func394
def yk:=eX [] [] Tryz.func413
def y4:=eX [] [] Tryz.func395
def yj:=eX [] [] Tryz.func414
def y0:=eC 7 88 Tryz.func399
def yy:=eX [] [] Tryz.func401
def yz:=eX [] [] Tryz.func400
def yi:=eX [] [] Tryz.func415
def yx:=eX [] [] Tryz.func402
def yu:=eX [] [] Tryz.func405
def e27:=eX [] [] Tryz.func27
def yr:=eX [] [] Tryz.func406
set_option maxRecDepth 100000
def wV:List (Ue Tryz.prog):=[e12,e42,e24,e18,e43,e44,e45,e13,e46,e15,e17,e76,e31,e62,e63,e65,e64,e47,e48,e51,e52,e56,e55,e58,e53,e137,e81,e85,e109,e110,e111,e112,e113,e114,e115,e116,e117,e118,e119,e120,e121,e122,e67,e66,e123,e97,e98,e99,e25,e26,e57,e101,e103,e102,e104,e105,e54,e196,e195,e138,e140,e139,e165,e166,e167,e168,e84,e124,e169,e170,e171,e160,e161,e162,e163,e164,e197,e198,e96,e199,e203,e204,e205,e206,e258,e207,e236,e237,e78,e238,e82,e143,e144,e146,e239,e240,e241,e242,e243,e228,e229,e230,e231,e233,e232,e234,e259,e260,e261,e262,e263,e159,e200,e201,e202,yh,yg,e266,e267,e281,e141,e142,e145,e218,e217,e282,e284,e283,e285,e286,e287,e288,e277,e278,e213,e280,e214,e279,e235,e294,e295,e296,e297,e226,e227,e264,e298,e299,e208,e210,e209,e212,e215,e216,e310,e311,e312,e313,e314,e316,e307,e271,e309,e308,e325,e326,e327,e328,e265,e329,e331,e330,e333,e332,e211,e268,e269,e270,e272,zy,e315,e341,z7,z6,e342,e343,e344,e345,e346,e347,e348,e349,z8,zx,zw,zt,e334,zm,zq,e300,e302,e301,e304,e305,e306,zR,zS,zT,zQ,zO,zN,zM,zL,zK,zJ,zH,zI,zj,zi,zf,zZ,zG,e336,e335,e303,e339,e340,e337,zD,zB,zA,y9,zF,e338,zU,zV,y8,y3,y2,y1,zE,y7,yw,yv,y6,yq,yp,yo,yn,ym,yl,y5,yk,y4,yj,y0,yy,yz,yi,yx,yu,e27,yr]
def pT:Tr S6:=v8 wV
def Y9:Y4 (fun i=>Iv Tryz.prog i) id pT:=XU wV
noncomputable section
abbrev jI (n:Int):V:= .i .i64 n
abbrev jN:V:= .l [] true
abbrev jL (l:List Int) (f:Bool):V:= .l (l.map fun n=>[jI n]) f
def j0:V:=(.l [[(jI 3),(jI 0)]] false)
def j1:V:=(.a [(jI 2),(jI 0),jN,(jI 3),(jI 0),jN])
def j2:V:=(.a [(jI 2),(jI 0),jN,(jI 4),(jI 0),jN])
def j3:V:=(.l [[(jI 4),(.l [[(jI 1),(jI 1)]] false)]] false)
def j4:V:=(.l [[(jI (-1)),(jI 1),(jI (-1)),(jI (-1))]] true)
def j5:V:=(.a [(.l [[jN],[(jL [3] false)]] false),(jL [3] false)])
def j6:V:=(.l [[jN,(jL [0] true),(.l [[(jI 0),(jI 1)]] true)],[(jL [3] true),jN,jN]] true)
def j7:V:=(.l [[(jI 1),(jI 0),(jI 2),(jI 0),jN,(jI 3),(jI 0),jN,(jI 0)],[(jI 1),(jI 0),(jI 2),(jI 0),jN,(jI 4),(jI 0),jN,(jI 1)],[(jI 1),(jI 1),(jI 1),(jI 0),jN,(jI 0),(jI 0),jN,(jI 2)]] true)
def j8:V:=(.a [j6,(jI 1),(jL [1,2] true),j7,(.l [[(jI 1),(jI 10),jN],[(jI 1),(jI 5),jN],[(jI 12),(jI 0),(jL [3,4] true)],[(jI 3),(jI 1),jN],[(jI 1),(jI 100),jN],[(jI 5),(jI 0),(jL [6] true)],[(jI 6),(jI 4),jN]] true),(jI 5)])
def j9:V:=(.a [j6,(jI 1),(jL [1,2] true),j7,(.l [[(jI 1),(jI 10),jN],[(jI 1),(jI 5),jN],[(jI 12),(jI 0),(jL [3,4] true)],[(jI 3),(jI 1),jN],[(jI 1),(jI 100),jN],[(jI 4),(jI 0),(jL [6] true)],[(jI 6),(jI 4),jN]] true),(jI 5)])
def mE (M:MM Tryz.prog) (f:Nat) (vs:List V) (v:V) (h:kF (pU pT) M.m 100000 f vs v=true:=by kernel_rfl):MM Tryz.prog:=M.add (R5 (ZA Y9) M.ok h)
def pE (M:MM Tryz.prog) (f:Nat) (vs:List V) (v:V) (h:kF (pU pT) M.m 100000 f vs v=true:=by kernel_rfl):B6 vs=true/\BJ v=true/\Pure Tryz.prog f vs v:=R5 (ZA Y9) M.ok h
def q0:MM Tryz.prog:=⟨fun _=>[],iX⟩
def q1:=mE q0 76 [j8] (jI 0)
def q2:=mE q1 160 [j8] (.t [j5,(jI 0)])
def q3:=mE q2 307 [j5,j1,j2] (.t [(.b false),(jI 0)])
def q4:=mE q3 307 [j5,j2,j1] (.t [(.b true),(jI 0)])
def p0:=pE q4 18 [j8,(.a [(.l [[(jI 1),(jI 0),(jI 2)],[(jI 1),(jI 0),(jI 1)]] true),j4,(jL [-1,-1] true)]),(jI 9)] (.t [(.a [(jI 1),(jI 1),(jI 15),(.l [[(jI 1),(jI 1),j0],[(jI 1),(jI 0),j0]] false),j3,(jI 7)]),(jI 0)])
def p1:=pE q4 18 [j8,(.a [(.l [[(jI 2),(jI 0),(jI 1)],[(jI 1),(jI 0),(jI 1)]] true),j4,(jL [-1,-1] true)]),(jI 9)] (.t [(.a [(jI 1),(jI 1),(jI 10),(.l [[(jI 1),(jI 0),j0]] false),j3,(jI 8)]),(jI 0)])
def q5:=mE q4 76 [j9] (jI 0)
def q6:=mE q5 160 [j9] (.t [j5,(jI 0)])
def p2:=pE q6 18 [j9,(.a [(.l [[(jI 1),(jI 0),(jI 1)],[(jI 1),(jI 0),(jI 1)]] true),j4,(jL [-1,0] true)]),(jI 9)] (.t [(.a [(jI 1),(jI 1),(jI 101),(.l [[(jI 1),(jI 2),(.l [[(jI 3),(jI 0)],[(jI 1),(jI 1)]] false)]] false),j3,(jI 8)]),(jI 0)])
def q7:=mE q6 47 [j8,(jL [0,1] true)] (.t [(.a [jN,(.b false),jN,(jL [1,0] false),(.b false),jN]),(jI 0)])
def p3:=pE q7 15 [(jI 5),(.l [[(jI 1),(jI 4)],[(jI 2),(jI 0)],[(jI 1),(jI 2)]] true)] (.t [(.a [(jI 2),(jI 0)]),(jI 2),(jI 0)])
def qT:=((((q7.add p0).add p1).add p2).add p3)
def known:Pure Tryz.prog 12 [] (.b true):=(pE qT 12 [] (.b true)).2.2
end
end Go.Gl
