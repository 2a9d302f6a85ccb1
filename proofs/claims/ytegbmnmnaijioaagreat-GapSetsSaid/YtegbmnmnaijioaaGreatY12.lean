import Derived.Test.YtegbmnmnaijioaaGreatProg
import Derived.KernelRfl
import Derived.Test.YtegbmnmnaijioaaGreatY11
set_option linter.all false
set_option linter.defProp false
set_option maxHeartbeats 8000000
noncomputable section
namespace Go.Gl
open Go.Proofs
set_option maxRecDepth 100000
def e153:=eX [] [] Tryz.func153
def e96:=eX [] [] Tryz.func96
def e205:=eZ [] [] Tryz.func205
def e142:=eX [] [] Tryz.func142
def e143:=eX [] [] Tryz.func143
def e141:=eX [] [] Tryz.func141
def e206:=eX [] [] Tryz.func206
def e145:=eX [] [] Tryz.func145
def e117:=eX [] [] Tryz.func117
def e114:=eX [] [] Tryz.func114
def e201:=eX [] [] Tryz.func201
def e124:=eX [] [] Tryz.func124
def e238:=eX [] [] Tryz.func238
def e239:=eX [] [] Tryz.func239
def e218:=eX [] [] Tryz.func218
def e200:=eC 1 8 Tryz.func200
def e222:=eX [] [] Tryz.func222
def e223:=eZ [] [] Tryz.func223
def e174:=eZ [] [] Tryz.func174
def e175:=eX [] [] Tryz.func175
def e224:=eX [] [] Tryz.func224
def e226:=eX [] [] Tryz.func226
def e225:=eX [] [] Tryz.func225
def e212:=eX [] [] Tryz.func212
abbrev sY:AV:=(.seq [2,3] (.DB [⟨(some 2),.box (.t 0),none⟩,
 ⟨(some 3),.box (.t 1),none⟩,
 ⟨(some 4),.mv (.c .pn),none⟩])
 (.seq [2,3,5,6] (.DB [⟨(some 8),.GS 1 (.t 2),none⟩,
  ⟨(some 9),.load none (.t 8),none⟩,
  ⟨(some 10),.load (some 4) (.t 3),none⟩,
  ⟨(some 11),.lookup (.a [.i64,.i64,.i64,.i64]) .pn true (.t 9) (.t 10),none⟩,
  ⟨(some 7),.mv (.t 11),none⟩,
  ⟨(some 12),.extract 0 (.t 7),none⟩,
  ⟨(some 13),.extract 1 (.t 7),none⟩,
  ⟨(some 5),.mv (.t 12),none⟩,
  ⟨(some 6),.mv (.t 13),none⟩])
 (.seq [5] (.seq [2,3,5,15] (.DB [⟨(some 14),.mv (.t 6),none⟩,
  ⟨(some 15),.not (.t 14),none⟩])
 (.cond (.t 15)
 (.seq [2,3,5] (.DB [⟨(some 16),.build [(.i .u64 0),(.i .u64 0),(.i .i64 0),(.i .i64 0),(.l [] true),(.b false),(.b false),(.l [] true)] [(2,1,(.c (.i .i64 (-1000000000)))),(3,1,(.c (.i .i64 1000000000)))],none⟩,
  ⟨(some 17),.box (.t 16),none⟩,
  ⟨(some 5),.mv (.t 17),none⟩])
 (.DB [⟨(some 18),.GS 1 (.t 2),none⟩,
  ⟨(some 19),.load none (.t 18),none⟩,
  ⟨(some 20),.load (some 4) (.t 3),none⟩,
  ⟨(some 21),.mv (.t 5),none⟩,
  ⟨none,.Em (.a [.i64,.i64,.i64,.i64]) (.t 19) (.t 20) (.t 21),none⟩]))
 .skip))
 (.seq [4] (.DB [⟨(some 22),.mv (.t 5),none⟩,
  ⟨(some 4),.mv (.t 22),none⟩])
 .ret))))
def tt:Tryz.f213.body.bind (res Tryz.prog Tryz.f213.ntmps [] [])=some (erase sY):=by kernel_rfl
def sK:dG:= .fn 23 sY [.t 4]
def qQ:Pc Tryz.prog 213 sK:=fun _ _ _ hn h=>E8 Tryz.func213 (by kernel_rfl) tt (by kernel_rfl) hn h
def e213:gO Tryz.prog:=⟨213,sK,qQ⟩
def e214:=eX [] [] Tryz.func214
def e215:=eX [] [] Tryz.func215
def e216:=eX [] [] Tryz.func216
def e217:=eX [] [] Tryz.func217
def e207:=eX [] [] Tryz.func207
def e211:=eX [] [] Tryz.func211
def e272:=eX [] [] Tryz.func272
def e273:=eX [] [] Tryz.func273
def e183:=eX [] [] Tryz.func183
def e184:=eX [] [] Tryz.func184
def e185:=eX [] [] Tryz.func185
def e281:=eX [] [] Tryz.func281
abbrev cn:AV:=(.DB [⟨(some 2),.alloc [(.b false)],none⟩])
def jA:List Ar:=[⟨(some 3),.gI (.func 322) [] [(.t 2)],none⟩]
abbrev cd:AV:=(.seq [2] (.DB [⟨(some 4),.mv (.t 0),none⟩,
 ⟨(some 5),.J7 (.t 4) [],none⟩])
 (.seq [2] (.DB [⟨none,.store 1 (.t 2) (.c (.b true)),none⟩])
 .ret))
def ox:Tryz.f280.body.bind (Lg Tryz.prog Tryz.f280.ntmps [] [])=some (erase cn,jA,(.t 3),erase cd):=by kernel_rfl
def sJ:dG:= .dfr 6 cn jA (.t 3) cd [.c 2 none] [0,2] [0,2]
def qP:Pc Tryz.prog 280 sJ:=fun _ _ _ hn h=>JE Tryz.func280 (by kernel_rfl) ox (by kernel_rfl) hn h
def e280:gO Tryz.prog:=⟨280,sJ,qP⟩
def e289:=eX [] [] Tryz.func289
def e290:=eX [] [] Tryz.func290
def e245:=eX [] [] Tryz.func245
def e247:=eX [] [] Tryz.func247
def e246:=eX [] [] Tryz.func246
def e249:=eX [] [] Tryz.func249
def e248:=eX [] [] Tryz.func248
def e227:=eX [] [] Tryz.func227
def e228:=eX [] [] Tryz.func228
def e229:=eX [] [] Tryz.func229
def e292:=eX [] [] Tryz.func292
def e291:=eX [] [] Tryz.func291
def e208:=eX [] [] Tryz.func208
def e317:=eX [] [] Tryz.func317
def e258:=eX [] [] Tryz.func258
def e259:=eX [] [] Tryz.func259
set_option maxRecDepth 100000
def e242:=eX [] [] Tryz.func242
def e261:=eX [] [] Tryz.func261
def e260:=eX [] [] Tryz.func260
def e262:=eX [] [] Tryz.func262
def e282:=eX [] [] Tryz.func282
def e283:=eX [] [] Tryz.func283
def e284:=eX [] [] Tryz.func284
def e288:=eX [] [] Tryz.func288
def iz:List Ar:=[⟨(some 1),.mv (.t 4),none⟩]
abbrev cb:AV:=(.seq [0,1,6] (.DB [⟨(some 5),.mv (.t 1),none⟩,
 ⟨(some 6),.gK 2 true (.t 5),none⟩])
 (.cond (.t 6)
 (.seq [0] (.seq [0,1,3] (.DB [⟨(some 8),.mv (.t 1),none⟩,
  ⟨(some 9),.gF 377 (.a []) true (.t 8),none⟩,
  ⟨(some 7),.mv (.t 9),none⟩,
  ⟨(some 10),.extract 0 (.t 7),none⟩,
  ⟨(some 11),.extract 1 (.t 7),none⟩,
  ⟨(some 2),.alloc [],none⟩,
  ⟨none,.store 0 (.t 2) (.t 10),none⟩,
  ⟨(some 3),.mv (.t 11),none⟩])
 (.seq [0,1,13] (.DB [⟨(some 12),.mv (.t 3),none⟩,
  ⟨(some 13),.not (.t 12),none⟩])
 (.cond (.t 13)
 (.DB [⟨(some 14),.mv (.t 1),none⟩,
  ⟨none,.panic (.t 14),none⟩])
 .skip)))
 (.DB [⟨none,.store 1 (.t 0) (.c (.b false)),none⟩]))
 .skip))
def ow:Tryz.f322.body.bind (resRec Tryz.prog Tryz.f322.ntmps [] [])=some (4,iz,erase cb):=by kernel_rfl
def sI:dG:= .zq 15 4 iz cb [0,1]
def qO:Pc Tryz.prog 322 sI:=fun _ _ _ _ hn h=>K0 Tryz.func322 (by kernel_rfl) ow rfl hn h
def e322:gO Tryz.prog:=⟨322,sI,qO⟩
def e329:=eX [] [] Tryz.func329
def e301:=eX [] [] Tryz.func301
def e250:=eX [] [] Tryz.func250
def e302:=eX [] [] Tryz.func302
def e95:=eX [] [] Tryz.func95
def e293:=eX [] [] Tryz.func293
def e294:=eC 6 80 Tryz.func294
def e295:=eX [] [] Tryz.func295
def e125:=eX [] [] Tryz.func125
def e330:=eX [] [] Tryz.func330
def e210:=eX [] [] Tryz.func210
def e209:=eX [] [] Tryz.func209
def e310:=eX [] [] Tryz.func310
def e311:=eX [] [] Tryz.func311
def e170:=eX [] [] Tryz.func170
def e312:=eX [] [] Tryz.func312
def e171:=eX [] [] Tryz.func171
def e268:=eX [] [] Tryz.func268
def e263:=eX [] [] Tryz.func263
def e323:=eX [] [] Tryz.func323
def e324:=eX [] [] Tryz.func324
def e325:=eX [] [] Tryz.func325
def e326:=eX [] [] Tryz.func326
def e285:=eX [] [] Tryz.func285
def e286:=eX [] [] Tryz.func286
def e287:=eX [] [] Tryz.func287
def e399:=eX [] [] Tryz.func399
def e400:=eX [] [] Tryz.func400
def e303:=eX [] [] Tryz.func303
def e180:=eX [] [] Tryz.func180
def e304:=eX [] [] Tryz.func304
def e305:=eX [] [] Tryz.func305
def e306:=eX [] [] Tryz.func306
def e126:=eX [] [] Tryz.func126
abbrev cq:AV:=(.DB [⟨(some 4),.alloc [(.b false)],none⟩])
def jC:List Ar:=[⟨(some 5),.gI (.func 191) [] [(.t 4)],none⟩]
abbrev cj:AV:=(.seq [4] (.DB [⟨(some 6),.mv (.t 0),none⟩,
 ⟨(some 7),.mv (.t 1),none⟩,
 ⟨(some 8),.call 128 [(.t 6),(.t 7)],none⟩,
 ⟨(some 9),.call 192 [(.t 8)],none⟩])
 (.seq [4] (.DB [⟨none,.store 1 (.t 4) (.c (.b true)),none⟩])
 .ret))
def oz:Tryz.f127.body.bind (Lg Tryz.prog Tryz.f127.ntmps [] [])=some (erase cq,jC,(.t 5),erase cj):=by kernel_rfl
def sN:dG:= .dfr 10 cq jC (.t 5) cj [.c 4 none] [0,1,4] [0,1,4]
def qU:Pc Tryz.prog 127 sN:=fun _ _ _ hn h=>JE Tryz.func127 (by kernel_rfl) oz (by kernel_rfl) hn h
def e127:gO Tryz.prog:=⟨127,sN,qU⟩
def e278:=eX [] [] Tryz.func278
def e279:=eX [] [] Tryz.func279
def e338:=eX [] [] Tryz.func338
def e243:=eX [] [] Tryz.func243
def e315:=eX [] [] Tryz.func315
def e314:=eX [] [] Tryz.func314
def e352:=eX [] [] Tryz.func352
def e353:=eX [] [] Tryz.func353
def e327:=eX [] [] Tryz.func327
def e336:=eX [] [] Tryz.func336
set_option maxRecDepth 100000
def e186:=eX [] [] Tryz.func186
def jB:List Ar:=[⟨(some 5),.gF 260 (.a []) true (.t 4),none⟩,
    ⟨(some 3),.mv (.t 5),none⟩,
    ⟨(some 6),.extract 0 (.t 3),none⟩,
    ⟨(some 7),.extract 1 (.t 3),none⟩,
    ⟨(some 1),.alloc [],none⟩,
    ⟨none,.store 0 (.t 1) (.t 6),none⟩,
    ⟨(some 2),.mv (.t 7),none⟩]
abbrev cg:AV:=(.seq [0,8] (.DB [⟨(some 8),.mv (.t 2),none⟩])
 (.cond (.t 8)
 (.DB [⟨none,.store 1 (.t 0) (.c (.b false)),none⟩])
 .skip))
def oy:Tryz.f191.body.bind (resRec Tryz.prog Tryz.f191.ntmps [] [])=some (4,jB,erase cg):=by kernel_rfl
def sM:dG:= .zq 9 4 jB cg [0,2]
def qS:Pc Tryz.prog 191 sM:=fun _ _ _ _ hn h=>K0 Tryz.func191 (by kernel_rfl) oy rfl hn h
def e191:gO Tryz.prog:=⟨191,sM,qS⟩
def e128:=eX [] [] Tryz.func128
def e192:=eX [] [] Tryz.func192
def e348:=eX [] [] Tryz.func348
def e349:=eX [] [] Tryz.func349
def e339:=eX [] [] Tryz.func339
def e340:=eX [] [] Tryz.func340
def e341:=eX [] [] Tryz.func341
def e342:=eX [] [] Tryz.func342
def e343:=eX [] [] Tryz.func343
def e344:=eX [] [] Tryz.func344
def e345:=eX [] [] Tryz.func345
def e346:=eX [] [] Tryz.func346
def e347:=eX [] [] Tryz.func347
def e366:=eX [] [] Tryz.func366
def e367:=eX [] [] Tryz.func367
def e368:=eX [] [] Tryz.func368
def e328:=eX [] [] Tryz.func328
def e187:=eX [] [] Tryz.func187
def e193:=eX [] [] Tryz.func193
def e267:=eX [] [] Tryz.func267
def e360:=eX [] [] Tryz.func360
def e361:=eX [] [] Tryz.func361
def e362:=eX [] [] Tryz.func362
def e363:=eX [] [] Tryz.func363
def e364:=eX [] [] Tryz.func364
def e162:=eX [] [] Tryz.func162
def e376:=eX [] [] Tryz.func376
def e377:=eX [] [] Tryz.func377
def e188:=eX [] [] Tryz.func188
abbrev sZ:AV:=(.seq [0,3] (.DB [⟨(some 3),.box (.t 1),none⟩,
 ⟨(some 4),.mv (.c .pn),none⟩])
 (.seq [0,3,5,6] (.He [0,3,5,6] [⟨0,⟨(some 8),.mv (.t 0),none⟩,[],[]⟩,
  ⟨1,⟨(some 9),.JU (.t 8),none⟩,[],[]⟩,
  ⟨2,⟨(some 10),.GS 1 (.t 9),none⟩,[],[]⟩,
  ⟨3,⟨(some 11),.load none (.t 10),none⟩,[],[]⟩,
  ⟨4,⟨(some 12),.load (some 4) (.t 3),none⟩,[],[]⟩,
  ⟨5,⟨(some 13),.lookup (.a [.i64,.i64,.i64,.i64]) .pn true (.t 11) (.t 12),none⟩,[],[]⟩,
  ⟨6,⟨(some 7),.mv (.t 13),none⟩,[],[]⟩,
  ⟨7,⟨(some 14),.extract 0 (.t 7),none⟩,[],[]⟩,
  ⟨8,⟨(some 15),.extract 1 (.t 7),none⟩,[],[]⟩,
  ⟨9,⟨(some 5),.mv (.t 14),none⟩,[],[]⟩,
  ⟨10,⟨(some 6),.mv (.t 15),none⟩,[],[]⟩])
 (.seq [5] (.seq [0,3,5,17] (.DB [⟨(some 16),.mv (.t 6),none⟩,
  ⟨(some 17),.not (.t 16),none⟩])
 (.cond (.t 17)
 (.seq [0,3,5] (.DB [⟨(some 18),.build [(.i .i64 0),(.i .i64 0),(.l [] true)] [(0,1,(.c (.i .i64 (-1000000000)))),(1,1,(.c (.i .i64 1000000000)))],none⟩,
  ⟨(some 19),.build [(.i .i64 0),(.i .i64 0),(.l [] true),(.i .u64 0),(.i .u64 0),(.b false),(.b false),(.l [] true)] [(0,3,(.t 18))],none⟩,
  ⟨(some 20),.box (.t 19),none⟩,
  ⟨(some 5),.mv (.t 20),none⟩])
 (.He [5] [⟨0,⟨(some 21),.mv (.t 0),none⟩,[],[]⟩,
  ⟨1,⟨(some 22),.JU (.t 21),none⟩,[],[]⟩,
  ⟨2,⟨(some 23),.GS 1 (.t 22),none⟩,[],[]⟩,
  ⟨3,⟨(some 24),.load none (.t 23),none⟩,[],[]⟩,
  ⟨4,⟨(some 25),.load (some 4) (.t 3),none⟩,[],[]⟩,
  ⟨5,⟨(some 26),.mv (.t 5),none⟩,[],[]⟩,
  ⟨6,⟨none,.Em (.a [.i64,.i64,.i64,.i64]) (.t 24) (.t 25) (.t 26),none⟩,[],[]⟩]))
 .skip))
 (.seq [4] (.DB [⟨(some 27),.mv (.t 5),none⟩,
  ⟨(some 4),.mv (.t 27),none⟩])
 .ret))))
def tu:Tryz.f198.body.bind (res Tryz.prog Tryz.f198.ntmps [] [])=some (erase sZ):=by kernel_rfl
def sL:dG:= .fn 28 sZ [.t 4]
def qR:Pc Tryz.prog 198 sL:=fun _ _ _ hn h=>E8 Tryz.func198 (by kernel_rfl) tu (by kernel_rfl) hn h
def e198:gO Tryz.prog:=⟨198,sL,qR⟩
def e199:=eX [] [] Tryz.func199
def e269:=eX [] [] Tryz.func269
def e194:=eX [] [] Tryz.func194
def e195:=eX [] [] Tryz.func195
def e196:=eX [] [] Tryz.func196
def e375:=eX [] [] Tryz.func375
def e379:=eX [] [] Tryz.func379
def e381:=eX [] [] Tryz.func381
def e380:=eX [] [] Tryz.func380
def e189:=eX [] [] Tryz.func189
def e270:=eX [] [] Tryz.func270
def e182:=eX [] [] Tryz.func182
def e382:=eX [] [] Tryz.func382
def e190:=eX [] [] Tryz.func190
def e316:=eX [] [] Tryz.func316
def e264:=eC 7 88 Tryz.func264
def e266:=eX [] [] Tryz.func266
def e265:=eX [] [] Tryz.func265
def e350:=eX [] [] Tryz.func350
def e313:=eX [] [] Tryz.func313
set_option maxRecDepth 100000
def AAR:List (gO Tryz.prog):=[e17,e66,e18,e19,e23,e22,e38,e67,e15,e40,e31,e25,e69,e68,e27,e70,e59,e73,e72,e71,e74,e78,e100,e101,e62,e102,e137,e60,e84,e82,e83,e92,e93,e81,e34,e131,e132,e138,e140,e139,e144,e79,e49,e159,e133,e134,e160,e61,e146,e147,e150,e151,e118,e152,e153,e96,e205,e142,e143,e141,e206,e145,e117,e114,e201,e124,e238,e239,e218,e200,e222,e223,e174,e175,e224,e226,e225,e212,e213,e214,e215,e216,e217,e207,e211,e272,e273,e183,e184,e185,e281,e280,e289,e290,e245,e247,e246,e249,e248,e227,e228,e229,e292,e291,e208,e317,e258,e259,e242,e261,e260,e262,e282,e283,e284,e288,e322,e329,e301,e250,e302,e95,e293,e294,e295,e125,e330,e210,e209,e310,e311,e170,e312,e171,e268,e263,e323,e324,e325,e326,e285,e286,e287,e399,e400,e303,e180,e304,e305,e306,e126,e127,e278,e279,e338,e243,e315,e314,e352,e353,e327,e336,e186,e191,e128,e192,e348,e349,e339,e340,e341,e342,e343,e344,e345,e346,e347,e366,e367,e368,e328,e187,e193,e267,e360,e361,e362,e363,e364,e162,e376,e377,e188,e198,e199,e269,e194,e195,e196,e375,e379,e381,e380,e189,e270,e182,e382,e190,e316,e264,e266,e265,e350,e313]
def tC:Tr dG:=mkT AAR
def ai:aX (fun i=>Pc Tryz.prog i) id tC:=Yw AAR
noncomputable section
abbrev jI (n:Int):V:= .i .i64 n
abbrev jN:V:= .l [] true
abbrev jL (l:List Int) (f:Bool):V:= .l (l.map fun n=>[jI n]) f
def j0:V:=(.b false)
def j1:V:=(jL [3] false)
def j2:V:=(jL [0] false)
def j3:V:=(jL [0,2] false)
def j4:V:=(jL [0,1] false)
def j5:V:=(.t [(.a [jN,j0,jN,jN,(.b true),jN]),(jI 0)])
def j6:V:=(.l [[jN,jN,jN],[(jL [3] true),jN,jN],[(jL [3] true),jN,jN]] true)
def j7:V:=(.t [(.a [(.l [[jN],[j1],[j1]] false),jN]),(jI 0)])
def j8:V:=(.a [j6,(jI 0),(jL [1] true),(.l [[(jI 1),(jI 0),(jI 2),(jI 0),jN,(jI 3),(jI 0),jN,(jI 0)],[(jI 1),(jI 0),(jI 2),(jI 0),jN,(jI 4),(jI 0),jN,(jI 1)],[(jI 1),(jI 0),(jI 2),(jI 0),jN,(jI 5),(jI 0),jN,(jI 2)]] false),(.l [[(jI 2),(jI 0),jN],[(jI 2),(jI 0),jN],[(jI 2),(jI 0),jN],[(jI 2),(jI 0),jN]] false),(jI 3)])
def j9:V:=(.a [j6,(jI 0),(jL [1] true),(.l [[(jI 1),(jI 0),(jI 2),(jI 0),jN,(jI 3),(jI 0),jN,(jI 0)],[(jI 1),(jI 0),(jI 2),(jI 0),jN,(jI 4),(jI 0),jN,(jI 1)],[(jI 1),(jI 0),(jI 2),(jI 0),jN,(jI 5),(jI 0),jN,(jI 2)],[(jI 4),(jI 0),(jI 7),(jI 0),jN,(jI 0),(jI 0),(.l [[(jI 2),(jI 0),jN,(jI 4),(jI 0),jN],[(jI 2),(jI 0),jN,(jI 5),(jI 0),jN]] true),(jI 3)]] false),(.l [[(jI 2),(jI 0),jN],[(jI 2),(jI 0),jN],[(jI 2),(jI 0),jN],[(jI 2),(jI 0),jN],[(jI 2),(jI 0),jN]] false),(jI 4)])
def mE (M:MM Tryz.prog) (f:Nat) (vs:List V) (v:V) (h:nr (tD tC) M.m 100000 f vs v=true:=by kernel_rfl):MM Tryz.prog:=M.add (TS (aj ai) M.ok h)
def pE (M:MM Tryz.prog) (f:Nat) (vs:List V) (v:V) (h:nr (tD tC) M.m 100000 f vs v=true:=by kernel_rfl):CM vs=true/\BL v=true/\Pure Tryz.prog f vs v:=TS (aj ai) M.ok h
def q0:MM Tryz.prog:=⟨fun _=>[],l6⟩
def q1:=mE q0 150 [j8] (jI 0)
def q2:=mE q1 92 [j8] j7
def q3:=mE q2 133 [j8,jN] (.t [(.a [jN,j0,jN,jN,j0,jN]),(jI 5)])
def p0:=pE q3 23 [j8,(jI 0),(jL [1] true)] (.t [(.l [[jN,(jI 4)]] false),(jI 0)])
def p1:=pE q3 23 [j8,(jI 1),(jL [4] true)] (.t [jN,(jI 2)])
def q4:=mE q3 133 [j8,(jL [1,2] true)] j5
def p2:=pE q4 15 [j8,(jI 0),(jL [1,2] true)] (.t [(jI 3),(jI 0)])
def q5:=mE q4 133 [j8,j2] (.t [(.a [jN,j0,jN,j2,j0,jN]),(jI 0)])
def q6:=mE q5 133 [j8,j3] (.t [(.a [jN,j0,jN,(jL [2,0] false),j0,jN]),(jI 0)])
def q7:=mE q6 133 [j8,j4] (.t [(.a [jN,j0,jN,(jL [1,0] false),j0,jN]),(jI 0)])
def q8:=mE q7 133 [j8,(jL [0,1,2] false)] j5
def p3:=pE q8 18 [j8,(jI 0)] (.t [(.l [[jN,(jI 4)],[j2,(jI 1)],[j3,(jI 1)],[j4,(jI 1)],[(jL [0,1,2] false),(jI 3)]] false),(jI 0)])
def p4:=pE q8 19 [j8,(jI 0)] (.t [(.l [[jN,(jI 4)],[j2,(jI 1)],[j3,(jI 1)],[j4,(jI 1)]] false),(jI 0)])
def p5:=pE q8 23 [j8,(jI 0),(jL [4] true)] (.t [(.l [[j4,(jI 1)]] false),(jI 0)])
def p6:=pE q8 23 [j8,(jI 0),(jL [0] true)] (.t [jN,(jI 2)])
def p7:=pE q8 38 [j8,(jI 0),(jI 4)] (.t [(jL [1] false),(jI 0)])
def p8:=pE q8 38 [j8,(jI 0),(jI 3)] (.t [jN,(jI 5)])
def p9:=pE q8 38 [j8,(jI 0),(jI 1)] (.t [j1,(jI 0)])
def q9:=mE q8 150 [j9] (jI 0)
def q10:=mE q9 92 [j9] j7
def q11:=mE q10 133 [j9,(jL [0,1,2,3] true)] (.t [(.a [j1,j0,jN,jN,(.b true),jN]),(jI 0)])
def p10:=pE q11 15 [j9,(jI 0),(jL [0,1,2,3] true)] (.t [(jI 2),(jI 0)])
def p11:=pE q11 31 [j8,(jI 0)] (.t [(.a [(jI 5),(jI 0),jN,(jI 0),(jI 0),(.l [[(jI 2),(jI 0),jN,(jI 3),(jI 0),jN]] false)]),(jI 0)])
def p12:=pE q11 25 [j8,(jI 0),(jL [0,1] true)] (.t [(.a [(jI 6),(jI 0),jN,(jI 0),(jI 0),(.l [[(jI 2),(jI 0),jN,(jI 3),(jI 0),jN],[(jI 6),(jI 0),jN,(jI 0),(jI 0),(.l [[(jI 2),(jI 0),jN,(jI 4),(jI 0),jN],[(jI 5),(jI 0),jN,(jI 0),(jI 0),(.l [[(jI 2),(jI 0),jN,(jI 5),(jI 0),jN]] false)]] false)]] false)]),(jI 0)])
def qT:=(((((((((((((q11.add p0).add p1).add p2).add p3).add p4).add p5).add p6).add p7).add p8).add p9).add p10).add p11).add p12)
def known:Pure Tryz.prog 17 [] (.b true):=(pE qT 17 [] (.b true)).2.2
end
end Go.Gl
