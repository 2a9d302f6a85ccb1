import Derived.Test.YtnidfcmdimehdaaGreatProg
import Derived.KernelRfl
import Derived.Test.YtnidfcmdimehdaaGreatV42
set_option linter.all false
set_option linter.defProp false
set_option maxHeartbeats 8000000
noncomputable section
namespace Go.Gl
open Go.Proofs
set_option maxRecDepth 100000
def e158:=eX [] [] Tryz.func158
def e46:=eX [] [] Tryz.func46
def e143:=eZ [] [] Tryz.func143
def e93:=eX [] [] Tryz.func93
def e94:=eX [] [] Tryz.func94
def e92:=eX [] [] Tryz.func92
def e144:=eX [] [] Tryz.func144
def e96:=eX [] [] Tryz.func96
def e114:=eX [] [] Tryz.func114
def e169:=eX [] [] Tryz.func169
def e170:=eX [] [] Tryz.func170
def e171:=eX [] [] Tryz.func171
def e172:=eX [] [] Tryz.func172
def e173:=eX [] [] Tryz.func173
def e178:=eX [] [] Tryz.func178
def e136:=eC 1 8 Tryz.func136
def e201:=eX [] [] Tryz.func201
def e204:=eZ [] [] Tryz.func204
def e118:=eZ [] [] Tryz.func118
def e119:=eX [] [] Tryz.func119
def e205:=eX [] [] Tryz.func205
def e207:=eX [] [] Tryz.func207
def e206:=eX [] [] Tryz.func206
def e150:=eX [] [] Tryz.func150
abbrev qz:AT:=(.seq [2,3] (.DA [⟨(some 2),.box (.t 0),none⟩,
 ⟨(some 3),.box (.t 1),none⟩,
 ⟨(some 4),.mv (.c .pn),none⟩])
 (.seq [2,3,5,6] (.DA [⟨(some 8),.F7 1 (.t 2),none⟩,
  ⟨(some 9),.load none (.t 8),none⟩,
  ⟨(some 10),.load (some 4) (.t 3),none⟩,
  ⟨(some 11),.lookup (.a [.i64,.i64,.i64,.i64]) .pn true (.t 9) (.t 10),none⟩,
  ⟨(some 7),.mv (.t 11),none⟩,
  ⟨(some 12),.extract 0 (.t 7),none⟩,
  ⟨(some 13),.extract 1 (.t 7),none⟩,
  ⟨(some 5),.mv (.t 12),none⟩,
  ⟨(some 6),.mv (.t 13),none⟩])
 (.seq [5] (.seq [2,3,5,15] (.DA [⟨(some 14),.mv (.t 6),none⟩,
  ⟨(some 15),.not (.t 14),none⟩])
 (.cond (.t 15)
 (.seq [2,3,5] (.DA [⟨(some 16),.build [(.i .u64 0),(.i .u64 0),(.i .i64 0),(.i .i64 0),(.l [] true),(.b false),(.b false),(.l [] true)] [(2,1,(.c (.i .i64 (-1000000000)))),(3,1,(.c (.i .i64 1000000000)))],none⟩,
  ⟨(some 17),.box (.t 16),none⟩,
  ⟨(some 5),.mv (.t 17),none⟩])
 (.DA [⟨(some 18),.F7 1 (.t 2),none⟩,
  ⟨(some 19),.load none (.t 18),none⟩,
  ⟨(some 20),.load (some 4) (.t 3),none⟩,
  ⟨(some 21),.mv (.t 5),none⟩,
  ⟨none,.Ed (.a [.i64,.i64,.i64,.i64]) (.t 19) (.t 20) (.t 21),none⟩]))
 .skip))
 (.seq [4] (.DA [⟨(some 22),.mv (.t 5),none⟩,
  ⟨(some 4),.mv (.t 22),none⟩])
 .ret))))
def sZ:Tryz.f151.body.bind (res Tryz.prog Tryz.f151.ntmps [] [])=some (erase qz):=by kernel_rfl
def qi:bk:= .fn 23 qz [.t 4]
def ou:PB Tryz.prog 151 qi:=fun _ _ _ hn h=>Er Tryz.func151 (by kernel_rfl) sZ (by kernel_rfl) hn h
def e151:fD Tryz.prog:=⟨151,qi,ou⟩
def e152:=eX [] [] Tryz.func152
def e153:=eX [] [] Tryz.func153
def e154:=eX [] [] Tryz.func154
def e155:=eX [] [] Tryz.func155
def e145:=eX [] [] Tryz.func145
def e149:=eX [] [] Tryz.func149
def e216:=eX [] [] Tryz.func216
def e217:=eX [] [] Tryz.func217
def e218:=eX [] [] Tryz.func218
def e219:=eX [] [] Tryz.func219
def e220:=eX [] [] Tryz.func220
def e243:=eX [] [] Tryz.func243
abbrev bT:AT:=(.DA [⟨(some 2),.alloc [(.b false)],none⟩])
def gk:List Ao:=[⟨(some 3),.ep (.func 288) [] [(.t 2)],none⟩]
abbrev bR:AT:=(.seq [2] (.DA [⟨(some 4),.mv (.t 0),none⟩,
 ⟨(some 5),.Je (.t 4) [],none⟩])
 (.seq [2] (.DA [⟨none,.store 1 (.t 2) (.c (.b true)),none⟩])
 .ret))
def nH:Tryz.f242.body.bind (LI Tryz.prog Tryz.f242.ntmps [] [])=some (erase bT,gk,(.t 3),erase bR):=by kernel_rfl
def qh:bk:= .xg 6 bT gk (.t 3) bR [.c 2 none] [0,2] [0,2]
def ot:PB Tryz.prog 242 qh:=fun _ _ _ hn h=>It Tryz.func242 (by kernel_rfl) nH (by kernel_rfl) hn h
def e242:fD Tryz.prog:=⟨242,qh,ot⟩
def e251:=eX [] [] Tryz.func251
def e252:=eX [] [] Tryz.func252
def e179:=eX [] [] Tryz.func179
def e181:=eX [] [] Tryz.func181
def e180:=eX [] [] Tryz.func180
def e183:=eX [] [] Tryz.func183
def e182:=eX [] [] Tryz.func182
def e188:=eX [] [] Tryz.func188
def e208:=eX [] [] Tryz.func208
def e209:=eX [] [] Tryz.func209
def e253:=eX [] [] Tryz.func253
def e228:=eX [] [] Tryz.func228
def e146:=eX [] [] Tryz.func146
def e259:=eX [] [] Tryz.func259
def e260:=eX [] [] Tryz.func260
def e261:=eX [] [] Tryz.func261
set_option maxRecDepth 100000
def e262:=eX [] [] Tryz.func262
def e264:=eX [] [] Tryz.func264
def e263:=eX [] [] Tryz.func263
def e265:=eX [] [] Tryz.func265
def e244:=eX [] [] Tryz.func244
def e245:=eX [] [] Tryz.func245
def e246:=eX [] [] Tryz.func246
def e250:=eX [] [] Tryz.func250
def gj:List Ao:=[⟨(some 1),.mv (.t 4),none⟩]
abbrev bQ:AT:=(.seq [0,1,6] (.DA [⟨(some 5),.mv (.t 1),none⟩,
 ⟨(some 6),.ew 2 true (.t 5),none⟩])
 (.cond (.t 6)
 (.seq [0] (.seq [0,1,3] (.DA [⟨(some 8),.mv (.t 1),none⟩,
  ⟨(some 9),.ee 368 (.a []) true (.t 8),none⟩,
  ⟨(some 7),.mv (.t 9),none⟩,
  ⟨(some 10),.extract 0 (.t 7),none⟩,
  ⟨(some 11),.extract 1 (.t 7),none⟩,
  ⟨(some 2),.alloc [],none⟩,
  ⟨none,.store 0 (.t 2) (.t 10),none⟩,
  ⟨(some 3),.mv (.t 11),none⟩])
 (.seq [0,1,13] (.DA [⟨(some 12),.mv (.t 3),none⟩,
  ⟨(some 13),.not (.t 12),none⟩])
 (.cond (.t 13)
 (.DA [⟨(some 14),.mv (.t 1),none⟩,
  ⟨none,.panic (.t 14),none⟩])
 .skip)))
 (.DA [⟨none,.store 1 (.t 0) (.c (.b false)),none⟩]))
 .skip))
def nG:Tryz.f288.body.bind (resRec Tryz.prog Tryz.f288.ntmps [] [])=some (4,gj,erase bQ):=by kernel_rfl
def qg:bk:= .xb 15 4 gj bQ [0,1]
def oq:PB Tryz.prog 288 qg:=fun _ _ _ _ hn h=>Kc Tryz.func288 (by kernel_rfl) nG rfl hn h
def e288:fD Tryz.prog:=⟨288,qg,oq⟩
def e295:=eX [] [] Tryz.func295
def e227:=eX [] [] Tryz.func227
def e184:=eX [] [] Tryz.func184
def e229:=eX [] [] Tryz.func229
def e45:=eX [] [] Tryz.func45
def e235:=eX [] [] Tryz.func235
def e254:=eC 6 80 Tryz.func254
def e255:=eX [] [] Tryz.func255
def e78:=eX [] [] Tryz.func78
def e273:=eX [] [] Tryz.func273
def e148:=eX [] [] Tryz.func148
def e147:=eX [] [] Tryz.func147
def e299:=eX [] [] Tryz.func299
def e301:=eX [] [] Tryz.func301
def e300:=eX [] [] Tryz.func300
def e303:=eX [] [] Tryz.func303
def e302:=eX [] [] Tryz.func302
def e190:=eX [] [] Tryz.func190
def e266:=eX [] [] Tryz.func266
def e289:=eX [] [] Tryz.func289
def e290:=eX [] [] Tryz.func290
def e291:=eX [] [] Tryz.func291
def e292:=eX [] [] Tryz.func292
def e247:=eX [] [] Tryz.func247
def e248:=eX [] [] Tryz.func248
def e249:=eX [] [] Tryz.func249
def e352:=eX [] [] Tryz.func352
def e353:=eX [] [] Tryz.func353
def e230:=eX [] [] Tryz.func230
def e122:=eX [] [] Tryz.func122
def e231:=eX [] [] Tryz.func231
def e232:=eX [] [] Tryz.func232
def e233:=eX [] [] Tryz.func233
def e79:=eX [] [] Tryz.func79
abbrev jF:AT:=(.DA [⟨(some 4),.alloc [(.b false)],none⟩])
def qU:List Ao:=[⟨(some 5),.ep (.func 126) [] [(.t 4)],none⟩]
abbrev jB:AT:=(.seq [4] (.DA [⟨(some 6),.mv (.t 0),none⟩,
 ⟨(some 7),.mv (.t 1),none⟩,
 ⟨(some 8),.call 81 [(.t 6),(.t 7)],none⟩,
 ⟨(some 9),.call 127 [(.t 8)],none⟩])
 (.seq [4] (.DA [⟨none,.store 1 (.t 4) (.c (.b true)),none⟩])
 .ret))
def sV:Tryz.f80.body.bind (LI Tryz.prog Tryz.f80.ntmps [] [])=some (erase jF,qU,(.t 5),erase jB):=by kernel_rfl
def yJ:bk:= .xg 10 jF qU (.t 5) jB [.c 4 none] [0,1,4] [0,1,4]
def tp:PB Tryz.prog 80 yJ:=fun _ _ _ hn h=>It Tryz.func80 (by kernel_rfl) sV (by kernel_rfl) hn h
def e80:fD Tryz.prog:=⟨80,yJ,tp⟩
def e202:=eX [] [] Tryz.func202
def e203:=eX [] [] Tryz.func203
def e315:=eX [] [] Tryz.func315
def e316:=eX [] [] Tryz.func316
def e237:=eX [] [] Tryz.func237
def e236:=eX [] [] Tryz.func236
def e313:=eX [] [] Tryz.func313
def e314:=eX [] [] Tryz.func314
def e293:=eX [] [] Tryz.func293
def e274:=eX [] [] Tryz.func274
set_option maxRecDepth 100000
def e120:=eX [] [] Tryz.func120
def gl:List Ao:=[⟨(some 5),.ee 206 (.a []) true (.t 4),none⟩,
    ⟨(some 3),.mv (.t 5),none⟩,
    ⟨(some 6),.extract 0 (.t 3),none⟩,
    ⟨(some 7),.extract 1 (.t 3),none⟩,
    ⟨(some 1),.alloc [],none⟩,
    ⟨none,.store 0 (.t 1) (.t 6),none⟩,
    ⟨(some 2),.mv (.t 7),none⟩]
abbrev bS:AT:=(.seq [0,8] (.DA [⟨(some 8),.mv (.t 2),none⟩])
 (.cond (.t 8)
 (.DA [⟨none,.store 1 (.t 0) (.c (.b false)),none⟩])
 .skip))
def nI:Tryz.f126.body.bind (resRec Tryz.prog Tryz.f126.ntmps [] [])=some (4,gl,erase bS):=by kernel_rfl
def ql:bk:= .xb 9 4 gl bS [0,2]
def ox:PB Tryz.prog 126 ql:=fun _ _ _ _ hn h=>Kc Tryz.func126 (by kernel_rfl) nI rfl hn h
def e126:fD Tryz.prog:=⟨126,ql,ox⟩
def e81:=eX [] [] Tryz.func81
def e127:=eX [] [] Tryz.func127
def e284:=eX [] [] Tryz.func284
def e285:=eX [] [] Tryz.func285
def e275:=eX [] [] Tryz.func275
def e276:=eX [] [] Tryz.func276
def e277:=eX [] [] Tryz.func277
def e278:=eX [] [] Tryz.func278
def e279:=eX [] [] Tryz.func279
def e280:=eX [] [] Tryz.func280
def e281:=eX [] [] Tryz.func281
def e282:=eX [] [] Tryz.func282
def e283:=eX [] [] Tryz.func283
def e325:=eX [] [] Tryz.func325
def e326:=eX [] [] Tryz.func326
def e327:=eX [] [] Tryz.func327
def e294:=eX [] [] Tryz.func294
def e121:=eX [] [] Tryz.func121
def e128:=eX [] [] Tryz.func128
def e189:=eX [] [] Tryz.func189
def e308:=eX [] [] Tryz.func308
def e309:=eX [] [] Tryz.func309
def e310:=eX [] [] Tryz.func310
def e311:=eX [] [] Tryz.func311
def e312:=eX [] [] Tryz.func312
def e115:=eX [] [] Tryz.func115
def e329:=eX [] [] Tryz.func329
def e330:=eX [] [] Tryz.func330
def e123:=eX [] [] Tryz.func123
abbrev rA:AT:=(.seq [0,3] (.DA [⟨(some 3),.box (.t 1),none⟩,
 ⟨(some 4),.mv (.c .pn),none⟩])
 (.seq [0,3,5,6] (.HG [0,3,5,6] [⟨0,⟨(some 8),.mv (.t 0),none⟩,[],[]⟩,
  ⟨1,⟨(some 9),.I3 (.t 8),none⟩,[],[]⟩,
  ⟨2,⟨(some 10),.F7 1 (.t 9),none⟩,[],[]⟩,
  ⟨3,⟨(some 11),.load none (.t 10),none⟩,[],[]⟩,
  ⟨4,⟨(some 12),.load (some 4) (.t 3),none⟩,[],[]⟩,
  ⟨5,⟨(some 13),.lookup (.a [.i64,.i64,.i64,.i64]) .pn true (.t 11) (.t 12),none⟩,[],[]⟩,
  ⟨6,⟨(some 7),.mv (.t 13),none⟩,[],[]⟩,
  ⟨7,⟨(some 14),.extract 0 (.t 7),none⟩,[],[]⟩,
  ⟨8,⟨(some 15),.extract 1 (.t 7),none⟩,[],[]⟩,
  ⟨9,⟨(some 5),.mv (.t 14),none⟩,[],[]⟩,
  ⟨10,⟨(some 6),.mv (.t 15),none⟩,[],[]⟩])
 (.seq [5] (.seq [0,3,5,17] (.DA [⟨(some 16),.mv (.t 6),none⟩,
  ⟨(some 17),.not (.t 16),none⟩])
 (.cond (.t 17)
 (.seq [0,3,5] (.DA [⟨(some 18),.build [(.i .i64 0),(.i .i64 0),(.l [] true)] [(0,1,(.c (.i .i64 (-1000000000)))),(1,1,(.c (.i .i64 1000000000)))],none⟩,
  ⟨(some 19),.build [(.i .i64 0),(.i .i64 0),(.l [] true),(.i .u64 0),(.i .u64 0),(.b false),(.b false),(.l [] true)] [(0,3,(.t 18))],none⟩,
  ⟨(some 20),.box (.t 19),none⟩,
  ⟨(some 5),.mv (.t 20),none⟩])
 (.HG [5] [⟨0,⟨(some 21),.mv (.t 0),none⟩,[],[]⟩,
  ⟨1,⟨(some 22),.I3 (.t 21),none⟩,[],[]⟩,
  ⟨2,⟨(some 23),.F7 1 (.t 22),none⟩,[],[]⟩,
  ⟨3,⟨(some 24),.load none (.t 23),none⟩,[],[]⟩,
  ⟨4,⟨(some 25),.load (some 4) (.t 3),none⟩,[],[]⟩,
  ⟨5,⟨(some 26),.mv (.t 5),none⟩,[],[]⟩,
  ⟨6,⟨none,.Ed (.a [.i64,.i64,.i64,.i64]) (.t 24) (.t 25) (.t 26),none⟩,[],[]⟩]))
 .skip))
 (.seq [4] (.DA [⟨(some 27),.mv (.t 5),none⟩,
  ⟨(some 4),.mv (.t 27),none⟩])
 .ret))))
def sa:Tryz.f134.body.bind (res Tryz.prog Tryz.f134.ntmps [] [])=some (erase rA):=by kernel_rfl
def qj:bk:= .fn 28 rA [.t 4]
def ow:PB Tryz.prog 134 qj:=fun _ _ _ hn h=>Er Tryz.func134 (by kernel_rfl) sa (by kernel_rfl) hn h
def e134:fD Tryz.prog:=⟨134,qj,ow⟩
def e135:=eX [] [] Tryz.func135
def e191:=eX [] [] Tryz.func191
def e129:=eX [] [] Tryz.func129
def e130:=eX [] [] Tryz.func130
def e131:=eX [] [] Tryz.func131
def e324:=eX [] [] Tryz.func324
def e331:=eX [] [] Tryz.func331
def e333:=eX [] [] Tryz.func333
def e332:=eX [] [] Tryz.func332
def e124:=eX [] [] Tryz.func124
def e192:=eX [] [] Tryz.func192
def e133:=eX [] [] Tryz.func133
def e334:=eX [] [] Tryz.func334
def e125:=eX [] [] Tryz.func125
def e238:=eX [] [] Tryz.func238
def e185:=eC 7 88 Tryz.func185
def e187:=eX [] [] Tryz.func187
def e186:=eX [] [] Tryz.func186
def e286:=eX [] [] Tryz.func286
def e234:=eX [] [] Tryz.func234
set_option maxRecDepth 100000
def yK:List (fD Tryz.prog):=[e9,e36,e7,e8,e20,e37,e15,e39,e38,e17,e40,e26,e43,e42,e41,e44,e31,e34,e33,e32,e35,e65,e50,e52,e51,e53,e98,e97,e75,e73,e74,e99,e100,e71,e11,e87,e88,e89,e91,e90,e95,e67,e66,e108,e106,e107,e109,e72,e116,e117,e142,e156,e77,e157,e158,e46,e143,e93,e94,e92,e144,e96,e114,e169,e170,e171,e172,e173,e178,e136,e201,e204,e118,e119,e205,e207,e206,e150,e151,e152,e153,e154,e155,e145,e149,e216,e217,e218,e219,e220,e243,e242,e251,e252,e179,e181,e180,e183,e182,e188,e208,e209,e253,e228,e146,e259,e260,e261,e262,e264,e263,e265,e244,e245,e246,e250,e288,e295,e227,e184,e229,e45,e235,e254,e255,e78,e273,e148,e147,e299,e301,e300,e303,e302,e190,e266,e289,e290,e291,e292,e247,e248,e249,e352,e353,e230,e122,e231,e232,e233,e79,e80,e202,e203,e315,e316,e237,e236,e313,e314,e293,e274,e120,e126,e81,e127,e284,e285,e275,e276,e277,e278,e279,e280,e281,e282,e283,e325,e326,e327,e294,e121,e128,e189,e308,e309,e310,e311,e312,e115,e329,e330,e123,e134,e135,e191,e129,e130,e131,e324,e331,e333,e332,e124,e192,e133,e334,e125,e238,e185,e187,e186,e286,e234]
def rY:Tr bk:=xu yK
def Zu:Zo (fun i=>PB Tryz.prog i) id rY:=YL yK
noncomputable section
abbrev jI (n:Int):V:= .i .i64 n
abbrev jN:V:= .l [] true
abbrev jL (l:List Int) (f:Bool):V:= .l (l.map fun n=>[jI n]) f
def j0:V:=(.b false)
def j1:V:=(jL [3] false)
def j2:V:=(jL [0] false)
def j3:V:=(jL [0,2] false)
def j4:V:=(jL [0,1] false)
def j5:V:=(.t [(.a [jN,j0,jN,jN,(.b true),jN]),(jI 0)])
def j6:V:=(.l [[jN,jN,jN],[(jL [3] true),jN,jN],[(jL [3] true),jN,jN]] true)
def j7:V:=(.t [(.a [(.l [[jN],[j1],[j1]] false),jN]),(jI 0)])
def j8:V:=(.a [j6,(jI 0),(jL [1] true),(.l [[(jI 1),(jI 0),(jI 2),(jI 0),jN,(jI 3),(jI 0),jN,(jI 0)],[(jI 1),(jI 0),(jI 2),(jI 0),jN,(jI 4),(jI 0),jN,(jI 1)],[(jI 1),(jI 0),(jI 2),(jI 0),jN,(jI 5),(jI 0),jN,(jI 2)]] false),(.l [[(jI 2),(jI 0),jN],[(jI 2),(jI 0),jN],[(jI 2),(jI 0),jN],[(jI 2),(jI 0),jN]] false),(jI 3)])
def j9:V:=(.a [j6,(jI 0),(jL [1] true),(.l [[(jI 1),(jI 0),(jI 2),(jI 0),jN,(jI 3),(jI 0),jN,(jI 0)],[(jI 1),(jI 0),(jI 2),(jI 0),jN,(jI 4),(jI 0),jN,(jI 1)],[(jI 1),(jI 0),(jI 2),(jI 0),jN,(jI 5),(jI 0),jN,(jI 2)],[(jI 4),(jI 0),(jI 7),(jI 0),jN,(jI 0),(jI 0),(.l [[(jI 2),(jI 0),jN,(jI 4),(jI 0),jN],[(jI 2),(jI 0),jN,(jI 5),(jI 0),jN]] true),(jI 3)]] false),(.l [[(jI 2),(jI 0),jN],[(jI 2),(jI 0),jN],[(jI 2),(jI 0),jN],[(jI 2),(jI 0),jN],[(jI 2),(jI 0),jN]] false),(jI 4)])
def mE (M:MM Tryz.prog) (f:Nat) (vs:List V) (v:V) (h:mL (rZ rY) M.m 100000 f vs v=true:=by kernel_rfl):MM Tryz.prog:=M.add (Sh (Zv Zu) M.ok h)
def pE (M:MM Tryz.prog) (f:Nat) (vs:List V) (v:V) (h:mL (rZ rY) M.m 100000 f vs v=true:=by kernel_rfl):CG vs=true/\BG v=true/\Pure Tryz.prog f vs v:=Sh (Zv Zu) M.ok h
def q0:MM Tryz.prog:=⟨fun _=>[],kO⟩
def q1:=mE q0 142 [j8] (jI 0)
def q2:=mE q1 99 [j8] j7
def q3:=mE q2 106 [j8,jN] (.t [(.a [jN,j0,jN,jN,j0,jN]),(jI 5)])
def p0:=pE q3 20 [j8,(jI 0),(jL [1] true)] (.t [(.l [[jN,(jI 4)]] false),(jI 0)])
def p1:=pE q3 20 [j8,(jI 1),(jL [4] true)] (.t [jN,(jI 2)])
def q4:=mE q3 106 [j8,(jL [1,2] true)] j5
def p2:=pE q4 38 [j8,(jI 0),(jL [1,2] true)] (.t [(jI 3),(jI 0)])
def q5:=mE q4 106 [j8,j2] (.t [(.a [jN,j0,jN,j2,j0,jN]),(jI 0)])
def q6:=mE q5 106 [j8,j3] (.t [(.a [jN,j0,jN,(jL [2,0] false),j0,jN]),(jI 0)])
def q7:=mE q6 106 [j8,j4] (.t [(.a [jN,j0,jN,(jL [1,0] false),j0,jN]),(jI 0)])
def q8:=mE q7 106 [j8,(jL [0,1,2] false)] j5
def p3:=pE q8 7 [j8,(jI 0)] (.t [(.l [[jN,(jI 4)],[j2,(jI 1)],[j3,(jI 1)],[j4,(jI 1)],[(jL [0,1,2] false),(jI 3)]] false),(jI 0)])
def p4:=pE q8 8 [j8,(jI 0)] (.t [(.l [[jN,(jI 4)],[j2,(jI 1)],[j3,(jI 1)],[j4,(jI 1)]] false),(jI 0)])
def p5:=pE q8 20 [j8,(jI 0),(jL [4] true)] (.t [(.l [[j4,(jI 1)]] false),(jI 0)])
def p6:=pE q8 20 [j8,(jI 0),(jL [0] true)] (.t [jN,(jI 2)])
def p7:=pE q8 15 [j8,(jI 0),(jI 4)] (.t [(jL [1] false),(jI 0)])
def p8:=pE q8 15 [j8,(jI 0),(jI 3)] (.t [jN,(jI 5)])
def p9:=pE q8 15 [j8,(jI 0),(jI 1)] (.t [j1,(jI 0)])
def q9:=mE q8 142 [j9] (jI 0)
def q10:=mE q9 99 [j9] j7
def q11:=mE q10 106 [j9,(jL [0,1,2,3] true)] (.t [(.a [j1,j0,jN,jN,(.b true),jN]),(jI 0)])
def p10:=pE q11 38 [j9,(jI 0),(jL [0,1,2,3] true)] (.t [(jI 2),(jI 0)])
def p11:=pE q11 40 [j8,(jI 0)] (.t [(.a [(jI 5),(jI 0),jN,(jI 0),(jI 0),(.l [[(jI 2),(jI 0),jN,(jI 3),(jI 0),jN]] false)]),(jI 0)])
def p12:=pE q11 26 [j8,(jI 0),(jL [0,1] true)] (.t [(.a [(jI 6),(jI 0),jN,(jI 0),(jI 0),(.l [[(jI 2),(jI 0),jN,(jI 3),(jI 0),jN],[(jI 6),(jI 0),jN,(jI 0),(jI 0),(.l [[(jI 2),(jI 0),jN,(jI 4),(jI 0),jN],[(jI 5),(jI 0),jN,(jI 0),(jI 0),(.l [[(jI 2),(jI 0),jN,(jI 5),(jI 0),jN]] false)]] false)]] false)]),(jI 0)])
def qT:=(((((((((((((q11.add p0).add p1).add p2).add p3).add p4).add p5).add p6).add p7).add p8).add p9).add p10).add p11).add p12)
def known:Pure Tryz.prog 9 [] (.b true):=(pE qT 9 [] (.b true)).2.2
end
end Go.Gl
