import Derived.Test.YtcfkfhaedllcpaaGreatProg
import Derived.KernelRfl
import Derived.Test.YtcfkfhaedllcpaaGreatU12
import Derived.Test.YtcfkfhaedllcpaaGreatU13
import Derived.Test.YtcfkfhaedllcpaaGreatU14
set_option linter.all false
set_option linter.defProp false
set_option maxHeartbeats 8000000
noncomputable section
namespace Go.Gl
open Go.Proofs
set_option maxRecDepth 100000
def gQ:=cX [] [4,5] Tryz.func6
def aF:=cX [] [1] Tryz.func11
def iU:=cX [] [] Tryz.func17
def iT:=cX [] [1] Tryz.func21
def aE:=ae [] [1] Tryz.func24
def aD:=cX [] [] Tryz.func25
def aB:=ae [] [1] Tryz.func28
def VS:=cX [] [4,5] Tryz.func29
def Z9:=cX [] [4,5] Tryz.func30
def iS:=cX [] [2,3] Tryz.func31
def iR:=cX [] [2,3] Tryz.func32
abbrev gV:AK:=(.seq [2,3] (.Bh [⟨(some 2),.K2 (.t 0),none⟩,
 ⟨(some 3),.K2 (.t 1),none⟩,
 ⟨(some 4),.mv (.c (.b false)),none⟩])
 (.seq [2,3] (.seq [2,3,30] (.Bh [⟨(some 7),.BE 0 (.t 2),none⟩,
  ⟨(some 8),.load none (.t 7),none⟩,
  ⟨(some 9),.len (.t 8),none⟩,
  ⟨(some 10),.BE 0 (.t 3),none⟩,
  ⟨(some 11),.load none (.t 10),none⟩,
  ⟨(some 12),.len (.t 11),none⟩,
  ⟨(some 13),.bin .neq (.t 9) (.t 12),none⟩,
  ⟨(some 14),.mv (.t 13),none⟩,
  ⟨(some 15),.BE 1 (.t 2),(some (14,false))⟩,
  ⟨(some 16),.load none (.t 15),(some (14,false))⟩,
  ⟨(some 17),.len (.t 16),(some (14,false))⟩,
  ⟨(some 18),.BE 1 (.t 3),(some (14,false))⟩,
  ⟨(some 19),.load none (.t 18),(some (14,false))⟩,
  ⟨(some 20),.len (.t 19),(some (14,false))⟩,
  ⟨(some 21),.bin .neq (.t 17) (.t 20),(some (14,false))⟩,
  ⟨(some 22),.pick (.t 14) (.c (.b true)) (.t 21),none⟩,
  ⟨(some 23),.mv (.t 22),none⟩,
  ⟨(some 24),.BE 2 (.t 2),(some (23,false))⟩,
  ⟨(some 25),.load none (.t 24),(some (23,false))⟩,
  ⟨(some 26),.BE 2 (.t 3),(some (23,false))⟩,
  ⟨(some 27),.load none (.t 26),(some (23,false))⟩,
  ⟨(some 28),.call 17 [(.t 25),(.t 27)],(some (23,false))⟩,
  ⟨(some 29),.not (.t 28),(some (23,false))⟩,
  ⟨(some 30),.pick (.t 23) (.c (.b true)) (.t 29),none⟩])
 (.cond (.t 30)
 (.seq [4] (.Bh [⟨(some 4),.mv (.c (.b false)),none⟩])
 .ret)
 .skip))
 (.seq [2,3] (.seq [2,3,5] (.Bh [⟨(some 5),.mv (.c (.i .i64 0)),none⟩])
 (.block 0 (.loop [2,3,5] (.seq [2,3,5] (.seq [2,3,5,35] (.Bh [⟨(some 31),.mv (.t 5),none⟩,
  ⟨(some 32),.BE 0 (.t 2),none⟩,
  ⟨(some 33),.load none (.t 32),none⟩,
  ⟨(some 34),.len (.t 33),none⟩,
  ⟨(some 35),.bin .lss (.t 31) (.t 34),none⟩])
 (.cond (.t 35)
 .skip
 (.exit 0)))
 (.seq [2,3,5] (.block 1 (.seq [2,3,5,48] (.DH [2,3,5,48] [⟨0,⟨(some 38),.BE 0 (.t 2),none⟩,[],[]⟩,
  ⟨1,⟨(some 39),.load none (.t 38),none⟩,[],[]⟩,
  ⟨2,⟨(some 40),.mv (.t 5),none⟩,[],[]⟩,
  ⟨3,⟨(some 41),.Eg 3 none (.t 39) (.t 40),none⟩,[],[]⟩,
  ⟨4,⟨(some 42),.load (some 3) (.t 41),none⟩,[],[]⟩,
  ⟨5,⟨(some 43),.BE 0 (.t 3),none⟩,[],[]⟩,
  ⟨6,⟨(some 44),.load none (.t 43),none⟩,[],[]⟩,
  ⟨7,⟨(some 45),.mv (.t 5),none⟩,[],[]⟩,
  ⟨8,⟨(some 46),.Eg 3 none (.t 44) (.t 45),none⟩,[],[]⟩,
  ⟨9,⟨(some 47),.load (some 3) (.t 46),none⟩,[],[]⟩,
  ⟨10,⟨(some 48),.Oo 3 true (.t 42) (.t 47),none⟩,[],[]⟩])
 (.cond (.t 48)
 (.seq [4] (.Bh [⟨(some 4),.mv (.c (.b false)),none⟩])
 .ret)
 .skip)))
 (.Bh [⟨(some 36),.mv (.t 5),none⟩,
  ⟨(some 37),.bin .add (.t 36) (.c (.i .i64 1)),none⟩,
  ⟨(some 5),.mv (.t 37),none⟩]))))))
 (.seq [] (.seq [2,3,6] (.Bh [⟨(some 6),.mv (.c (.i .i64 0)),none⟩])
 (.block 2 (.loop [2,3,6] (.seq [2,3,6] (.seq [2,3,6,53] (.Bh [⟨(some 49),.mv (.t 6),none⟩,
  ⟨(some 50),.BE 1 (.t 2),none⟩,
  ⟨(some 51),.load none (.t 50),none⟩,
  ⟨(some 52),.len (.t 51),none⟩,
  ⟨(some 53),.bin .lss (.t 49) (.t 52),none⟩])
 (.cond (.t 53)
 .skip
 (.exit 2)))
 (.seq [2,3,6] (.block 3 (.seq [2,3,6,66] (.DH [2,3,6,66] [⟨0,⟨(some 56),.BE 1 (.t 2),none⟩,[],[]⟩,
  ⟨1,⟨(some 57),.load none (.t 56),none⟩,[],[]⟩,
  ⟨2,⟨(some 58),.mv (.t 6),none⟩,[],[]⟩,
  ⟨3,⟨(some 59),.Eg 4 none (.t 57) (.t 58),none⟩,[],[]⟩,
  ⟨4,⟨(some 60),.load (some 4) (.t 59),none⟩,[],[]⟩,
  ⟨5,⟨(some 61),.BE 1 (.t 3),none⟩,[],[]⟩,
  ⟨6,⟨(some 62),.load none (.t 61),none⟩,[],[]⟩,
  ⟨7,⟨(some 63),.mv (.t 6),none⟩,[],[]⟩,
  ⟨8,⟨(some 64),.Eg 4 none (.t 62) (.t 63),none⟩,[],[]⟩,
  ⟨9,⟨(some 65),.load (some 4) (.t 64),none⟩,[],[]⟩,
  ⟨10,⟨(some 66),.Oo 4 true (.t 60) (.t 65),none⟩,[],[]⟩])
 (.cond (.t 66)
 (.seq [4] (.Bh [⟨(some 4),.mv (.c (.b false)),none⟩])
 .ret)
 .skip)))
 (.Bh [⟨(some 54),.mv (.t 6),none⟩,
  ⟨(some 55),.bin .add (.t 54) (.c (.i .i64 1)),none⟩,
  ⟨(some 6),.mv (.t 55),none⟩]))))))
 (.seq [4] (.Bh [⟨(some 4),.mv (.c (.b true)),none⟩])
 .ret)))))
def gi:Tryz.f33.body.bind (res Tryz.prog Tryz.f33.ntmps [] [2,3])=some (erase gV):=by kernel_rfl
def iQ {args:List V} (hn:args.length<=67) {Z:AE} {Q:R->AE->Prop} (h:W Tryz.prog gV (X2 [4] Q) (Al 0 args) Z):BD Tryz.prog 33 args Z Q:=
 L4 Tryz.func33 (by kernel_rfl) gi rfl hn (ah h)
def SN:=cX [] [2,3] Tryz.func49
def iP:=cX [] [] Tryz.func51
set_option maxRecDepth 100000
def iO:=cX [] [] Tryz.func59
def iN:=cX [] [1] Tryz.func71
def iM:=cX [] [1] Tryz.func76
def iK:=ae [] [1] Tryz.func77
def iJ:=cX [] [3] Tryz.func78
def Z8:=cX [] [2] Tryz.func79
def iI:=cX [] [3] Tryz.func80
def SM:=cX [] [2,3] Tryz.func81
def iH:=ae [] [1] Tryz.func94
def iG:=cX [] [] Tryz.func96
def Q9:=cX [] [3] Tryz.func100
set_option maxRecDepth 100000
def fL:=cX [] [1] Tryz.func128
def fK:=cX [] [2,3] Tryz.func129
def fI:=cX [] [1] Tryz.func130
def Vz:=cX [] [6] Tryz.func131
def fH:=cX [] [] Tryz.func132
def fG:=cX [] [1] Tryz.func137
def Q8:=cX [] [] Tryz.func138
def fF:=cX [] [] Tryz.func139
def Q7:=cX [] [] Tryz.func140
def fE:=cX [] [2] Tryz.func147
def fD:=cX [] [1,19] Tryz.func158
def fC:=cX [] [] Tryz.func159
set_option maxRecDepth 100000
def fB:=cX [] [] Tryz.func179
def fA:=cX [] [] Tryz.func180
def ez:=cX [] [3] Tryz.func181
def ew:=cX [] [] Tryz.func182
def er:=cX [] [1] Tryz.func183
def ep:=cX [] [1] Tryz.func184
def eo:=cX [] [2,3] Tryz.func185
def ei:=cX [] [1] Tryz.func186
def eg:=cX [] [2,3] Tryz.func187
def ee:=cX [] [3,4] Tryz.func188
abbrev WA:AK:=(.Bh [⟨(some 2),.alloc [(.b false)],none⟩])
def Zs:List Ad:=[⟨(some 3),.TR (.func 258) [] [(.t 2)],none⟩]
abbrev V8:AK:=(.seq [2] (.Bh [⟨(some 4),.mv (.t 0),none⟩,
 ⟨(some 5),.GS (.t 4) [],none⟩])
 (.seq [2] (.Bh [⟨none,.store 1 (.t 2) (.c (.b true)),none⟩])
 .ret))
def bR:Tryz.f195.body.bind (Gq Tryz.prog Tryz.f195.ntmps [] [])=some (erase WA,Zs,(.t 3),erase V8):=by kernel_rfl
def ed {args:List V} (hn:args.length<=6) {Z:AE} {Q:R->AE->Prop} (h:W Tryz.prog (.seq [0,2] WA (.Bh Zs)) (CA (Xz Tryz.prog (.t 3) [0,2] V8 [.c 2 none] Q)) (Al 0 args) Z):BD Tryz.prog 195 args Z Q:=
 Eo Tryz.func195 (by kernel_rfl) bR (by kernel_rfl) hn (iY h)
def ec:=cX [] [] Tryz.func196
def eY:=cX [] [1] Tryz.func197
def Vy:=cX [] [] Tryz.func198
def eW:=cX [] [7] Tryz.func199
def eV:=cX [] [3,4,5] Tryz.func200
def eT:=cX [] [3,4] Tryz.func201
def eS:=cX [] [] Tryz.func202
def eR:=ae [] [1] Tryz.func203
def eQ:=cX [] [2,3] Tryz.func204
def eP:=cX [] [1] Tryz.func205
def eO:=cX [] [] Tryz.func206
def eN:=cX [] [] Tryz.func207
set_option maxRecDepth 100000
def eM:=cX [] [] Tryz.func227
def eL:=cX [] [] Tryz.func231
def eK:=cX [] [] Tryz.func237
def eJ:=cX [] [] Tryz.func250
def eH:=cX [] [3,5] Tryz.func251
def eG:=cX [] [3] Tryz.func252
def eF:=cX [] [2] Tryz.func253
def eE:=cX [] [2] Tryz.func254
def dz:=cX [] [2] Tryz.func255
def Zr:List Ad:=[⟨(some 1),.mv (.t 4),none⟩]
abbrev V7:AK:=(.seq [0,1,6] (.Bh [⟨(some 5),.mv (.t 1),none⟩,
 ⟨(some 6),.TU 2 true (.t 5),none⟩])
 (.cond (.t 6)
 (.seq [0] (.seq [0,1,3] (.Bh [⟨(some 8),.mv (.t 1),none⟩,
  ⟨(some 9),.Un 318 (.a []) true (.t 8),none⟩,
  ⟨(some 7),.mv (.t 9),none⟩,
  ⟨(some 10),.extract 0 (.t 7),none⟩,
  ⟨(some 11),.extract 1 (.t 7),none⟩,
  ⟨(some 2),.alloc [],none⟩,
  ⟨none,.store 0 (.t 2) (.t 10),none⟩,
  ⟨(some 3),.mv (.t 11),none⟩])
 (.seq [0,1,13] (.Bh [⟨(some 12),.mv (.t 3),none⟩,
  ⟨(some 13),.not (.t 12),none⟩])
 (.cond (.t 13)
 (.Bh [⟨(some 14),.mv (.t 1),none⟩,
  ⟨none,.panic (.t 14),none⟩])
 .skip)))
 (.Bh [⟨none,.store 1 (.t 0) (.c (.b false)),none⟩]))
 .skip))
def bQ:Tryz.f258.body.bind (resRec Tryz.prog Tryz.f258.ntmps [] [])=some (4,Zr,erase V7):=by kernel_rfl
def S6 {args:List V} (hn:args.length<=15) {m:Option V} {Z:AE} {Q:AE->Prop} (h:W Tryz.prog (.seq [0,1] (.Bh Zr) V7) (KX Q) (put (some 4) (m.getD .C0) (Al 0 args)) Z):Gb Tryz.prog 258 args m Z Q:=
 HM Tryz.func258 (by kernel_rfl) bQ rfl hn (ah h)
def dy:=cX [] [1] Tryz.func259
def dx:=cX [] [] Tryz.func260
def dw:=cX [] [] Tryz.func261
def dv:=cX [] [2] Tryz.func262
def du:=cX [] [] Tryz.func263
def dt:=cX [] [4] Tryz.func264
def Vx:=cX [] [6] Tryz.func265
def dq:=cX [] [2] Tryz.func266
set_option maxRecDepth 100000
def dn:=cX [] [] Tryz.func267
def dm:=cX [] [] Tryz.func279
def dk:=cX [] [] Tryz.func289
def dj:=cX [] [0] Tryz.func290
def di:=cX [] [2] Tryz.func291
def dh:=cX [] [] Tryz.func294
def dg:=cX [] [1] Tryz.func295
def df:=cX [] [] Tryz.func296
def de:=cX [] [] Tryz.func297
def dd:=cX [] [1] Tryz.func298
def dc:=cX [] [2] Tryz.func299
def db:=cX [] [1] Tryz.func304
def da:=cX [] [] Tryz.func308
def dZ:=cX [] [] Tryz.func309
def dY:=cX [] [] Tryz.func317
def dX:=cX [] [] Tryz.func318
set_option maxRecDepth 100000
def dW:=cX [] [] Tryz.func319
def dV:=cX [] [] Tryz.func325
def dU:=ae [] [] Tryz.func326
def dT:=ae [] [3] Tryz.func327
def dS:=cX [] [] Tryz.func328
def dR:=cX [] [] Tryz.func329
def dQ:=cX [] [3] Tryz.func330
def dO:=cX [] [] Tryz.func331
def dN:=cX [] [3] Tryz.func332
def dM:=cX [] [2] Tryz.func333
def dL:=cX [] [4,5,6,7] Tryz.func334
def dK:=cX [] [] Tryz.func342
def dJ:=cX [] [] Tryz.func352
def dI:=cX [] [] Tryz.func360
def dH:=cX [] [0] Tryz.func361
def dG:=cX [] [] Tryz.func362
def dF:=cX [] [] Tryz.func363
def dE:=cX [] [2] Tryz.func364
def dD:=cX [] [] Tryz.func365
def dC:=cX [] [] Tryz.func366
def dB:=cX [] [] Tryz.func367
def dA:=cX [] [4] Tryz.func368
set_option maxRecDepth 100000
def c9:=cX [] [] Tryz.func381
def Vw:=cX [] [] Tryz.func382
def cz:=cX [] [] Tryz.func383
def cw:=cX [] [] Tryz.func384
def cu:=cX [] [] Tryz.func385
def ct:=cX [] [] Tryz.func390
def cr:=cX [] [4,5] Tryz.func431
def cn:=cX [] [3,4,5] Tryz.func432
@[reducible] noncomputable def zP:=Tryz.prog
end Go.Gl
namespace Go.Gl
open Go.Proofs
attribute [local irreducible] BD A3 Au AS AL Ao AU AV AM An AP AT BF BM Sat Af BK Aw W
def Vq (xs:List Int) (f:Bool) (x:Int) (hx:xs.length<=AX):Pure zP 250 [.l (iL xs) f,.i .i64 x] (.b (xs.contains x)):=by
 refine eJ kZ ?_;refine zh ?_;(repeat clear U K);repeat intro K U
 refine Cc xs.length (fun k (_:Unit)=>[(5,eI (BU k))]) (fun _ _=>[]) (fun k _=>x∉xs.take k) () rfl (by simp) Sat.nil ?_;rintro k - Z hk hn -;refine zh ?_;(repeat clear U K);repeat intro K U
 refine Ej hk hx (fun y hy hlt=>?_) fun hk=>?_
 .refine zh ?_;(repeat clear U K);repeat intro K U
  refine Gi hy hx rfl ?_;refine zh ?_;(repeat clear U K);repeat intro K U
  refine Sy (fun he=>?_) (fun he=>?_)
  .refine zh ?_;(repeat clear U K);repeat intro K U
   refine AF ?_;have:x∈xs:=he ▸ Dx hy;simp[this]
  .refine zh ?_;(repeat clear U K);repeat intro K U
   refine⟨hlt,(),rfl,?_,Sat.nil⟩;rw[Aa hy];simp only[FC,ME,not_or];exact⟨hn,fun e=>he e.symm⟩
 .refine zh ?_;(repeat clear U K);repeat intro K U
  refine AF ?_;rw[BN hk]at hn;simp[hn]
def Lh (xs:List Int) (f:Bool) (x:Int) (hx:xs.length<=AX):Pure zP 318 [.l (iL xs) f,.i .i64 x] (.l (iL (xs.filter (· != x))) false):=by
 refine dX kZ ?_;refine zh ?_;(repeat clear U K);repeat intro K U
 refine Cc xs.length (fun k v=>[(5,v),(6,eI (BU k))]) (fun k v=>[.own v 1 (iL ((xs.take k).filter (· != x)))]) (fun _ _=>True) (.l [] true) rfl trivial (Gg Sat.nil 1) ?_;rintro k v Z hk - hs;refine zh ?_;(repeat clear U K);repeat intro K U
 refine Ej hk hx (fun y hy hlt=>?_) fun hk=>?_
 .refine zh ?_;(repeat clear U K);repeat intro K U
  refine Gi hy hx rfl ?_;refine zh ?_;(repeat clear U K);repeat intro K U
  refine ZC (fun he=>?_) (fun he=>?_)
  .conv=>whnf
   repeat((first|clear U K|(apply zk;intro K U)|fail);conv=>whnf)
   refine Gi hy hx rfl ?_;refine zh ?_;(repeat clear U K);repeat intro K U
   refine E0 hs 0 (x:=y) rfl (by have:=Xh (· != x) (xs.take k);simp only[Uv]at this;have hM:=Mx;omega) B8 fun v' Z' hs'=>?_
   refine zh ?_;(repeat clear U K);repeat intro K U
   refine⟨hlt,v',rfl,trivial,?_⟩;rw[Aa hy,List.filter_append];simpa[he]using hs'
  .refine zh ?_;(repeat clear U K);repeat intro K U
   refine⟨hlt,v,rfl,trivial,?_⟩;rw[Aa hy,List.filter_append];simpa[he]using hs
 .refine zh ?_;(repeat clear U K);repeat intro K U
  exact Fj hs 0 rfl (by rw[BN hk])
def free (ls:List (List Int)) (x:Int):Bool:=ls.all fun l=> !(l.drop 1).contains x
def ZA (ls:List (List Int)) (f:Bool) (x:Int) (hl:ls.length<=AX) (hls: ∀l∈ls,l.length<=AX):Pure zP 319 [.l (Df ls) f,.i .i64 x] (.b (free ls x)):=by
 refine dW kZ ?_;refine zh ?_;(repeat clear U K);repeat intro K U
 refine Cc ls.length (fun k (_:Unit)=>[(5,eI (BU k))]) (fun _ _=>[]) (fun k _=> ∀l∈ls.take k,x∉l.drop 1) () rfl (by simp) Sat.nil ?_;rintro k - Z hk hn -;refine zh ?_;(repeat clear U K);repeat intro K U
 refine Ej hk hl (fun y hy hlt=>?_) fun hk=>?_
 .have hb:=hls _ (Dx hy)
  have next:(x∉y.drop 1)-> ∀l∈ls.take (k+1),x∉l.drop 1:=fun hc l hm=>by
   rw[Aa hy]at hm;rcases FC.1 hm with hm|hm
   .exact hn l hm
   .rw[ME.1 hm];exact hc
  refine zh ?_;(repeat clear U K);repeat intro K U
  refine Gi hy hl rfl ?_;refine zh ?_;(repeat clear U K);repeat intro K U
  refine⟨fun h=>?_,fun h=>?_⟩<;>(try rw[h])
  .have hp:=of_decide_eq_true h
   simp only[BW]at hp;refine zh ?_;(repeat clear U K);repeat intro K U
   refine Gi hy hl rfl ?_;refine zh ?_;(repeat clear U K);repeat intro K U
   refine Pa 1 rfl (by omega) (fun _=>rfl) ?_;refine zh ?_;(repeat clear U K);repeat intro K U
   refine(Vq _ _ _ (by rw[List.length_drop];omega)).use ?_;refine zh ?_;(repeat clear U K);repeat intro K U
   refine⟨fun hc=>?_,fun hc=>?_⟩
   .refine zh ?_;(repeat clear U K);repeat intro K U
    refine AF ?_
    have:free ls x=false:=by
     simp only[free,List.all_eq_false];exact⟨y,Dx hy,by simpa using hc⟩
    rw[this]
   .refine zh ?_;(repeat clear U K);repeat intro K U
    exact⟨hlt,(),rfl,next (by simpa using hc),Sat.nil⟩
  .have hp: ¬_:=of_decide_eq_false h
   simp only[BW]at hp;refine zh ?_;(repeat clear U K);repeat intro K U
   refine⟨hlt,(),rfl,next ?_,Sat.nil⟩;rw[List.drop_eq_nil_of_le (by omega)];simp
 .refine zh ?_;(repeat clear U K);repeat intro K U
  rw[BN hk]at hn;refine AF ?_;have:free ls x=true:=by simpa[free]using hn
  rw[this]
def Ai (ls:List (List Int)) (c:Int):List Int:=if c<3 then []else ls.getD (c - 3).toNat []
def Rf (ls:List (List Int)) (f:Bool) (c:Int) (hc:c<3+ls.length) (hm:ls.length<=AX):Pure zP 317 [.l (Df ls) f,.i .i64 c] (.l (iL (Ai ls c)) false):=by
 refine dY kZ ?_;refine zh ?_;(repeat clear U K);repeat intro K U
 refine fork (fun h=>?_) (fun h=>?_)
 .refine zh ?_;(repeat clear U K);repeat intro K U
  refine B1 (.l (fun h=>(by cases h)) ?_);rw[Ai,if_pos h];exact .nil
 .refine zh ?_;(repeat clear U K);repeat intro K U
  simp only[AX]at hm;have hlt:(c - 3).toNat<ls.length:=by omega
  refine O5 (c - 3).toNat (D2 hlt) (by rw[wrap64 (by omega) (by omega)];omega) rfl ?_;refine zh ?_;(repeat clear U K);repeat intro K U
  refine AF ?_;rw[Ai,if_neg h,FD,D2 hlt];rfl
def DD (ls os:List (List Int)) (c:Int):Option (List (List Int)):=
 if(Ai ls c).any fun p=>(os.getD p.toNat []).isEmpty then none else some ((Ai ls c).map (fun p=>(os.getD p.toNat []).filter (· != 0))++[Ai ls c])
def gu (o:Option (List (List Int))):V:=match o with|some l=> .t [.l (Df l) false,.b true]|none=> .t [.l [] false,.b false]
def Ws (ls os:List (List Int)) (f:Bool) (w:V) (c:Int) (hc:c<3+ls.length) (hm:ls.length<=AX) (hos: ∀o∈os,o.length<=AX) (hpl:(Ai ls c).length<1000000)
    (hp: ∀p∈Ai ls c,0<=p/\p.toNat<os.length):Cl zP 289 [.l (Df ls) f,w,.i .i64 c] [.own w 1 (Df os)] fun r post=>r= .ret (gu (DD ls os c))/\post= [.own w 1 (Df os)]:=by
 have hM:=Mx;intro Z hs;refine dk kZ ?_
 conv=>whnf
 repeat((first|clear U K|apply st|(apply zk;intro K U)|fail);conv=>whnf)
 refine(Rf _ _ _ hc hm).use ?_;refine zh ?_;(repeat clear U K);repeat intro K U
 refine Cc (Ai ls c).length (fun k v=>[(8,v),(10,eI (BU k))]) (fun k v=>[.own w 1 (Df os),.own v 1 (Df (((Ai ls c).take k).map fun p=>(os.getD p.toNat []).filter (· != 0)))]) (fun k _=> ∀p∈(Ai ls c).take k,(os.getD p.toNat []).isEmpty=false)
  (.l [] true) rfl (by simp) (Gg hs 1) ?_
 rintro k v Z hk hne hs;refine zh ?_;(repeat clear U K);repeat intro K U
 refine Ej hk (by omega) (fun p hpk hlt=>?_) fun hk=>?_
 .obtain ⟨hp0,hp1⟩:=hp _ (Dx hpk)
  have hq:=D2 hp1
  have hgd:os.getD p.toNat []=os[p.toNat]:=by
   rw[FD,hq];rfl
  have hqm:(Df os)[p.toNat]? =some [.l (iL os[p.toNat]) false]:=by rw[NX,hq];rfl
  refine zh ?_;(repeat clear U K);repeat intro K U
  refine Gi hpk (by omega) rfl ?_;refine zh ?_;(repeat clear U K);repeat intro K U
  refine Uz hs 0 p.toNat rfl (by omega) (by simpa using hp1) ?_
  conv=>whnf
  refine F7 hs 0 rfl hqm ?_;refine zh ?_;(repeat clear U K);repeat intro K U
  refine Sy (fun he=>?_) (fun he=>?_)
  .refine zh ?_;(repeat clear U K);repeat intro K U
   have hn:DD ls os c=none:=by
    simp only[DD];rw[if_pos];rw[Ut];refine⟨p,Dx hpk,?_⟩;rw[hgd];have:(os[p.toNat]).length=0:=by simpa using he
    simp[XY.1 this]
   rw[hn];exact A4 (l':=[.own w 1 (Df os)]) hs (by simp) (.t (.cons (.l (fun h=>(by cases h)) .nil) (.cons (.refl _) .nil))) fun Z' hs'=>⟨_,⟨rfl,rfl⟩,hs'⟩
  .refine zh ?_;(repeat clear U K);repeat intro K U
   refine Gi hpk (by omega) rfl ?_;refine zh ?_;(repeat clear U K);repeat intro K U
   refine Uz hs 0 p.toNat rfl (by omega) (by simpa using hp1) ?_
   conv=>whnf
   refine F7 hs 0 rfl hqm ?_
   conv=>whnf
   refine(Lh _ _ _ (hos _ (List.getElem_mem hp1))).use ?_
   conv=>whnf
   refine E0 hs 1 (x:=os[p.toNat].filter (· != 0)) rfl (by have hM:=Mx;simp;omega) CM fun v' Z' hs'=>?_
   refine zh ?_;(repeat clear U K);repeat intro K U
   refine⟨hlt,v',rfl,fun q hm=>?_,?_⟩
   .rw [Aa hpk]at hm
    rcases FC.1 hm with hm|hm
    .exact hne q hm
    .rw[ME.1 hm,hgd]
     have:(os[p.toNat]).length≠0:=by
      intro e;exact he (by simp[e])
     cases hq:os[p.toNat]with
     | nil=>rw[hq]at this;exact absurd rfl this
     | cons _ _=>rfl
   .rw[Aa hpk,R8,List.map_singleton,hgd]
    exact hs'
 .rw[BN hk]at hne hs
  refine zh ?_;(repeat clear U K);repeat intro K U
  refine E0 hs 1 (x:=Ai ls c) rfl (by have hM:=Mx;simp;omega) CM fun v' Z' hs'=>?_
  refine zh ?_;(repeat clear U K);repeat intro K U
  have hn:DD ls os c=some ((Ai ls c).map (fun p=>(os.getD p.toNat []).filter (· != 0))++[Ai ls c]):=by
   simp only[DD];rw[if_neg];rw[Ut];rintro⟨p,h1,h2⟩;rw[hne p h1]at h2;cases h2
  rw[hn];obtain⟨Z2,h1,h2,h3⟩:=PC hs' 1 rfl;exact HD h1 (.t (.cons h2 (.cons (.refl _) .nil))) ⟨_,⟨rfl,rfl⟩,h3⟩
def PF {w:Ap} (h:Dg (.a (BC w))):w.parents.length<=AX/\(∀l∈w.parents,l.length<=AX)/\w.owner.length<=AX:=by
 simp only[BC,F4,C3,FK,Gw,BW]at h;exact⟨h.1.1,fun l hl=>(h.1.2 l hl).1.1,h.2.1.1⟩
def PG {xs:List Int} {g:Bool} (h:Dg (.l (iL xs) g)):xs.length<=AX:=by
 simp only[FK,BW]at h;exact h.1
def Mj {f:Fact} (h:Dg (.a (xF f))):f.kids.length<=AX/\f.path.length<=AX/\ ∀k∈f.kids,Dg (.a (xF k)):=by
 simp only[F4,C3,FK,Gw,BW]at h;exact⟨h.2.2.2.2.2.1.1,h.2.2.1.1,fun k hk=>by have:=h.2.2.2.2.2.1.2 k hk;rw[Br]at this;exact this⟩
def Nl (w:Ap) (c:Int):Bool:=decide (0<=c)&&decide (c<3+w.parents.length)
def XN (w:Ap) (c:Int):Pure zP 254 [.a (BC w),eI c] (.b (Nl w c)):=by
 refine Pure.fit (by kernel_rfl) fun hf=>?_
 have⟨h1,h2,h3⟩:=PF hf.1;have hM:=Mx;refine eE kZ ?_
 conv=>whnf
 repeat'((first|clear U K|apply st|(apply zk;intro K U)|refine zn ?_|refine za (fun hc=>?_) fun hc=>?_|fail)<;>conv=>whnf)
 .exact AF (by rw[BW,wrap64 (by omega) (by omega)];simp[Nl,hc])
 .exact AF (by simp[Nl,hc];intros;omega)
def HW (w:Ap) (s:Int):Bool:=decide (0<=s)&&decide (s<w.owner.length)
def FW (w:Ap) (p:List Int):Bool:=p.all (HW w)&&decide (p.length<=2)
def YQ (w:Ap) (p:List Int) (g:Bool):Pure zP 255 [.a (BC w),.l (iL p) g] (.b (FW w p)):=by
 refine Pure.fit (by kernel_rfl) fun hf=>?_
 have⟨h1,h2,h3⟩:=PF hf.1;have h4:=PG hf.2.1;have hM:=Mx;refine dz kZ ?_;refine zu ?_;(repeat clear U K);repeat intro K U
 refine Cc p.length (fun k (_:Unit)=>[(9,eI (BU k))]) (fun _ _=>[]) (fun k _=>p.all (HW w)=(p.drop k).all (HW w)) () rfl rfl Sat.nil ?_;rintro k - Z hk hn hs
 conv=>whnf
 repeat'((first|clear U K|apply st|(apply zk;intro K U)|refine zn ?_|(refine fc (fun x hx hlt hc=>?_) (fun hk hc=>?_)<;>(try rw[hc])<;>clear hc)|(refine zd (fun hc=>?_) (fun hc=>?_)<;>try exact⟨⟩)|fail)<;>conv=>whnf)
 .exact AF (by rw[FW,hn,drop_cons hx];simp[HW,hc];intros;omega)
 .exact⟨hlt,(),rfl,by rw[hn,drop_cons hx];simp[HW, *],hs⟩
 .exact AF (by rw[FW,hn,drop_cons hx];simp[HW,hc];intros;omega)
 .exact AF (by rw[FW,hn,Ax hk];simp;omega)
def CI (f:Fact):Bool:=f.op==2||f.op==3||f.op==4
def Sp (f:Fact):Pure zP 186 [.a (xF f)] (.b (CI f)):=by
 refine ei kZ ?_
 conv=>whnf
 repeat'((first|clear U K|apply st|(apply zk;intro K U)|refine zn ?_|refine za (fun hc=>?_) fun hc=>?_|fail)<;>conv=>whnf)
 all_goals exact AF (by simp[CI, *])
def Ch:List (Int->Int)->Int->Int->Int
 | [],n,_=>n
 | k::r,n,most=>if n<=most then Ch r (n+k (most - n)) most else n
def Bu (f:Fact):Int->Int:=f.IP fun _ l most=>Ch l 1 most
def HL (f:Fact) (most:Int):Bu f most=Ch (f.kids.map Bu) 1 most:=by
 rw[Bu,Fact.E6];rfl
def Lu {most:Int}: ∀(l:List (Int->Int)) (n:Int),(∀g∈l,∀m,0<=m->1<=g m/\g m<=m+1)->1<=n->n<=most+1->1<=Ch l n most/\Ch l n most<=most+1
 | [],n,_,h1,h2=>⟨h1,h2⟩
 | g ::r,n,h,h1,h2=>by
   rw[Ch];split
   .have:=h g (List.mem_cons_self ..) (most - n) (by omega)
    exact Lu r _ (fun g hg=>h g (List.mem_cons_of_mem _ hg)) (by omega) (by omega)
   .exact⟨h1,h2⟩
def H8 (f:Fact): ∀m,0<=m->1<=Bu f m/\Bu f m<=m+1:=by
 induction f using Fact.ind with
 | h f ih=>
   intro m hm;rw[HL];refine Lu _ _ (fun g hg=>?_) (by omega) (by omega);obtain⟨k,hk,rfl⟩:=Ol.1 hg;exact ih k hk
def Wi (f:Fact): ∀most:Int,0<=most->most<=1000->Pure zP 253 [.a (xF f),eI most] (eI (Bu f most)):=by
 induction f using Fact.ind with
 | h f ih=>
   intro most h0 h1;refine Pure.fit (by kernel_rfl) fun hf=>?_
   have⟨h2,h3,h4⟩:=Mj hf.1;have hM:=Mx;refine eF kZ ?_;refine zu ?_;(repeat clear U K);repeat intro K U
   refine Cc f.kids.length (fun k (n:Int)=>[(5,eI n),(6,eI (BU k))]) (fun _ _=>[]) (fun k n=>1<=n/\n<=most+1/\Bu f most=Ch ((f.kids.drop k).map Bu) n most) 1 rfl ⟨by omega,by omega,by rw[List.drop_zero];exact HL f most⟩ Sat.nil ?_;rintro k n Z hk ⟨hn1,hn2,hn⟩ hs
   conv=>whnf
   repeat'((first|clear U K|apply st|(apply zk;intro K U)|refine zn ?_|(refine fc (fun x hx hlt hc=>?_) (fun hk hc=>?_)<;>(try rw[hc])<;>clear hc)|refine za (fun hc=>?_) fun hc=>?_|fail)<;>conv=>whnf)
   .rw[wrap64 (by omega) (by omega)]
    have hb:=H8 x (most - n) (by omega);refine(ih x (Dx hx) (most - n) (by omega) (by omega)).use ?_;refine zu ?_;(repeat clear U K);repeat intro K U
    rw[wrap64 (by omega) (by omega)];exact⟨hlt,_,rfl,⟨by omega,by omega,by rw[hn,drop_cons hx,Fw,Ch,if_pos hc]⟩,hs⟩
   .exact AF (by rw[hn,drop_cons hx,Fw,Ch,if_neg (by omega)])
   .exact AF (by rw[hn,Ax hk];rfl)
def Wj (f:Fact):Pure zP 183 [.a (xF f)] (eI (Bu f 24)):=by
 refine er kZ ?_;refine zu ?_;(repeat clear U K);repeat intro K U
 refine(Wi f 24 (by omega) (by omega)).use ?_;exact zW
def JG (f:Fact):Nat:=f.IP fun _ l=>1+l.sum
def Jc (f:Fact):JG f=1+(f.kids.map JG).sum:=Fact.E6 _ f
def S7 {f k:Fact} (h:k∈f.kids):JG k<JG f:=by
 have: ∀l:List Fact,k∈l->JG k<=(l.map JG).sum:=fun l=>by
  induction l with
  | nil=>intro h;cases h
  | cons x r ih=>
    intro h;simp only[Fw,List.sum_cons];rcases HV.1 h with rfl|h
    .omega
    .have:=ih h;omega
 have:=this _ h;rw[Jc f];omega
def Lt {most:Int}: ∀(l:List Fact) (n:Int),(∀k∈l,∀m,0<=m->Bu k m<=m->Bu k m=JG k)->0<=n->Ch (l.map Bu) n most<=most->Ch (l.map Bu) n most=n+(l.map JG).sum
 | [],n,_,_,_=>by simp[Ch]
 | k :: r, n,h,h0,h1=>by
   simp only[Fw,Ch]at *;split at h1
   .rename_i hc
    rw[if_pos hc];have hb:=H8 k (most - n) (by omega)
    have hge: ∀(l:List Fact) (a:Int),a<=Ch (l.map Bu) a most:=fun l=>by
     induction l with
     | nil=>intro a;exact Int.le_refl _
     | cons y l ih=>
       intro a;simp only[Fw,Ch];split
       .have:=H8 y (most - a) (by omega)
        have:=ih (a+Bu y (most - a));omega
       .exact Int.le_refl _
    have h2:=hge r (n+Bu k (most - n));have h3:=h k (List.mem_cons_self ..) (most - n) (by omega) (by omega);have h4:=Lt r (n+Bu k (most - n)) (fun k' hk'=>h k' (List.mem_cons_of_mem _ hk')) (by omega) h1;simp only[List.sum_cons];omega
   .rename_i hc
    omega
def Ls (f:Fact): ∀m,0<=m->Bu f m<=m->Bu f m=JG f:=by
 induction f using Fact.ind with
 | h f ih=>
   intro m h0 h1;rw[HL]at *;rw[Lt f.kids 1 ih (by omega) h1,Jc];omega
def HU (a b:Int):Int:=if a<b then b else a
def C9 (f:Fact):Int:=f.IP fun _ l=>l.foldl HU 0+1
def Ft (f:Fact):C9 f=(f.kids.map C9).foldl HU 0+1:=Fact.E6 _ f
def Hj {m:Int}: ∀(l:List Int) (a:Int),(∀x∈l,x<=m)->a<=m->l.foldl HU a<=m
 | [],_,_,h=>h
 | x::r,a,h,h'=>by
   refine Hj r _ (fun y hy=>h y (List.mem_cons_of_mem _ hy)) ?_;have:=h x (List.mem_cons_self ..);unfold HU;split<;>omega
def Hi: ∀(l:List Int) (a:Int),a<=l.foldl HU a
 | [],_=>Int.le_refl _
 | x::r,a=>by
   refine Int.le_trans ?_ (Hi r _);unfold HU;split<;>omega
def R3 (f:Fact):1<=C9 f/\C9 f<=JG f:=by
 induction f using Fact.ind with
 | h f ih=>
   rw[Ft];have h1:=Hi (f.kids.map C9) 0
   have h2:(f.kids.map C9).foldl HU 0<=(JG f:Int) - 1:=by
    refine Hj _ _ (fun x hx=>?_) (by have:=Jc f;omega);obtain⟨k,hk,rfl⟩:=Ol.1 hx;have:=(ih k hk).2;have:=S7 hk;omega
   omega
def Em {α:Type} {xs:List α} {k:Nat} {x:α} {β:Type} (g:α->β) (h:β->β->β) (a:β) (hx:xs[k]? =some x):((xs.take (k+1)).map g).foldl h a=h (((xs.take k).map g).foldl h a) (g x):=by
 rw[Aa hx,R8,List.foldl_append];rfl
def XI (f:Fact):JG f<=AX->Pure zP 184 [.a (xF f)] (eI (C9 f)):=by
 induction f using Fact.ind with
 | h f ih=>
   intro hc;refine Pure.fit (by kernel_rfl) fun hf=>?_
   have⟨h2,h3,h4⟩:=Mj hf.1;have hM:=Mx;refine ep kZ ?_;refine zu ?_;(repeat clear U K);repeat intro K U
   refine Cc f.kids.length (fun k (_:Unit)=>[(3,eI (((f.kids.take k).map C9).foldl HU 0)),(9,eI (BU k))]) (fun _ _=>[]) (fun _ _=>True) () rfl trivial Sat.nil ?_;rintro k - Z hk - hs
   conv=>whnf
   repeat'((first|clear U K|apply st|(apply zk;intro K U)|refine zn ?_|refine zr fun Z hs=>?_|(refine fc (fun x hx hlt hc=>?_) (fun hk hc=>?_)<;>(try rw[hc])<;>clear hc)|refine zp fun nn hnn Z hs=>?_|fail)<;>conv=>whnf)
   .refine(ih x (Dx hx) (by have:=S7 (Dx hx);omega)).use ?_
    refine zu ?_;(repeat clear U K);repeat intro K U
    exact⟨hlt,(),by rw[Em _ _ _ hx];rfl,trivial,Sat.nil⟩
   .have:=R3 f
    rw[Ft]at this;exact AF (by rw[BN hk,wrap64 (by omega) (by omega),<-Ft])
def FH (f:Fact):Int:=f.IP fun f l=>l.foldl HU (if CI f then f.arg+1 else 0)
def HI (f:Fact):FH f=(f.kids.map FH).foldl HU (if CI f then f.arg+1 else 0):=Fact.E6 _ f
def Mm (f:Fact):Bool:=f.IP fun f l=>decide (0<=f.arg)&&decide (f.arg<3)&&l.all id
def Le (f:Fact):Mm f=(decide (0<=f.arg)&&decide (f.arg<3)&&(f.kids.map Mm).all id):=Fact.E6 _ f
def WW (f:Fact):Mm f=true->Pure zP 130 [.a (xF f)] (eI (FH f)):=by
 induction f using Fact.ind with
 | h f ih=>
   intro ha;refine Pure.fit (by kernel_rfl) fun hf=>?_
   have⟨h2,h3,h4⟩:=Mj hf.1;have hM:=Mx;rw[Le]at ha;simp only[Ba,DG,List.all_map,JD]at ha;refine fI kZ ?_;refine zu ?_;(repeat clear U K);repeat intro K U
   refine(Sp f).use ?_
   conv=>whnf
   repeat'((first|clear U K|apply st|(apply zk;intro K U)|refine zn ?_|refine za (fun hc=>?_) fun hc=>?_|fail)<;>conv=>whnf)
   .refine Cc f.kids.length (fun k (_:Unit)=>[(3,eI (((f.kids.take k).map FH).foldl HU (if CI f then f.arg+1 else 0))),(14,eI (BU k))]) (fun _ _=>[]) (fun _ _=>True) () (by rw[wrap64 (by omega) (by omega),if_pos hc];rfl) trivial Sat.nil ?_
    rintro k - Z hk - hs
    conv=>whnf
    repeat'((first|clear U K|apply st|(apply zk;intro K U)|refine zn ?_|refine zr fun Z hs=>?_|(refine fc (fun x hx hlt hc=>?_) (fun hk hc=>?_)<;>(try rw[hc])<;>clear hc)|refine zp fun nn hnn Z hs=>?_|fail)<;>conv=>whnf)
    .refine(ih x (Dx hx) (ha.2 x (Dx hx))).use ?_
     refine zu ?_;(repeat clear U K);repeat intro K U
     exact⟨hlt,(),by rw[Em _ _ _ hx];rfl,trivial,Sat.nil⟩
    .exact AF (by rw[BN hk,<-HI])
   .refine Cc f.kids.length (fun k (_:Unit)=>[(3,eI (((f.kids.take k).map FH).foldl HU (if CI f then f.arg+1 else 0))),(14,eI (BU k))]) (fun _ _=>[]) (fun _ _=>True) () (by rw[if_neg (c:=CI f=true) (by simp[hc])];rfl) trivial Sat.nil ?_
    rintro k - Z hk - hs
    conv=>whnf
    repeat'((first|clear U K|apply st|(apply zk;intro K U)|refine zn ?_|refine zr fun Z hs=>?_|(refine fc (fun x hx hlt hc=>?_) (fun hk hc=>?_)<;>(try rw[hc])<;>clear hc)|refine zp fun nn hnn Z hs=>?_|fail)<;>conv=>whnf)
    .refine(ih x (Dx hx) (ha.2 x (Dx hx))).use ?_
     refine zu ?_;(repeat clear U K);repeat intro K U
     exact⟨hlt,(),by rw[Em _ _ _ hx];rfl,trivial,Sat.nil⟩
    .exact AF (by rw[BN hk,<-HI])
def Cq (op:Int):Nat:=if op=5 then 1 else if op=6\/op=7 then 2 else 0
def Zg (w:Ap) (f:Fact):Bool:=
 if f.op=2 then f.n==0&&Nl w f.cls else if f.op=3\/f.op=4 then f.cls==0&&(decide (-1000000000<=f.n)&&decide (f.n<=1000000000))else f.op==1||f.op==5||f.op==6||f.op==7
def Dj (w:Ap) (f:Fact):Bool:=
 Zg w f&&(f.kids.length==Cq f.op&&(decide (0<=f.arg)&&(decide (f.arg<3)&&(FW w f.path&&(CI f||(f.arg==0&&(f.path.length==0&&(f.cls==0&&f.n==0))))))))
def Gk (w:Ap) (f:Fact):Bool:=f.IP fun f l=>Dj w f&&l.all id
def It (w:Ap) (f:Fact):Gk w f=(Dj w f&&f.kids.all (Gk w)):=by rw[Gk,Fact.E6,List.all_map];rfl
def LW {w:Ap} {f:Fact} (h:Dj w f=false):Gk w f=false:=by rw[It,h,Bool.false_and]
def iX {f:Fact} (h1:CI f=false) (h2:f.arg=0) (h3:(f.path.length:Int) > 0):true= !(CI f||(f.arg==0&&(f.path.length==0&&(f.cls==0&&f.n==0)))):=by
 have:(f.path.length==0)=false:=by simp;intro e;rw[e]at h3;simp at h3
 rw[this,h1,h2];rfl
def Yb (w : Ap) (f:Fact):Pure zP 185 [.a (BC w),.a (xF f)] (.b (Gk w f)):=by
 induction f using Fact.ind with
 | h f ih=>
   refine Pure.fit (by kernel_rfl) fun hf=>?_
   have⟨h2,h3,h4⟩:=Mj hf.2.1;have⟨w1,w2,w3⟩:=PF hf.1;have hM:=Mx;refine eo kZ ?_
   conv=>whnf
   repeat'((first|apply st|(apply sq;intro K U)|(apply si;intro A B hA hB)|(refine hA _ _ ?_;clear hB B hA A)|(apply U;clear U K)|refine⟨rfl,?_⟩|fail)<;>conv=>whnf)
   have hJ :=Mi U (fun(_:Unit)=>[(5,eI (Cq f.op))]) (fun _=>[]) (fun _=>Zg w f=true) [(2,.rp (BC w)),(3,.rp (xF f)),(5,eI 0)] (by
    clear U;rintro - Z ho -
    conv=>whnf
    repeat'((first|apply st|(apply sq;intro K U)|(apply si;intro A B hA hB)|refine⟨rfl,?_⟩|fail)<;>conv=>whnf)
    have hJ :=Mi U (fun(b:Bool)=>[(66,.b b)]) (fun _=>[]) (fun b=>b= !(f.kids.length==Cq f.op&&(decide (0<=f.arg)&&(decide (f.arg<3)&&FW w f.path)))) [(2,.rp (BC w)),(3,.rp (xF f)),(66,.b false)] (by
     clear U;rintro b Z hb -
     conv=>whnf
     repeat'((first|apply st|fail)<;>conv=>whnf)
     have hJ :=Mi U (fun(_:Unit)=>[]) (fun _=>[]) (fun _=>b=false) [(2,.rp (BC w)),(3,.rp (xF f))] (by
      clear U;rintro - Z hb' -;rw[hb']at hb
      conv=>whnf
      repeat'((first|apply st|(apply sq;intro K U)|(apply si;intro A B hA hB)|refine⟨kZ,?_⟩|refine Pure.use (Sp _) ?_|fail)<;>conv=>whnf)
      have hJ:=Mi U (fun(b:Bool)=>[(90,.b b)]) (fun _=>[]) (fun b=>b= !(CI f||(f.arg==0&&(f.path.length==0&&(f.cls==0&&f.n==0))))) [(2,.rp (BC w)),(3,.rp (xF f)),(90,.b false)] (by
       clear U;rintro b Z hb2 -
       conv=>whnf
       repeat'((first|apply st|fail)<;>conv=>whnf)
       have hJ:=Mi U (fun(_:Unit)=>[]) (fun _=>[]) (fun _=>b=false) [(2,.rp (BC w)),(3,.rp (xF f))] (by
        clear U;rintro - Z hb' -;rw[hb']at hb2
        have hh:Dj w f=true:=by
         have hb:(f.kids.length==Cq f.op&&(decide (0<=f.arg)&&(decide (f.arg<3)&&FW w f.path)))=true:=by rw[<-Bool.not_eq_false',<-hb]
         have hb2:(CI f||(f.arg==0&&(f.path.length==0&&(f.cls==0&&f.n==0))))=true:=by rw[<-Bool.not_eq_false',<-hb2]
         simp only[Ba]at hb;simp only[Dj,ho,hb.1,hb.2,hb2,Bool.and_self]
        conv=>whnf
        repeat'((first|apply st|(apply sq;intro K U)|(apply si;intro A B hA hB)|(refine hA _ _ ?_;clear hB B hA A)|(apply U;clear U K)|fail)<;>conv=>whnf)
        refine Cc f.kids.length (fun k (_:Unit)=>[(94,eI (BU k))]) (fun _ _=>[]) (fun k _=>Gk w f=(f.kids.drop k).all (Gk w)) () rfl (by rw[It,hh];rfl) Sat.nil ?_;rintro k - Z hk hn hs
        conv=>whnf
        repeat'((first|apply st|(apply sq;intro K U)|(apply si;intro A B hA hB)|(refine hA _ _ ?_;clear hB B hA A)|(apply U;clear U K)|refine⟨rfl,?_⟩|refine⟨kZ,?_⟩|refine iu ?_|refine ld ?_|refine sn fun Z hs=>?_|(refine fc (fun x hx hlt hc=>?_) (fun hk hc=>?_)<;>(try rw[hc])<;>clear hc)|(intro nn hnn;generalize hg:BO _ nn _=Z;refine al hg fun hs=>?_;clear hg)|clear U K)<;>conv=>whnf)
        .have hxm:=Dx hx
         refine(ih x hxm).use ?_
         conv=>whnf
         repeat'((first|apply st|(apply sq;intro K U)|(apply si;intro A B hA hB)|(refine hA _ _ ?_;clear hB B hA A)|(apply U;clear U K)|refine⟨rfl,?_⟩|(constructor<;>intro hc<;>(try rw[hc])<;>(replace hc:=bp hc))|clear U K)<;>conv=>whnf)
         .exact AF (by rw[hn,drop_cons hx];simp[hc])
         .exact⟨hlt,(),rfl,by rw[hn,drop_cons hx];simp[hc],Sat.nil⟩
        .exact AF (by rw[hn,Ax hk];rfl))
       clear U
       conv=>whnf
       repeat'((first|apply st|(apply sq;intro K U)|(apply si;intro A B hA hB)|(refine hA _ _ ?_;clear hB B hA A)|(apply U;clear U K)|(constructor<;>intro hc<;>(try rw[hc])<;>(replace hc:=bp hc))|fail)<;>conv=>whnf)
       .have hx:(CI f||(f.arg==0&&(f.path.length==0&&(f.cls==0&&f.n==0))))=false:=by rw[<-Bool.not_eq_true',<-hb2,hc]
        exact AF (by rw[LW];simp only[Dj,hx,Bool.and_false])
       .exact hJ () _ _ rfl hc Sat.nil)
      clear U;clear hb
      conv=>whnf
      repeat'((first|apply st|(refine hA _ _ ?_;clear hB B hA A)|refine⟨rfl,?_⟩|(constructor<;>intro hc<;>(try rw[hc])<;>(replace hc:=bp hc)<;>(try simp(disch:=omega) only[BW,wrap64,AJ]at hc))|fail)<;>conv=>whnf)
      .have hp:f.path.length=0:=by omega
       exact hJ _ _ _ rfl (by rw[hp];simp[*,bne]) Sat.nil
      .exact hJ true _ _ rfl (by simp[*]) Sat.nil
      .exact hJ true _ _ rfl (iX (by assumption) (by assumption) hc) Sat.nil
      .exact hJ true _ _ rfl (by simp[*]) Sat.nil
      .exact hJ false _ _ rfl (by simp[*]) Sat.nil)
     clear U
     conv=>whnf
     repeat'((first|apply st|(apply sq;intro K U)|(apply si;intro A B hA hB)|(refine hA _ _ ?_;clear hB B hA A)|(apply U;clear U K)|(constructor<;>intro hc<;>(try rw[hc])<;>(replace hc:=bp hc))|fail)<;>conv=>whnf)
     .have hx:(f.kids.length==Cq f.op&&(decide (0<=f.arg)&&(decide (f.arg<3)&&FW w f.path)))=false:=by rw[<-Bool.not_eq_true',<-hb,hc]
      exact AF (by rw[LW];simp only[Dj];simp only[Bool.and_eq_false_iff]at hx ⊢;rcases hx with h|h|h|h<;>simp[h])
     .exact hJ () _ _ rfl hc Sat.nil)
    clear U
    conv=>whnf
    repeat'((first|apply st|(refine hA _ _ ?_;clear hB B hA A)|refine⟨rfl,?_⟩|refine⟨kZ,?_⟩|refine Pure.use (YQ _ _ _) ?_|(constructor<;>intro hc<;>(try rw[hc])<;>(replace hc:=bp hc)<;>(try simp(disch:=omega) only[BW,wrap64,AJ]at hc))|fail)<;>conv=>whnf)
    all_goals exact hJ _ _ _ rfl (by simp[*]<;>omega) Sat.nil)
   clear U
   conv=>whnf
   repeat'((first|apply st|(apply sq;intro K U)|(apply si;intro A B hA hB)|(refine hA _ _ ?_;clear hB B hA A)|(apply U;clear U K)|refine⟨rfl,?_⟩|refine⟨kZ,?_⟩|refine Pure.use (XN _ _) ?_|(constructor<;>intro hc<;>(try rw[hc])<;>(replace hc:=bp hc))|fail)<;>conv=>whnf)
   all_goals first
    | exact AF (by rw[LW];simp only[Dj,Zg];simp[*]<;>omega)
    | exact hJ () _ _ (by simp[Cq, *];rfl) (by simp[Zg, *]<;>omega) Sat.nil
end Go.Gl
