import Derived.Test.YtinppljblkpedaaGreatU14
import Derived.Test.YtinppljblkpedaaGreatU21
import Derived.Test.YtinppljblkpedaaGreatU24
import Derived.Test.YtinppljblkpedaaGreatU30
import Derived.Test.YtinppljblkpedaaGreatU31
set_option linter.all false
set_option linter.defProp false
set_option maxHeartbeats 8000000
noncomputable section
namespace Go.Gl
def NH {most:Int}: ∀(l:List Fact) (n:Int),(∀k∈l,∀m:Int,(CC k:Int)<=m->B5 k m=CC k)->n+(l.map CC).sum<=most->DD (l.map B5) n most=n+(l.map CC).sum
 | [],n,_,_=>by simp[DD]
 | k::r,n,h,h1=>by
   simp only[CK,List.sum_cons,DD]at *;rw[if_pos (by omega),h k (.head _) (most - n) (by omega),NH r _ (fun k' hk'=>h k' (.tail _ hk')) (by omega)];omega
def Uy (f:Fact): ∀m:Int,(CC f:Int)<=m->B5 f m=CC f:=by
 induction f using Fact.ind with
 | h f ih=>
   intro m hm;rw[Ig];rw[EU]at *;rw[NH f.kids 1 ih (by omega)];omega
def dc (f:Fact) {m:Int} (h0:0<=m):B5 f m<=m↔(CC f:Int)<=m:=
 ⟨fun h=>by rw[<-G3 f m h0 h];exact h,fun h=>by rw[Uy f m h];exact h⟩
def p7 (f:Fact):1<=CC f:=by rw[EU];omega
def G9 {m:Int}: ∀(l:List Int) (a:Int),l.foldl HN a<=m↔a<=m/\ ∀x∈l,x<=m
 | [],a=>by simp
 | x ::r,a=>by
   rw[List.foldl_cons,G9 r];unfold HN;constructor
   .rintro⟨h1,h2⟩
    refine⟨by split at h1<;>omega,fun y hy=>?_⟩;rcases Ep.1 hy with rfl|hy
    .split at h1<;>omega
    .exact h2 y hy
   .rintro⟨h1,h2⟩
    have hx:=h2 x (.head _);exact⟨by split<;>omega,fun y hy=>h2 y (.tail _ hy)⟩
def lu (f:Fact) {m:Int}:ET f<=m↔1<=m/\ ∀k∈f.kids,ET k<=m - 1:=by
 rw[Im];constructor
 .intro h
  have:=(G9 (m:=m - 1) (f.kids.map ET) 0).1 (by omega);exact⟨by omega,fun k hk=>this.2 _ (List.mem_map_of_mem hk)⟩
 .rintro⟨h1,h2⟩
  have:=(G9 (m:=m - 1) (f.kids.map ET) 0).2 ⟨by omega,fun x hx=>by
   obtain⟨k,hk,rfl⟩:=GK.1 hx
   exact h2 k hk⟩
  omega
def gG (w:AF) (f:Fact) (left deep:Int):Prop:=(CC f:Int)<=left/\ET f<=deep/\Ae w f=true
def TR (w:AF) {deep:Int}: ∀(l:List Fact) (left:Int),0<=left->left<=24->(∀k∈l,∀left:Int,0<=left->left<=24->((Es w k left deep).1=true↔gG w k left deep)/\((Es w k left deep).1=true->(Es w k left deep).2=left - CC k))->
    ((By (fun k s=>Es w k s deep) l left).1=true↔((l.map CC).sum:Int)<=left/\ ∀k∈l,ET k<=deep/\Ae w k=true)/\((By (fun k s=>Es w k s deep) l left).1=true->(By (fun k s=>Es w k s deep) l left).2=left - ((l.map CC).sum:Nat))
 | [],left,h0,h1,_=>by simp[By];exact h0
 | k ::r,left,h0,h1,h=>by
   obtain⟨ha,hb⟩:=h k (.head _) left h0 h1;simp only[By,CK,List.sum_cons];cases hk:(Es w k left deep).1
   .simp only[JX,if_false,false_iff,false_implies,and_true]
    rintro⟨h2,h3⟩;have:=ha.2 ⟨by omega,(h3 k (.head _)).1,(h3 k (.head _)).2⟩;rw[hk]at this;cases this
   .obtain⟨g1,g2,g3⟩:=ha.1 hk
    have hc:=p7 k;rw[if_pos rfl,hb hk];obtain⟨i1,i2⟩:=TR w r (left - CC k) (by omega) (by omega) fun k' hk'=>h k' (.tail _ hk')
    refine⟨i1.trans ⟨fun⟨e1,e2⟩=>⟨by omega,fun x hx=>?_⟩,fun⟨e1,e2⟩=>⟨by omega,fun x hx=>e2 x (.tail _ hx)⟩⟩,fun h=>by rw[i2 h];omega⟩;rcases Ep.1 hx with rfl|hx
    .exact⟨g2,g3⟩
    .exact e2 x hx
def oY (w : AF) (f:Fact): ∀left deep:Int,0<=left->left<=24->0<=deep->((Es w f left deep).1=true↔gG w f left deep)/\((Es w f left deep).1=true->(Es w f left deep).2=left - CC f):=by
 induction f using Fact.ind with
 | h f ih=>
   intro left deep h0 h1 hd;have hw:IntKind.i64.wrap (left - 1)=left - 1:=wrap64 (by omega) (by omega);rw[IM,hw];have hc:=EU f;have hn:=BS w f;have hdl:=lu f (m:=deep)
   have hko:CE w f=true->f.kids.length=Bp f.op:=fun h=>by
    simp only[CE,A4,CF]at h;exact h.2.1
   have hop:CE w f=true->1<=f.op/\f.op<=7:=fun h=>by
    simp only[CE,A4]at h;have h1:=h.1;unfold PY at h1;split at h1
    .omega
    split at h1
    .omega
    simp at h1;omega
   by_cases hbad:left - 1<0\/deep=0\/f.op<1\/7<f.op\/f.kids.length≠Bp f.op
   .rw[if_pos hbad]
    simp only[JX,false_iff,false_implies,and_true];rintro⟨g1,g2,g3⟩;rw[hn,A4]at g3;have g4:=hko g3.1;have g5:=hop g3.1;have g6:=(hdl.1 g2).1;omega
   rw[if_neg hbad];by_cases hl:Be f=true
   .rw [if_pos hl]
    have hl':f.op=2\/f.op=3\/f.op=4:=by
     simp only[Be,EW,CF]at hl;omega
    have hk0:f.kids= []:=by
     have:f.kids.length=Bp f.op:=by omega
     rw[Bp,if_neg (by omega),if_neg (by omega)]at this;exact Xv.1 this
    have hd1:ET f=1:=by rw[Im,hk0];rfl
    have hc1:CC f=1:=by rw[hc,hk0];rfl
    have hh:CE w f=Nf w f:=by
     unfold CE PY Nf;rw[hl,hk0];have e:Bp f.op=0:=by rw[Bp,if_neg (by omega),if_neg (by omega)]
     rw[e];simp only[List.length_nil,beq_self_eq_true,Cc,Bool.true_or,Bool.and_true];rcases hl' with e|e|e
     .rw[if_pos e,if_pos e]
      cases(f.n==0&&O1 w f.cls)<;>simp
     .rw[if_neg (show¬f.op=2 by omega),if_neg (show¬f.op=2 by omega),if_pos (show f.op=3\/f.op=4 from .inl e)]
      cases(f.cls==0&&(decide (-1000000000<=f.n)&&decide (f.n<=1000000000)))<;>simp
     .rw[if_neg (show¬f.op=2 by omega),if_neg (show¬f.op=2 by omega),if_pos (show f.op=3\/f.op=4 from .inr e)]
      cases(f.cls==0&&(decide (-1000000000<=f.n)&&decide (f.n<=1000000000)))<;>simp
    refine⟨⟨fun h=>⟨by omega,by omega,?_⟩,fun⟨_,_,h⟩=>?_⟩,fun _=>by dsimp only;omega⟩
    .rw[hn,hk0,hh];simpa using h
    .rw[hn,hk0,hh]at h;simpa using h
   .have hl':f.op=1\/f.op=5\/f.op=6\/f.op=7:=by
     simp only[Be,EW,CF]at hl;omega
    have hlf:Be f=false:=by simpa using hl
    rw[if_neg hl];by_cases hz:f.arg≠0\/0<f.path.length\/f.cls≠0\/f.n≠0
    .rw[if_pos hz]
     simp only[JX,false_iff,false_implies,and_true];rintro⟨g1,g2,g3⟩;rw[hn,A4]at g3;have g4:=g3.1;simp only[CE,hlf,Bool.false_or,A4,CF]at g4;omega
    .rw [if_neg hz]
     obtain⟨i1,i2⟩:=TR w (deep:=deep - 1) f.kids (left - 1) (by omega) (by omega) fun k hk left hl0 hl1=>ih k hk left (deep - 1) hl0 hl1 (by omega)
     have hh:CE w f=true:=by
      have hp:f.path= []:=Xv.1 (by omega)
      have e1:PY w f=true:=by
       unfold PY;rw[if_neg (by omega),if_neg (by omega)];simp only[EW,CF];omega
      have z1:f.arg=0:=by omega
      have z2:f.cls=0:=by omega
      have z3:f.n=0:=by omega
      have z4:f.kids.length=Bp f.op:=by omega
      simp[CE,e1,hlf,hp,z1,z2,z3,z4,EH]
     refine⟨i1.trans ⟨fun⟨e1,e2⟩=>⟨by omega,hdl.2 ⟨by omega,fun k hk=>(e2 k hk).1⟩,?_⟩,fun⟨g1,g2,g3⟩=>⟨by omega,fun k hk=>⟨(hdl.1 g2).2 k hk,?_⟩⟩⟩,fun h=>by rw[i2 h];omega⟩
     .rw[hn,hh,Cc,Cu]
      exact fun k hk=>(e2 k hk).2
     .rw[hn,hh,Cc,Cu]at g3
      exact g3 k hk
def Ki (w:AF) (f:Fact):JK w f=Ba w f:=by
 have:=(oY w f 24 12 (by omega) (by omega) (by omega)).1;rw[JK,Ba,Hl,this,gG];simp only[A4,B7];rw[dc f (by omega)]
end Go.Gl
namespace Go.Gl
open Go.Proofs
attribute [local irreducible] As Ag AY AQ AL AX AP AR AK AW AM AN Ai Ap Sat AT An AZ W
def OH {α S:Type} (stp:α->S->Bool×S) (D:α->S->Prop):List α->S->Prop
 | [],_=>True
 | y::r,s=>D y s/\((stp y s).1=true->OH stp D r (stp y s).2)
section
variable {α β S:Type} {stp:α->S->Bool×S} {D:α->S->Prop}
def KC: ∀(A B:List α) (s:S),By stp (A++B) s=if(By stp A s).1 then By stp B (By stp A s).2 else(false,(By stp A s).2)
 | [],B,s=>by simp[By]
 | y::r,B,s=>by
   rw[List.cons_append,By,By];cases(stp y s).1
   .rfl
   .simpa using KC r B (stp y s).2
def NB (l:α) (s:S):By stp [l] s=stp l s:=by
 rw[By,By];rcases stp l s with⟨b,s'⟩;cases b<;>rfl
def MX: ∀ {A B:List α} {s:S},OH stp D (A++B) s->OH stp D A s/\((By stp A s).1=true->OH stp D B (By stp A s).2)
 | [],B,s,h=>⟨trivial,fun _=>h⟩
 | y ::r,B,s,h=>by
   obtain⟨h1,h2⟩:=h;rw[OH,By];cases hy:(stp y s).1
   .exact⟨⟨h1,fun h=>(by cases h)⟩,fun h=>(by simp at h)⟩
   .obtain⟨h3,h4⟩:=MX (h2 hy)
    exact⟨⟨h1,fun _=>h3⟩,by simpa using h4⟩
def PD {A:List α}: ∀ {B:List α} {s:S},(∀y∈B,y∈A)->OH stp D B s->OH stp (fun y s=>y∈A/\D y s) B s
 | [],_,_,_=>trivial
 | y::r,_,hm,h=>⟨⟨hm y (.head _),h.1⟩,fun hy=>PD (fun z hz=>hm z (.tail _ hz)) (h.2 hy)⟩
def aS {g:β->α}: ∀ {B:List β} {s:S},OH stp D (B.map g) s->OH (fun b s=>stp (g b) s) (fun b s=>D (g b) s) B s
 | [],_,_=>trivial
 | y::r,_,h=>⟨h.1,fun hy=>aS (h.2 hy)⟩
end
section
variable {S:Type} {stp:List Fact->S->Bool×S} {D:List Fact->S->Prop}
def TQ (B:List (List Fact)): ∀(A:List (List Fact)) (s:S),By stp (F2 A B) s=By (fun x s=>By (fun y s=>stp (Cv x y) s) B s) A s
 | [],s=>rfl
 | x::r,s=>by
   have ih:=TQ B r;rw[F2,List.flatMap_cons,KC,NC,By];simp only[F2]at ih;rw[ih]
def WQ (B:List (List Fact)): ∀ {A:List (List Fact)} {s:S},OH stp D (F2 A B) s->OH (fun x s=>By (fun y s=>stp (Cv x y) s) B s) (fun x s=>OH (fun y s=>stp (Cv x y) s) (fun y s=>D (Cv x y) s) B s) A s
 | [],_,_=>trivial
 | x::r,s,h=>by
   rw[F2,List.flatMap_cons]at h;obtain⟨h1,h2⟩:=MX h;refine⟨aS h1,fun hy=>?_⟩;rw[NC]at h2;exact WQ B (h2 hy)
end
abbrev K6 (l:List Fact) (b:Bool):V:= .l (Dt l) b
def SX {S:Type} (x:V) (H:S->List At) (stp:List Fact->S->Bool×S) (D:List Fact->S->Prop):Prop:= ∀b,Cw zP x (fun l=>K6 l b) H stp D
abbrev Tu (n:Nat):V:= .f (.func 123) [] [.p n 0]
def Sy {f:Fact} (hl:Be f=true) (c:Bool):Ja (if c then Ca f else f)=xF f++[.b c]:=by
 have:=Fw hl;cases c with
 | true=>rfl
 | false=>
   have h5: ¬f.op=5:=by omega
   simp only[Ja,JX,if_false,Ad,if_neg h5]
def WalkC (f:Fact):Prop:= ∀(c:Bool) (S:Type) (fn:Fn) (fi ca:List V) (H:S->List At) (stp:List Fact->S->Bool×S) (D:List Fact->S->Prop) (nW:Nat) (s:S),
 SX (.f fn fi ca) (fun s=> .box nW [Tu nW]::H s) stp D->OH stp D (BV f c) s-> ∀Z,Sat Z (.box nW [Tu nW]::H s)->
  Ai zP (Tu nW) [.a (xF f),.b c,.f fn fi ca] Z fun r Z'=>r= .ret (.b (By stp (BV f c) s).1)/\Sat Z' (.box nW [Tu nW]::H (By stp (BV f c) s).2)
def mE {w:AF} {S:Type} {fn:Fn} {fi ca:List V} {H:S->List At} {stp:List Fact->S->Bool×S} {D:List Fact->S->Prop} (hT:SX (.f fn fi ca) H stp D) {k0 k1:Fact} {c:Bool} (hn0:Ae w k0=true) (hn1:Ae w k1=true) (hv0:lv k0<=100) (hv1:lv k1<=100) {a:List Fact} (ha:a∈BV k0 c) (fa:Bool) :
    SX (.f (.func 126) [] [.rp [.f fn fi ca],.rp [K6 a fa]]) H (fun y s=>stp (Cv a y) s) (fun y s=>y∈BV k1 c/\D (Cv a y) s):=by
 rintro b y s ⟨hy,hd⟩ Z hs;refine A0 ?_;show As zP 126 ([]++[K6 y b]++[.rp [.f fn fi ca],.rp [K6 a fa]]) Z _;have hla:=(G8 k0 (Al _ hn0) c).2 a ha;have hly:=(G8 k1 (Al _ hn1) c).2 y hy;have hM:=Mx;refine xd kZ ?_
 conv=>whnf
 repeat'((first|clear U K|apply st|(apply zk;intro K U)|refine rk ?_ ?_|exact fun s e=>by cases e;rfl|refine Pure.use (dn (w:=w) a y fa b (DB k0 hn0 c a ha) (DB k1 hn1 c y hy) (by omega)) ?_|fail)<;>conv=>whnf)
 refine(hT false).use hd hs ?_;clear hs;intro Z hs;refine zz ?_;(repeat clear U K);repeat intro K U
 exact AJ ⟨rfl,hs⟩
def mF {w:AF} {S:Type} {fn:Fn} {fi ca:List V} {H:S->List At} {stp:List Fact->S->Bool×S} {D:List Fact->S->Prop} {nW:Nat} (hT:SX (.f fn fi ca) (fun s=> .box nW [Tu nW]::H s) stp D) {f k0 k1:Fact} (hk:f.kids= [k0,k1]) {c:Bool} (hn0:Ae w k0=true) (hn1:Ae w k1=true) (hv0:lv k0<=100) (hv1:lv k1<=100) (hw1:WalkC k1) :
    SX (.f (.func 125) [] [.p nW 0,.rp (xF f),.rp [.b c],.rp [.f fn fi ca]]) (fun s=> .box nW [Tu nW]::H s) (fun a s=>By (fun y s=>stp (Cv a y) s) (BV k1 c) s) (fun a s=>a∈BV k0 c/\OH (fun y s=>stp (Cv a y) s) (fun y s=>D (Cv a y) s) (BV k1 c) s):=by
 rintro fa a s ⟨ha,hd⟩ Z hs;refine A0 ?_;show As zP 125 ([]++[K6 a fa]++[.p nW 0,.rp (xF f),.rp [.b c],.rp [.f fn fi ca]]) Z _;have h1:f.kids[(1:Int).toNat]? =some k1:=by rw[hk];rfl
 refine xe kZ ?_;refine zz ?_;(repeat clear U K);repeat intro K U
 refine(hw1 c S _ _ _ H _ _ nW s (mE hT hn0 hn1 hv0 hv1 ha fa) (PD (fun y hy=>hy) hd) Z hs).mono ?_;clear hs;rintro r Z ⟨rfl,hs⟩;refine zz ?_;(repeat clear U K);repeat intro K U
 exact AJ ⟨rfl,hs⟩
def nY {w : AF} (f:Fact):Ae w f=true->lv f<=100->WalkC f:=by
 induction f using Fact.ind with
 | h f ih=>
   intro hn hv c S fn fi ca H stp D nW s hT hd Z hs;have har:=Al _ hn
   have hnk: ∀k∈f.kids,Ae w k=true:=by
    rw[BS,A4,Cu]at hn;exact hn.2
   have hop:f.op=1\/f.op=5\/Be f=true\/f.op=6\/f.op=7:=by
    rw[BS,A4]at hn;have h1:=hn.1;simp only[CE,PY,A4]at h1;rw[Mw];simp only[A4,B7];have h2:=h1.1;split at h2
    .omega
    .split at h2
     .omega
     .simp only[EW,CF]at h2
      omega
   refine A0 ?_;show As zP 123 ([]++[.a (xF f),.b c,.f fn fi ca]++[.p nW 0]) Z _;refine xh kZ ?_;rw[Fm,Hw]at hd;have hcs:=Fm f c;rw[Hw]at hcs;rcases hop with h1|h5|hl|h67
   .rw[if_pos h1]at hd hcs
    rw[hcs];cases c
    .rw[if_neg (by decide)]at hd ⊢
     rw[NB]
     conv=>whnf
     repeat'((first|clear U K|apply st|(apply zk;intro K U)|refine zY ?_|(refine zb (fun hc=>?_) (fun hc=>?_)<;>try exact⟨⟩)|fail)<;>conv=>whnf)
     refine(hT true).use (y:=[]) hd.1 hs ?_;clear hs;intro Z hs;refine zz ?_;(repeat clear U K);repeat intro K U
     exact AJ ⟨rfl,hs⟩
    .rw[if_pos rfl]at hd ⊢
     conv=>whnf
     repeat'((first|clear U K|apply st|(apply zk;intro K U)|refine zY ?_|(refine zb (fun hc=>?_) (fun hc=>?_)<;>try exact⟨⟩)|fail)<;>conv=>whnf)
     exact AJ ⟨rfl,hs⟩
   .obtain⟨k,hk,-⟩:=ED har h5
    have hkm:k∈f.kids:=by rw[hk];exact .head _
    have hvk:lv k<=100:=by
     rw[Js,Ze,if_pos h5,hk]at hv;exact hv
    rw[if_neg (by omega),if_pos h5,hk]at hd hcs;have hcs2:BV f c=BV k (!c):=hcs;have h0:f.kids[(0:Int).toNat]? =some k:=by rw[hk];rfl
    rw[hcs2]
    conv=>whnf
    repeat'((first|clear U K|apply st|(apply zk;intro K U)|refine zY ?_|(refine zb (fun hc=>?_) (fun hc=>?_)<;>try exact⟨⟩)|fail)<;>conv=>whnf)
    refine(ih k hkm (hnk k hkm) hvk (!c) S _ _ _ H stp D nW s hT hd Z hs).mono ?_;clear hs;rintro r Z ⟨rfl,hs⟩;refine zz ?_;(repeat clear U K);repeat intro K U
    exact AJ ⟨rfl,hs⟩
   .have hlo:=Fw hl
    have hlB:=PI f;rw[hl]at hlB;rw[if_neg (by omega),if_neg (by omega),if_neg (by omega)]at hd hcs;have hcs2:BV f c= [[if c then Ca f else f]]:=by rw[hcs];cases c<;>rfl
    rw[<-hcs,hcs2]at hd;rw[hcs2,NB]
    have e:K6 [if c then Ca f else f] true= .l [xF f++[.b c]] true:=by
     show V.l [Ja (if c then Ca f else f)] true=_;rw[Sy hl]
    have hst:=(hT true) [if c then Ca f else f] s hd.1;simp only[e]at hst
    conv=>whnf
    repeat'((first|clear U K|apply st|(apply zk;intro K U)|refine zY ?_|refine hlB.use ?_|(refine zb (fun hc=>?_) (fun hc=>?_)<;>try exact⟨⟩)|fail)<;>conv=>whnf)
    refine(hst Z hs).mono ?_;clear hs;rintro r Z ⟨rfl,hs⟩;refine zz ?_;(repeat clear U K);repeat intro K U
    exact AJ ⟨rfl,hs⟩
   .obtain⟨k0,k1,hk,-,-⟩:=EC har h67
    have hkm0:k0∈f.kids:=by rw[hk];exact .head _
    have hkm1:k1∈f.kids:=by rw[hk];exact .tail _ (.head _)
    have hlf:Be f=false:=by rw[Mw,decide_eq_false (show¬f.op<=4 by omega),Bool.and_false]
    have hlB:=PI f;rw[hlf]at hlB
    have hvk:lv k0+lv k1<=100:=by
     rw[Js,Ze,if_neg (by omega),if_pos h67,hk]at hv;exact hv
    rw[if_neg (by omega),if_neg (by omega),if_pos h67,hk]at hd hcs;have h0:f.kids[(0:Int).toNat]? =some k0:=by rw[hk];rfl
    have h1:f.kids[(1:Int).toNat]? =some k1:=by rw[hk];rfl
    have i0:=ih k0 hkm0 (hnk k0 hkm0) (by omega);have i1:=ih k1 hkm1 (hnk k1 hkm1) (by omega);by_cases hap:(c != (f.op==7))=true
    .rw [if_pos hap]at hd hcs
     have hcs2:BV f c=BV k0 c++BV k1 c:=hcs;have hd2:OH stp D (BV k0 c++BV k1 c) s:=hd;obtain⟨hd3,hd4⟩:=MX hd2;rw[hcs2,KC];clear hcs hcs2 hd hd2;rcases h67 with h6|h7
     .have h6b:(f.op==6)=true:=by rw[h6];rfl
      have hct:c=true:=by rw[h6]at hap;cases c<;>simp_all
      subst hct
      conv=>whnf
      repeat'((first|clear U K|apply st|(apply zk;intro K U)|refine zY ?_|refine hlB.use ?_|(rw[h6b])|(refine zb (fun hc=>?_) (fun hc=>?_)<;>try exact⟨⟩)|fail)<;>conv=>whnf)
      refine(i0 true S _ _ _ H stp D nW s hT hd3 Z hs).mono ?_;clear hs;rintro r Z ⟨rfl,hs⟩;generalize By stp (BV k0 true) s=x at *;obtain⟨b1,s1⟩:=x;cases b1
      .refine zz ?_;(repeat clear U K);repeat intro K U
       exact AJ ⟨rfl,hs⟩
      .refine zz ?_;(repeat clear U K);repeat intro K U
       refine(i1 true S _ _ _ H stp D nW s1 hT (hd4 rfl) Z hs).mono ?_;clear hs;rintro r Z ⟨rfl,hs⟩;refine zz ?_;(repeat clear U K);repeat intro K U
       exact AJ ⟨rfl,hs⟩
     .have h6b:(f.op==6)=false:=by rw[h7];rfl
      have hct:c=false:=by rw[h7]at hap;cases c<;>simp_all
      subst hct
      conv=>whnf
      repeat'((first|clear U K|apply st|(apply zk;intro K U)|refine zY ?_|refine hlB.use ?_|(rw[h6b])|(refine zb (fun hc=>?_) (fun hc=>?_)<;>try exact⟨⟩)|fail)<;>conv=>whnf)
      refine(i0 false S _ _ _ H stp D nW s hT hd3 Z hs).mono ?_;clear hs;rintro r Z ⟨rfl,hs⟩;generalize By stp (BV k0 false) s=x at *;obtain⟨b1,s1⟩:=x;cases b1
      .refine zz ?_;(repeat clear U K);repeat intro K U
       exact AJ ⟨rfl,hs⟩
      .refine zz ?_;(repeat clear U K);repeat intro K U
       refine(i1 false S _ _ _ H stp D nW s1 hT (hd4 rfl) Z hs).mono ?_;clear hs;rintro r Z ⟨rfl,hs⟩;refine zz ?_;(repeat clear U K);repeat intro K U
       exact AJ ⟨rfl,hs⟩
    .rw[if_neg hap]at hd hcs
     have hcs2:BV f c=F2 (BV k0 c) (BV k1 c):=hcs;have hd2:OH stp D (F2 (BV k0 c) (BV k1 c)) s:=hd;have hd3:=WQ _ hd2;have hT2:=mF hT hk (c:=c) (hnk k0 hkm0) (hnk k1 hkm1) (by omega) (by omega) i1;rw[hcs2,TQ];clear hcs hcs2 hd hd2;rcases h67 with h6|h7
     .have h6b:(f.op==6)=true:=by rw[h6];rfl
      have hct:c=false:=by rw[h6]at hap;cases c<;>simp_all
      subst hct
      conv=>whnf
      repeat'((first|clear U K|apply st|(apply zk;intro K U)|refine zY ?_|refine hlB.use ?_|(rw[h6b])|(refine zb (fun hc=>?_) (fun hc=>?_)<;>try exact⟨⟩)|fail)<;>conv=>whnf)
      refine(i0 false S _ _ _ H _ _ nW s hT2 (PD (fun y hy=>hy) hd3) Z hs).mono ?_;clear hs;rintro r Z ⟨rfl,hs⟩;refine zz ?_;(repeat clear U K);repeat intro K U
      exact AJ ⟨rfl,hs⟩
     .have h6b:(f.op==6)=false:=by rw[h7];rfl
      have hct:c=true:=by rw[h7]at hap;cases c<;>simp_all
      subst hct
      conv=>whnf
      repeat'((first|clear U K|apply st|(apply zk;intro K U)|refine zY ?_|refine hlB.use ?_|(rw[h6b])|(refine zb (fun hc=>?_) (fun hc=>?_)<;>try exact⟨⟩)|fail)<;>conv=>whnf)
      refine(i0 true S _ _ _ H _ _ nW s hT2 (PD (fun y hy=>hy) hd3) Z hs).mono ?_;clear hs;rintro r Z ⟨rfl,hs⟩;refine zz ?_;(repeat clear U K);repeat intro K U
      exact AJ ⟨rfl,hs⟩
def iS {w:AF} (f:Fact) (hn:Ae w f=true) (hv:lv f<=100) (c:Bool) {S:Type} {fn:Fn} {fi ca:List V} {H:S->List At} {stp:List Fact->S->Bool×S} {D:List Fact->S->Prop} {s:S} (hT: ∀nW,SX (.f fn fi ca) (fun s=> .box nW [Tu nW]::H s) stp D) (hd:OH stp D (BV f c) s) (Z:AE) (hs:Sat Z (H s)) :
    As zP 122 [.f fn fi ca,.rp (xF f),.rp [.b c]] Z fun r Z'=>r= .ret (.t [])/\Sat Z' (H (By stp (BV f c) s).2):=by
 refine xi kZ ?_
 conv=>whnf
 repeat'((first|clear U K|apply st|(apply zk;intro K U)|refine zY ?_|refine zs fun Z hs=>?_|refine zo fun nn hnn Z hs=>?_|fail)<;>conv=>whnf)
 refine(nY f hn hv c S fn fi ca H stp D nn s (hT nn) hd Z hs).mono ?_;clear hs;rintro r Z ⟨rfl,hs⟩
 conv=>whnf
 repeat'((first|clear U K|apply st|fail)<;>conv=>whnf)
 exact AJ ⟨rfl,hs.less (Gg _ _)⟩
def W7 (f:Fact) (c:Bool):Pure zP 62 [.a (xF f),.b c] (.f (.func 122) [] [.rp (xF f),.rp [.b c]]):=by
 refine AAV kZ ?_;have hs:=Sn;exact zW
abbrev Pc (w:AF) (l:List Fact) (s:Bool):Bool×Bool:=if EN w l then(false,true)else(true,s)
def XD {w:AF}: ∀(cs:List (List Fact)),By (Pc w) cs false=(!cs.any (EN w),cs.any (EN w))
 | []=>rfl
 | l::r=>by
   rw[By,Rq];simp only[Pc];cases h:EN w l
   .simpa using XD r
   .rfl
def aT {w:AF} {G:List Fact->Prop}: ∀ {cs:List (List Fact)},(∀l∈cs,G l)->OH (Pc w) (fun l s=>s=false/\G l) cs false
 | [],_=>trivial
 | l ::r,h=>⟨⟨rfl,h l (.head _)⟩,fun hy=>by
     cases ht:EN w l
     .have e:(Pc w l false).2=false:=by simp[Pc,ht]
      rw[e];exact aT fun x hx=>h x (.tail _ hx)
     .simp[Pc,ht]at hy⟩
abbrev yJ (w:AF) (L:Nat) (E:Env) (ok:FuncId->Array Tmp->Code->Code->Nat->Prop) (nF:Nat):Prop:=
 No zP L E ok (fun(x:List Fact×Bool)=>[K6 x.1 x.2]) (fun s:Bool=>[.box nF [.b s]]) (fun _=>True) (fun x s=>if EN w x.1 then .stop (.exit 0) true else .go s) (fun x s=>s=false/\(∀y∈x.1,DS w y)/\x.1.length<900)
def pU {w:AF} (f:Fact) (hn:Ae w f=true) (hv:lv f<=100) {L:Nat} {E:Env} {ok:FuncId->Array Tmp->Code->Code->Nat->Prop} {nF:Nat} (hY:yJ w L E ok nF) (Z:AE) (hs:Sat Z [.obj L (.loop .ready E ok),.box nF [.b false]]) :
    As zP 122 [.f (.yield L) [] [],.rp (xF f),.rp [.b false]] Z fun r Z'=>r= .ret (.t [])/\Sat Z' [.obj L (.loop (if Ry w f then .exit 0 else .ready) E ok),.box nF [.b (Ry w f)]]:=by
 have hg:=iS f hn hv false (fn:= .yield L) (fi:=[]) (ca:=[]) (H:=fun s:Bool=>[.obj L (.loop (if s then .exit 0 else .ready) E ok),.box nF [.b s]]) (stp:=Pc w) (D:=fun l s=>s=false/\(∀y∈l,DS w y)/\l.length<900) (s:=false) (by
  rintro nW b l s ⟨rfl,hl,hlen⟩ Z hs;refine hY.use (y:=(l,b)) (s:=false) ⟨rfl,hl,hlen⟩ (rest:=[.box nW [Tu nW]]) (hs.perm (JH _ _ _ _)) ?_;intro r Z' hq;cases ht:EN w l
  .simp only[ht,JX,if_false]at hq
   obtain⟨rfl,hs'⟩:=hq;have e:Pc w l false=(true,false):=by simp[Pc,ht]
   rw[e];exact⟨rfl,hs'.perm (JH _ _ _ _).symm⟩
  .simp only[ht,if_true]at hq
   obtain⟨rfl,hs'⟩:=hq;have e:Pc w l false=(false,true):=by simp[Pc,ht]
   rw[e]
   exact⟨rfl,hs'.perm (JH _ _ _ _).symm⟩) (aT fun l hl=>⟨DB f hn false l hl,by have:=(G8 f (Al _ hn) false).2 l hl;omega⟩) Z hs
 rw[XD]at hg;exact hg
def jL (w:AF) (hw:BR w) (f:Fact) (hn:Ae w f=true) (hv:lv f<=100):Pure zP 61 [.rp (wC w (Ah w.parents)),.a (xF f)] (.b (Ry w f)):=by
 refine Pure.of ?_;refine AAW kZ ?_;have hs:=Sn
 conv=>whnf
 repeat'((first|clear U K|apply st|(apply zk;intro K U)|refine zY ?_|refine zs fun Z hs=>?_|refine Pure.use (W7 _ _) ?_|refine zo fun nn hnn Z hs=>?_|fail)<;>conv=>whnf)
 rename_i _ nF hnF _ _ _ _;refine As.mono (pU (w:=w) f hn hv (L:=nn) (nF:=nF) ?_ Z hs) ?_
 .refine Oc (fun y=>rfl) ?_
  clear hs hnn hnF;rintro⟨l,b⟩ s ⟨rfl,hl,hlen⟩ rest Z hs;dsimp only at hl hlen;have htg:=OY w hw l b hl hlen;dsimp only;cases ht:EN w l<;>rw[ht]at htg
  .conv=>whnf
   repeat'((first|clear U K|apply st|(apply zk;intro K U)|refine htg.use ?_|fail)<;>conv=>whnf)
   intro hn;exact WI (H:=fun s:Bool=>[.box nF [.b s]]) (J:=fun _=>True) (s:=false) rfl hs hn
  .conv=>whnf
   repeat'((first|clear U K|apply st|(apply zk;intro K U)|refine zs fun Z hs=>?_|refine htg.use ?_|fail)<;>conv=>whnf)
   intro hn;exact Ys (H:=fun s:Bool=>[.box nF [.b s]]) (J:=fun _=>True) (s:=true) (st:= .exit 0) rfl hs hn
 .clear hs hnn hnF
  cases hp:Ry w f
  .rintro r Z ⟨rfl,hs⟩
   refine Gy hs fun Z hs=>?_
   refine zz ?_;(repeat clear U K);repeat intro K U
   exact AJ (by rw[hp])
  .rintro r Z ⟨rfl,hs⟩
   refine Q6 hs fun Z hs=>?_
   refine zz ?_;(repeat clear U K);repeat intro K U
   exact AJ (by rw[hp])
def tN (f:Fact):Pure zP 262 [.a (xF f)] (.a (xF (Ca f))):=by
 refine il kZ ?_;have hs:=Sn
 conv=>whnf
 repeat'((first|clear U K|apply st|(apply zk;intro K U)|refine zX ?_|refine zr fun Z hs=>?_|refine zp fun nn hnn Z hs=>?_|fail)<;>conv=>whnf)
 refine Af (.a (.cons (.refl _) (.cons (.refl _) (.cons Bm (.cons (.refl _) (.cons (.refl _) (.cons ?_ .nil)))))));refine .l (fun h=>by cases h) ?_;simp only[Ca,Fact.kids,List.map,BC];exact C2 _
def yD (f g:Fact):Pure zP 324 [.a (xF f),.a (xF g)] (.a (xF (Jd f g))):=by
 refine vB kZ ?_;have hs:=Sn
 conv=>whnf
 repeat'((first|clear U K|apply st|(apply zk;intro K U)|refine zX ?_|refine zr fun Z hs=>?_|refine zp fun nn hnn Z hs=>?_|fail)<;>conv=>whnf)
 refine Af (.a (.cons (.refl _) (.cons (.refl _) (.cons Bm (.cons (.refl _) (.cons (.refl _) (.cons ?_ .nil)))))));refine .l (fun h=>by cases h) ?_;simp only[Jd,Fact.kids,List.map,BC];exact C2 _
def Ly (w:AF) (hw:BR w) (a b:Fact) (ha:Ae w a=true) (hb:Ae w b=true) (hl:lv a+lv b<=100):Pure zP 266 [.rp (wC w (Ah w.parents)),.a (xF a),.a (xF b)] (.b (O0 w a b)):=by
 have hcan:=jL w hw (Jd a (Ca b)) (WY ha hb) (by rw[tj];exact hl);refine vr kZ ?_;have hs:=Sn
 conv=>whnf
 repeat'((first|clear U K|apply st|(apply zk;intro K U)|refine zY ?_|refine rk ?_ ?_|exact fun s e=>by cases e;rfl|refine Pure.use (tN _) ?_|refine Pure.use (yD _ _) ?_|refine hcan.use ?_|fail)<;>conv=>whnf)
 all_goals exact AG rfl
def e9 (w:AF) (hw:BR w) (a b:Fact) (ha:Ba w a=true) (hb:Ba w b=true) (hna:Ae w a=true) (hnb:Ae w b=true) (hl:lv a+lv b<=100):Pure zP 404 [.a (A5 w),.a (xF a),.a (xF b)] (.t [.b (O0 w a b),eI 0]):=by
 have hrd: ∀f,Pure zP 60 [.a (A5 w),.l [xF a,xF b] f] (.t [.rp (wC w (Ah w.parents)),.b true]):=fun f=>by
  have:=KY w hw [a,b] f (by simp);rw[show([a,b].all (JK w))=true by simp[Ki,ha,hb]]at this;simpa[BC]using this
 have hip:=Ly w hw a b hna hnb hl;refine uU kZ ?_;have hs:=Sn
 conv=>whnf
 repeat'((first|clear U K|apply st|(apply zk;intro K U)|refine zY ?_|refine Pure.use (hrd _) ?_|refine hip.use ?_|fail)<;>conv=>whnf)
 all_goals exact AG rfl
end Go.Gl
namespace Go.Gl
open Go.Proofs
def Sv {w:AF} (more:List Nat) (f:Fact):Ae w f=true->Ae (C4 w more) f=true:=by
 induction f using Fact.ind with
 | h f ih=>
   intro h;rw[BS,A4,Cu]at h ⊢;refine⟨?_,fun k hk=>ih k hk (h.2 k hk)⟩;have h1:=h.1;rw[CE,A4]at h1 ⊢;refine⟨?_,h1.2⟩;have h2:=h1.1;rw[PY]at h2 ⊢;split at h2
   .rename_i e
    rw[if_pos e];rw[A4]at h2 ⊢;refine⟨h2.1,?_⟩;have h3:=h2.2;simp only[O1,A4,B7]at h3 ⊢
    have:((C4 w more).parents.length:Int)=w.parents.length+more.length:=by
     show((w.parents++_).length:Int)=_;rw[HQ,Bc];omega
    omega
   .rename_i e
    rw[if_neg e];exact h2
def Dp (w:AF) (ls:List Fact):List (Int×Int)×Gj:=
 let r0:=EO w (kn ls) 0 2 [] ([],[])
 let r1:=EO w (kn ls) 1 2 [] r0.2
 let r2:=EO w (kn ls) 2 2 [] r1.2
 ([r0.1,r1.1,r2.1],r2.2)
def tn (ls:List Fact):(VJ ls 0).length+(VJ ls 1).length+(VJ ls 2).length<=ls.length:=by
 have:=Ml (fun l:Fact=>some (Ad l).1.arg) (AA:=[(0:Int),1,2]) (by decide) ls;simp only[CK,List.map_nil,List.sum_cons,List.sum_nil]at this;simp only[VJ];omega
def iB {w:AF} (hw:Fu w) (hn:w.parents.length<=20) {ls:List Fact} (hl: ∀l∈ls,CQ w l) (hll:ls.length<=12) (h:Ow w (kn ls)=true) :
    Fu (C4 w (Dp w ls).2.1)/\Oy (C4 w (Dp w ls).2.1) (Dp w ls).2.2/\(∀v∈(Dp w ls).1,DH (Dp w ls).2.2.length v=true)/\(Dp w ls).1.length=3/\(Dp w ls).2.1.length<=27/\
    ∀f,Ae w f=true->Cj f<=3->E9 (C4 w (Dp w ls).2.1) (Dp w ls).2.2 (Dp w ls).1 f=LD w (fun a=>cD w (kn ls) a 2 []) f:=by
 rw[Ow,Cu]at h;have c0:=h 0 (BW.2 (by omega));have c1:=h 1 (BW.2 (by omega));have c2:=h 2 (BW.2 (by omega));have g0:=T4 hw hl 0 2 [] rfl c0 ([],[]);have g1:=T4 hw hl 1 2 [] rfl c1 (EO w (kn ls) 0 2 [] ([],[])).2;have g2:=T4 hw hl 2 2 [] rfl c2 (EO w (kn ls) 1 2 [] (EO w (kn ls) 0 2 [] ([],[])).2).2;have n0:=QV hl 0 2 [] ([],[]) rfl;have n1:=QV hl 1 2 [] (EO w (kn ls) 0 2 [] ([],[])).2 rfl;have n2:=QV hl 2 2 [] (EO w (kn ls) 1 2 [] (EO w (kn ls) 0 2 [] ([],[])).2).2 rfl;have m0:=YR hl 0;have m1:=YR hl 1;have m2:=YR hl 2;have m3:=tn ls;rw[Dp];dsimp only;generalize EO w (kn ls) 0 2 [] ([],[])=r0 at *;generalize EO w (kn ls) 1 2 [] r0.2=r1 at *;generalize EO w (kn ls) 2 2 [] r1.2=r2 at *;obtain⟨v0,s0⟩:=r0;obtain⟨v1,s1⟩:=r1;obtain⟨v2,s2⟩:=r2;dsimp only at *
 have hos:s2.2.length<=27/\s2.1.length<=27:=by
  simp only[List.length_nil,GZ]at n0;omega
 have hcl: ∀m∈s2.1,JO w m:=g2.ok (g1.ok (g0.ok fun m hm=>by cases hm));have l0:=g1.o1.length_le;have l1:=g2.o1.length_le;obtain⟨a0,b0,d0⟩:=g0.fin s2.1 s2.2 hcl (g1.m1.trans g2.m1) ⟨by omega,fun i _ hi=>by rw[Fv g2.o1 (by omega),Fv g1.o1 hi]⟩;obtain⟨a1,b1,d1⟩:=g1.fin s2.1 s2.2 hcl g2.m1 ⟨by omega,fun i _ hi=>Fv g2.o1 hi⟩;obtain⟨a2,b2,d2⟩:=g2.fin s2.1 s2.2 hcl (List.prefix_refl _) ⟨by omega,fun i _ hi=>rfl⟩
 have hlen:(C4 w s2.1).parents.length=w.parents.length+s2.1.length:=by
  show(w.parents++_).length=_;rw[HQ,Bc]
 have hall: ∀o∈s2.2,sE (C4 w s2.1) s2.2 o:=fun o ho=>by
  obtain⟨i,hi⟩:=List.getElem?_of_mem ho;have hil:=(Ip.1 hi).1;by_cases h0:i<s0.2.length
  .exact d0 i o (Nat.zero_le _) h0 (by rw[<-Fv g1.o1 h0,<-Fv g2.o1 (by omega)];exact hi)
  .by_cases h1:i<s1.2.length
   .exact d1 i o (by omega) h1 (by rw[<-Fv g2.o1 h1];exact hi)
   .exact d2 i o (by omega) hil hi
 have hwB:Fu (C4 w s2.1):=⟨by rw[hlen];omega,Mf hw.ord _,fun c hc=>by have:=hw.own c hc;rw[hlen];omega,hw.sC⟩
 have hoB:Oy (C4 w s2.1) s2.2:=⟨by omega,fun o ho=>(hall o ho).1,fun o ho=>(hall o ho).2.1,fun o ho=>(hall o ho).2.2⟩
 have hvB: ∀v∈[v0,v1,v2],DH s2.2.length v=true:=fun v hv=>by
  simp only[Ep,List.not_mem_nil,or_false]at hv;rcases hv with rfl|rfl|rfl
  .exact a0
  .exact a1
  .exact a2
 refine⟨hwB,hoB,hvB,rfl,hos.2,fun f hf hs=>?_⟩;rw[<-ph hwB hoB hvB f (Sv _ f hf) hs];refine(sj (w':=C4 w s2.1) hw rfl (fun a ha ha3=>?_) f hf).symm;have:a=0\/a=1\/a=2:=by omega
 rcases this with rfl|rfl|rfl
 .exact b0
 .exact b1
 .exact b2
def oh {w:AF} (hw:Fu w) {ls:List Fact} (hl: ∀l∈ls,CQ w l) (h:Ow w (kn ls)=true):(∀a,0<=a->a<3->E0 w (cD w (kn ls) a 2 []))/\ ∀l∈ls,E4 w (fun a=>cD w (kn ls) a 2 []) l:=by
 rw[Ow,Cu]at h;have hk: ∀a:Int,0<=a->a<3->_:=fun a h0 h3=>YQ hw hl a 2 [] rfl (h a (BW.2 ⟨h0,h3⟩))
 exact⟨fun a h0 h3=>(hk a h0 h3).1,fun l hm=>(hk _ (hl l hm).arg.1 (hl l hm).arg.2).2 l hm rfl _ rfl⟩
end Go.Gl
namespace Go.Gl
variable {P:Program} {Z:AE}
def LB.fz {L:Nat} {args:List V} {Q Q':R->AE->Prop} (h:LB P L args Z Q) (hq: ∀r Z',Q r Z'->(∃b,r= .ret (.b b))/\ ∃Z2,rn Z' Z2/\Q' r Z2):LB P L args Z Q':=by
 intro F w cs hR hv;obtain⟨f,tmps,assign,body,h1,h2⟩:=h F w cs hR hv;refine⟨f,tmps,assign,body,h1,h2.mono fun e w' ⟨r,Z',hq1,hr,hR',hA⟩=>?_⟩;obtain⟨⟨b,rfl⟩,Z2,hf,hq2⟩:=hq r Z' hq1;obtain⟨c,rfl,hc⟩:=hr;exact⟨_,Z2,hq2,⟨c,rfl,by simp only[Ac]at hc ⊢;exact hc⟩,hR'.fz hf,hA.trans (B8.fz w' hf)⟩
end Go.Gl
