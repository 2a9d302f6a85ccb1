import Derived.Test.YtcfkfhaedllcpaaGreatRows
import Derived.HandedShaped
import Derived.Test.YtcfkfhaedllcpaaGreatU14
import Derived.Test.YtcfkfhaedllcpaaGreatU18
import Derived.Test.YtcfkfhaedllcpaaGreatU20
set_option linter.all false
set_option linter.defProp false
set_option maxHeartbeats 8000000
noncomputable section
namespace Go.Proofs.YtcfkfhaedllcpaaGreat
open Go.Gl Go.ChangeShapes Go.WideShapes Go.ChangeAt Go.RowKit
theorem own:ownKnob Tryz.prog.godebug=none:=by kernel_rfl
def laidOut:laidOutB Tryz.prog=true:=by kernel_rfl
def DT {a b:Bool} (h1:a=true) (h2:b=true):(a&&b)=true:=by rw[h1,h2];rfl
abbrev HE (w:World):=Hh (fun _=>False) emp w
def fu {w:World} {n:Int} (h:(Lit.int .i64 n).wf=true):AQ (HE w) (eI n) (.int .i64 n):=by
 simp only[Lit.wf,Ba,DG]at h;simp only[AQ];exact⟨trivial,h⟩
def ga {w:World} {cs:Array Value} {p:Prog} (hp:cs.toList.length=(A7 p).length/\A8 (HE w) (fun i=>cs.toList[i]?) 0 (A7 p)):AQ (HE w) (.a (A7 p)) (.agg cs):=by
 simp only[AQ];exact⟨cs,rfl,by simpa using hp.1,by simpa using hp.2⟩
def jd {n:Int} (h:(Lit.int .i64 n).wf=true):n<=9223372036854775807:=by
 simp only[Lit.wf,Ba,DG]at h;exact h.2
def jX {w:World} {cs:Array Value} {q:II} (hp:cs.toList.length=(FG q).length/\A8 (HE w) (fun i=>cs.toList[i]?) 0 (FG q)):AQ (HE w) (.a (FG q)) (.agg cs):=by
 simp only[AQ];exact⟨cs,rfl,by simpa using hp.1,by simpa using hp.2⟩
end Go.Proofs.YtcfkfhaedllcpaaGreat
namespace Go.Gl
open Go.Proofs
attribute [local irreducible] BD A3 Au AS AL Ao AU AV AM An AP AT BF BM Sat Af BK Aw W
def JW (w:Ap) (f:Fact):Bool:=decide (0<=f.arg)&&(decide (f.arg<3)&&(FW w f.path&&(if f.op=2 then f.n==0&&Nl w f.cls else f.cls==0&&(decide (-1000000000<=f.n)&&decide (f.n<=1000000000)))))
def DP (w:Ap) (f:Fact):Int->Int->Bool×Int:=f.IP fun f l left deep=>
 if IntKind.i64.wrap (left - 1)<0\/deep=0\/f.op<1\/7<f.op\/f.kids.length≠Cq f.op then(false,IntKind.i64.wrap (left - 1))else
 if CI f then(JW w f,IntKind.i64.wrap (left - 1))else
 if f.arg≠0\/0<f.path.length\/f.cls≠0\/f.n≠0 then(false,IntKind.i64.wrap (left - 1))else
 FU (fun(k:Int->Int->Bool×Int) s=>k s (deep - 1)) l (IntKind.i64.wrap (left - 1))
def P5 {α β S:Type} (g:α->β) (stp:β->S->Bool×S): ∀(l:List α) (s:S),FU stp (l.map g) s=FU (fun a s=>stp (g a) s) l s
 | [],_=>rfl
 | a::r,s=>by simp only[Fw,FU,P5 g stp r]
def Fc (w:Ap) (f:Fact) (left deep:Int):DP w f left deep =
    if IntKind.i64.wrap (left - 1)<0\/deep=0\/f.op<1\/7<f.op\/f.kids.length≠Cq f.op then(false,IntKind.i64.wrap (left - 1))else
    if CI f then(JW w f,IntKind.i64.wrap (left - 1))else
    if f.arg≠0\/0<f.path.length\/f.cls≠0\/f.n≠0 then(false,IntKind.i64.wrap (left - 1))else
    FU (fun k s=>DP w k s (deep - 1)) f.kids (IntKind.i64.wrap (left - 1)):=by
 rw[DP,Fact.E6,P5];rfl
def SE {w:Ap} {f:Fact} {left deep L1:Int} {b:Bool} {nL:Nat} {Z:AE} (hs:Sat Z [.box nL [eI L1]]) (h:DP w f left deep=(b,L1)):A3 Z (.b b) fun r Z'=> ∃post:List At,(r=R.ret (.b (DP w f left deep).1)/\post= [.box nL [eI (DP w f left deep).2]])/\Sat Z' post:=by
 rw[h];exact Cj ⟨_,⟨rfl,rfl⟩,hs⟩
def Ya (w:Ap) (us:List Nat) (hw1:w.parents.length<=60) (hw2:w.owner.length<=60) (nL:Nat) (f:Fact): ∀(left deep:Int),0<=deep->deep<=12->
    Cl zP 334 [.rp (wC w us),.a (xF f),.p nL 0,eI deep] [.box nL [eI left]] fun r post=>r= .ret (.b (DP w f left deep).1)/\post= [.box nL [eI (DP w f left deep).2]]:=by
 induction f using Fact.ind with
 | h f ih=>
   intro left deep hd0 hd1 Z hs;refine BD.fit (by kernel_rfl) fun hf=>?_
   have⟨h2,h3,h4⟩:=Mj hf.2.1;have hM:=Mx;have hdw:IntKind.i64.wrap (deep - 1)=deep - 1:=wrap64 (by omega) (by omega);refine dL kZ ?_
   have hstep:Dm zP (.f (.func 368) [] [.rp [.rp (wC w us)],.rp [.p nL 0],.rp [eI deep]]) (fun y=> .a (xF y)) (fun s=>[.box nL [eI s]]) (fun k s=>DP w k s (deep - 1)) (fun y _=>y∈f.kids/\deep≠0):=by
    rintro y s ⟨hy,hdn⟩ Z hs;refine Ct ?_;show BD zP 368 ([]++[.a (xF y)]++[.rp [.rp (wC w us)],.rp [.p nL 0],.rp [eI deep]]) Z _;refine dA kZ ?_;refine zz ?_;(repeat clear U K);repeat intro K U
    rw[hdw];refine(ih y hy s (deep - 1) (by omega) (by omega)).use (rest:=[]) hs ?_;rintro r post Z ⟨rfl,rfl⟩ hs;refine zz ?_;(repeat clear U K);repeat intro K U
    exact Cj ⟨rfl,hs⟩
   conv=>whnf
   repeat'((first|clear U K|apply st|(apply zk;intro K U)|refine zY ?_|refine rk ?_ ?_|exact fun s e=>by cases e;rfl|refine zs fun Z hs=>?_|refine Pure.use (Yi _) ?_|refine Pure.use (Ym _) ?_|refine Pure.use (XM w us _ hw1) ?_|refine Pure.use (YP w us _ _ hw2) ?_|(refine zd (fun hc=>?_) (fun hc=>?_)<;>try exact⟨⟩)|fail)<;>conv=>whnf)
   all_goals first
    | (refine SE hs ?_;rw[Fc,if_pos (by omega)];done)
    | (refine SE hs ?_;rw[Fc,if_neg (by omega),if_pos (by assumption)];simp[JW, *];done)
    | (refine SE hs ?_;rw[Fc,if_neg (by omega),if_pos (by assumption)];simp[JW, *];intros;omega)
    | (refine SE hs ?_;rw[Fc,if_neg (by omega),if_neg (by simp[*]),if_pos (by omega)];done)
    | skip
   refine(V4 368 [] _ _ _ _ hstep f.kids false (IntKind.i64.wrap (left - 1)) h2 (JU fun y hy _=>⟨hy,by omega⟩)).use (rest:=[]) hs ?_;have hE:=Fc w f left deep;rw[if_neg (by omega),if_neg (by simp[*]),if_neg (by omega)]at hE;rw[<-hE];rintro r post Z ⟨rfl,rfl⟩ hs;refine zz ?_;(repeat clear U K);repeat intro K U
   exact Cj ⟨_,⟨rfl,rfl⟩,hs⟩
def J5 (w:Ap) (f:Fact):Bool:=(DP w f 24 12).1
def UL (w:Ap) (us:List Nat) (hw1:w.parents.length<=60) (hw2:w.owner.length<=60) (f:Fact):Pure zP 333 [.a (xF f),.rp [.rp (wC w us)]] (.b (J5 w f)):=by
 refine Pure.of ?_;refine dM kZ ?_;have hs:=Sn
 conv=>whnf
 repeat'((first|clear U K|apply st|(apply zk;intro K U)|refine zY ?_|refine zs fun Z hs=>?_|refine zo fun nn hnn Z hs=>?_|fail)<;>conv=>whnf)
 refine(Ya w us hw1 hw2 _ f 24 12 (by omega) (by omega)).use (rest:=[]) hs ?_;rintro r post Z ⟨rfl,rfl⟩ hs;refine zz ?_;(repeat clear U K);repeat intro K U
 exact Cj rfl
def ZZ {g:FuncId} {fi ca:List V} {f:Fact->Bool} {xs:List Fact} (b:Bool) (hl:xs.length<=AX) (h: ∀y∈xs,Pure zP g (fi++[.a (xF y)]++ca) (.b (f y))):Pure zP 332 [.l (facts xs) b,.f (.func g) fi ca] (.b (xs.all f)):=by
 have:=V4 g fi ca (fun _=>[]) (fun y (_:Unit)=>(f y,())) (fun y _=>y∈xs) (fun y s hy Z hs=>Ct (BD.mono ((h y hy).use (k:=fun v Z'=>v= .b (f y)/\Sat Z' []) (kp:=fun _ _=>False) ⟨rfl,Sat.nil⟩) (by
  rintro(v|v) Z' hq
  .obtain⟨rfl,h⟩:=hq
   exact⟨rfl,h⟩
  .exact hq.elim))) xs b () hl (JU fun y hy _=>hy)
 rw[HO]at this;exact Pure.of (BD.mono (this emp Sat.nil) fun r Z' ⟨post,⟨h1,h2⟩,h3⟩=>h1)
def UN (w:Ap) (us:List Nat) (hw1:w.parents.length<=60) (hw2:w.owner.length<=60) (l:List Fact) (b:Bool) (hl:l.length<=60):Pure zP 299 [.rp (wC w us),.l (facts l) b] (.b (l.all (J5 w))):=by
 have hall:=ZZ (g:=333) (fi:=[]) (ca:=[.rp [.rp (wC w us)]]) (f:=J5 w) (xs:=l) b (by simp only[AX];omega) fun y _=>UL w us hw1 hw2 y
 refine dc kZ ?_;have hs:=Sn;exact zW
def YL (w:Ap) (hw:PE w) (l:List Fact) (b:Bool) (hl:l.length<=60):Pure zP 266 [.a (BC w),.l (facts l) b] (.t [.rp (wC w (Xn w.parents)),.b (l.all (J5 w))]):=by
 have hfo:=UN w (Xn w.parents) (by have:=hw.1.1;omega) (by have:=hw.2.1;omega) l b hl;refine dq kZ ?_;have hs:=Sn
 conv=>whnf
 repeat'((first|clear U K|apply st|(apply zk;intro K U)|refine zY ?_|refine Pure.use (YU w hw) ?_|refine hfo.use ?_|fail)<;>conv=>whnf)
 all_goals exact AF rfl
def Ul (w:Ap) (hw:PE w) (f:Fact):Pure zP 204 [.a (BC w),.a (xF f)] (eI (if J5 w f then 0 else 2)):=by
 have hfo: ∀b,Pure zP 266 [.a (BC w),.l [GR f] b] (.t [.rp (wC w (Xn w.parents)),.b (J5 w f)]):=fun b=>by
  have:=YL w hw [f] b (by simp);simpa using this
 refine eQ kZ ?_;have hs:=Sn;refine zz ?_;(repeat clear U K);repeat intro K U
 rw[Br]at hfo;refine(hfo _).use ?_
 conv=>whnf
 repeat'((first|clear U K|apply st|(apply zk;intro K U)|refine Pure.use (RY _) ?_|fail)<;>conv=>whnf)
 exact AF rfl
end Go.Gl
namespace Go.Gl
def I1 {most:Int}: ∀(l:List Fact) (n:Int),(∀k∈l,∀m:Int,(JG k:Int)<=m->Bu k m=JG k)->n+(l.map JG).sum<=most->Ch (l.map Bu) n most=n+(l.map JG).sum
 | [],n,_,_=>by simp[Ch]
 | k::r,n,h,h1=>by
   simp only[Fw,List.sum_cons,Ch]at *;rw[if_pos (by omega),h k (.head _) (most - n) (by omega),I1 r _ (fun k' hk'=>h k' (.tail _ hk')) (by omega)];omega
def OV (f:Fact): ∀m:Int,(JG f:Int)<=m->Bu f m=JG f:=by
 induction f using Fact.ind with
 | h f ih=>
   intro m hm;rw[HL];rw[Jc]at *;rw[I1 f.kids 1 ih (by omega)];omega
def T3 (f:Fact) {m:Int} (h0:0<=m):Bu f m<=m↔(JG f:Int)<=m:=
 ⟨fun h=>by rw[<-Ls f m h0 h];exact h,fun h=>by rw[OV f m h];exact h⟩
def ZQ (f:Fact):1<=JG f:=by rw[Jc];omega
def Et {m:Int}: ∀(l:List Int) (a:Int),l.foldl HU a<=m↔a<=m/\ ∀x∈l,x<=m
 | [],a=>by simp
 | x ::r,a=>by
   rw[List.foldl_cons,Et r];unfold HU;constructor
   .rintro⟨h1,h2⟩
    refine⟨by split at h1<;>omega,fun y hy=>?_⟩;rcases HV.1 hy with rfl|hy
    .split at h1<;>omega
    .exact h2 y hy
   .rintro⟨h1,h2⟩
    have hx:=h2 x (.head _);exact⟨by split<;>omega,fun y hy=>h2 y (.tail _ hy)⟩
def XH (f:Fact) {m:Int}:C9 f<=m↔1<=m/\ ∀k∈f.kids,C9 k<=m - 1:=by
 rw[Ft];constructor
 .intro h
  have:=(Et (m:=m - 1) (f.kids.map C9) 0).1 (by omega);exact⟨by omega,fun k hk=>this.2 _ (List.mem_map_of_mem hk)⟩
 .rintro⟨h1,h2⟩
  have:=(Et (m:=m - 1) (f.kids.map C9) 0).2 ⟨by omega,fun x hx=>by
   obtain⟨k,hk,rfl⟩:=Ol.1 hx
   exact h2 k hk⟩
  omega
def VL (w:Ap) (f:Fact) (left deep:Int):Prop:=(JG f:Int)<=left/\C9 f<=deep/\Gk w f=true
def NQ (w:Ap) {deep:Int}: ∀(l:List Fact) (left:Int),0<=left->left<=24->(∀k∈l,∀left:Int,0<=left->left<=24->((DP w k left deep).1=true↔VL w k left deep)/\((DP w k left deep).1=true->(DP w k left deep).2=left - JG k))->
    ((FU (fun k s=>DP w k s deep) l left).1=true↔((l.map JG).sum:Int)<=left/\ ∀k∈l,C9 k<=deep/\Gk w k=true)/\((FU (fun k s=>DP w k s deep) l left).1=true->(FU (fun k s=>DP w k s deep) l left).2=left - ((l.map JG).sum:Nat))
 | [],left,h0,h1,_=>by simp[FU];exact h0
 | k ::r,left,h0,h1,h=>by
   obtain⟨ha,hb⟩:=h k (.head _) left h0 h1;simp only[FU,Fw,List.sum_cons];cases hk:(DP w k left deep).1
   .simp only[Of,if_false,false_iff,false_implies,and_true]
    rintro⟨h2,h3⟩;have:=ha.2 ⟨by omega,(h3 k (.head _)).1,(h3 k (.head _)).2⟩;rw[hk]at this;cases this
   .obtain⟨g1,g2,g3⟩:=ha.1 hk
    have hc:=ZQ k;rw[if_pos rfl,hb hk];obtain⟨i1,i2⟩:=NQ w r (left - JG k) (by omega) (by omega) fun k' hk'=>h k' (.tail _ hk')
    refine⟨i1.trans ⟨fun⟨e1,e2⟩=>⟨by omega,fun x hx=>?_⟩,fun⟨e1,e2⟩=>⟨by omega,fun x hx=>e2 x (.tail _ hx)⟩⟩,fun h=>by rw[i2 h];omega⟩;rcases HV.1 hx with rfl|hx
    .exact⟨g2,g3⟩
    .exact e2 x hx
def YZ (w : Ap) (f:Fact): ∀left deep:Int,0<=left->left<=24->0<=deep->((DP w f left deep).1=true↔VL w f left deep)/\((DP w f left deep).1=true->(DP w f left deep).2=left - JG f):=by
 induction f using Fact.ind with
 | h f ih=>
   intro left deep h0 h1 hd;have hw:IntKind.i64.wrap (left - 1)=left - 1:=wrap64 (by omega) (by omega);rw[Fc,hw];have hc:=Jc f;have hn:=It w f;have hdl:=XH f (m:=deep)
   have hko:Dj w f=true->f.kids.length=Cq f.op:=fun h=>by
    simp only[Dj,Ba,Mb]at h;exact h.2.1
   have hop:Dj w f=true->1<=f.op/\f.op<=7:=fun h=>by
    simp only[Dj,Ba]at h;have h1:=h.1;unfold Zg at h1;split at h1
    .omega
    split at h1
    .omega
    simp at h1;omega
   by_cases hbad:left - 1<0\/deep=0\/f.op<1\/7<f.op\/f.kids.length≠Cq f.op
   .rw[if_pos hbad]
    simp only[Of,false_iff,false_implies,and_true];rintro⟨g1,g2,g3⟩;rw[hn,Ba]at g3;have g4:=hko g3.1;have g5:=hop g3.1;have g6:=(hdl.1 g2).1;omega
   rw[if_neg hbad];by_cases hl:CI f=true
   .rw [if_pos hl]
    have hl':f.op=2\/f.op=3\/f.op=4:=by
     simp only[CI,Ma,Mb]at hl;omega
    have hk0:f.kids= []:=by
     have:f.kids.length=Cq f.op:=by omega
     rw[Cq,if_neg (by omega),if_neg (by omega)]at this;exact XY.1 this
    have hd1:C9 f=1:=by rw[Ft,hk0];rfl
    have hc1:JG f=1:=by rw[hc,hk0];rfl
    have hh:Dj w f=JW w f:=by
     unfold Dj Zg JW;rw[hl,hk0];have e:Cq f.op=0:=by rw[Cq,if_neg (by omega),if_neg (by omega)]
     rw[e];simp only[List.length_nil,beq_self_eq_true,Fv,Bool.true_or,Bool.and_true];rcases hl' with e|e|e
     .rw[if_pos e,if_pos e]
      cases(f.n==0&&Nl w f.cls)<;>simp
     .rw[if_neg (show¬f.op=2 by omega),if_neg (show¬f.op=2 by omega),if_pos (show f.op=3\/f.op=4 from .inl e)]
      cases(f.cls==0&&(decide (-1000000000<=f.n)&&decide (f.n<=1000000000)))<;>simp
     .rw[if_neg (show¬f.op=2 by omega),if_neg (show¬f.op=2 by omega),if_pos (show f.op=3\/f.op=4 from .inr e)]
      cases(f.cls==0&&(decide (-1000000000<=f.n)&&decide (f.n<=1000000000)))<;>simp
    refine⟨⟨fun h=>⟨by omega,by omega,?_⟩,fun⟨_,_,h⟩=>?_⟩,fun _=>by dsimp only;omega⟩
    .rw[hn,hk0,hh];simpa using h
    .rw[hn,hk0,hh]at h;simpa using h
   .have hl':f.op=1\/f.op=5\/f.op=6\/f.op=7:=by
     simp only[CI,Ma,Mb]at hl;omega
    have hlf:CI f=false:=by simpa using hl
    rw[if_neg hl];by_cases hz:f.arg≠0\/0<f.path.length\/f.cls≠0\/f.n≠0
    .rw[if_pos hz]
     simp only[Of,false_iff,false_implies,and_true];rintro⟨g1,g2,g3⟩;rw[hn,Ba]at g3;have g4:=g3.1;simp only[Dj,hlf,Bool.false_or,Ba,Mb]at g4;omega
    .rw [if_neg hz]
     obtain⟨i1,i2⟩:=NQ w (deep:=deep - 1) f.kids (left - 1) (by omega) (by omega) fun k hk left hl0 hl1=>ih k hk left (deep - 1) hl0 hl1 (by omega)
     have hh:Dj w f=true:=by
      have hp:f.path= []:=XY.1 (by omega)
      have e1:Zg w f=true:=by
       unfold Zg;rw[if_neg (by omega),if_neg (by omega)];simp only[Ma,Mb];omega
      have z1:f.arg=0:=by omega
      have z2:f.cls=0:=by omega
      have z3:f.n=0:=by omega
      have z4:f.kids.length=Cq f.op:=by omega
      simp[Dj,e1,hlf,hp,z1,z2,z3,z4,FW]
     refine⟨i1.trans ⟨fun⟨e1,e2⟩=>⟨by omega,hdl.2 ⟨by omega,fun k hk=>(e2 k hk).1⟩,?_⟩,fun⟨g1,g2,g3⟩=>⟨by omega,fun k hk=>⟨(hdl.1 g2).2 k hk,?_⟩⟩⟩,fun h=>by rw[i2 h];omega⟩
     .rw[hn,hh,Fv,JD]
      exact fun k hk=>(e2 k hk).2
     .rw[hn,hh,Fv,JD]at g3
      exact g3 k hk
def ZB (w:Ap) (f:Fact):J5 w f=FZ w f:=by
 have:=(YZ w f 24 12 (by omega) (by omega) (by omega)).1;rw[J5,FZ,R9,this,VL];simp only[Ba,DG];rw[T3 f (by omega)]
end Go.Gl
namespace Go.Gl
open Go.Proofs
attribute [local irreducible] BD A3 Au AS AL Ao AU AV AM An AP AT BF BM Sat Af BK Aw W
def XL (xs:List Int) (f:Bool):Pure zP 25 [.l (iL xs) f] (.l (iL xs) false):=by
 refine Pure.fit (by kernel_rfl) fun hf=>?_
 have hxl:=Ny hf.1;have hM:=Mx;refine aD kZ ?_;have hs:=Sn
 conv=>whnf
 repeat'((first|clear U K|apply st|(apply zk;intro K U)|fail)<;>conv=>whnf)
 refine⟨fun e t=>?_,fun _=>?_⟩
 .have hx:xs= []:=List.map_eq_nil_iff.1 e
  subst hx
  conv=>whnf
  repeat'((first|clear U K|apply st|(apply zk;intro K U)|refine za (fun hc=>?_) fun hc=>?_|fail)<;>conv=>whnf)
  .exact B1 Y8
  .replace hs:=IQ hs 1
   refine PD hs 0 (xs:=[]) (ys:=[]) rfl (by simp) B8 fun v Z hs=>?_
   refine zz ?_;(repeat clear U K);repeat intro K U
   exact Fj hs 0 rfl rfl
 .refine zz ?_;(repeat clear U K);repeat intro K U
  replace hs:=IQ hs 1;refine PD hs 0 (xs:=[]) (ys:=xs) rfl (by simp;omega) B8 fun v Z hs=>?_
  refine zz ?_;(repeat clear U K);repeat intro K U
  exact Fj hs 0 rfl rfl
def bn (c:MD):Pure zP 295 [.a (Hm c)] (.l (iL c.parents) false):=by
 refine dg kZ ?_;have hs:=Sn
 conv=>whnf
 repeat'((first|clear U K|apply st|(apply zk;intro K U)|refine Pure.use (XL _ _) ?_|fail)<;>conv=>whnf)
 exact AF rfl
def ZS (xs:List (List Int)) (v:V) (hl:xs.length<=AX):Cl zP 325 [v] [.own v 1 (Df xs)] fun r post=>r= .ret (.l (Df xs) true)/\post= []:=by
 intro Z hs;have hg:=Dr CM xs;refine dV kZ ?_;refine zz ?_;(repeat clear U K);repeat intro K U
 refine aG (i:=0) hs rfl hg.1 (by simpa using hl) fun Z hs=>?_
 refine zz ?_;(repeat clear U K);repeat intro K U
 exact A4 hs (List.Sublist.refl _) (.refl _) fun Z' hs'=>⟨_,⟨rfl,rfl⟩,hs'⟩
def fO (xs:List Int) (v:V) (hl:xs.length<=AX):Cl zP 231 [v] [.own v 1 (iL xs)] fun r post=>r= .ret (.l (iL xs) true)/\post= []:=by
 intro Z hs;have hg:=Dr B8 xs;refine eL kZ ?_;refine zz ?_;(repeat clear U K);repeat intro K U
 refine aG (i:=0) hs rfl hg.1 (by simpa using hl) fun Z hs=>?_
 refine zz ?_;(repeat clear U K);repeat intro K U
 exact A4 hs (List.Sublist.refl _) (.refl _) fun Z' hs'=>⟨_,⟨rfl,rfl⟩,hs'⟩
def ZG (cs:List MD) (hl:cs.length<=1000000):Pure zP 294 [.l (cs.map Hm) false,.f (.func 295) [] []] (.l (Df (cs.map (·.parents))) false):=by
 have hM:=Mx;refine dh kZ ?_;have hs:=Sn;refine zz ?_;(repeat clear U K);repeat intro K U
 refine Cc cs.length (fun k v=>[(5,v),(10,eI (BU k))]) (fun k v=>[.own v 1 (Df ((cs.take k).map (·.parents)))]) (fun _ _=>True) (.l [] true) rfl trivial (IQ hs 1) ?_;clear hs;rintro k v Z hk - hs;rcases Bd cs hk with⟨c,hc,hlt⟩|hke
 .conv=>whnf
  repeat'((first|clear U K|apply st|(apply zk;intro K U)|refine zY ?_|refine zs fun Z hs=>?_|refine zo fun nn hnn Z hs=>?_|fail)<;>conv=>whnf)
  refine Ct ((bn c).use ?_)
  conv=>whnf
  repeat'((first|clear U K|apply st|(apply zk;intro K U)|refine zY ?_|refine aq fun v Z hs hsl=>?_|fail)<;>conv=>whnf)
  exact⟨hlt,_,rfl,trivial,by rw[Aa hc,R8];exact hs.less (Uu _ _)⟩
 .rw[BN hke]at hs
  refine zz ?_;(repeat clear U K);repeat intro K U
  refine(ZS (cs.map (·.parents)) v (by simp;omega)).use (rest:=[]) hs ?_;clear hs;rintro r post Z ⟨rfl,rfl⟩ hs;refine zz ?_;(repeat clear U K);repeat intro K U
  exact B1 VR
def Iv (p:Prog) (hk0:p.AG.length<=1000):Pure zP 259 [.a (A7 p)] (.l (Df (Aj p)) false):=by
 refine Pure.fit (by kernel_rfl) fun hf=>?_
 have hP:=K7 hf.1;refine dy kZ ?_;have hs:=Sn;refine zz ?_;(repeat clear U K);repeat intro K U
 refine(ZG p.AG (by omega)).use ?_;exact zW
def WO (p:Prog) (hk0:p.AG.length<=1000) (hm:BX p.AG<=AX):Pure zP 203 [.a (A7 p)] (.a (BC (Ab p))):=by
 refine Pure.fit (by kernel_rfl) fun hf=>?_
 have hP:=K7 hf.1;have hcl:=hP.1;have hM:=Mx;refine eR kZ ?_;have hs:=Sn
 conv=>whnf
 repeat'((first|clear U K|apply st|(apply zk;intro K U)|refine zY ?_|refine zs fun Z hs=>?_|refine Pure.use (Iv _ hk0) ?_|refine zo fun nn hnn Z hs=>?_|fail)<;>conv=>whnf)
 rename_i n2 _ _ _ _ _
 rename Nat=>n3
 replace hs:Sat Z [.box n3 [.l (Df (Aj p)) false,.l [] true],.box n2 [.l [] true,.l [] true]]:=hs;refine Cc p.AG.length (fun k (_:V)=>[(12,eI (BU k))]) (fun k v=>[.own v 1 (iL (A5 0 (p.AG.take k))),.box n3 [.l (Df (Aj p)) false,v],.box n2 [.l [] true,.l [] true]]) (fun _ _=>True) (.l [] true) rfl trivial (IQ hs 1) ?_;clear hs;rintro k v Z hk - hs;rcases Bd p.AG hk with⟨c,hc,hlt⟩|hke
 .have hcm:=hP.2 c (Dx hc)
  have htk:=Lz hc;have hck:BU k=k:=AJ (by omega)
  have hap:A5 0 (p.AG.take (k+1))=A5 0 (p.AG.take k)++List.replicate c.AH.length ((k:Int)+3):=by
   rw[Aa hc,GX];have:(p.AG.take k).length=k:=by simp;omega
   rw[this];simp[A5]
  have hol:=Bw 0 (p.AG.take k);have hw3:IntKind.i64.wrap (BU k+3)=(k:Int)+3:=by rw[hck,wrap64 (by omega) (by omega)]
  have hcs:=hcm.2.1;generalize A5 0 (p.AG.take k)=os at *
  conv=>whnf
  repeat'((first|clear U K|apply st|(apply zk;intro K U)|refine zY ?_|refine zs fun Z hs=>?_|refine zo fun nn hnn Z hs=>?_|fail)<;>conv=>whnf)
  refine Cc c.AH.length (fun j (_:V)=>[(20,eI (BU j))]) (fun j v=>[.own v 1 (iL (os++List.replicate j ((k:Int)+3))),.box n3 [.l (Df (Aj p)) false,v],.box n2 [.l [] true,.l [] true]]) (fun _ _=>True) v rfl trivial (by simpa using hs.less (Uu _ _)) ?_;clear hs;rintro j v Z hj - hs;rcases Bd c.AH hj with⟨s,hsl,hjlt⟩|hje
  .have hsv0:=FF hs 0 rfl
   conv=>whnf
   repeat'((first|clear U K|apply st|(apply zk;intro K U)|refine zY ?_|refine zs fun Z hs=>?_|refine aq fun v Z hs hsl=>?_|fail)<;>conv=>whnf)
   have hsv:=FF hs 0 rfl
   conv=>whnf
   refine⟨hjlt,v,rfl,trivial,?_⟩;rw[List.replicate_succ',<-aS];rw[hw3]at hs;exact hs
  .refine zz ?_;(repeat clear U K);repeat intro K U
   exact⟨hlt,v,rfl,trivial,by rw[hap,<-hje];exact hs⟩
 .rw[BN hke]at hs
  have hsv:=FF hs 0 rfl
  conv=>whnf
  repeat'((first|clear U K|apply st|(apply zk;intro K U)|refine zY ?_|refine zs fun Z hs=>?_|fail)<;>conv=>whnf)
  exact B1 (.a (.cons (.refl _) (.cons (hs.HR 0 rfl) .nil)))
def cN:Pure zP 352 [.i .u64 0] (eI 0):=by
 refine dJ kZ ?_;have hs:=Sn
 conv=>whnf
 repeat'((first|clear U K|apply st|(apply zk;intro K U)|refine zY ?_|(refine zb (fun hc=>?_) (fun hc=>?_)<;>try exact⟨⟩)|fail)<;>conv=>whnf)
 refine⟨by decide,?_⟩;exact zW
def cO:Pure zP 309 [.i .u64 0] (eI 0):=by
 refine dZ kZ ?_;have hs:=Sn
 conv=>whnf
 repeat'((first|clear U K|apply st|(apply zk;intro K U)|refine cN.use ?_|fail)<;>conv=>whnf)
 all_goals exact AF rfl
def cR:Pure zP 342 [.l [] true,eI 0,eI 0] (.t []):=by
 refine dK kZ ?_;have hs:=Sn;refine zz ?_;(repeat clear U K);repeat intro K U
 refine LC (fun(_:Unit)=>0) (fun _=>[(6,eI 1)]) (fun _=>[]) (fun _=>True) () rfl trivial hs ?_;clear hs;rintro - Z - hs;exact zW
def bg:Pure zP 308 [.l [] true,eI 0,eI 0,eI 0] (.t []):=by
 refine da kZ ?_;have hs:=Sn;refine zz ?_;(repeat clear U K);repeat intro K U
 refine LC (fun(_:Unit)=>0) (fun _=>[]) (fun _=>[]) (fun _=>True) () rfl trivial hs ?_;clear hs;rintro - Z - hs
 conv=>whnf
 repeat'((first|clear U K|apply st|(apply zk;intro K U)|refine zY ?_|refine cR.use ?_|(refine zb (fun hc=>?_) (fun hc=>?_)<;>try exact⟨⟩)|fail)<;>conv=>whnf)
 all_goals exact AF rfl
def WY:Pure zP 279 [.l [] true] (.t []):=by
 refine dm kZ ?_;have hs:=Sn
 conv=>whnf
 repeat'((first|clear U K|apply st|(apply zk;intro K U)|refine cO.use ?_|refine bg.use ?_|fail)<;>conv=>whnf)
 all_goals exact AF rfl
def gd {xs:List Int} {v:V} (hv:(DI v).isSome=true\/(v= .l [] true/\xs= [])):Cl zP 279 [v] [.own v 1 (iL xs)] fun r post=>r= .ret (.t [])/\post= [.own v 1 (iL (xs.mergeSort TT))]:=by
 rcases hv with hv|⟨rfl,rfl⟩
 .obtain⟨n,l,c,rfl⟩:=gh hv
  exact X8 xs n l c
 .intro Z hs
  have:=WY.use (Z:=Z) (k:=fun v Z'=>v= .t []/\Z'=Z) (kp:=fun _ _=>False) ⟨rfl,rfl⟩;refine BD.mono this ?_;rintro(u|u) Z' hq
  .obtain⟨rfl,rfl⟩:=hq
   exact⟨_,⟨rfl,rfl⟩,by simpa using hs⟩
  .exact hq.elim
def QS {b:Nat} {Z:AE} {sz:Nat} {v:V} {ys:List (List V)} {f:Bool} {K:V->AE->Prop} (h:AL b Z sz v (.l ys f) fun v' Z'=>((DI v').isSome=true\/(v'=v/\ys= []))->K v' Z'):AL b Z sz v (.l ys f) K:=by
 unfold AL at *;obtain⟨h1,h2,h3⟩:=h;refine⟨h1,h2,?_⟩;cases v with
 | l es full=>exact⟨h3.1,h3.2.1,fun e=>h3.2.2.1 e (.inr ⟨rfl,e⟩),fun e=>⟨(h3.2.2.2 e).1,fun n cap hn hc=>(h3.2.2.2 e).2 n cap hn hc (.inl rfl)⟩⟩
 | sl n len cap=>
   simp only at h3 ⊢;split at h3
   .exact⟨h3.1,h3.2.1,h3.2.2.1,h3.2.2.2.1,fun n' cap' hn hc=>h3.2.2.2.2 n' cap' hn hc (.inl rfl)⟩
   .exact h3.elim
 | _=>exact h3.elim
def Qf (M:List Int):List (V×V):=M.map fun k=>(eI k,.b true)
def Nb (M:List Int) (k:Int):List Int:=if M.contains k then M else M++[k]
def Pe (M:List Int) (k b:Int):(Nb M k).contains b=(M.contains b||b==k):=by
 unfold Nb;split
 .rename_i h
  by_cases hb:b=k
  .subst hb;simpa using h
  .have:(b==k)=false:=by simpa using hb
   rw[this,Bool.or_false]
 .simp[List.contains_append]
  rfl
def Yl (M:List Int) (k:Int):D6 (eI k) (.b true) (Qf M)=Qf (Nb M k):=by
 induction M with
 | nil=>rfl
 | cons x r ih=>
   simp only[Qf,Fw,D6]at *;have he:D9 (eI k) (eI x)=(k==x):=rfl;rw[he];cases hx:k==x
   .rw[cond_false,ih]
    unfold Nb;have:(x::r).contains k=r.contains k:=by rw[List.contains_cons,hx,Bool.false_or]
    rw[this];split<;>simp
   .rw[cond_true]
    have hk:k=x:=by simpa using hx
    subst hk;unfold Nb;simp
def Ww (M:List Int) (k:Int):found (.b false) false (C7 (eI k) (Qf M))= .b (M.contains k):=by
 induction M with
 | nil=>rfl
 | cons x r ih=>
   simp only[Qf,Fw,C7]at *;have he:D9 (eI k) (eI x)=(k==x):=rfl;rw[he,List.contains_cons];cases k==x
   .simpa using ih
   .rfl
def Pn (M:List Int): ∀kv∈Qf M,BB (.i .i64) kv.1=true:=by
 intro kv h;obtain⟨e,_,rfl⟩:=Ol.1 h;rfl
def pT {Z:AE} {l:List At} {i mm:Nat} {M:List Int} {k:Int} {K:V->Prop} (hk:K (.b (M.contains k))) (h:Sat Z l:=by assumption)
    (hi:l[i]? =some (.map mm (Qf M)):=by first|exact ML|exact MK|exact MJ|exact MI|exact MH|exact MG):AP Z (.i .i64) (.b false) false (.m mm) (eI k) K:=
 Ss h i hi rfl (Pn M) (by rw[Ww];exact hk)
def jO {Z:AE} {l:List At} {i mm:Nat} {M:List Int} {k:Int} {K:AE->Prop} (hk: ∀Z',Sat Z' (l.set i (.map mm (Qf (Nb M k))))->K Z') (h:Sat Z l:=by assumption)
    (hi:l[i]? =some (.map mm (Qf M)):=by first|exact ML|exact MK|exact MJ|exact MI|exact MH|exact MG):AT Z (.i .i64) (.m mm) (eI k) (.b true) K:=
 OL h i hi rfl (Pn M) (fun Z' hs=>hk Z' (by rw[Yl]at hs;exact hs))
def Gp (p:Prog) (c:Nat):MD:=p.AG.getD (c - 3) default
def C6 (p:Prog) (c:Nat):Nat->List Int
 | 0=>[]
 | k+1=>if Kc (Aj p) c (c - k)then C6 p c k++(Gp p (c - k)).AH else C6 p c k
def bj {ps:List (List Int)} (ho:ordered ps) {n c:Nat} (hc:c<n) (k:Nat): ∀p∈par ps (c - k),0<=p/\p.toNat<(FQ ps n c k).length/\p.toNat<c - k:=fun p hp=>by
 have:=ho _ _ hp;rw[IW];omega
def PV {ps:List (List Int)} (ho:ordered ps) {n c:Nat} (hc:c<n) (k b:Nat):(FQ ps n c (k+1)).getD b false=((FQ ps n c k).getD b false||((FQ ps n c k).getD (c - k) false&&(par ps (c - k)).contains (b:Int))):=by
 rw[FQ,Jp _ _ (bj ho hc k)]
def PW {ps:List (List Int)} (ho:ordered ps) {n c:Nat} (hc:c<n) (k:Nat): ∀(m:Nat) (b:Nat),c - k<=b->(FQ ps n c (k+m)).getD b false=(FQ ps n c k).getD b false
 | 0,_,_=>rfl
 | m + 1,b,h=>by
   rw[<-Nat.add_assoc,PV ho hc,PW ho hc k m b h]
   have:(par ps (c - (k+m))).contains (b:Int)=false:=by
    cases hb:(par ps (c - (k+m))).contains (b:Int)
    .rfl
    .have:=ho _ _ (List.contains_iff_mem.1 hb)
     omega
   rw[this,Bool.and_false,Bool.or_false]
def VX {ps:List (List Int)} (ho:ordered ps) {n c:Nat} (hc:c<n) {k:Nat} (hk:k<=c - 2):(FQ ps n c k).getD (c - k) false=Kc ps c (c - k):=by
 rw[<-SW ho hc (c - k),<-PW ho hc k (c - 2 - k) (c - k) (JE _)];congr 2;omega
def L2 (b:Int): ∀(l M:List Int),(l.foldl Nb M).contains b=(M.contains b||l.contains b)
 | [],M=>by simp
 | x::r,M=>by
   rw[List.foldl_cons,L2 b r,Pe,List.contains_cons,Bool.or_assoc]
def a6 {Z:AE} {l:List At} {i mm:Nat} {M:List Int} {k:Int} {b:Bool} {K:V->Prop} (e:M.contains k=b) (hk:K (.b b)) (h:Sat Z l:=by assumption)
    (hi:l[i]? =some (.map mm (Qf M)):=by first|exact ML|exact MK|exact MJ|exact MI|exact MH|exact MG):AP Z (.i .i64) (.b false) false (.m mm) (eI k) K:=pT (e ▸ hk) h hi
def cT (p : Prog) (c:Nat) (h10:p.AG.length<=10) (hsl:B3 0 p.AG=true) (hg:Cn (Aj p)=true) (hc3:3<=c) (hc:c<3+p.AG.length) :
    Pure zP 262 [.a (A7 p),eI c] (.l (iL ((C6 p c (c - 2)).mergeSort TT)) false):=by
 refine Pure.fit (by kernel_rfl) fun hf=>?_
 have hP:=K7 hf.1;have hM:=Mx;have hG:=Cx hg;have ho:=Jr hG;have hgl:(Aj p).length=p.AG.length:=by simp[Aj]
 refine dv kZ ?_;have hs:=Sn
 conv=>whnf
 repeat'((first|clear U K|apply st|(apply zk;intro K U)|refine zo fun nn hnn Z hs=>?_|fail)<;>conv=>whnf)
 replace hs:Sat Z [.map nn (Qf [])]:=hs
 conv=>whnf
 repeat'((first|clear U K|apply st|(apply zk;intro K U)|refine jO (fun Z hs=>?_)|fail)<;>conv=>whnf)
 generalize nn=mm at *;replace hs:Sat Z [.map mm (Qf [(c:Int)])]:=hs
 refine Cc (c - 2) (fun k (x:List Int×V)=>[(6,x.2),(7,eI ((c:Int) - k))]) (fun k x=>[.own x.2 1 (iL (C6 p c k)),.map mm (Qf x.1)])
  (fun k x=>(∀b:Nat,b<3+(Aj p).length->x.1.contains (b:Int)=(FQ (Aj p) (3+(Aj p).length) c k).getD b false)/\((DI x.2).isSome=true\/(x.2= .l [] true/\C6 p c k= []))/\(C6 p c k).length<=4*k) ([(c:Int)],.l [] true) ?_ ⟨?_,.inr ⟨rfl,rfl⟩,by simp[C6]⟩ (IQ hs 1) ?_
 .simp[Kv,get]
  exact⟨rfl,rfl,rfl⟩
 .intro b hb
  simp only[FQ];rw[Iw (by simp;omega)];by_cases hbc:b=c
  .subst hbc;simp
  .rw[if_neg hbc]
   have:((c:Int)==(b:Int))=false:=by simp;omega
   simp[FD,List.getElem?_replicate];split<;>simp<;>omega
 clear hs;rintro k ⟨M,v⟩ Z hk ⟨hMb,hv,hml⟩ hs;dsimp only at hMb hv hs;rcases Nat.lt_or_ge k (c - 2)with hlt|hge
 .have hkc:M.contains ((c:Int) - k)=Kc (Aj p) c (c - k):=by
   have:=hMb (c - k) (by omega);rw[VX ho (by omega) (by omega)]at this;rw[<-this];congr 1;omega
  have hcl:p.AG[(IntKind.i64.wrap ((c:Int) - k - 3)).toNat]? =some (Gp p (c - k)):=by
   rw[wrap64 (by omega) (by omega),show((c:Int) - k - 3).toNat=c - k - 3 by omega,Gp,FD,D2 (by omega)];rfl
  have hwi:0<=IntKind.i64.wrap ((c:Int) - k - 3):=by rw[wrap64 (by omega) (by omega)];omega
  have hw1:IntKind.i64.wrap ((c:Int) - k - 1)=(c:Int) - (k+1:Nat):=by rw[wrap64 (by omega) (by omega)];omega
  have hmt:C6 p c (k+1)=if Kc (Aj p) c (c - k)then C6 p c k++(Gp p (c - k)).AH else C6 p c k:=rfl
  have hpar:(Gp p (c - k)).parents=par (Aj p) (c - k):=by
   unfold par Gp Aj;rw[if_neg (by omega),FD,FD,NX,D2 (by omega)];rfl
  have hcm:=hP.2 _ (Dx hcl);have hs4:=((Eb _ _ hsl).2 _ (Dx hcl)).2;have hst:=fun b=>PV ho (show c<3+(Aj p).length by omega) k b
  rw[VX ho (by omega) (by omega),<-hpar]at hst;generalize Gp p (c - k)=cl at *;cases hb:Kc (Aj p) c (c - k)
  .rw[hb]at hkc hmt hst
   rw[if_neg (by decide)]at hmt
   conv=>whnf
   repeat'((first|clear U K|apply st|(apply zk;intro K U)|refine zY ?_|refine a6 hkc ?_|(refine zb (fun hc=>?_) (fun hc=>?_)<;>try exact⟨⟩)|fail)<;>conv=>whnf)
   all_goals try(exfalso;omega)
   rw[hw1];exact⟨hlt,(M,v),rfl,⟨fun b hb=>by rw[hMb b hb,hst b];simp,by rw[hmt];exact hv,by rw[hmt];omega⟩,by rw[hmt];exact hs⟩
  .rw [hb] at hkc hmt hst
   rw[if_pos rfl]at hmt
   conv=>whnf
   repeat'((first|clear U K|apply st|(apply zk;intro K U)|refine zY ?_|refine a6 hkc ?_|(refine zb (fun hc=>?_) (fun hc=>?_)<;>try exact⟨⟩)|fail)<;>conv=>whnf)
   all_goals try(exfalso;omega)
   refine QS (PD hs 0 rfl (by omega) B8 fun v' Z hs hv'=>?_);rw[<-hmt]at hs;refine zz ?_;(repeat clear U K);repeat intro K U
   refine Cc cl.parents.length (fun j (_:List Int)=>[(38,eI (BU j))]) (fun _ M=>[.own v' 1 (iL (C6 p c (k+1))),.map mm (Qf M)]) (fun j M'=>M'=(cl.parents.take j).foldl Nb M) M rfl rfl hs ?_;clear hs;rintro j M' Z hj hM' hs;rcases Bd cl.parents hj with⟨q,hq,hjlt⟩|hje
   .conv=>whnf
    repeat'((first|clear U K|apply st|(apply zk;intro K U)|refine zY ?_|refine jO (fun Z hs=>?_)|fail)<;>conv=>whnf)
    exact⟨hjlt,_,rfl,by rw[Aa hq,List.foldl_append,<-hM'];rfl,hs⟩
   .rw [BN hje]at hM'
    refine zz ?_;(repeat clear U K);repeat intro K U
    rw[hw1];refine⟨hlt,(M',v'),rfl,⟨fun b hb=>?_,?_,?_⟩,hs⟩
    .rw[hM',L2,hMb b hb,hst b,Fv]
    .rcases hv' with hv'|⟨rfl,he⟩
     .exact .inl hv'
     .rcases hv with hv|⟨hv,hm0⟩
      .exact .inl hv
      .refine .inr ⟨hv,?_⟩
       rw[hmt,hm0,List.map_eq_nil_iff.1 he];rfl
    .rw[hmt,Uw];omega
 .have hkk:k=c - 2:=by omega
  rw[hkk]at hs hv hml;clear hMb
  conv=>whnf
  repeat'((first|clear U K|apply st|(apply zk;intro K U)|refine zY ?_|(refine zb (fun hc=>?_) (fun hc=>?_)<;>try exact⟨⟩)|fail)<;>conv=>whnf)
  all_goals try(exfalso;omega)
  refine(gd hv).use (rest:=[_]) hs ?_;clear hs;rintro r post Z ⟨rfl,rfl⟩ hs
  conv=>whnf
  repeat'((first|clear U K|apply st|(apply zk;intro K U)|fail)<;>conv=>whnf)
  refine(fO _ v (by rw[List.length_mergeSort];omega)).use (rest:=[_]) hs ?_;clear hs;rintro r post Z ⟨rfl,rfl⟩ hs;refine zz ?_;(repeat clear U K);repeat intro K U
  exact B1 VR
def Lw {p : Prog} {c:Nat} (s:Int): ∀k,s∈C6 p c k↔ ∃j,j<k/\Kc (Aj p) c (c - j)=true/\s∈(Gp p (c - j)).AH
 | 0=>by simp[C6]
 | k + 1 =>by
   rw[C6];have ih:=Lw (p:=p) (c:=c) s k;constructor
   .intro h
    split at h
    .rename_i hu
     rcases FC.1 h with h|h
     .obtain⟨j,h1,h2⟩:=ih.1 h
      exact⟨j,by omega,h2⟩
     .exact⟨k,by omega,hu,h⟩
    .obtain⟨j,h1,h2⟩:=ih.1 h
     exact⟨j,by omega,h2⟩
   .rintro⟨j,h1,h2,h3⟩
    by_cases hj:j=k
    .subst hj
     rw[if_pos h2];exact FC.2 (.inr h3)
    .have:=ih.2 ⟨j,by omega,h2,h3⟩
     split
     .exact FC.2 (.inl this)
     .exact this
def Pb: ∀(l:List Int) (n s:Int),IK n l=true->(s∈l↔n<=s/\s<n+l.length)
 | [],n,s,_=>by simp<;>omega
 | x::r,n,s,h=>by
   simp only[IK,Ba,Mb]at h;obtain⟨rfl,h⟩:=h;have:=Pb r (x+1) s h;rw[HV,this,Om];omega
def M4: ∀(cs:List MD) (i:Nat) (n s:Int),B3 n cs=true->0<=n-> ∀(j:Nat) (c:MD),cs[j]? =some c->(s∈c.AH↔n<=s/\s<n+(BX cs:Int)/\(A5 i cs).getD (s - n).toNat 0=((i+j:Nat):Int)+3)
 | [],_,_,_,_,_,_,_,h=>by cases h
 | d ::r,i,n,s,h,h0,j,c,hj=>by
   simp only[B3,Ba,DG]at h;obtain⟨-,-,hq,hr⟩:=h;have hm:=Pb d.AH n s hq;have hml:(BX (d::r):Int)=d.AH.length+BX r:=by simp[BX]
   have hgd:n<=s->(A5 i (d::r)).getD (s - n).toNat 0=if s<n+d.AH.length then(i:Int)+3 else(A5 (i+1) r).getD (s - (n+d.AH.length)).toNat 0:=fun hns=>by
    simp only[A5,FD];split
    .rw[fV (by simp;omega),List.getElem?_replicate,if_pos (by omega)]
     rfl
    .rw[List.getElem?_append_right (by simp;omega)]
     congr 2;simp;omega
   have hout: ∀q,q∈A5 (i+1) r->(3:Int)+((i+1:Nat):Int)<=q:=fun q hq=>(EZ hq).1
   cases j with
   | zero=>
     simp at hj;subst hj;rw[hm,hml];constructor
     .rintro⟨h1,h2⟩
      refine⟨h1,by omega,?_⟩;rw[hgd h1,if_pos h2];simp
     .rintro⟨h1,h2,h3⟩
      refine⟨h1,?_⟩;rw[hgd h1]at h3;by_cases hlt:s<n+d.AH.length
      .exact hlt
      .rw[if_neg hlt,FD]at h3
       have hlen:(s - (n+d.AH.length)).toNat<(A5 (i+1) r).length:=by rw[Bw];omega
       rw[D2 hlen]at h3;have:=hout _ (List.getElem_mem hlen);simp at h3;omega
   | succ j=>
     simp at hj;have ih:=M4 r (i+1) (n+d.AH.length) s hr (by omega) j c hj;rw[ih,hml];constructor
     .rintro⟨h1,h2,h3⟩
      refine⟨by omega,by omega,?_⟩;rw[hgd (by omega),if_neg (by omega),h3];omega
     .rintro⟨h1,h2,h3⟩
      rw[hgd h1]at h3;by_cases hlt:s<n+d.AH.length
      .rw[if_pos hlt]at h3;omega
      .rw[if_neg hlt]at h3
       exact⟨by omega,by omega,by rw[h3];omega⟩
def Wm {p:Prog} {c:Nat} (hsl:B3 0 p.AG=true) (ho:ordered (Aj p)) (hc3:3<=c) (hc:c<3+p.AG.length) (s:Int) :
    ((C6 p c (c - 2)).mergeSort TT).contains s=(decide (0<=s)&&(decide (s<(BX p.AG:Int))&&hasB (Ab p) (c:Int) s)):=by
 rw[R9,List.contains_iff_mem,(List.mergeSort_perm _ TT).mem_iff,Lw];simp only[Ba,DG,hasB]
 have hown: ∀j,j<c - 2->(s∈(Gp p (c - j)).AH↔0<=s/\s<(BX p.AG:Int)/\Kw (Ab p) s=((c - j:Nat):Int)):=fun j hj=>by
  have hcl:p.AG[c - j - 3]? =some (Gp p (c - j)):=by
   rw[Gp,FD,D2 (by omega)];rfl
  have:=M4 p.AG 0 0 s hsl (by omega) (c - j - 3) _ hcl;rw[this];simp only[Int.sub_zero,Int.zero_add,Kw,Ab];constructor
  .rintro⟨h1,h2,h3⟩;exact⟨h1,h2,by rw[h3];omega⟩
  .rintro⟨h1,h2,h3⟩;exact⟨h1,h2,by rw[h3];omega⟩
 constructor
 .rintro⟨j,h1,h2,h3⟩
  obtain⟨h4,h5,h6⟩:=(hown j h1).1 h3;refine⟨h4,h5,by omega,?_⟩;rw[h6];simp only[O4,Ma,Ba,DG];exact .inr (.inr ⟨by omega,by simpa[Ab]using h2⟩)
 .rintro⟨h1,h2,h3,h4⟩
  have hmem:Kw (Ab p) s∈A5 0 p.AG:=by
   have hlen:s.toNat<(A5 0 p.AG).length:=by rw[Bw];omega
   have:Kw (Ab p) s=(A5 0 p.AG)[s.toNat]:=by
    simp only[Kw,Ab,FD,D2 hlen];rfl
   rw[this];exact List.getElem_mem hlen
  have hb:=EZ hmem
  have hup:Kc (Aj p) c (Kw (Ab p) s).toNat=true:=by
   simp only[O4,Ma,Ba,DG,Mb]at h4;rcases h4 with h4|h4|⟨_,h4⟩
   .rw[<-h4,MF];exact LS ho c
   .omega
   .simpa[Ab]using h4
  have hle:=bN ho _ _ hup;refine⟨c - (Kw (Ab p) s).toNat,by omega,?_,?_⟩
  .rw[show c - (c - (Kw (Ab p) s).toNat)=(Kw (Ab p) s).toNat by omega]
   exact hup
  .refine(hown _ (by omega)).2 ⟨h1,h2,by omega⟩
end Go.Gl
