import Derived.Test.YtcfkfhaedllcpaaGreatW14
import Derived.Test.YtcfkfhaedllcpaaGreatW15
import Derived.Test.YtcfkfhaedllcpaaGreatW18
import Derived.Test.YtcfkfhaedllcpaaGreatW19
import Derived.Test.YtcfkfhaedllcpaaGreatW22
import Derived.Test.YtcfkfhaedllcpaaGreatW24
set_option linter.all false
set_option linter.defProp false
set_option maxHeartbeats 8000000
noncomputable section
namespace Go.Gl
open Go.Proofs
attribute [local irreducible] A3 Aq Af AR AJ Ad AQ AT AK Ac AM AN Ax A5 Sat AX A4 Ah W
def Vh: ∀(n:Nat) (l:List Int),l.Nodup->(∀x∈l,0<=x/\x<(n:Int))->l.length<=n
 | 0,l,_,h=>by
   cases l with
   | nil=>simp
   | cons x r=>have:=h x (.head _);omega
 | n + 1,l,hn,h=>by
   have h1:=Vh n (l.erase (n:Int)) (hn.erase _) fun x hx=>by
    have hm:=(List.Nodup.mem_erase_iff hn).1 hx;have:=h x hm.2;have:=hm.1;omega
   have h2:=List.length_erase (a:=(n:Int)) (l:=l);split at h2<;>omega
def My (w:AI) (f:Fact):Bool:=decide (0<=f.arg)&&(decide (f.arg<3)&&(E5 w f.path&&(if f.op=2 then f.n==0&&Q7 w f.cls else f.cls==0&&(decide (-1000000000<=f.n)&&decide (f.n<=1000000000)))))
def EW (w:AI) (f:Fact):Int->Int->Bool×Int:=f.Hp fun f l left deep=>
 if IntKind.i64.wrap (left - 1)<0\/deep=0\/f.op<1\/7<f.op\/f.kids.length≠CR f.op then(false,IntKind.i64.wrap (left - 1))else
 if B7 f then(My w f,IntKind.i64.wrap (left - 1))else
 if f.arg≠0\/0<f.path.length\/f.cls≠0\/f.n≠0 then(false,IntKind.i64.wrap (left - 1))else
 Ce (fun(k:Int->Int->Bool×Int) s=>k s (deep - 1)) l (IntKind.i64.wrap (left - 1))
def MI {α β S:Type} (g:α->β) (stp:β->S->Bool×S): ∀(l:List α) (s:S),Ce stp (l.map g) s=Ce (fun a s=>stp (g a) s) l s
 | [],_=>rfl
 | a::r,s=>by simp only[Ex,Ce,MI g stp r]
def HQ (w:AI) (f:Fact) (left deep:Int):EW w f left deep =
    if IntKind.i64.wrap (left - 1)<0\/deep=0\/f.op<1\/7<f.op\/f.kids.length≠CR f.op then(false,IntKind.i64.wrap (left - 1))else
    if B7 f then(My w f,IntKind.i64.wrap (left - 1))else
    if f.arg≠0\/0<f.path.length\/f.cls≠0\/f.n≠0 then(false,IntKind.i64.wrap (left - 1))else
    Ce (fun k s=>EW w k s (deep - 1)) f.kids (IntKind.i64.wrap (left - 1)):=by
 rw[EW,Fact.Du,MI];rfl
def Ys {w:AI} {f:Fact} {left deep L1:Int} {b:Bool} {nL:Nat} {Z:AE} (hs:Sat Z [.box nL [eI L1]]) (h:EW w f left deep=(b,L1)):Aq Z (.b b) fun r Z'=> ∃post:List At,(r=R.ret (.b (EW w f left deep).1)/\post= [.box nL [eI (EW w f left deep).2]])/\Sat Z' post:=by
 rw[h];exact AU ⟨_,⟨rfl,rfl⟩,hs⟩
def lq (w:AI) (us:List Nat) (hw1:w.parents.length<=60) (hw2:w.owner.length<=60) (nL:Nat) (f:Fact): ∀(left deep:Int),0<=deep->deep<=12->
    Bc zP 334 [.rp (wC w us),.a (xF f),.p nL 0,eI deep] [.box nL [eI left]] fun r post=>r= .ret (.b (EW w f left deep).1)/\post= [.box nL [eI (EW w f left deep).2]]:=by
 induction f using Fact.ind with
 | h f ih=>
   intro left deep hd0 hd1 Z hs;refine A3.fit (by kernel_rfl) fun hf=>?_
   have⟨h2,h3,h4⟩:=J8 hf.2.1;have hM:=Mx;have hdw:IntKind.i64.wrap (deep - 1)=deep - 1:=wrap64 (by omega) (by omega);refine sw kZ ?_
   have hstep:Cz zP (.f (.func 368) [] [.rp [.rp (wC w us)],.rp [.p nL 0],.rp [eI deep]]) (fun y=> .a (xF y)) (fun s=>[.box nL [eI s]]) (fun k s=>EW w k s (deep - 1)) (fun y _=>y∈f.kids/\deep≠0):=by
    rintro y s ⟨hy,hdn⟩ Z hs;refine By ?_;show A3 zP 368 ([]++[.a (xF y)]++[.rp [.rp (wC w us)],.rp [.p nL 0],.rp [eI deep]]) Z _;refine sX kZ ?_;refine zz ?_;(repeat clear U K);repeat intro K U
    rw[hdw];refine(ih y hy s (deep - 1) (by omega) (by omega)).use (rest:=[]) hs ?_;rintro r post Z ⟨rfl,rfl⟩ hs;refine zz ?_;(repeat clear U K);repeat intro K U
    exact AU ⟨rfl,hs⟩
   conv=>whnf
   repeat'((first|clear U K|apply st|(apply zk;intro K U)|refine zY ?_|refine rk ?_ ?_|exact fun s e=>by cases e;rfl|refine zs fun Z hs=>?_|refine Pure.use (Tz _) ?_|refine Pure.use (mJ _) ?_|refine Pure.use (jW w us _ hw1) ?_|refine Pure.use (lS w us _ _ hw2) ?_|(refine zd (fun hc=>?_) (fun hc=>?_)<;>try exact⟨⟩)|fail)<;>conv=>whnf)
   all_goals first
    | (refine Ys hs ?_;rw[HQ,if_pos (by omega)];done)
    | (refine Ys hs ?_;rw[HQ,if_neg (by omega),if_pos (by assumption)];simp[My, *];done)
    | (refine Ys hs ?_;rw[HQ,if_neg (by omega),if_pos (by assumption)];simp[My, *];intros;omega)
    | (refine Ys hs ?_;rw[HQ,if_neg (by omega),if_neg (by simp[*]),if_pos (by omega)];done)
    | skip
   refine(gL 368 [] _ _ _ _ hstep f.kids false (IntKind.i64.wrap (left - 1)) h2 (Gw fun y hy _=>⟨hy,by omega⟩)).use (rest:=[]) hs ?_;have hE:=HQ w f left deep;rw[if_neg (by omega),if_neg (by simp[*]),if_neg (by omega)]at hE;rw[<-hE];rintro r post Z ⟨rfl,rfl⟩ hs;refine zz ?_;(repeat clear U K);repeat intro K U
   exact AU ⟨_,⟨rfl,rfl⟩,hs⟩
def LW (w:AI) (f:Fact):Bool:=(EW w f 24 12).1
def cT (w:AI) (us:List Nat) (hw1:w.parents.length<=60) (hw2:w.owner.length<=60) (f:Fact):Pure zP 333 [.a (xF f),.rp [.rp (wC w us)]] (.b (LW w f)):=by
 refine Pure.of ?_;refine sx kZ ?_;have hs:=Sn
 conv=>whnf
 repeat'((first|clear U K|apply st|(apply zk;intro K U)|refine zY ?_|refine zs fun Z hs=>?_|refine zo fun nn hnn Z hs=>?_|fail)<;>conv=>whnf)
 refine(lq w us hw1 hw2 _ f 24 12 (by omega) (by omega)).use (rest:=[]) hs ?_;rintro r post Z ⟨rfl,rfl⟩ hs;refine zz ?_;(repeat clear U K);repeat intro K U
 exact AU rfl
def nc {g:FuncId} {fi ca:List V} {f:Fact->Bool} {xs:List Fact} (b:Bool) (hl:xs.length<=AY) (h: ∀y∈xs,Pure zP g (fi++[.a (xF y)]++ca) (.b (f y))):Pure zP 332 [.l (facts xs) b,.f (.func g) fi ca] (.b (xs.all f)):=by
 have:=gL g fi ca (fun _=>[]) (fun y (_:Unit)=>(f y,())) (fun y _=>y∈xs) (fun y s hy Z hs=>By (A3.mono ((h y hy).use (k:=fun v Z'=>v= .b (f y)/\Sat Z' []) (kp:=fun _ _=>False) ⟨rfl,Sat.nil⟩) (by
  rintro(v|v) Z' hq
  .obtain⟨rfl,h⟩:=hq
   exact⟨rfl,h⟩
  .exact hq.elim))) xs b () hl (Gw fun y hy _=>hy)
 rw[Jt]at this;exact Pure.of (A3.mono (this emp Sat.nil) fun r Z' ⟨post,⟨h1,h2⟩,h3⟩=>h1)
def cV (w:AI) (us:List Nat) (hw1:w.parents.length<=60) (hw2:w.owner.length<=60) (l:List Fact) (b:Bool) (hl:l.length<=60):Pure zP 299 [.rp (wC w us),.l (facts l) b] (.b (l.all (LW w))):=by
 have hall:=nc (g:=333) (fi:=[]) (ca:=[.rp [.rp (wC w us)]]) (f:=LW w) (xs:=l) b (by simp only[AY];omega) fun y _=>cT w us hw1 hw2 y
 refine tN kZ ?_;have hs:=Sn;exact zW
def ZJ (w:AI) (hw:Dx w) (l:List Fact) (b:Bool) (hl:l.length<=60):Pure zP 266 [.a (A1 w),.l (facts l) b] (.t [.rp (wC w (Ek w.parents)),.b (l.all (LW w))]):=by
 have hfo:=cV w (Ek w.parents) (by have:=hw.1.1;omega) (by have:=hw.2.1;omega) l b hl;refine te kZ ?_;have hs:=Sn
 conv=>whnf
 repeat'((first|clear U K|apply st|(apply zk;intro K U)|refine zY ?_|refine Pure.use (lY w hw) ?_|refine hfo.use ?_|fail)<;>conv=>whnf)
 all_goals exact AF rfl
def dS (w:AI) (hw:Dx w) (f:Fact):Pure zP 204 [.a (A1 w),.a (xF f)] (eI (if LW w f then 0 else 2)):=by
 have hfo: ∀b,Pure zP 266 [.a (A1 w),.l [GB f] b] (.t [.rp (wC w (Ek w.parents)),.b (LW w f)]):=fun b=>by
  have:=ZJ w hw [f] b (by simp);simpa using this
 refine uJ kZ ?_;have hs:=Sn;refine zz ?_;(repeat clear U K);repeat intro K U
 rw[BV]at hfo;refine(hfo _).use ?_
 conv=>whnf
 repeat'((first|clear U K|apply st|(apply zk;intro K U)|refine Pure.use (Xw _) ?_|fail)<;>conv=>whnf)
 exact AF rfl
end Go.Gl
namespace Go.Gl
def MO {most:Int}: ∀(l:List Fact) (n:Int),(∀k∈l,∀m:Int,(Me k:Int)<=m->CQ k m=Me k)->n+(l.map Me).sum<=most->DS (l.map CQ) n most=n+(l.map Me).sum
 | [],n,_,_=>by simp[DS]
 | k::r,n,h,h1=>by
   simp only[Ex,List.sum_cons,DS]at *;rw[if_pos (by omega),h k (.head _) (most - n) (by omega),MO r _ (fun k' hk'=>h k' (.tail _ hk')) (by omega)];omega
def UJ (f:Fact): ∀m:Int,(Me f:Int)<=m->CQ f m=Me f:=by
 induction f using Fact.ind with
 | h f ih=>
   intro m hm;rw[Jq];rw[Kf]at *;rw[MO f.kids 1 ih (by omega)];omega
def bt (f:Fact) {m:Int} (h0:0<=m):CQ f m<=m↔(Me f:Int)<=m:=
 ⟨fun h=>by rw[<-Ky f m h0 h];exact h,fun h=>by rw[UJ f m h];exact h⟩
def nM (f:Fact):1<=Me f:=by rw[Kf];omega
def GP {m:Int}: ∀(l:List Int) (a:Int),l.foldl Jz a<=m↔a<=m/\ ∀x∈l,x<=m
 | [],a=>by simp
 | x ::r,a=>by
   rw[List.foldl_cons,GP r];unfold Jz;constructor
   .rintro⟨h1,h2⟩
    refine⟨by split at h1<;>omega,fun y hy=>?_⟩;rcases Fm.1 hy with rfl|hy
    .split at h1<;>omega
    .exact h2 y hy
   .rintro⟨h1,h2⟩
    have hx:=h2 x (.head _);exact⟨by split<;>omega,fun y hy=>h2 y (.tail _ hy)⟩
def jQ (f:Fact) {m:Int}:D4 f<=m↔1<=m/\ ∀k∈f.kids,D4 k<=m - 1:=by
 rw[Hg];constructor
 .intro h
  have:=(GP (m:=m - 1) (f.kids.map D4) 0).1 (by omega);exact⟨by omega,fun k hk=>this.2 _ (List.mem_map_of_mem hk)⟩
 .rintro⟨h1,h2⟩
  have:=(GP (m:=m - 1) (f.kids.map D4) 0).2 ⟨by omega,fun x hx=>by
   obtain⟨k,hk,rfl⟩:=Mg.1 hx
   exact h2 k hk⟩
  omega
def eR (w:AI) (f:Fact) (left deep:Int):Prop:=(Me f:Int)<=left/\D4 f<=deep/\Bh w f=true
def Sy (w:AI) {deep:Int}: ∀(l:List Fact) (left:Int),0<=left->left<=24->(∀k∈l,∀left:Int,0<=left->left<=24->((EW w k left deep).1=true↔eR w k left deep)/\((EW w k left deep).1=true->(EW w k left deep).2=left - Me k))->
    ((Ce (fun k s=>EW w k s deep) l left).1=true↔((l.map Me).sum:Int)<=left/\ ∀k∈l,D4 k<=deep/\Bh w k=true)/\((Ce (fun k s=>EW w k s deep) l left).1=true->(Ce (fun k s=>EW w k s deep) l left).2=left - ((l.map Me).sum:Nat))
 | [],left,h0,h1,_=>by simp[Ce];exact h0
 | k ::r,left,h0,h1,h=>by
   obtain⟨ha,hb⟩:=h k (.head _) left h0 h1;simp only[Ce,Ex,List.sum_cons];cases hk:(EW w k left deep).1
   .simp only[LG,if_false,false_iff,false_implies,and_true]
    rintro⟨h2,h3⟩;have:=ha.2 ⟨by omega,(h3 k (.head _)).1,(h3 k (.head _)).2⟩;rw[hk]at this;cases this
   .obtain⟨g1,g2,g3⟩:=ha.1 hk
    have hc:=nM k;rw[if_pos rfl,hb hk];obtain⟨i1,i2⟩:=Sy w r (left - Me k) (by omega) (by omega) fun k' hk'=>h k' (.tail _ hk')
    refine⟨i1.trans ⟨fun⟨e1,e2⟩=>⟨by omega,fun x hx=>?_⟩,fun⟨e1,e2⟩=>⟨by omega,fun x hx=>e2 x (.tail _ hx)⟩⟩,fun h=>by rw[i2 h];omega⟩;rcases Fm.1 hx with rfl|hx
    .exact⟨g2,g3⟩
    .exact e2 x hx
def lk (w : AI) (f:Fact): ∀left deep:Int,0<=left->left<=24->0<=deep->((EW w f left deep).1=true↔eR w f left deep)/\((EW w f left deep).1=true->(EW w f left deep).2=left - Me f):=by
 induction f using Fact.ind with
 | h f ih=>
   intro left deep h0 h1 hd;have hw:IntKind.i64.wrap (left - 1)=left - 1:=wrap64 (by omega) (by omega);rw[HQ,hw];have hc:=Kf f;have hn:=Cp w f;have hdl:=jQ f (m:=deep)
   have hko:C6 w f=true->f.kids.length=CR f.op:=fun h=>by
    simp only[C6,BD,EU]at h;exact h.2.1
   have hop:C6 w f=true->1<=f.op/\f.op<=7:=fun h=>by
    simp only[C6,BD]at h;have h1:=h.1;unfold W7 at h1;split at h1
    .omega
    split at h1
    .omega
    simp at h1;omega
   by_cases hbad:left - 1<0\/deep=0\/f.op<1\/7<f.op\/f.kids.length≠CR f.op
   .rw[if_pos hbad]
    simp only[LG,false_iff,false_implies,and_true];rintro⟨g1,g2,g3⟩;rw[hn,BD]at g3;have g4:=hko g3.1;have g5:=hop g3.1;have g6:=(hdl.1 g2).1;omega
   rw[if_neg hbad];by_cases hl:B7 f=true
   .rw [if_pos hl]
    have hl':f.op=2\/f.op=3\/f.op=4:=by
     simp only[B7,Fl,EU]at hl;omega
    have hk0:f.kids= []:=by
     have:f.kids.length=CR f.op:=by omega
     rw[CR,if_neg (by omega),if_neg (by omega)]at this;exact Yh.1 this
    have hd1:D4 f=1:=by rw[Hg,hk0];rfl
    have hc1:Me f=1:=by rw[hc,hk0];rfl
    have hh:C6 w f=My w f:=by
     unfold C6 W7 My;rw[hl,hk0];have e:CR f.op=0:=by rw[CR,if_neg (by omega),if_neg (by omega)]
     rw[e];simp only[List.length_nil,beq_self_eq_true,G7,Bool.true_or,Bool.and_true];rcases hl' with e|e|e
     .rw[if_pos e,if_pos e]
      cases(f.n==0&&Q7 w f.cls)<;>simp
     .rw[if_neg (show¬f.op=2 by omega),if_neg (show¬f.op=2 by omega),if_pos (show f.op=3\/f.op=4 from .inl e)]
      cases(f.cls==0&&(decide (-1000000000<=f.n)&&decide (f.n<=1000000000)))<;>simp
     .rw[if_neg (show¬f.op=2 by omega),if_neg (show¬f.op=2 by omega),if_pos (show f.op=3\/f.op=4 from .inr e)]
      cases(f.cls==0&&(decide (-1000000000<=f.n)&&decide (f.n<=1000000000)))<;>simp
    refine⟨⟨fun h=>⟨by omega,by omega,?_⟩,fun⟨_,_,h⟩=>?_⟩,fun _=>by dsimp only;omega⟩
    .rw[hn,hk0,hh];simpa using h
    .rw[hn,hk0,hh]at h;simpa using h
   .have hl':f.op=1\/f.op=5\/f.op=6\/f.op=7:=by
     simp only[B7,Fl,EU]at hl;omega
    have hlf:B7 f=false:=by simpa using hl
    rw[if_neg hl];by_cases hz:f.arg≠0\/0<f.path.length\/f.cls≠0\/f.n≠0
    .rw[if_pos hz]
     simp only[LG,false_iff,false_implies,and_true];rintro⟨g1,g2,g3⟩;rw[hn,BD]at g3;have g4:=g3.1;simp only[C6,hlf,Bool.false_or,BD,EU]at g4;omega
    .rw [if_neg hz]
     obtain⟨i1,i2⟩:=Sy w (deep:=deep - 1) f.kids (left - 1) (by omega) (by omega) fun k hk left hl0 hl1=>ih k hk left (deep - 1) hl0 hl1 (by omega)
     have hh:C6 w f=true:=by
      have hp:f.path= []:=Yh.1 (by omega)
      have e1:W7 w f=true:=by
       unfold W7;rw[if_neg (by omega),if_neg (by omega)];simp only[Fl,EU];omega
      have z1:f.arg=0:=by omega
      have z2:f.cls=0:=by omega
      have z3:f.n=0:=by omega
      have z4:f.kids.length=CR f.op:=by omega
      simp[C6,e1,hlf,hp,z1,z2,z3,z4,E5]
     refine⟨i1.trans ⟨fun⟨e1,e2⟩=>⟨by omega,hdl.2 ⟨by omega,fun k hk=>(e2 k hk).1⟩,?_⟩,fun⟨g1,g2,g3⟩=>⟨by omega,fun k hk=>⟨(hdl.1 g2).2 k hk,?_⟩⟩⟩,fun h=>by rw[i2 h];omega⟩
     .rw[hn,hh,G7,E3]
      exact fun k hk=>(e2 k hk).2
     .rw[hn,hh,G7,E3]at g3
      exact g3 k hk
def Zp (w:AI) (f:Fact):LW w f=C7 w f:=by
 have:=(lk w f 24 12 (by omega) (by omega) (by omega)).1;rw[LW,C7,J1,this,eR];simp only[BD,CN];rw[bt f (by omega)]
end Go.Gl
namespace Go.Gl
open Go.Proofs
attribute [local irreducible] A3 Aq Af AR AJ Ad AQ AT AK Ac AM AN Ax A5 Sat AX A4 Ah W
def jV (xs:List Int) (f:Bool):Pure zP 25 [.l (iL xs) f] (.l (iL xs) false):=by
 refine Pure.fit (by kernel_rfl) fun hf=>?_
 have hxl:=PN hf.1;have hM:=Mx;refine ed kZ ?_;have hs:=Sn
 conv=>whnf
 repeat'((first|clear U K|apply st|(apply zk;intro K U)|fail)<;>conv=>whnf)
 refine⟨fun e t=>?_,fun _=>?_⟩
 .have hx:xs= []:=List.map_eq_nil_iff.1 e
  subst hx
  conv=>whnf
  repeat'((first|clear U K|apply st|(apply zk;intro K U)|refine za (fun hc=>?_) fun hc=>?_|fail)<;>conv=>whnf)
  .exact Ap H2
  .replace hs:=Cf hs 1
   refine F9 hs 0 (xs:=[]) (ys:=[]) rfl (by simp) BZ fun v Z hs=>?_
   refine zz ?_;(repeat clear U K);repeat intro K U
   exact EC hs 0 rfl rfl
 .refine zz ?_;(repeat clear U K);repeat intro K U
  replace hs:=Cf hs 1;refine F9 hs 0 (xs:=[]) (ys:=xs) rfl (by simp;omega) BZ fun v Z hs=>?_
  refine zz ?_;(repeat clear U K);repeat intro K U
  exact EC hs 0 rfl rfl
def qa (c:Qz):Pure zP 295 [.a (Q6 c)] (.l (iL c.parents) false):=by
 refine tS kZ ?_;have hs:=Sn
 conv=>whnf
 repeat'((first|clear U K|apply st|(apply zk;intro K U)|refine Pure.use (jV _ _) ?_|fail)<;>conv=>whnf)
 exact AF rfl
def nS (xs:List (List Int)) (v:V) (hl:xs.length<=AY):Bc zP 325 [v] [.own v 1 (Ee xs)] fun r post=>r= .ret (.l (Ee xs) true)/\post= []:=by
 intro Z hs;have hg:=C4 C3 xs;refine tA kZ ?_;refine zz ?_;(repeat clear U K);repeat intro K U
 refine ow (i:=0) hs rfl hg.1 (by simpa using hl) fun Z hs=>?_
 refine zz ?_;(repeat clear U K);repeat intro K U
 exact Ak hs (List.Sublist.refl _) (.refl _) fun Z' hs'=>⟨_,⟨rfl,rfl⟩,hs'⟩
def PT (xs:List Int) (v:V) (hl:xs.length<=AY):Bc zP 231 [v] [.own v 1 (iL xs)] fun r post=>r= .ret (.l (iL xs) true)/\post= []:=by
 intro Z hs;have hg:=C4 BZ xs;refine fu kZ ?_;refine zz ?_;(repeat clear U K);repeat intro K U
 refine ow (i:=0) hs rfl hg.1 (by simpa using hl) fun Z hs=>?_
 refine zz ?_;(repeat clear U K);repeat intro K U
 exact Ak hs (List.Sublist.refl _) (.refl _) fun Z' hs'=>⟨_,⟨rfl,rfl⟩,hs'⟩
def m5 (cs:List Qz) (hl:cs.length<=1000000):Pure zP 294 [.l (cs.map Q6) false,.f (.func 295) [] []] (.l (Ee (cs.map (·.parents))) false):=by
 have hM:=Mx;refine tT kZ ?_;have hs:=Sn;refine zz ?_;(repeat clear U K);repeat intro K U
 refine B0 cs.length (fun k v=>[(5,v),(10,eI (A8 k))]) (fun k v=>[.own v 1 (Ee ((cs.take k).map (·.parents)))]) (fun _ _=>True) (.l [] true) rfl trivial (Cf hs 1) ?_;clear hs;rintro k v Z hk - hs;rcases BC cs hk with⟨c,hc,hlt⟩|hke
 .conv=>whnf
  repeat'((first|clear U K|apply st|(apply zk;intro K U)|refine zY ?_|refine zs fun Z hs=>?_|refine zo fun nn hnn Z hs=>?_|fail)<;>conv=>whnf)
  refine By ((qa c).use ?_)
  conv=>whnf
  repeat'((first|clear U K|apply st|(apply zk;intro K U)|refine zY ?_|refine aq fun v Z hs hsl=>?_|fail)<;>conv=>whnf)
  exact⟨hlt,_,rfl,trivial,by rw[AL hc,Uf];exact hs.less (Mc _ _)⟩
 .rw[Au hke]at hs
  refine zz ?_;(repeat clear U K);repeat intro K U
  refine(nS (cs.map (·.parents)) v (by simp;omega)).use (rest:=[]) hs ?_;clear hs;rintro r post Z ⟨rfl,rfl⟩ hs;refine zz ?_;(repeat clear U K);repeat intro K U
  exact Ap eY
def MB (p:Prog) (hk0:p.AH.length<=1000):Pure zP 259 [.a (A9 p)] (.l (Ee (Ay p)) false):=by
 refine Pure.fit (by kernel_rfl) fun hf=>?_
 have hP:=Nw hf.1;refine tk kZ ?_;have hs:=Sn;refine zz ?_;(repeat clear U K);repeat intro K U
 refine(m5 p.AH (by omega)).use ?_;exact zW
def VK (p:Prog) (hk0:p.AH.length<=1000) (hm:Bj p.AH<=AY):Pure zP 203 [.a (A9 p)] (.a (A1 (AS p))):=by
 refine Pure.fit (by kernel_rfl) fun hf=>?_
 have hP:=Nw hf.1;have hcl:=hP.1;have hM:=Mx;refine uK kZ ?_;have hs:=Sn
 conv=>whnf
 repeat'((first|clear U K|apply st|(apply zk;intro K U)|refine zY ?_|refine zs fun Z hs=>?_|refine Pure.use (MB _ hk0) ?_|refine zo fun nn hnn Z hs=>?_|fail)<;>conv=>whnf)
 rename_i n2 _ _ _ _ _
 rename Nat=>n3
 replace hs:Sat Z [.box n3 [.l (Ee (Ay p)) false,.l [] true],.box n2 [.l [] true,.l [] true]]:=hs;refine B0 p.AH.length (fun k (_:V)=>[(12,eI (A8 k))]) (fun k v=>[.own v 1 (iL (BL 0 (p.AH.take k))),.box n3 [.l (Ee (Ay p)) false,v],.box n2 [.l [] true,.l [] true]]) (fun _ _=>True) (.l [] true) rfl trivial (Cf hs 1) ?_;clear hs;rintro k v Z hk - hs;rcases BC p.AH hk with⟨c,hc,hlt⟩|hke
 .have hcm:=hP.2 c (B1 hc)
  have htk:=QR hc;have hck:A8 k=k:=AO (by omega)
  have hap:BL 0 (p.AH.take (k+1))=BL 0 (p.AH.take k)++List.replicate c.AG.length ((k:Int)+3):=by
   rw[AL hc,Il];have:(p.AH.take k).length=k:=by simp;omega
   rw[this];simp[BL]
  have hol:=CU 0 (p.AH.take k);have hw3:IntKind.i64.wrap (A8 k+3)=(k:Int)+3:=by rw[hck,wrap64 (by omega) (by omega)]
  have hcs:=hcm.2.1;generalize BL 0 (p.AH.take k)=os at *
  conv=>whnf
  repeat'((first|clear U K|apply st|(apply zk;intro K U)|refine zY ?_|refine zs fun Z hs=>?_|refine zo fun nn hnn Z hs=>?_|fail)<;>conv=>whnf)
  refine B0 c.AG.length (fun j (_:V)=>[(20,eI (A8 j))]) (fun j v=>[.own v 1 (iL (os++List.replicate j ((k:Int)+3))),.box n3 [.l (Ee (Ay p)) false,v],.box n2 [.l [] true,.l [] true]]) (fun _ _=>True) v rfl trivial (by simpa using hs.less (Mc _ _)) ?_;clear hs;rintro j v Z hj - hs;rcases BC c.AG hj with⟨s,hsl,hjlt⟩|hje
  .have hsv0:=Gq hs 0 rfl
   conv=>whnf
   repeat'((first|clear U K|apply st|(apply zk;intro K U)|refine zY ?_|refine zs fun Z hs=>?_|refine aq fun v Z hs hsl=>?_|fail)<;>conv=>whnf)
   have hsv:=Gq hs 0 rfl
   conv=>whnf
   refine⟨hjlt,v,rfl,trivial,?_⟩;rw[List.replicate_succ',<-Wx];rw[hw3]at hs;exact hs
  .refine zz ?_;(repeat clear U K);repeat intro K U
   exact⟨hlt,v,rfl,trivial,by rw[hap,<-hje];exact hs⟩
 .rw[Au hke]at hs
  have hsv:=Gq hs 0 rfl
  conv=>whnf
  repeat'((first|clear U K|apply st|(apply zk;intro K U)|refine zY ?_|refine zs fun Z hs=>?_|fail)<;>conv=>whnf)
  exact Ap (.a (.cons (.refl _) (.cons (hs.GW 0 rfl) .nil)))
def rC:Pure zP 352 [.i .u64 0] (eI 0):=by
 refine sr kZ ?_;have hs:=Sn
 conv=>whnf
 repeat'((first|clear U K|apply st|(apply zk;intro K U)|refine zY ?_|(refine zb (fun hc=>?_) (fun hc=>?_)<;>try exact⟨⟩)|fail)<;>conv=>whnf)
 refine⟨by decide,?_⟩;exact zW
def rD:Pure zP 309 [.i .u64 0] (eI 0):=by
 refine tI kZ ?_;have hs:=Sn
 conv=>whnf
 repeat'((first|clear U K|apply st|(apply zk;intro K U)|refine rC.use ?_|fail)<;>conv=>whnf)
 all_goals exact AF rfl
def rI:Pure zP 342 [.l [] true,eI 0,eI 0] (.t []):=by
 refine ss kZ ?_;have hs:=Sn;refine zz ?_;(repeat clear U K);repeat intro K U
 refine Dz (fun(_:Unit)=>0) (fun _=>[(6,eI 1)]) (fun _=>[]) (fun _=>True) () rfl trivial hs ?_;clear hs;rintro - Z - hs;exact zW
def qY:Pure zP 308 [.l [] true,eI 0,eI 0,eI 0] (.t []):=by
 refine tJ kZ ?_;have hs:=Sn;refine zz ?_;(repeat clear U K);repeat intro K U
 refine Dz (fun(_:Unit)=>0) (fun _=>[]) (fun _=>[]) (fun _=>True) () rfl trivial hs ?_;clear hs;rintro - Z - hs
 conv=>whnf
 repeat'((first|clear U K|apply st|(apply zk;intro K U)|refine zY ?_|refine rI.use ?_|(refine zb (fun hc=>?_) (fun hc=>?_)<;>try exact⟨⟩)|fail)<;>conv=>whnf)
 all_goals exact AF rfl
def gz:Pure zP 279 [.l [] true] (.t []):=by
 refine tZ kZ ?_;have hs:=Sn
 conv=>whnf
 repeat'((first|clear U K|apply st|(apply zk;intro K U)|refine rD.use ?_|refine qY.use ?_|fail)<;>conv=>whnf)
 all_goals exact AF rfl
def eK {xs:List Int} {v:V} (hv:(Be v).isSome=true\/(v= .l [] true/\xs= [])):Bc zP 279 [v] [.own v 1 (iL xs)] fun r post=>r= .ret (.t [])/\post= [.own v 1 (iL (xs.mergeSort G8))]:=by
 rcases hv with hv|⟨rfl,rfl⟩
 .obtain⟨n,l,c,rfl⟩:=eM hv
  exact kz xs n l c
 .intro Z hs
  have:=gz.use (Z:=Z) (k:=fun v Z'=>v= .t []/\Z'=Z) (kp:=fun _ _=>False) ⟨rfl,rfl⟩;refine A3.mono this ?_;rintro(u|u) Z' hq
  .obtain⟨rfl,rfl⟩:=hq
   exact⟨_,⟨rfl,rfl⟩,by simpa using hs⟩
  .exact hq.elim
def Wj {b:Nat} {Z:AE} {sz:Nat} {v:V} {ys:List (List V)} {f:Bool} {K:V->AE->Prop} (h:AJ b Z sz v (.l ys f) fun v' Z'=>((Be v').isSome=true\/(v'=v/\ys= []))->K v' Z'):AJ b Z sz v (.l ys f) K:=by
 unfold AJ at *;obtain⟨h1,h2,h3⟩:=h;refine⟨h1,h2,?_⟩;cases v with
 | l es full=>exact⟨h3.1,h3.2.1,fun e=>h3.2.2.1 e (.inr ⟨rfl,e⟩),fun e=>⟨(h3.2.2.2 e).1,fun n cap hn hc=>(h3.2.2.2 e).2 n cap hn hc (.inl rfl)⟩⟩
 | sl n len cap=>
   simp only at h3 ⊢;split at h3
   .exact⟨h3.1,h3.2.1,h3.2.2.1,h3.2.2.2.1,fun n' cap' hn hc=>h3.2.2.2.2 n' cap' hn hc (.inl rfl)⟩
   .exact h3.elim
 | _=>exact h3.elim
def S4 (M:List Int):List (V×V):=M.map fun k=>(eI k,.b true)
def O2 (M:List Int) (k:Int):List Int:=if M.contains k then M else M++[k]
def Vd (M:List Int) (k b:Int):(O2 M k).contains b=(M.contains b||b==k):=by
 unfold O2;split
 .rename_i h
  by_cases hb:b=k
  .subst hb;simpa using h
  .have:(b==k)=false:=by simpa using hb
   rw[this,Bool.or_false]
 .simp[List.contains_append]
  rfl
def Ze (M:List Int) (k:Int):DV (eI k) (.b true) (S4 M)=S4 (O2 M k):=by
 induction M with
 | nil=>rfl
 | cons x r ih=>
   simp only[S4,Ex,DV]at *;have he:Df (eI k) (eI x)=(k==x):=rfl;rw[he];cases hx:k==x
   .rw[cond_false,ih]
    unfold O2;have:(x::r).contains k=r.contains k:=by rw[List.contains_cons,hx,Bool.false_or]
    rw[this];split<;>simp
   .rw[cond_true]
    have hk:k=x:=by simpa using hx
    subst hk;unfold O2;simp
def L7 (M:List Int) (k:Int):found (.b false) false (CZ (eI k) (S4 M))= .b (M.contains k):=by
 induction M with
 | nil=>rfl
 | cons x r ih=>
   simp only[S4,Ex,CZ]at *;have he:Df (eI k) (eI x)=(k==x):=rfl;rw[he,List.contains_cons];cases k==x
   .simpa using ih
   .rfl
def HT (M:List Int): ∀kv∈S4 M,BN (.i .i64) kv.1=true:=by
 intro kv h;obtain⟨e,_,rfl⟩:=Mg.1 h;rfl
def lkK {Z:AE} {l:List At} {i mm:Nat} {M:List Int} {k:Int} {K:V->Prop} (hk:K (.b (M.contains k))) (h:Sat Z l:=by assumption)
    (hi:l[i]? =some (.map mm (S4 M)):=by first|exact Qy|exact Qx|exact Qw|exact Qv|exact Qu|exact Qt):AM Z (.i .i64) (.b false) false (.m mm) (eI k) K:=
 Jc h i hi rfl (HT M) (by rw[L7];exact hk)
def yK {Z:AE} {l:List At} {i mm:Nat} {M:List Int} {k:Int} {K:AE->Prop} (hk: ∀Z',Sat Z' (l.set i (.map mm (S4 (O2 M k))))->K Z') (h:Sat Z l:=by assumption)
    (hi:l[i]? =some (.map mm (S4 M)):=by first|exact Qy|exact Qx|exact Qw|exact Qv|exact Qu|exact Qt):AN Z (.i .i64) (.m mm) (eI k) (.b true) K:=
 Jb h i hi rfl (HT M) (fun Z' hs=>hk Z' (by rw[Ze]at hs;exact hs))
def I9 (p:Prog) (c:Nat):Qz:=p.AH.getD (c - 3) default
def D1 (p:Prog) (c:Nat):Nat->List Int
 | 0=>[]
 | k+1=>if Jv (Ay p) c (c - k)then D1 p c k++(I9 p (c - k)).AG else D1 p c k
def qZ {ps:List (List Int)} (ho:ordered ps) {n c:Nat} (hc:c<n) (k:Nat): ∀p∈par ps (c - k),0<=p/\p.toNat<(HA ps n c k).length/\p.toNat<c - k:=fun p hp=>by
 have:=ho _ _ hp;rw[Ld];omega
def VQ {ps:List (List Int)} (ho:ordered ps) {n c:Nat} (hc:c<n) (k b:Nat):(HA ps n c (k+1)).getD b false=((HA ps n c k).getD b false||((HA ps n c k).getD (c - k) false&&(par ps (c - k)).contains (b:Int))):=by
 rw[HA,NQ _ _ (qZ ho hc k)]
def VR {ps:List (List Int)} (ho:ordered ps) {n c:Nat} (hc:c<n) (k:Nat): ∀(m:Nat) (b:Nat),c - k<=b->(HA ps n c (k+m)).getD b false=(HA ps n c k).getD b false
 | 0,_,_=>rfl
 | m + 1,b,h=>by
   rw[<-Nat.add_assoc,VQ ho hc,VR ho hc k m b h]
   have:(par ps (c - (k+m))).contains (b:Int)=false:=by
    cases hb:(par ps (c - (k+m))).contains (b:Int)
    .rfl
    .have:=ho _ _ (List.contains_iff_mem.1 hb)
     omega
   rw[this,Bool.and_false,Bool.or_false]
def ez {ps:List (List Int)} (ho:ordered ps) {n c:Nat} (hc:c<n) {k:Nat} (hk:k<=c - 2):(HA ps n c k).getD (c - k) false=Jv ps c (c - k):=by
 rw[<-Y8 ho hc (c - k),<-VR ho hc k (c - 2 - k) (c - k) (Io _)];congr 2;omega
def QZ (b:Int): ∀(l M:List Int),(l.foldl O2 M).contains b=(M.contains b||l.contains b)
 | [],M=>by simp
 | x::r,M=>by
   rw[List.foldl_cons,QZ b r,Vd,List.contains_cons,Bool.or_assoc]
def pf {Z:AE} {l:List At} {i mm:Nat} {M:List Int} {k:Int} {b:Bool} {K:V->Prop} (e:M.contains k=b) (hk:K (.b b)) (h:Sat Z l:=by assumption)
    (hi:l[i]? =some (.map mm (S4 M)):=by first|exact Qy|exact Qx|exact Qw|exact Qv|exact Qu|exact Qt):AM Z (.i .i64) (.b false) false (.m mm) (eI k) K:=lkK (e ▸ hk) h hi
def rL (p : Prog) (c:Nat) (h10:p.AH.length<=10) (hsl:Cg 0 p.AH=true) (hg:Dd (Ay p)=true) (hc3:3<=c) (hc:c<3+p.AH.length) :
    Pure zP 262 [.a (A9 p),eI c] (.l (iL ((D1 p c (c - 2)).mergeSort G8)) false):=by
 refine Pure.fit (by kernel_rfl) fun hf=>?_
 have hP:=Nw hf.1;have hM:=Mx;have hG:=Dn hg;have ho:=NW hG;have hgl:(Ay p).length=p.AH.length:=by simp[Ay]
 refine th kZ ?_;have hs:=Sn
 conv=>whnf
 repeat'((first|clear U K|apply st|(apply zk;intro K U)|refine zo fun nn hnn Z hs=>?_|fail)<;>conv=>whnf)
 replace hs:Sat Z [.map nn (S4 [])]:=hs
 conv=>whnf
 repeat'((first|clear U K|apply st|(apply zk;intro K U)|refine yK (fun Z hs=>?_)|fail)<;>conv=>whnf)
 generalize nn=mm at *;replace hs:Sat Z [.map mm (S4 [(c:Int)])]:=hs
 refine B0 (c - 2) (fun k (x:List Int×V)=>[(6,x.2),(7,eI ((c:Int) - k))]) (fun k x=>[.own x.2 1 (iL (D1 p c k)),.map mm (S4 x.1)])
  (fun k x=>(∀b:Nat,b<3+(Ay p).length->x.1.contains (b:Int)=(HA (Ay p) (3+(Ay p).length) c k).getD b false)/\((Be x.2).isSome=true\/(x.2= .l [] true/\D1 p c k= []))/\(D1 p c k).length<=4*k) ([(c:Int)],.l [] true) ?_ ⟨?_,.inr ⟨rfl,rfl⟩,by simp[D1]⟩ (Cf hs 1) ?_
 .simp[O0,get]
  exact⟨rfl,rfl,rfl⟩
 .intro b hb
  simp only[HA];rw[EB (by simp;omega)];by_cases hbc:b=c
  .subst hbc;simp
  .rw[if_neg hbc]
   have:((c:Int)==(b:Int))=false:=by simp;omega
   simp[DH,List.getElem?_replicate];split<;>simp<;>omega
 clear hs;rintro k ⟨M,v⟩ Z hk ⟨hMb,hv,hml⟩ hs;dsimp only at hMb hv hs;rcases Nat.lt_or_ge k (c - 2)with hlt|hge
 .have hkc:M.contains ((c:Int) - k)=Jv (Ay p) c (c - k):=by
   have:=hMb (c - k) (by omega);rw[ez ho (by omega) (by omega)]at this;rw[<-this];congr 1;omega
  have hcl:p.AH[(IntKind.i64.wrap ((c:Int) - k - 3)).toNat]? =some (I9 p (c - k)):=by
   rw[wrap64 (by omega) (by omega),show((c:Int) - k - 3).toNat=c - k - 3 by omega,I9,DH,Cy (by omega)];rfl
  have hwi:0<=IntKind.i64.wrap ((c:Int) - k - 3):=by rw[wrap64 (by omega) (by omega)];omega
  have hw1:IntKind.i64.wrap ((c:Int) - k - 1)=(c:Int) - (k+1:Nat):=by rw[wrap64 (by omega) (by omega)];omega
  have hmt:D1 p c (k+1)=if Jv (Ay p) c (c - k)then D1 p c k++(I9 p (c - k)).AG else D1 p c k:=rfl
  have hpar:(I9 p (c - k)).parents=par (Ay p) (c - k):=by
   unfold par I9 Ay;rw[if_neg (by omega),DH,DH,Md,Cy (by omega)];rfl
  have hcm:=hP.2 _ (B1 hcl);have hs4:=((FI _ _ hsl).2 _ (B1 hcl)).2;have hst:=fun b=>VQ ho (show c<3+(Ay p).length by omega) k b
  rw[ez ho (by omega) (by omega),<-hpar]at hst;generalize I9 p (c - k)=cl at *;cases hb:Jv (Ay p) c (c - k)
  .rw[hb]at hkc hmt hst
   rw[if_neg (by decide)]at hmt
   conv=>whnf
   repeat'((first|clear U K|apply st|(apply zk;intro K U)|refine zY ?_|refine pf hkc ?_|(refine zb (fun hc=>?_) (fun hc=>?_)<;>try exact⟨⟩)|fail)<;>conv=>whnf)
   all_goals try(exfalso;omega)
   rw[hw1];exact⟨hlt,(M,v),rfl,⟨fun b hb=>by rw[hMb b hb,hst b];simp,by rw[hmt];exact hv,by rw[hmt];omega⟩,by rw[hmt];exact hs⟩
  .rw [hb] at hkc hmt hst
   rw[if_pos rfl]at hmt
   conv=>whnf
   repeat'((first|clear U K|apply st|(apply zk;intro K U)|refine zY ?_|refine pf hkc ?_|(refine zb (fun hc=>?_) (fun hc=>?_)<;>try exact⟨⟩)|fail)<;>conv=>whnf)
   all_goals try(exfalso;omega)
   refine Wj (F9 hs 0 rfl (by omega) BZ fun v' Z hs hv'=>?_);rw[<-hmt]at hs;refine zz ?_;(repeat clear U K);repeat intro K U
   refine B0 cl.parents.length (fun j (_:List Int)=>[(38,eI (A8 j))]) (fun _ M=>[.own v' 1 (iL (D1 p c (k+1))),.map mm (S4 M)]) (fun j M'=>M'=(cl.parents.take j).foldl O2 M) M rfl rfl hs ?_;clear hs;rintro j M' Z hj hM' hs;rcases BC cl.parents hj with⟨q,hq,hjlt⟩|hje
   .conv=>whnf
    repeat'((first|clear U K|apply st|(apply zk;intro K U)|refine zY ?_|refine yK (fun Z hs=>?_)|fail)<;>conv=>whnf)
    exact⟨hjlt,_,rfl,by rw[AL hq,List.foldl_append,<-hM'];rfl,hs⟩
   .rw [Au hje]at hM'
    refine zz ?_;(repeat clear U K);repeat intro K U
    rw[hw1];refine⟨hlt,(M',v'),rfl,⟨fun b hb=>?_,?_,?_⟩,hs⟩
    .rw[hM',QZ,hMb b hb,hst b,G7]
    .rcases hv' with hv'|⟨rfl,he⟩
     .exact .inl hv'
     .rcases hv with hv|⟨hv,hm0⟩
      .exact .inl hv
      .refine .inr ⟨hv,?_⟩
       rw[hmt,hm0,List.map_eq_nil_iff.1 he];rfl
    .rw[hmt,RQ];omega
 .have hkk:k=c - 2:=by omega
  rw[hkk]at hs hv hml;clear hMb
  conv=>whnf
  repeat'((first|clear U K|apply st|(apply zk;intro K U)|refine zY ?_|(refine zb (fun hc=>?_) (fun hc=>?_)<;>try exact⟨⟩)|fail)<;>conv=>whnf)
  all_goals try(exfalso;omega)
  refine(eK hv).use (rest:=[_]) hs ?_;clear hs;rintro r post Z ⟨rfl,rfl⟩ hs
  conv=>whnf
  repeat'((first|clear U K|apply st|(apply zk;intro K U)|fail)<;>conv=>whnf)
  refine(PT _ v (by rw[List.length_mergeSort];omega)).use (rest:=[_]) hs ?_;clear hs;rintro r post Z ⟨rfl,rfl⟩ hs;refine zz ?_;(repeat clear U K);repeat intro K U
  exact Ap eY
def QN {p : Prog} {c:Nat} (s:Int): ∀k,s∈D1 p c k↔ ∃j,j<k/\Jv (Ay p) c (c - j)=true/\s∈(I9 p (c - j)).AG
 | 0=>by simp[D1]
 | k + 1 =>by
   rw[D1];have ih:=QN (p:=p) (c:=c) s k;constructor
   .intro h
    split at h
    .rename_i hu
     rcases E4.1 h with h|h
     .obtain⟨j,h1,h2⟩:=ih.1 h
      exact⟨j,by omega,h2⟩
     .exact⟨k,by omega,hu,h⟩
    .obtain⟨j,h1,h2⟩:=ih.1 h
     exact⟨j,by omega,h2⟩
   .rintro⟨j,h1,h2,h3⟩
    by_cases hj:j=k
    .subst hj
     rw[if_pos h2];exact E4.2 (.inr h3)
    .have:=ih.2 ⟨j,by omega,h2,h3⟩
     split
     .exact E4.2 (.inl this)
     .exact this
def VZ: ∀(l:List Int) (n s:Int),LL n l=true->(s∈l↔n<=s/\s<n+l.length)
 | [],n,s,_=>by simp<;>omega
 | x::r,n,s,h=>by
   simp only[LL,BD,EU]at h;obtain⟨rfl,h⟩:=h;have:=VZ r (x+1) s h;rw[Fm,this,LF];omega
def SB: ∀(cs:List Qz) (i:Nat) (n s:Int),Cg n cs=true->0<=n-> ∀(j:Nat) (c:Qz),cs[j]? =some c->(s∈c.AG↔n<=s/\s<n+(Bj cs:Int)/\(BL i cs).getD (s - n).toNat 0=((i+j:Nat):Int)+3)
 | [],_,_,_,_,_,_,_,h=>by cases h
 | d ::r,i,n,s,h,h0,j,c,hj=>by
   simp only[Cg,BD,CN]at h;obtain⟨-,-,hq,hr⟩:=h;have hm:=VZ d.AG n s hq;have hml:(Bj (d::r):Int)=d.AG.length+Bj r:=by simp[Bj]
   have hgd:n<=s->(BL i (d::r)).getD (s - n).toNat 0=if s<n+d.AG.length then(i:Int)+3 else(BL (i+1) r).getD (s - (n+d.AG.length)).toNat 0:=fun hns=>by
    simp only[BL,DH];split
    .rw[jq (by simp;omega),List.getElem?_replicate,if_pos (by omega)]
     rfl
    .rw[List.getElem?_append_right (by simp;omega)]
     congr 2;simp;omega
   have hout: ∀q,q∈BL (i+1) r->(3:Int)+((i+1:Nat):Int)<=q:=fun q hq=>(Fv hq).1
   cases j with
   | zero=>
     simp at hj;subst hj;rw[hm,hml];constructor
     .rintro⟨h1,h2⟩
      refine⟨h1,by omega,?_⟩;rw[hgd h1,if_pos h2];simp
     .rintro⟨h1,h2,h3⟩
      refine⟨h1,?_⟩;rw[hgd h1]at h3;by_cases hlt:s<n+d.AG.length
      .exact hlt
      .rw[if_neg hlt,DH]at h3
       have hlen:(s - (n+d.AG.length)).toNat<(BL (i+1) r).length:=by rw[CU];omega
       rw[Cy hlen]at h3;have:=hout _ (List.getElem_mem hlen);simp at h3;omega
   | succ j=>
     simp at hj;have ih:=SB r (i+1) (n+d.AG.length) s hr (by omega) j c hj;rw[ih,hml];constructor
     .rintro⟨h1,h2,h3⟩
      refine⟨by omega,by omega,?_⟩;rw[hgd (by omega),if_neg (by omega),h3];omega
     .rintro⟨h1,h2,h3⟩
      rw[hgd h1]at h3;by_cases hlt:s<n+d.AG.length
      .rw[if_pos hlt]at h3;omega
      .rw[if_neg hlt]at h3
       exact⟨by omega,by omega,by rw[h3];omega⟩
def iT {p:Prog} {c:Nat} (hsl:Cg 0 p.AH=true) (ho:ordered (Ay p)) (hc3:3<=c) (hc:c<3+p.AH.length) (s:Int) :
    ((D1 p c (c - 2)).mergeSort G8).contains s=(decide (0<=s)&&(decide (s<(Bj p.AH:Int))&&hasB (AS p) (c:Int) s)):=by
 rw[J1,List.contains_iff_mem,(List.mergeSort_perm _ G8).mem_iff,QN];simp only[BD,CN,hasB]
 have hown: ∀j,j<c - 2->(s∈(I9 p (c - j)).AG↔0<=s/\s<(Bj p.AH:Int)/\Cm (AS p) s=((c - j:Nat):Int)):=fun j hj=>by
  have hcl:p.AH[c - j - 3]? =some (I9 p (c - j)):=by
   rw[I9,DH,Cy (by omega)];rfl
  have:=SB p.AH 0 0 s hsl (by omega) (c - j - 3) _ hcl;rw[this];simp only[Int.sub_zero,Int.zero_add,Cm,AS];constructor
  .rintro⟨h1,h2,h3⟩;exact⟨h1,h2,by rw[h3];omega⟩
  .rintro⟨h1,h2,h3⟩;exact⟨h1,h2,by rw[h3];omega⟩
 constructor
 .rintro⟨j,h1,h2,h3⟩
  obtain⟨h4,h5,h6⟩:=(hown j h1).1 h3;refine⟨h4,h5,by omega,?_⟩;rw[h6];simp only[Ux,Fl,BD,CN];exact .inr (.inr ⟨by omega,by simpa[AS]using h2⟩)
 .rintro⟨h1,h2,h3,h4⟩
  have hmem:Cm (AS p) s∈BL 0 p.AH:=by
   have hlen:s.toNat<(BL 0 p.AH).length:=by rw[CU];omega
   have:Cm (AS p) s=(BL 0 p.AH)[s.toNat]:=by
    simp only[Cm,AS,DH,Cy hlen];rfl
   rw[this];exact List.getElem_mem hlen
  have hb:=Fv hmem
  have hup:Jv (Ay p) c (Cm (AS p) s).toNat=true:=by
   simp only[Ux,Fl,BD,CN,EU]at h4;rcases h4 with h4|h4|⟨_,h4⟩
   .rw[<-h4,JP];exact HN ho c
   .omega
   .simpa[AS]using h4
  have hle:=fA ho _ _ hup;refine⟨c - (Cm (AS p) s).toNat,by omega,?_,?_⟩
  .rw[show c - (c - (Cm (AS p) s).toNat)=(Cm (AS p) s).toNat by omega]
   exact hup
  .refine(hown _ (by omega)).2 ⟨h1,h2,by omega⟩
end Go.Gl
