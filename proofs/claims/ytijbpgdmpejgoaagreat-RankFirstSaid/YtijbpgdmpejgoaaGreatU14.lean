import Derived.Test.YtijbpgdmpejgoaaGreatU13
set_option linter.all false
set_option linter.defProp false
noncomputable section
namespace Go.Gl
open Go.Proofs
attribute [local irreducible] BJ A2 Ak AW AM Aj AV AX AN Ai AR AU A5 BF Sat Ad BD Al W
def Lj (w:AK) (f:Fact):Bool:=decide (0≤f.arg)&&(decide (f.arg<3)&&(Es w f.path&&(if f.op=2 then f.n==0&&NT w f.cls else f.cls==0&&(decide (-1000000000≤f.n)&&decide (f.n≤1000000000)))))
def Ee (w:AK) (f:Fact):Int→Int→Bool×Int:=f.HK fun f l left deep=>
 if IntKind.i64.wrap (left - 1)<0∨deep=0∨f.op<1∨7<f.op∨f.kids.length≠CF f.op then(false,IntKind.i64.wrap (left - 1))else
 if Bq f then(Lj w f,IntKind.i64.wrap (left - 1))else
 if f.arg≠0∨0<f.path.length∨f.cls≠0∨f.n≠0 then(false,IntKind.i64.wrap (left - 1))else
 Cm (fun(k:Int→Int→Bool×Int) s=>k s (deep - 1)) l (IntKind.i64.wrap (left - 1))
def LC {α β S:Type} (g:α→β) (stp:β→S→Bool×S): ∀(l:List α) (s:S),Cm stp (l.map g) s=Cm (fun a s=>stp (g a) s) l s
 | [],_=>rfl
 | a::r,s=>by simp only[E8,Cm,LC g stp r]
def HW (w:AK) (f:Fact) (left deep:Int):Ee w f left deep =
    if IntKind.i64.wrap (left - 1)<0∨deep=0∨f.op<1∨7<f.op∨f.kids.length≠CF f.op then(false,IntKind.i64.wrap (left - 1))else
    if Bq f then(Lj w f,IntKind.i64.wrap (left - 1))else
    if f.arg≠0∨0<f.path.length∨f.cls≠0∨f.n≠0 then(false,IntKind.i64.wrap (left - 1))else
    Cm (fun k s=>Ee w k s (deep - 1)) f.kids (IntKind.i64.wrap (left - 1)):=by
 rw[Ee,Fact.Dg,LC];rfl
def Vr {w:AK} {f:Fact} {left deep L1:Int} {b:Bool} {nL:Nat} {σ:AH} (hs:Sat σ [.box nL [eI L1]]) (h:Ee w f left deep=(b,L1)):A2 σ (.b b) fun r σ'=> ∃post:List At,(r=R.ret (.b (Ee w f left deep).1)∧post= [.box nL [eI (Ee w f left deep).2]])∧Sat σ' post:=by
 rw[h];exact AQ ⟨_,⟨rfl,rfl⟩,hs⟩
set_option maxHeartbeats 4000000 in
def dt (w:AK) (us:List Nat) (hw1:w.parents.length≤60) (hw2:w.owner.length≤60) (nL:Nat) (f:Fact): ∀(left deep:Int),0≤deep→deep≤12→
    Bk Tryz.prog 181 [.rp (wC w us),.a (xF f),.p nL 0,eI deep] [.box nL [eI left]] fun r post=>r= .ret (.b (Ee w f left deep).1)∧post= [.box nL [eI (Ee w f left deep).2]]:=by
 induction f using Fact.ind with
 | h f ih=>
   intro left deep hd0 hd1 σ hs;refine BJ.fit (by kernel_rfl) fun hf=>?_
   have⟨h2,h3,h4⟩:=IQ hf.2.1;have hM:=Mx;have hdw:IntKind.i64.wrap (deep - 1)=deep - 1:=wrap64 (by omega) (by omega);refine lV kZ ?_
   have hstep:DC Tryz.prog (.f (.func 223) [] [.rp [.rp (wC w us)],.rp [.p nL 0],.rp [eI deep]]) (fun y=> .a (xF y)) (fun s=>[.box nL [eI s]]) (fun k s=>Ee w k s (deep - 1)) (fun y _=>y∈f.kids∧deep≠0):=by
    rintro y s ⟨hy,hdn⟩ σ hs;refine Bp ?_;show BJ Tryz.prog 223 ([]++[.a (xF y)]++[.rp [.rp (wC w us)],.rp [.p nL 0],.rp [eI deep]]) σ _;refine ku kZ ?_
    conv=>whnf
    repeat'((first|apply st|(apply sq;intro K U)|(apply si;intro A B Y Z)|(apply Y;clear Z B Y A)|(apply U;clear U K)|refine⟨rfl,?_⟩|refine⟨kZ,?_⟩|fail)<;>conv=>whnf)
    rw[hdw];refine(ih y hy s (deep - 1) (by omega) (by omega)).use (rest:=[]) hs ?_;rintro r post σ ⟨rfl,rfl⟩ hs
    conv=>whnf
    repeat'((first|apply st|(apply Y;clear Z B Y A)|(apply U;clear U K)|fail)<;>conv=>whnf)
    exact AQ ⟨rfl,hs⟩
   conv=>whnf
   repeat'((first|apply st|(apply sq;intro K U)|(apply si;intro A B Y Z)|(apply Y;clear Z B Y A)|(apply U;clear U K)|apply dr|refine rk ?_ ?_|exact fun s e=>by cases e;rfl|refine⟨rfl,?_⟩|refine⟨kZ,?_⟩|refine ld ?_|refine FB fun σ hs=>?_|refine Pure.use (NC _) ?_|refine Pure.use (eL _) ?_|refine Pure.use (bt w us _ hw1) ?_|refine Pure.use (dd w us _ _ hw2) ?_|(constructor<;>intro hc<;>(try rw[hc])<;>(replace hc:=bp hc)<;>(try simp(disch:=omega) only[BQ,wrap64,AL]at hc))|clear U K)<;>conv=>whnf)
   all_goals first
    | (refine Vr hs ?_;rw[HW,if_pos (by omega)];done)
    | (refine Vr hs ?_;rw[HW,if_neg (by omega),if_pos (by assumption)];simp[Lj, *];done)
    | (refine Vr hs ?_;rw[HW,if_neg (by omega),if_pos (by assumption)];simp[Lj, *];intros;omega)
    | (refine Vr hs ?_;rw[HW,if_neg (by omega),if_neg (by simp[*]),if_pos (by omega)];done)
    | skip
   refine(Z5 223 [] _ _ _ _ hstep f.kids false (IntKind.i64.wrap (left - 1)) h2 (Gy fun y hy _=>⟨hy,by omega⟩)).use (rest:=[]) hs ?_;have hE:=HW w f left deep;rw[if_neg (by omega),if_neg (by simp[*]),if_neg (by omega)]at hE;rw[←hE];rintro r post σ ⟨rfl,rfl⟩ hs
   conv=>whnf
   repeat'((first|apply st|(apply Y;clear Z B Y A)|(apply U;clear U K)|fail)<;>conv=>whnf)
   exact AQ ⟨_,⟨rfl,rfl⟩,hs⟩
def KX (w:AK) (f:Fact):Bool:=(Ee w f 24 12).1
def YG (w:AK) (us:List Nat) (hw1:w.parents.length≤60) (hw2:w.owner.length≤60) (f:Fact):Pure Tryz.prog 180 [.a (xF f),.rp [.rp (wC w us)]] (.b (KX w f)):=by
 refine Pure.of ?_;refine lW kZ ?_;have hs:=Sn
 conv=>whnf
 repeat'((first|apply st|(apply sq;intro K U)|(apply si;intro A B Y Z)|(apply Y;clear Z B Y A)|(apply U;clear U K)|refine⟨kZ,?_⟩|refine FB fun σ hs=>?_|(intro nn hnn;generalize hg:BA _ nn _=σ;refine Ct hg fun hs=>?_;clear hg)|fail)<;>conv=>whnf)
 refine(dt w us hw1 hw2 _ f 24 12 (by omega) (by omega)).use (rest:=[]) hs ?_;rintro r post σ ⟨rfl,rfl⟩ hs
 conv=>whnf
 repeat'((first|apply st|(apply Y;clear Z B Y A)|(apply U;clear U K)|fail)<;>conv=>whnf)
 exact AQ rfl
def fL {g:FuncId} {fi ca:List V} {f:Fact→Bool} {xs:List Fact} (b:Bool) (hl:xs.length≤Af) (h: ∀y∈xs,Pure Tryz.prog g (fi++[.a (xF y)]++ca) (.b (f y))):Pure Tryz.prog 179 [.l (facts xs) b,.f (.func g) fi ca] (.b (xs.all f)):=by
 have:=Z5 g fi ca (fun _=>[]) (fun y (_:Unit)=>(f y,())) (fun y _=>y∈xs) (fun y s hy σ hs=>Bp (BJ.mono ((h y hy).use (k:=fun v σ'=>v= .b (f y)∧Sat σ' []) (kp:=fun _ _=>False) ⟨rfl,Sat.nil⟩) (by
  rintro(v|v) σ' hq
  ·obtain⟨rfl,h⟩:=hq
   exact⟨rfl,h⟩
  ·exact hq.elim))) xs b () hl (Gy fun y hy _=>hy)
 rw[JP]at this;exact Pure.of (BJ.mono (this emp Sat.nil) fun r σ' ⟨post,⟨h1,h2⟩,h3⟩=>h1)
def YI (w:AK) (us:List Nat) (hw1:w.parents.length≤60) (hw2:w.owner.length≤60) (l:List Fact) (b:Bool) (hl:l.length≤60):Pure Tryz.prog 140 [.rp (wC w us),.l (facts l) b] (.b (l.all (KX w))):=by
 have hall:=fL (g:=180) (fi:=[]) (ca:=[.rp [.rp (wC w us)]]) (f:=KX w) (xs:=l) b (by simp only[Af];omega) fun y _=>YG w us hw1 hw2 y
 refine mS kZ ?_;have hs:=Sn
 conv=>whnf
 repeat'((first|apply st|(apply sq;intro K U)|(apply si;intro A B Y Z)|(apply Y;clear Z B Y A)|(apply U;clear U K)|refine Pure.use (by assumption) ?_|fail)<;>conv=>whnf)
 exact AI rfl
def M6 (w:AK) (hw:CQ w) (l:List Fact) (b:Bool) (hl:l.length≤60):Pure Tryz.prog 109 [.a (BE w),.l (facts l) b] (.t [.rp (wC w (CE w.parents)),.b (l.all (KX w))]):=by
 have hfo:=YI w (CE w.parents) (by have:=hw.1.1;omega) (by have:=hw.2.1;omega) l b hl;refine m5 kZ ?_;have hs:=Sn
 conv=>whnf
 repeat'((first|apply st|(apply sq;intro K U)|(apply si;intro A B Y Z)|(apply Y;clear Z B Y A)|(apply U;clear U K)|refine⟨kZ,?_⟩|refine Pure.use (dk w hw) ?_|refine hfo.use ?_|fail)<;>conv=>whnf)
 all_goals exact AI rfl
def Yg (w:AK) (hw:CQ w) (f:Fact):Pure Tryz.prog 170 [.a (BE w),.a (xF f)] (eI (if KX w f then 0 else 2)):=by
 have hfo: ∀b,Pure Tryz.prog 109 [.a (BE w),.l [Fx f] b] (.t [.rp (wC w (CE w.parents)),.b (KX w f)]):=fun b=>by
  have:=M6 w hw [f] b (by simp);simpa using this
 refine lk kZ ?_;have hs:=Sn
 conv=>whnf
 repeat'((first|apply st|(apply sq;intro K U)|(apply si;intro A B Y Z)|(apply Y;clear Z B Y A)|(apply U;clear U K)|refine⟨kZ,?_⟩|fail)<;>conv=>whnf)
 rw[Bd]at hfo;refine(hfo _).use ?_
 conv=>whnf
 repeat'((first|apply st|(apply sq;intro K U)|(apply si;intro A B Y Z)|(apply Y;clear Z B Y A)|(apply U;clear U K)|refine Pure.use (Uv _) ?_|fail)<;>conv=>whnf)
 exact AI rfl
end Go.Gl
namespace Go.Gl
def LI {most:Int}: ∀(l:List Fact) (n:Int),(∀k∈l,∀m:Int,(LU k:Int)≤m→CZ k m=LU k)→n+(l.map LU).sum≤most→Dc (l.map CZ) n most=n+(l.map LU).sum
 | [],n,_,_=>by simp[Dc]
 | k::r,n,h,h1=>by
   simp only[E8,List.sum_cons,Dc]at *;rw[if_pos (by omega),h k (.head _) (most - n) (by omega),LI r _ (fun k' hk'=>h k' (.tail _ hk')) (by omega)];omega
def Rx (f:Fact): ∀m:Int,(LU f:Int)≤m→CZ f m=LU f:=by
 induction f using Fact.ind with
 | h f ih=>
   intro m hm;rw[Hf];rw[Jt]at *;rw[LI f.kids 1 ih (by omega)];omega
def Xu (f:Fact) {m:Int} (h0:0≤m):CZ f m≤m↔(LU f:Int)≤m:=
 ⟨fun h=>by rw[←J5 f m h0 h];exact h,fun h=>by rw[Rx f m h];exact h⟩
def e9 (f:Fact):1≤LU f:=by rw[Jt];omega
def GS {m:Int}: ∀(l:List Int) (a:Int),l.foldl HH a≤m↔a≤m∧ ∀x∈l,x≤m
 | [],a=>by simp
 | x ::r,a=>by
   rw[List.foldl_cons,GS r];unfold HH;constructor
   ·rintro⟨h1,h2⟩
    refine⟨by split at h1<;>omega,fun y hy=>?_⟩;rcases GB.1 hy with rfl|hy
    ·split at h1<;>omega
    ·exact h2 y hy
   ·rintro⟨h1,h2⟩
    have hx:=h2 x (.head _);exact⟨by split<;>omega,fun y hy=>h2 y (.tail _ hy)⟩
def bk (f:Fact) {m:Int}:EB f≤m↔1≤m∧ ∀k∈f.kids,EB k≤m - 1:=by
 rw[F7];constructor
 ·intro h
  have:=(GS (m:=m - 1) (f.kids.map EB) 0).1 (by omega);exact⟨by omega,fun k hk=>this.2 _ (List.mem_map_of_mem hk)⟩
 ·rintro⟨h1,h2⟩
  have:=(GS (m:=m - 1) (f.kids.map EB) 0).2 ⟨by omega,fun x hx=>by
   obtain⟨k,hk,rfl⟩:=Mk.1 hx
   exact h2 k hk⟩
  omega
def ZC (w:AK) (f:Fact) (left deep:Int):Prop:=(LU f:Int)≤left∧EB f≤deep∧Bj w f=true
def Qq (w:AK) {deep:Int}: ∀(l:List Fact) (left:Int),0≤left→left≤24→(∀k∈l,∀left:Int,0≤left→left≤24→((Ee w k left deep).1=true↔ZC w k left deep)∧((Ee w k left deep).1=true→(Ee w k left deep).2=left - LU k))→
    ((Cm (fun k s=>Ee w k s deep) l left).1=true↔((l.map LU).sum:Int)≤left∧ ∀k∈l,EB k≤deep∧Bj w k=true)∧((Cm (fun k s=>Ee w k s deep) l left).1=true→(Cm (fun k s=>Ee w k s deep) l left).2=left - ((l.map LU).sum:Nat))
 | [],left,h0,h1,_=>by simp[Cm];exact h0
 | k ::r,left,h0,h1,h=>by
   obtain⟨ha,hb⟩:=h k (.head _) left h0 h1;simp only[Cm,E8,List.sum_cons];cases hk:(Ee w k left deep).1
   ·simp only[LS,if_false,false_iff,false_implies,and_true]
    rintro⟨h2,h3⟩;have:=ha.2 ⟨by omega,(h3 k (.head _)).1,(h3 k (.head _)).2⟩;rw[hk]at this;cases this
   ·obtain⟨g1,g2,g3⟩:=ha.1 hk
    have hc:=e9 k;rw[if_pos rfl,hb hk];obtain⟨i1,i2⟩:=Qq w r (left - LU k) (by omega) (by omega) fun k' hk'=>h k' (.tail _ hk')
    refine⟨i1.trans ⟨fun⟨e1,e2⟩=>⟨by omega,fun x hx=>?_⟩,fun⟨e1,e2⟩=>⟨by omega,fun x hx=>e2 x (.tail _ hx)⟩⟩,fun h=>by rw[i2 h];omega⟩;rcases GB.1 hx with rfl|hx
    ·exact⟨g2,g3⟩
    ·exact e2 x hx
def dq (w : AK) (f:Fact): ∀left deep:Int,0≤left→left≤24→0≤deep→((Ee w f left deep).1=true↔ZC w f left deep)∧((Ee w f left deep).1=true→(Ee w f left deep).2=left - LU f):=by
 induction f using Fact.ind with
 | h f ih=>
   intro left deep h0 h1 hd;have hw:IntKind.i64.wrap (left - 1)=left - 1:=wrap64 (by omega) (by omega);rw[HW,hw];have hc:=Jt f;have hn:=Ch w f;have hdl:=bk f (m:=deep)
   have hko:DB w f=true→f.kids.length=CF f.op:=fun h=>by
    simp only[DB,BY,Dx]at h;exact h.2.1
   have hop:DB w f=true→1≤f.op∧f.op≤7:=fun h=>by
    simp only[DB,BY]at h;have h1:=h.1;unfold SG at h1;split at h1
    ·omega
    split at h1
    ·omega
    simp at h1;omega
   by_cases hbad:left - 1<0∨deep=0∨f.op<1∨7<f.op∨f.kids.length≠CF f.op
   ·rw[if_pos hbad]
    simp only[LS,false_iff,false_implies,and_true];rintro⟨g1,g2,g3⟩;rw[hn,BY]at g3;have g4:=hko g3.1;have g5:=hop g3.1;have g6:=(hdl.1 g2).1;omega
   rw[if_neg hbad];by_cases hl:Bq f=true
   ·rw [if_pos hl]
    have hl':f.op=2∨f.op=3∨f.op=4:=by
     simp only[Bq,Fq,Dx]at hl;omega
    have hk0:f.kids= []:=by
     have:f.kids.length=CF f.op:=by omega
     rw[CF,if_neg (by omega),if_neg (by omega)]at this;exact Yq.1 this
    have hd1:EB f=1:=by rw[F7,hk0];rfl
    have hc1:LU f=1:=by rw[hc,hk0];rfl
    have hh:DB w f=Lj w f:=by
     unfold DB SG Lj;rw[hl,hk0];have e:CF f.op=0:=by rw[CF,if_neg (by omega),if_neg (by omega)]
     rw[e];simp only[List.length_nil,beq_self_eq_true,E7,Bool.true_or,Bool.and_true];rcases hl' with e|e|e
     ·rw[if_pos e,if_pos e]
      cases(f.n==0&&NT w f.cls)<;>simp
     ·rw[if_neg (show¬f.op=2 by omega),if_neg (show¬f.op=2 by omega),if_pos (show f.op=3∨f.op=4 from .inl e)]
      cases(f.cls==0&&(decide (-1000000000≤f.n)&&decide (f.n≤1000000000)))<;>simp
     ·rw[if_neg (show¬f.op=2 by omega),if_neg (show¬f.op=2 by omega),if_pos (show f.op=3∨f.op=4 from .inr e)]
      cases(f.cls==0&&(decide (-1000000000≤f.n)&&decide (f.n≤1000000000)))<;>simp
    refine⟨⟨fun h=>⟨by omega,by omega,?_⟩,fun⟨_,_,h⟩=>?_⟩,fun _=>by dsimp only;omega⟩
    ·rw[hn,hk0,hh];simpa using h
    ·rw[hn,hk0,hh]at h;simpa using h
   ·have hl':f.op=1∨f.op=5∨f.op=6∨f.op=7:=by
     simp only[Bq,Fq,Dx]at hl;omega
    have hlf:Bq f=false:=by simpa using hl
    rw[if_neg hl];by_cases hz:f.arg≠0∨0<f.path.length∨f.cls≠0∨f.n≠0
    ·rw[if_pos hz]
     simp only[LS,false_iff,false_implies,and_true];rintro⟨g1,g2,g3⟩;rw[hn,BY]at g3;have g4:=g3.1;simp only[DB,hlf,Bool.false_or,BY,Dx]at g4;omega
    ·rw [if_neg hz]
     obtain⟨i1,i2⟩:=Qq w (deep:=deep - 1) f.kids (left - 1) (by omega) (by omega) fun k hk left hl0 hl1=>ih k hk left (deep - 1) hl0 hl1 (by omega)
     have hh:DB w f=true:=by
      have hp:f.path= []:=Yq.1 (by omega)
      have e1:SG w f=true:=by
       unfold SG;rw[if_neg (by omega),if_neg (by omega)];simp only[Fq,Dx];omega
      have z1:f.arg=0:=by omega
      have z2:f.cls=0:=by omega
      have z3:f.n=0:=by omega
      have z4:f.kids.length=CF f.op:=by omega
      simp[DB,e1,hlf,hp,z1,z2,z3,z4,Es]
     refine⟨i1.trans ⟨fun⟨e1,e2⟩=>⟨by omega,hdl.2 ⟨by omega,fun k hk=>(e2 k hk).1⟩,?_⟩,fun⟨g1,g2,g3⟩=>⟨by omega,fun k hk=>⟨(hdl.1 g2).2 k hk,?_⟩⟩⟩,fun h=>by rw[i2 h];omega⟩
     ·rw[hn,hh,E7,EN]
      exact fun k hk=>(e2 k hk).2
     ·rw[hn,hh,E7,EN]at g3
      exact g3 k hk
def NI (w:AK) (f:Fact):KX w f=Cf w f:=by
 have:=(dq w f 24 12 (by omega) (by omega) (by omega)).1;rw[KX,Cf,LW,this,ZC];simp only[BY,Ce];rw[Xu f (by omega)]
end Go.Gl
namespace Go.Gl
open Go.Proofs
attribute [local irreducible] BJ A2 Ak AW AM Aj AV AX AN Ai AR AU A5 BF Sat Ad BD Al W
def K3 {p:Prog} (h:BG p=true):CQ (AS p)∧Bu p.AP≤40∧p.AP.length≤10:=by
 have h1:=h;rw[O9]at h1;simp only[BY,Ce]at h1;have h2:=h;simp only[BG,BY,Ce]at h2;have hm:=(FO _ _ h2.2.1).1;refine⟨⟨Du h1.2.2.2.1,?_,fun o ho=>?_⟩,by omega,h1.1⟩
 ·rw[AS,Cd];omega
 ·have:=F5 ho
  simp only[AS,A6,BQ];omega
def cV (s:List Int):Prop:= ∀x∈s,(-1:Int)≤x
def eW {s:List Int} (h:cV s) (i:Nat) {x:Int} (hx:0≤x):cV (s.set i x):=fun y hy=>by
 rcases List.mem_or_eq_of_mem_set hy with hy|rfl
 ·exact h y hy
 ·omega
def TI {f:Int→Int→List Int→Option (List Int)} (hf: ∀ {a b s s'},0≤b→f a b s=some s'→cV s→cV s') {op size:Int} (h0:0≤size): ∀(i:Nat) (l:List Int) {s s':List Int},Fe f op size i l s=some s'→cV s→cV s'
 | _,[],s,s',h,hs=>by cases h;exact hs
 | i,k::r,s,s',h,hs=>by
   simp only[Fe]at h;split at h
   ·cases h
   ·rename_i s1 h1
    refine TI hf h0 (i+1) r h (hf ?_ h1 hs);split<;>omega
def Km {p:Prog} {next:Bool}: ∀(d:Nat) {n size:Int} {s s':List Int},0≤size→CP p next d n size s=some s'→cV s→cV s'
 | 0,_,_,_,_,_,h,_=>by cases h
 | d + 1,n,size,s,s',h0,h,hs=>by
   simp only[CP]at h;split at h
   ·cases h
   ·split at h
    ·cases h
    ·split at h
     ·exact TI (fun hb h hs=>Km d hb h hs) h0 0 _ h (eW hs _ h0)
     ·cases h
def eX {s:List Int} (h:cV s):(s.all fun n=>decide (0≤n))= !s.contains (-1):=by
 rw[LW];simp only[EN,Ce,Bool.not_eq_true',←Bool.not_eq_true,List.contains_iff_mem];constructor
 ·intro h1 h2
  have:=h1 _ h2;omega
 ·intro h1 x hx
  have:=h x hx;rcases Int.lt_or_le x 0 with hlt|hle
  ·exact absurd ((show x= -1 by omega) ▸ hx) h1
  ·exact hle
def nf (p:Prog) (nO:Nat) (r:R) (σ:AH):Prop:=
 match BV p with
 | some s=>r= .ret (.t [])∧ ∃v,Sat σ [.box nO [v],.own v 1 (iL s)]
 | none=>r= .C2 Dr∧ ∃v s,Sat σ [.box nO [v],.own v 1 (iL s)]
def XC {p:Prog} {nO:Nat} {σ:AH} {v:V} {s:List Int} {l:List At} (h:BV p=none) (hs:Sat σ l) (hsub: [At.box nO [v],.own v 1 (iL s)].Sublist l):Ak σ Dr (nf p nO):=DO (by
 rw[nf,h]
 exact⟨rfl,v,s,hs.less hsub⟩)
def wx {p:Prog} {nO:Nat} {σ:AH} {v:V} {s:List Int} {l:List At} (h:BV p=some s) (hs:Sat σ l) (hsub: [At.box nO [v],.own v 1 (iL s)].Sublist l):A2 σ (.t []) (nf p nO):=AQ (by
 rw[nf,h]
 exact⟨rfl,v,hs.less hsub⟩)
def RH {p:Prog} (h:Cy p=false):BV p=none:=by unfold BV;rw[h];rfl
def W4 {w:AK} {f:Fact} (h:Cf w f=true):Nk f=true:=Oh (w:=w) f (by simp only[Cf,BY]at h;exact h.2.2)
def VJ {w:AK} (hw:CQ w) (f:Fact):Pure Tryz.prog 170 [.a (BE w),.a (xF f)] (eI (if Cf w f then 0 else 2)):=by
 rw[←NI];exact Yg w hw f
def Xo {α:Type} (a b c:α): [a,b,c].Perm [c,b,a]:=by simpa using(List.reverse_perm [a,b,c]).symm
set_option maxHeartbeats 4000000 in
def ah (p : Prog) (nO:Nat) (σ:AH) (hs:Sat σ [.box nO [.l [] true]]):BJ Tryz.prog 162 [.rp (BR p),.p nO 0] σ (nf p nO):=by
 refine BJ.fit (by kernel_rfl) fun hf=>?_
 have hM:=Mx
 have hfp:FA (.a (BR p)):=by
  have:=hf.1;simp only[Rn]at this;simpa only[G0]using this
 have⟨p1,p2,p3,p4⟩:=Ff hfp;refine l6 kZ ?_;have hcl:=Ve p;replace hs:Sat σ [.box nO [.l [] true],.own (.l [] true) 1 (iL [])]:=E9 hs 1;cases hcB:BG p with
 | false=>
   rw[hcB]at hcl
   conv=>whnf
   repeat'((first|apply st|(apply sq;intro K U)|(apply si;intro A B Y Z)|refine⟨kZ,?_⟩|fail)<;>conv=>whnf)
   refine hcl.use (pre:=[]) (rest:=[.box nO [.l [] true],.own (.l [] true) 1 (iL [])]) hs ?_;rintro r post σ ⟨rfl,rfl⟩ hs
   conv=>whnf
   repeat'((first|(refine Z _ _ _ ?_;clear Z B Y A)|clear U K)<;>conv=>whnf)
   exact XC (RH (by simp[Cy,hcB])) hs (.refl _)
 | true=>
   rw[hcB]at hcl;obtain⟨hgW,hmS,h10⟩:=K3 hcB
   conv=>whnf
   repeat'((first|apply st|(apply sq;intro K U)|(apply si;intro A B Y Z)|refine⟨kZ,?_⟩|fail)<;>conv=>whnf)
   refine hcl.use (pre:=[]) (rest:=[.box nO [.l [] true],.own (.l [] true) 1 (iL [])]) hs ?_;clear hs;rintro r post σ ⟨rfl,rfl⟩ hs
   conv=>whnf
   repeat'((first|apply st|(apply sq;intro K U)|(apply si;intro A B Y Z)|(apply Y;clear Z B Y A)|(refine Z _ _ _ ?_;clear Z B Y A)|(apply U;clear U K)|refine⟨rfl,?_⟩|(refine Cs (fun hc=>?_) (fun hc=>?_)<;>(replace hc:=bp hc)<;>(try simp(disch:=omega) only[BQ,wrap64,AL]at hc)<;>(try(cases hc;done)))|(constructor<;>intro hc<;>(try rw[hc])<;>(replace hc:=bp hc)<;>(try simp(disch:=omega) only[BQ,wrap64,AL]at hc))|clear U K)<;>conv=>whnf)
   rotate_left
   all_goals first
    | exact XC (RH (by simp[Cy, *];intros;omega)) hs (.refl _)
    | skip
   have a1:p.Cx.length≤8:=by omega
   have a2:p.methods.length≤16:=by omega
   have a3:1≤p.nodes.length:=by omega
   have a4:p.nodes.length≤120:=by omega
   have hg:Cy p=p.Cx.all fun g=>decide (1≤g)&&decide (g≤3):=by
    simp only[Cy,a1,a2,a3,a4,decide_true,E7];simp[*]
   refine B2 p.Cx.length (fun k (_:Unit)=>[(36,eI (A4 k))]) (fun _ _=>[.box nO [.l [] true],.own (.l [] true) 1 (iL [])]) (fun k _=>Cy p=(p.Cx.drop k).all fun g=>decide (1≤g)&&decide (g≤3)) () rfl (by simpa using hg) hs ?_;clear hs hg;rintro k - σ hk hn hs;rcases BC p.Cx hk with⟨g,hgk,hlt⟩|hke
   ·rw[drop_cons hgk,My]at hn
    conv=>whnf
    repeat'((first|apply st|(apply sq;intro K U)|(apply si;intro A B Y Z)|(apply Y;clear Z B Y A)|(refine Z _ _ _ ?_;clear Z B Y A)|(apply U;clear U K)|refine⟨rfl,?_⟩|refine ix ?_|(refine CK (fun hc=>?_)<;>(try rw[hc])<;>clear hc)|(refine Cs (fun hc=>?_) (fun hc=>?_)<;>(replace hc:=bp hc)<;>(try simp(disch:=omega) only[BQ,wrap64,AL]at hc)<;>(try(cases hc;done)))|(constructor<;>intro hc<;>(try rw[hc])<;>(replace hc:=bp hc))|clear U K)<;>conv=>whnf)
    ·exact⟨hlt,(),rfl,by rw[hn];simp[*],hs⟩
    ·exact XC (RH (by rw[hn,decide_eq_false (show¬g≤3 by omega)];simp)) hs (.refl _)
    ·exact XC (RH (by rw[hn,decide_eq_false (show¬1≤g by omega)];simp)) hs (.refl _)
   ·have hh : Cy p=true:=by rw[hn,Ah hke];rfl
    have hL:=WU hh;clear hn
    conv=>whnf
    repeat'((first|apply st|(apply sq;intro K U)|(apply si;intro A B Y Z)|(apply Y;clear Z B Y A)|(apply U;clear U K)|refine⟨rfl,?_⟩|(refine DR (fun hc=>?_)<;>(try rw[hc])<;>clear hc)|clear U K)<;>conv=>whnf)
    rw[BQ];refine(Xh p.nodes.length a3 a4).use (pre:=[]) (rest:=[.box nO [.l [] true],.own (.l [] true) 1 (iL [])]) hs ?_;clear hs;rintro r post σ ⟨v,rfl,rfl,hv⟩ hs
    conv=>whnf
    repeat'((first|apply st|(apply sq;intro K U)|(apply si;intro A B Y Z)|(apply Y;clear Z B Y A)|(apply U;clear U K)|refine⟨kZ,?_⟩|refine FB fun σ hs=>?_|refine Dy fun σ hs=>?_|refine Pure.use (Sk p (by omega) (by omega)) ?_|(intro nn hnn;generalize hg:BA _ nn _=σ;refine Ct hg fun hs=>?_;clear hg)|fail)<;>conv=>whnf)
    rename_i nw hnw _ hs;generalize nn=n5 at *;replace hs:=hs.less (show [At.box n5 (BE (AS p)),.own v 1 (iL (List.replicate p.nodes.length (-1))),.box nO [v]].Sublist _ from .cons₂ _ (.cons₂ _ (.cons₂ _ (.cons _ .slnil))));refine B2 p.methods.length (fun k (s:List Int)=>[(59,eI (A4 k))]) (fun _ s=>[.box nO [v],.own v 1 (iL s),.box n5 (BE (AS p))]) (fun k s=>s.length=p.nodes.length∧cV s∧BV p=JZ p (runM p (p.methods.drop k) s)) (List.replicate p.nodes.length (-1)) rfl ⟨by simp,fun x hx=>by rw[List.eq_of_mem_replicate hx];omega,hL⟩ (hs.perm (Xo _ _ _)) ?_;clear hs hnw hnn;rintro k s σ hk ⟨hl,hge,hn⟩ hs;rcases BC p.methods hk with⟨m,hm,hlt⟩|hke
    ·have hF:=VJ hgW m.fact
     cases hfB:Cf (AS p) m.fact with
     | false=>
       rw[hfB,if_neg Bool.false_ne_true]at hF;have hno:=DU hm hn (by simp[NN,hfB])
       conv=>whnf
       repeat'((first|apply st|(apply sq;intro K U)|(apply si;intro A B Y Z)|(apply Y;clear Z B Y A)|(refine Z _ _ _ ?_;clear Z B Y A)|(refine Z _ _ fun σ hsub=>?_;clear Z B Y A)|(apply U;clear U K)|apply dr|refine rk ?_ ?_|exact fun s e=>by cases e;rfl|refine⟨rfl,?_⟩|refine⟨kZ,?_⟩|refine ix ?_|refine ld ?_|refine Dy fun σ hs=>?_|(refine CK (fun hc=>?_)<;>(try rw[hc])<;>clear hc)|(refine Cs (fun hc=>?_) (fun hc=>?_)<;>(replace hc:=bp hc)<;>(try simp(disch:=omega) only[BQ,wrap64,AL]at hc)<;>(try(cases hc;done)))|refine hF.use ?_|(constructor<;>intro hc<;>(try rw[hc])<;>(replace hc:=bp hc)<;>try(exfalso;omega))|(intro nn hnn;generalize hg:BA _ nn _=σ;refine Ct hg fun hs=>?_;clear hg)|clear U K)<;>conv=>whnf)
       all_goals first
        | (refine XC (v:=v) (s:=s) hno hs ?_;(repeat first|exact LR _|apply List.Sublist.cons₂|apply List.Sublist.cons);done)
        | (refine XC (v:=v) (s:=s) hno (hs.up (by assumption)) ?_;(repeat first|exact LR _|apply List.Sublist.cons₂|apply List.Sublist.cons);done)
        | skip
     | true=>
       rw[hfB,if_pos rfl]at hF;have hsp:=Xa _ (W4 hfB)
       conv=>whnf
       repeat'((first|apply st|(apply sq;intro K U)|(apply si;intro A B Y Z)|(apply Y;clear Z B Y A)|(refine Z _ _ _ ?_;clear Z B Y A)|(refine Z _ _ fun σ hsub=>?_;clear Z B Y A)|(apply U;clear U K)|apply dr|refine rk ?_ ?_|exact fun s e=>by cases e;rfl|refine⟨rfl,?_⟩|refine⟨kZ,?_⟩|refine ix ?_|refine GX ?_|refine iq fun x hx=>?_|refine ld ?_|refine Dy fun σ hs=>?_|(refine CK (fun hc=>?_)<;>(try rw[hc])<;>clear hc)|(refine Cs (fun hc=>?_) (fun hc=>?_)<;>(replace hc:=bp hc)<;>(try simp(disch:=omega) only[BQ,wrap64,AL]at hc)<;>(try(cases hc;done)))|refine hF.use ?_|refine hsp.use ?_|(constructor<;>intro hc<;>(try rw[hc])<;>(replace hc:=bp hc)<;>(try simp(disch:=omega) only[BQ,wrap64,AL]at hc)<;>try(exfalso;omega))|(intro nn hnn;generalize hg:BA _ nn _=σ;refine Ct hg fun hs=>?_;clear hg)|clear U K)<;>conv=>whnf)
       all_goals first
        | (refine XC (v:=v) (s:=s) (DU hm hn ?_) hs ?_;(simp[NN, *];intros;omega);(repeat first|exact LR _|apply List.Sublist.cons₂|apply List.Sublist.cons);done)
        | (refine XC (v:=v) (s:=s) (DU hm hn ?_) (hs.up (by assumption)) ?_;(simp[NN, *];intros;omega);(repeat first|exact LR _|apply List.Sublist.cons₂|apply List.Sublist.cons);done)
        | skip
       rotate_left 2
       ·refine XC (v:=v) (s:=s) (DU hm hn ?_) (hs.up (by assumption)) ?_
        ·simp only[NN,show p.Cx.getD m.gen.toNat 0=x by rw[DY,hx];rfl,decide_eq_false (show¬DL m.fact≤x by omega),Bool.and_false]
        ·repeat first|exact LR _|apply List.Sublist.cons₂|apply List.Sublist.cons
       all_goals
        have hx13:=QP hh hx;have hgd:p.Cx.getD m.gen.toNat 0=x:=by rw[DY,hx];rfl
        have hok:NN p m=true:=by simp only[NN,hgd,BY,Ce];exact⟨by omega,by omega,by omega,by omega,hfB,by assumption⟩
        have hgo:=fun s'=>V7 (s':=s') hm hn hok
        have hno:=P7 hm hn hok;rw[hgd]at hgo hno
       ·have hnb:JY m.kind=(m.kind==4):=by simp[JY, *]
        rw[hnb]at hgo hno;refine Bp ((Rq p (m.kind==4) hv m.node x s (by omega) (by omega) hl [.box n5 (BE (AS p))] σ (hs.less (.cons _ (.refl _)))).mono ?_);cases hw:CP p (m.kind==4) 12 m.node x s with
        | none=>
          clear hs;rintro r σ' ⟨rfl,s',hl',hs⟩
          conv=>whnf
          repeat'((first|(refine Z _ _ fun σ hsub=>?_;clear Z B Y A)|clear U K)<;>conv=>whnf)
          exact XC (v:=v) (s:=s') (hno hw) (hs.up (by assumption)) (.cons₂ _ (.cons₂ _ (LR _)))
        | some s2=>
          clear hs;rintro r σ' ⟨rfl,hs⟩
          conv=>whnf
          repeat'((first|(apply si;intro A B Y Z)|(apply Y;clear Z B Y A)|(apply U;clear U K)|apply dr|refine⟨rfl,?_⟩|clear U K)<;>conv=>whnf)
          exact⟨hlt,s2,rfl,⟨(JG _ hw).trans hl,Km _ (by omega) hw hge,hgo s2 hw⟩,hs⟩
       ·have hnb:JY m.kind=true:=by simp[JY, *]
        rw[hnb]at hgo hno;refine Bp ((Rq p true hv m.node x s (by omega) (by omega) hl [.box n5 (BE (AS p))] σ (hs.less (.cons _ (.refl _)))).mono ?_);cases hw:CP p true 12 m.node x s with
        | none=>
          clear hs;rintro r σ' ⟨rfl,s',hl',hs⟩
          conv=>whnf
          repeat'((first|(refine Z _ _ fun σ hsub=>?_;clear Z B Y A)|clear U K)<;>conv=>whnf)
          exact XC (v:=v) (s:=s') (hno hw) (hs.up (by assumption)) (.cons₂ _ (.cons₂ _ (LR _)))
        | some s2=>
          clear hs;rintro r σ' ⟨rfl,hs⟩
          conv=>whnf
          repeat'((first|(apply si;intro A B Y Z)|(apply Y;clear Z B Y A)|(apply U;clear U K)|apply dr|refine⟨rfl,?_⟩|clear U K)<;>conv=>whnf)
          exact⟨hlt,s2,rfl,⟨(JG _ hw).trans hl,Km _ (by omega) hw hge,hgo s2 hw⟩,hs⟩
    ·subst hke
     rw[List.drop_length,runM]at hn
     conv=>whnf
     repeat'((first|apply st|(apply sq;intro K U)|(apply si;intro A B Y Z)|(apply Y;clear Z B Y A)|(apply U;clear U K)|refine⟨rfl,?_⟩|refine⟨kZ,?_⟩|refine ix ?_|refine ld ?_|refine Dy fun σ hs=>?_|(refine fc (fun x hx hlt hc=>?_) (fun hk hc=>?_)<;>(try rw[hc])<;>clear hc)|(constructor<;>intro hc<;>(try rw[hc])<;>(replace hc:=bp hc)<;>try(exfalso;omega))|(intro nn hnn;generalize hg:BA _ nn _=σ;refine Ct hg fun hs=>?_;clear hg)|clear U K)<;>conv=>whnf)
     rw[JZ]at hn;refine Bp ((Rq p false hv p.main 0 s (by omega) (by omega) hl [.box n5 (BE (AS p))] σ hs).mono ?_);cases hw:CP p false 12 p.main 0 s with
     | none=>
       rw[hw]at hn;clear hs;rintro r σ' ⟨rfl,s',hl',hs⟩
       conv=>whnf
       repeat'((first|(refine Z _ _ _ ?_;clear Z B Y A)|clear U K)<;>conv=>whnf)
       exact XC (v:=v) (s:=s') hn hs (.cons₂ _ (.cons₂ _ (LR _)))
     | some s2=>
       rw[hw]at hn;have hge2:=Km _ (by omega) hw hge;simp only[eX hge2]at hn;clear hs;rintro r σ' ⟨rfl,hs⟩;have hct:=fun f=>Dv s2 f (-1)
       cases hyes:s2.contains (-1)with
       | true=>
         rw[hyes]at hct hn
         conv=>whnf
         repeat'((first|(apply si;intro A B Y Z)|(apply Y;clear Z B Y A)|(apply U;clear U K)|refine ld ?_|fail)<;>conv=>whnf)
         refine Pure.XK (hct false) (.cons (hs.Pm 1 rfl) (.cons (.refl _) .nil)) rfl ?_
         conv=>whnf
         repeat'((first|(refine Z _ _ _ ?_;clear Z B Y A)|(refine Cs (fun hc=>?_) (fun hc=>?_)<;>(replace hc:=bp hc)<;>(try simp(disch:=omega) only[BQ,wrap64,AL]at hc)<;>(try(cases hc;done)))|fail)<;>conv=>whnf)
         all_goals exact XC (v:=v) (s:=s2) hn (by first|exact hs|exact hs.up (by assumption)) (.cons₂ _ (.cons₂ _ (LR _)))
       | false=>
         rw[hyes]at hct hn
         conv=>whnf
         repeat'((first|(apply si;intro A B Y Z)|(apply Y;clear Z B Y A)|(apply U;clear U K)|refine ld ?_|fail)<;>conv=>whnf)
         refine Pure.XK (hct false) (.cons (hs.Pm 1 rfl) (.cons (.refl _) .nil)) rfl ?_
         conv=>whnf
         repeat'((first|(apply Y;clear Z B Y A)|(refine Cs (fun hc=>?_) (fun hc=>?_)<;>(replace hc:=bp hc)<;>(try simp(disch:=omega) only[BQ,wrap64,AL]at hc)<;>(try(cases hc;done)))|fail)<;>conv=>whnf)
         all_goals exact wx (v:=v) hn hs (.cons₂ _ (.cons₂ _ (LR _)))
end Go.Gl
namespace Go.Gl
variable {P:Program} {σ:AH}
def Yh {v:V} {Q Q':R→AH→Prop} (h:A2 σ v Q) (hq: ∀r σ,Q r σ→Q' r σ):A2 σ v Q':=by
 obtain⟨vf,s2,h1,h2,h3⟩:=h;exact⟨vf,s2,h1,h2,hq _ _ h3⟩
def DC.more {α S:Type} {g:FuncId} {fi ca:List V} {ea:α→V} {H:S→List At} {stp:α→S→Bool×S} {D:α→S→Prop} (h:DC P (.f (.func g) fi ca) ea H stp D) (pre:List At):DC P (.f (.func g) fi ca) ea (fun s=>pre++H s) stp D:=fun y s hd σ hs=>by
 have h1:Bk P g (fi++[ea y]++ca) (H s) fun r post=>r= .ret (.b (stp y s).1)∧post=H (stp y s).2:=fun σ hs=>BJ.mono (h y s hd σ hs) fun r σ' ⟨e,h2⟩=>⟨_,⟨e,rfl⟩,h2⟩
 refine Bp (h1.use (rest:=pre) (hs.perm SE) ?_);rintro r post σ' ⟨rfl,rfl⟩ hs';exact⟨rfl,hs'.perm SE⟩
def MR {α S:Type} (P:Program) (x:V) (ea:α→V) (H:S→List At) (f:α→Bool) (J:S→Prop) (D:α→Prop):Prop:=
 ∀y s,D y→J s→ ∀σ,Sat σ (H s)→A5 P x [ea y] σ fun r σ'=>r= .ret (.b (f y))∧ ∃s',J s'∧Sat σ' (H s')
def MR.use {α S:Type} {x:V} {ea:α→V} {H:S→List At} {f:α→Bool} {J:S→Prop} {D:α→Prop} (h:MR P x ea H f J D) {y:α} {s:S} (hd:D y) (hj:J s) (hs:Sat σ (H s)) {k kp:V→AH→Prop} (hk: ∀s' σ',J s'→Sat σ' (H s')→k (.b (f y)) σ'):A5 P x [ea y] σ (qk k kp):=
 (h y s hd hj σ hs).mono fun r σ' ⟨e,s',hj',h'⟩=>by rw[e];exact hk s' σ' hj' h'
def MO {α:Type} (f:α→Bool):List α→Nat→Int
 | [],_=> -1
 | y::r,k=>if f y then(k:Int)else MO f r (k+1)
def TO {α:Type} (f:α→Bool): ∀(xs:List α) (k:Nat),decide (MO f xs k≥0)=xs.any f
 | [],_=>rfl
 | y::r,k=>by
   rw[MO,Qw];cases f y
   ·exact TO f r (k+1)
   ·simp
end Go.Gl
namespace Go.Gl
structure Kn where
 low:Int
 high:Int
 no:List Int
 CD:Nat
 GY:Nat
 whole:Bool
 A9:Bool
 AT:List Int
def k0:Kn:=⟨-1000000000,1000000000,[],0,0,false,false,[]⟩
def Iv (l:List Int) (s:Int):List Int:=if l.contains s then l else(l++[s]).mergeSort G8
def Cu (k:Kn) (f:Fact) (b:Bool):Kn:=
 if f.op=2 then(if b then {k with GY:=k.GY|||2 ^ f.cls.toNat}else {k with CD:=k.CD|||2 ^ f.cls.toNat})
 else if f.op=3 then(if b then {k with low:=if f.n > k.low then f.n else k.low}else {k with high:=if f.n - 1<k.high then f.n - 1 else k.high,whole:=true})
 else if b then {k with no:=k.no++[f.n]}else {k with low:=if f.n > k.low then f.n else k.low,high:=if f.n<k.high then f.n else k.high,whole:=true}
def Dm (k:Kn) (b:Bool):Kn:={k with A9:=k.A9|| !b}
def cR (k:Kn) (s:Int):Kn:={k with AT:=Iv k.AT s}
def DI (a:Int) (p:List Int) (k:Kn) (l:Fact):Kn:=
 if(A0 l).1.arg=a∧Bx (A0 l).1.path p=true then
  (if(A0 l).1.path=p then Cu (Dm k (A0 l).2) (A0 l).1 (A0 l).2 else cR (Dm k (A0 l).2) ((A0 l).1.path.getD p.length 0))
 else k
def kn (ls:List Fact) (a:Int) (p:List Int):Kn:=ls.foldl (DI a p) k0
def Vh (k:Kn) (f:Fact) (b:Bool):(Cu k f b).A9=k.A9:=by
 unfold Cu
 (repeat' split)<;>rfl
def Qk (k:Kn) (f:Fact) (b:Bool):(Cu k f b).AT=k.AT:=by
 unfold Cu
 (repeat' split)<;>rfl
def Rz (a:Int) (p:List Int) (k:Kn) (l:Fact):(DI a p k l).A9=(k.A9|| !((A0 l).2|| !((A0 l).1.arg==a&&Bx (A0 l).1.path p))):=by
 unfold DI;split
 ·rename_i h
  have e:((A0 l).1.arg==a)=true:=by simpa using h.1
  rw[e,h.2];split
  ·rw[Vh];simp[Dm]
  ·simp[cR,Dm]
 ·rename_i h
  have:((A0 l).1.arg==a&&Bx (A0 l).1.path p)=false:=by
   cases hb:((A0 l).1.arg==a&&Bx (A0 l).1.path p)with
   | false=>rfl
   | true=>rw[BY]at hb;exact absurd ⟨by simpa using hb.1,hb.2⟩ h
  rw[this];simp
def LM (a:Int) (p:List Int): ∀(ls:List Fact) (k:Kn),(ls.foldl (DI a p) k).A9=(k.A9|| !EH ls a p)
 | [],k=>by simp[EH]
 | l::r,k=>by
   rw[List.foldl_cons,LM a p r,Rz];simp only[EH,My];generalize (r.all _)=x;generalize ((A0 l).2||_)=y;cases k.A9<;>cases x<;>cases y<;>rfl
def L7 (ls:List Fact) (a:Int) (p:List Int):(kn ls a p).A9= !EH ls a p:=by rw[kn,LM];rfl
def Yd (l:List Int) (s x:Int):x∈Iv l s↔x∈l∨x=s:=by
 unfold Iv;split
 ·rename_i h
  rw[List.contains_iff_mem]at h;constructor
  ·exact .inl
  ·rintro(h'|rfl)
   ·exact h'
   ·exact h
 ·rw[(List.mergeSort_perm _ G8).mem_iff];simp
def R8 {l:List Int} (s:Int) (h:l.Pairwise (· < ·)):(Iv l s).Pairwise (· < ·):=by
 unfold Iv;split
 ·exact h
 ·rename_i hc
  have hc':s∉l:=by simpa using hc
  have hp:=List.mergeSort_perm (l++[s]) G8;have h1:((l++[s]).mergeSort G8).Pairwise (fun a b=>G8 a b=true):=List.pairwise_mergeSort (fun a b c=>by simp only[G8,Ce];omega) (fun a b=>by simp only[G8,Fq,Ce];omega) _
  have h2:((l++[s]).mergeSort G8).Nodup:=hp.nodup_iff.2 (by
   rw[List.nodup_append];refine⟨h.imp fun hab=>by omega,by simp,fun a ha b hb=>?_⟩;simp only[LV]at hb;rintro rfl
   exact hc' (hb ▸ ha))
  exact(h1.and h2).imp fun⟨h3,h4⟩=>by
   simp only[G8,Ce]at h3;omega
def Jy: ∀ {l m:List Int},l.Pairwise (· < ·)→m.Pairwise (· < ·)→(∀x,x∈l↔x∈m)→l=m
 | [],[],_,_,_=>rfl
 | [],y::m,_,_,h=>absurd ((h y).2 (.head _)) (by simp)
 | x::l,[],_,_,h=>absurd ((h x).1 (.head _)) (by simp)
 | x ::l,y::m,h1,h2,h=>by
   rw[List.pairwise_cons]at h1 h2
   have hxy:x=y:=by
    rcases GB.1 ((h x).1 (.head _))with e|hx
    ·exact e
    ·rcases GB.1 ((h y).2 (.head _))with e|hy
     ·exact e.symm
     ·have:=h1.1 y hy
      have:=h2.1 x hx;omega
   subst hxy;congr 1;refine Jy h1.2 h2.2 fun z=>?_
   constructor
   ·intro hz
    rcases GB.1 ((h z).1 (.tail _ hz))with e|hz'
    ·have:=h1.1 z hz;omega
    ·exact hz'
   ·intro hz
    rcases GB.1 ((h z).2 (.tail _ hz))with e|hz'
    ·have:=h2.1 z hz;omega
    ·exact hz'
def Cc {path pre:List Int}:Bx path pre=true↔ ∃t,path=pre++t:=by
 simp only[Bx,BY,Ce,Dx];constructor
 ·rintro⟨_,h⟩
  exact⟨path.drop pre.length,by conv=>lhs;rw[←List.take_append_drop pre.length path,h]⟩
 ·rintro⟨t,rfl⟩
  simp
def T9 {path p:List Int} {s:Int}:Bx path (p++[s])=true↔Bx path p=true∧path≠p∧path.getD p.length 0=s:=by
 rw[Cc,Cc];constructor
 ·rintro⟨t,rfl⟩
  refine⟨⟨s::t,by simp⟩,fun e=>?_,by simp⟩;have:=congrArg List.length e;simp at this
 ·rintro⟨⟨t,rfl⟩,hne,hs⟩
  cases t with
  | nil=>simp at hne
  | cons y t=>simp at hs;subst hs;exact⟨t,by simp⟩
def Wf {a:Int} {p:List Int} {s:Int} {l:Fact}:Vl a p s l=true↔(A0 l).1.arg=a∧Bx (A0 l).1.path p=true∧(A0 l).1.path≠p∧(A0 l).1.path.getD p.length 0=s:=by
 rw[Vl,BY,T9,Dx]
def Tt (a:Int) (p:List Int) (k:Kn) (l:Fact):(DI a p k l).AT=if(A0 l).1.arg=a∧Bx (A0 l).1.path p=true∧(A0 l).1.path≠p then Iv k.AT ((A0 l).1.path.getD p.length 0)else k.AT:=by
 unfold DI;by_cases h1:(A0 l).1.arg=a∧Bx (A0 l).1.path p=true
 ·rw[if_pos h1]
  by_cases h2:(A0 l).1.path=p
  ·rw[if_pos h2,if_neg (fun h=>h.2.2 h2),Qk];rfl
  ·rw[if_neg h2,if_pos ⟨h1.1,h1.2,h2⟩];rfl
 ·rw[if_neg h1,if_neg (fun h=>h1 ⟨h.1,h.2.1⟩)]
def O0 (a:Int) (p:List Int): ∀(ls:List Fact) (k:Kn),k.AT.Pairwise (· < ·)→(ls.foldl (DI a p) k).AT.Pairwise (· < ·)∧ ∀s,s∈(ls.foldl (DI a p) k).AT↔s∈k.AT∨ls.any (Vl a p s)=true
 | [],k,h=>⟨h,fun s=>by simp⟩
 | l ::r,k,h=>by
   rw[List.foldl_cons];have e:=Tt a p k l
   have h1:(DI a p k l).AT.Pairwise (· < ·):=by
    rw[e];split
    ·exact R8 _ h
    ·exact h
   obtain⟨i1,i2⟩:=O0 a p r _ h1;refine⟨i1,fun s=>?_⟩;rw[i2,e,Qw,Fq,Wf];split
   ·rename_i hc
    rw[Yd];constructor
    ·rintro((h|rfl)|h)
     ·exact .inl h
     ·exact .inr (.inl ⟨hc.1,hc.2.1,hc.2.2,rfl⟩)
     ·exact .inr (.inr h)
    ·rintro(h|⟨-,-,-,h⟩|h)
     ·exact .inl (.inl h)
     ·exact .inl (.inr h.symm)
     ·exact .inr h
   ·rename_i hc
    constructor
    ·rintro(h|h)
     ·exact .inl h
     ·exact .inr (.inr h)
    ·rintro(h|⟨q1,q2,q3,-⟩|h)
     ·exact .inl h
     ·exact absurd ⟨q1,q2,q3⟩ hc
     ·exact .inr h
def Hq (n:Nat) (ls:List Fact):Prop:= ∀l∈ls,∀s∈(A0 l).1.path,(0:Int)≤s∧s<n
def FR {n:Nat} {s:Int}:s∈Bi n↔0≤s∧s<n:=by
 simp only[Bi,Mk,List.mem_range];constructor
 ·rintro⟨m,hm,rfl⟩
  exact⟨Int.natCast_nonneg m,by simpa using hm⟩
 ·rintro⟨h0,h1⟩
  exact⟨s.toNat,by omega,by simp;omega⟩
def G3 (n:Nat):(Bi n).Pairwise (· < ·):=by
 rw[Bi,List.pairwise_map];exact List.pairwise_lt_range.imp fun h=>by simpa using h
def jZ {n:Nat} {ls:List Fact} (h:Hq n ls) {a:Int} {p:List Int} {s:Int} {l:Fact} (hl:l∈ls) (hg:Vl a p s l=true):0≤s∧s<n:=by
 rw[Wf]at hg;obtain⟨-,h2,h3,h4⟩:=hg;obtain⟨t,ht⟩:=Cc.1 h2;refine h l hl s ?_;rw[ht]at h3 h4 ⊢;cases t with
 | nil=>simp at h3
 | cons y t=>simp at h4;subst h4;simp
def Kz {n:Nat} {ls:List Fact} (h:Hq n ls) (a:Int) (p:List Int):(kn ls a p).AT=Bs n ls a p:=by
 obtain⟨h1,h2⟩:=O0 a p ls k0 .nil;refine Jy h1 ((G3 n).filter _) fun s=>?_
 show s∈(ls.foldl (DI a p) k0).AT↔_;rw[h2,Bs,JV,FR];constructor
 ·rintro(h|hs)
  ·cases h
  ·obtain⟨l,hl,hg⟩:=JU.1 hs
   exact⟨jZ h hl hg,hs⟩
 ·exact fun hs=> .inr hs.2
def Eo (os:List Fact) (k:Kn):Kn:=os.foldl (fun k l=>Cu k (A0 l).1 (A0 l).2) k
abbrev FH (k:Kn):Int×Int×List Int×Nat×Nat×Bool:=(k.low,k.high,k.no,k.CD,k.GY,k.whole)
def TR {k k':Kn} (h:FH k=FH k') (f:Fact) (b:Bool):FH (Cu k f b)=FH (Cu k' f b):=by
 cases k;cases k';simp only[FH,Prod.mk.injEq]at h;obtain⟨rfl,rfl,rfl,rfl,rfl,rfl⟩:=h;unfold Cu
 (repeat' split)<;>rfl
def Mi (p:List Int):Bx p p=true:=Cc.2 ⟨[],by simp⟩
def YS (a:Int) (p:List Int) (k:Kn) (l:Fact):FH (DI a p k l)=if Gr a p l then FH (Cu k (A0 l).1 (A0 l).2)else FH k:=by
 unfold DI Gr;by_cases h1:(A0 l).1.arg=a
 ·by_cases h2:(A0 l).1.path=p
  ·have e:((A0 l).1.arg==a&&(A0 l).1.path==p)=true:=by simp[h1,h2]
   rw[if_pos ⟨h1,by rw[h2];exact Mi p⟩,if_pos h2,e,if_pos rfl];exact TR (k:=Dm k (A0 l).2) (k':=k) rfl _ _
  ·have e:((A0 l).1.arg==a&&(A0 l).1.path==p)=false:=by simp[h2]
   rw[if_neg h2,e,if_neg Bool.false_ne_true];split<;>rfl
 ·have e:((A0 l).1.arg==a&&(A0 l).1.path==p)=false:=by simp[h1]
  rw[if_neg (fun h=>h1 h.1),e,if_neg Bool.false_ne_true]
def MG (a:Int) (p:List Int): ∀(ls:List Fact) (k k':Kn),FH k=FH k'→FH (ls.foldl (DI a p) k)=FH (Eo (ls.filter (Gr a p)) k')
 | [],k,k',h=>h
 | l ::r,k,k',h=>by
   rw[List.foldl_cons,List.filter_cons];have e:=YS a p k l;split
   ·rename_i ho
    rw[if_pos ho]at e;exact MG a p r _ _ (e.trans (TR h _ _))
   ·rename_i ho
    rw[if_neg (by simpa using ho)]at e;exact MG a p r _ _ (e.trans h)
def ND (ls:List Fact) (a:Int) (p:List Int):FH (kn ls a p)=FH (Eo (ls.filter (Gr a p)) k0):=MG a p ls k0 k0 rfl
def ga (x:Fact×Bool):Bool:= !(x.1.op==2)||(decide (x.1.cls > 1)==x.2)
def XZ (x:Fact×Bool) (k:Kn):HL x (k.low,k.high,k.no)=if ga x then some ((Cu k x.1 x.2).low,(Cu k x.1 x.2).high,(Cu k x.1 x.2).no)else none:=by
 unfold HL ga Cu;by_cases h2:x.1.op=2
 ·rw[if_pos h2,if_pos h2]
  cases x.2<;>cases decide (x.1.cls > 1)<;>simp[h2]
 ·rw[if_neg h2,if_neg h2]
  by_cases h3:x.1.op=3
  ·rw[if_pos h3,if_pos h3]
   cases x.2<;>simp[h2]
  ·rw[if_neg h3,if_neg h3]
   cases x.2<;>simp[h2]
def QZ: ∀(os:List Fact) (k:Kn),foldI os (k.low,k.high,k.no)=if os.all (fun l=>ga (A0 l))then some ((Eo os k).low,(Eo os k).high,(Eo os k).no)else none
 | [],k=>rfl
 | l ::r,k=>by
   rw[foldI,XZ,My];cases hb:ga (A0 l)with
   | false=>rfl
   | true=>
     rw[if_pos rfl,Option.bind_some,QZ r,E7];rfl
def cF (k:Kn) (f:Fact) (c:Bool) (b:Nat):(Cu k f c).CD.testBit b=(k.CD.testBit b||(f.op==2&& !c&&f.cls.toNat==b)):=by
 unfold Cu;by_cases h2:f.op=2
 ·rw[if_pos h2]
  cases c<;>simp[h2,Nat.testBit_or,Nat.testBit_two_pow,Bool.beq_eq_decide_eq]
 ·rw[if_neg h2]
  have:(f.op==2)=false:=by simpa using h2
  rw[this]
  repeat' split
  all_goals simp
def fH (k:Kn) (f:Fact) (c:Bool) (b:Nat):(Cu k f c).GY.testBit b=(k.GY.testBit b||(f.op==2&&c&&f.cls.toNat==b)):=by
 unfold Cu;by_cases h2:f.op=2
 ·rw[if_pos h2]
  cases c<;>simp[h2,Nat.testBit_or,Nat.testBit_two_pow,Bool.beq_eq_decide_eq]
 ·rw[if_neg h2]
  have:(f.op==2)=false:=by simpa using h2
  rw[this]
  repeat' split
  all_goals simp
def Yb (k:Kn) (f:Fact) (c:Bool):(Cu k f c).whole=(k.whole||(!c&& !(f.op==2))):=by
 unfold Cu;by_cases h2:f.op=2
 ·rw[if_pos h2]
  cases c<;>simp[h2]
 ·rw[if_neg h2]
  have:(f.op==2)=false:=by simpa using h2
  rw[this];cases c<;>(repeat' split)<;>simp_all
def MH: ∀(os:List Fact) (k:Kn) (b:Nat),(Eo os k).CD.testBit b=(k.CD.testBit b||os.any fun l=>(A0 l).1.op==2&& !(A0 l).2&&(A0 l).1.cls.toNat==b)
 | [],k,b=>by simp[Eo]
 | l::r,k,b=>by
   have:=MH r (Cu k (A0 l).1 (A0 l).2) b;rw[cF]at this;rw[Qw,←Bool.or_assoc,←this];rfl
def OK: ∀(os:List Fact) (k:Kn) (b:Nat),(Eo os k).GY.testBit b=(k.GY.testBit b||os.any fun l=>(A0 l).1.op==2&&(A0 l).2&&(A0 l).1.cls.toNat==b)
 | [],k,b=>by simp[Eo]
 | l::r,k,b=>by
   have:=OK r (Cu k (A0 l).1 (A0 l).2) b;rw[fH]at this;rw[Qw,←Bool.or_assoc,←this];rfl
def J9: ∀(os:List Fact) (k:Kn),(Eo os k).whole=(k.whole||os.any fun l=> !(A0 l).2&& !((A0 l).1.op==2))
 | [],k=>by simp[Eo]
 | l::r,k=>by
   have:=J9 r (Cu k (A0 l).1 (A0 l).2);rw[Yb]at this;rw[Qw,←Bool.or_assoc,←this];rfl
def PM (m up:Nat):Bool:=(List.range 64).all fun b=> !m.testBit b||up.testBit b
def Nz {m up:Nat} (hm:m<2 ^ 64):PM m up=true↔ ∀b,m.testBit b=true→up.testBit b=true:=by
 simp only[PM,EN,List.mem_range,Fq,Bool.not_eq_true'];constructor
 ·intro h b hb
  have hlt:b<64:=by
   rcases Nat.lt_or_ge b 64 with h'|h'
   ·exact h'
   ·rw[Nat.testBit_lt_two_pow (Nat.lt_of_lt_of_le hm (Nat.pow_le_pow_right (by decide) h'))]at hb;cases hb
  rcases h b hlt with h'|h'
  ·rw[hb]at h';cases h'
  ·exact h'
 ·intro h b _
  cases hb:m.testBit b with
  | false=>exact .inl rfl
  | true=>exact .inr (h b hb)
def OG {m n:Nat}:(m&&&n==0)=true↔ ∀b,m.testBit b=true→n.testBit b=true→False:=by
 rw[Dx];constructor
 ·intro h b h1 h2
  have:=congrArg (fun x=>x.testBit b) h;simp[Nat.testBit_and,h1,h2]at this
 ·intro h
  refine Nat.eq_of_testBit_eq fun b=>?_
  rw[Nat.testBit_and,Nat.zero_testBit];cases h1:m.testBit b with
  | false=>rfl
  | true=>
    cases h2:n.testBit b with
    | false=>rfl
    | true=>exact(h b h1 h2).elim
def RM (c b:Nat):(1|||2 ^ c).testBit b=(b==0||b==c):=by
 rw[Nat.testBit_or,Nat.testBit_two_pow,show(1:Nat)=2 ^ 0 from rfl,Nat.testBit_two_pow];rw[LW];simp only[Fq,Ce,Dx];omega
def Ij (n:Nat) (ls:List Fact):Prop:= ∀l∈ls,(A0 l).1.op=2→0≤(A0 l).1.cls∧(A0 l).1.cls<n
def Ot {m n:Nat} (h: ∀b,m.testBit b=true→b<n):m<2 ^ n:=by
 refine Nat.lt_pow_two_of_testBit _ fun i hi=>?_
 cases hb:m.testBit i with
 | false=>rfl
 | true=>have:=h i hb;omega
def Ra {os:List Fact} {n:Nat} (h:Ij n os):(Eo os k0).CD<2 ^ n:=Ot fun b hb=>by
 rw[MH]at hb;simp only[k0,Nat.zero_testBit,Bool.false_or,JU,BY,Dx]at hb;obtain⟨l,hl,⟨h2,-⟩,rfl⟩:=hb;have:=h l hl h2;omega
def ig {os:List Fact} {n:Nat} (h:Ij n os):(Eo os k0).GY<2 ^ n:=Ot fun b hb=>by
 rw[OK]at hb;simp only[k0,Nat.zero_testBit,Bool.false_or,JU,BY,Dx]at hb;obtain⟨l,hl,⟨h2,-⟩,rfl⟩:=hb;have:=h l hl h2;omega
def Kx {os:List Fact} {b:Nat}:(Eo os k0).CD.testBit b=true↔ ∃l∈os,(A0 l).1.op=2∧(A0 l).2=false∧(A0 l).1.cls.toNat=b:=by
 rw[MH];simp only[k0,Nat.zero_testBit,Bool.false_or,JU,BY,Dx,Bool.not_eq_true',and_assoc]
def WN {os:List Fact} {b:Nat}:(Eo os k0).GY.testBit b=true↔ ∃l∈os,(A0 l).1.op=2∧(A0 l).2=true∧(A0 l).1.cls.toNat=b:=by
 rw[OK];simp only[k0,Nat.zero_testBit,Bool.false_or,JU,BY,Dx,and_assoc]
def Xn {os:List Fact} {n:Nat} (hn:n≤64) (h:Ij n os):(PM (Eo os k0).CD (1|||2 ^ 1)&&((Eo os k0).GY&&&(1|||2 ^ 1)==0))=os.all fun l=>ga (A0 l):=by
 rw[LW,BY,Nz (Nat.lt_of_lt_of_le (Ra h) (Nat.pow_le_pow_right (by decide) hn)),OG];simp only[Kx,WN,RM,EN,ga,Fq,Bool.not_eq_true',beq_eq_false_iff_ne,Dx,ne_eq];constructor
 ·rintro⟨h1,h2⟩ l hl
  by_cases ho:(A0 l).1.op=2
  ·right
   have hc:=h l hl ho;cases hb:(A0 l).2 with
   | false=>
     have:=h1 _ ⟨l,hl,ho,hb,rfl⟩;rw[decide_eq_false_iff_not];omega
   | true=>
     rw[Ce];rcases Int.lt_or_le 1 (A0 l).1.cls with hlt|hle
     ·exact hlt
     ·exact(h2 _ ⟨l,hl,ho,hb,rfl⟩ (by omega)).elim
  ·exact .inl ho
 ·intro h1
  constructor
  ·rintro b ⟨l,hl,ho,hb,rfl⟩
   rcases h1 l hl with h'|h'
   ·exact absurd ho h'
   ·have hc:=h l hl ho
    rw[hb,decide_eq_false_iff_not]at h';omega
  ·rintro b ⟨l,hl,ho,hb,rfl⟩ hu
   rcases h1 l hl with h'|h'
   ·exact absurd ho h'
   ·have hc:=h l hl ho
    rw[hb,Ce]at h';omega
def XX (x:Fact×Bool):(!IJ x)=true↔(x.2=false→x.1.op=2∧(x.1.cls=0∨x.1.cls=2))∧(x.2=true→ ¬(x.1.op=2∧(x.1.cls=0∨x.1.cls=2))):=by
 have e:(x.1.op==2&&(x.1.cls==0||x.1.cls==2))=true↔x.1.op=2∧(x.1.cls=0∨x.1.cls=2):=by
  simp only[BY,Fq,Dx]
 rw[←e,IJ];generalize (x.1.op==2&&(x.1.cls==0||x.1.cls==2))=y;cases x.2<;>cases y<;>simp
def XR {os:List Fact}:(!(Eo os k0).whole)=true↔ ∀l∈os,(A0 l).2=false→(A0 l).1.op=2:=by
 rw[J9,Bool.not_eq_true',←Bool.not_eq_true];simp only[k0,Bool.false_or,JU,BY,Bool.not_eq_true',beq_eq_false_iff_ne];constructor
 ·intro h l hl hb
  rcases Classical.em ((A0 l).1.op=2)with e|e
  ·exact e
  ·exact absurd ⟨l,hl,hb,e⟩ h
 ·rintro h ⟨l,hl,hb,e⟩
  exact e (h l hl hb)
def U2 {os:List Fact} {n:Nat} (hn:n≤64) (h:Ij n os):(!(Eo os k0).whole&&(PM (Eo os k0).CD (1|||2 ^ 2)&&((Eo os k0).GY&&&(1|||2 ^ 2)==0)))=os.all fun l=> !IJ (A0 l):=by
 rw[LW,BY,BY,Nz (Nat.lt_of_lt_of_le (Ra h) (Nat.pow_le_pow_right (by decide) hn)),OG,XR,EN];simp only[Kx,WN,RM,Fq,Dx,XX];constructor
 ·rintro⟨h0,h1,h2⟩ l hl
  refine⟨fun hb=>?_,fun hb ⟨ho,hc⟩=>h2 _ ⟨l,hl,ho,hb,rfl⟩ (by omega)⟩;have ho:=h0 l hl hb;have hc:=h l hl ho;have:=h1 _ ⟨l,hl,ho,hb,rfl⟩;exact⟨ho,by omega⟩
 ·intro h1
  refine⟨fun l hl hb=>((h1 l hl).1 hb).1,?_,?_⟩
  ·rintro b ⟨l,hl,ho,hb,rfl⟩
   have:=((h1 l hl).1 hb).2;omega
  ·rintro b ⟨l,hl,ho,hb,rfl⟩ hu
   have hc:=h l hl ho;exact(h1 l hl).2 hb ⟨ho,by omega⟩
def Lu {no:List Int}: ∀(k:Nat) (m:Int),(Q1 no k m).isSome=true↔ ∃j:Nat,j<k∧m+j∉no
 | 0,m=>by simp[Q1]
 | k + 1,m=>by
   rw[Q1];split
   ·rename_i h
    simp only[Option.isSome_some,true_iff];refine⟨0,by omega,fun hm=>?_⟩;rw[EN]at h;have:=h _ hm;simp at this
   ·rename_i h
    rw[Lu k]
    have hm:m∈no:=by
     rcases Classical.em (m∈no)with h'|h'
     ·exact h'
     ·refine absurd (EN.2 fun x hx=>?_) h
      rw[uG];rintro rfl;exact h' hx
    constructor
    ·rintro⟨j,hj,h'⟩
     exact⟨j+1,by omega,by rw[show m+((j+1:Nat):Int)=m+1+j by omega];exact h'⟩
    ·rintro⟨j,hj,h'⟩
     cases j with
     | zero=>simp at h';exact absurd hm h'
     | succ j=>exact⟨j,by omega,by rw[show m+1+(j:Int)=m+((j+1:Nat):Int) by omega];exact h'⟩
def aV {low high n:Int} {no:List Int} (h0:low≤n) (h1:n∉no) (h2: ∀m,low≤m→m<n→m∈no):(Nb (low,high,no)).isSome=decide (n≤high):=by
 rw[LW,Nb,Lu,Ce];constructor
 ·rintro⟨j,hj,h⟩
  rcases Int.lt_or_le (low+j) n with hlt|hle
  ·exact absurd (h2 _ (by omega) hlt) h
  ·simp only at hj;omega
 ·intro h
  refine⟨(n - low).toNat,by simp only;omega,?_⟩;rw[show low+((n - low).toNat:Int)=n by omega];exact h1
end Go.Gl
namespace Go.Gl
def Sq (g:List (List Int)) (k:Nat): ∀(m d:Nat),d<3+k→(Cj g (k+m)).getD d 0=(Cj g k).getD d 0
 | 0,d,_=>rfl
 | m+1,d,h=>by
   rw[show k+(m+1)=k+m+1 from rfl,Cj,←Sq g k m d h];rw[DY,gW (by rw[Eh];omega),←DY]
def Sr (us:List Nat) (b:Nat): ∀(l:List Int) (s:Nat),(UK us l s).testBit b=(s.testBit b||l.any fun c=>(us.getD c.toNat 0).testBit b)
 | [],s=>by simp[UK]
 | c::r,s=>by
   have:=Sr us b r (s|||us.getD c.toNat 0);rw[Qw,←Bool.or_assoc,←Nat.testBit_or,←this];rfl
def Z4 {α:Type} (f:α→Bool) (b:Bool): ∀(l:List α),(b||l.any fun x=>b||f x)=(b||l.any f)
 | []=>rfl
 | x::r=>by
   have:=Z4 f b r;simp only[Qw];cases b
   ·simpa using this
   ·rfl
def any_congr {α:Type} {f g:α→Bool}: ∀ {l:List α},(∀x∈l,f x=g x)→l.any f=l.any g
 | [],_=>rfl
 | x::r,h=>by
   rw[Qw,Qw,h x (.head _),any_congr fun y hy=>h y (.tail _ hy)]
def RT {g:List (List Int)} (ho:ordered g): ∀(k d b:Nat),k≤g.length→d<3+k→((Cj g k).getD d 0).testBit b=(b==0||JR g d b)
 | 0,d,b,_,hd=>by
   have e:(Cj g 0).getD d 0=1|||2 ^ d:=by
    rcases d with _|_|_|d
    ·rfl
    ·rfl
    ·rfl
    ·omega
   rw[e,RM,Et ho,par,if_pos (by omega),List.any_nil,Bool.or_false];rw[LW];simp only[Fq,Dx];omega
 | k + 1,d,b,hk,hd=>by
   by_cases hlt:d<3+k
   ·rw[Sq g k 1 d hlt]
    exact RT ho k d b (by omega) hlt
   ·obtain rfl:d=3+k:=by omega
    have e:(Cj g (k+1)).getD (3+k) 0=UK (Cj g k) (g.getD k []) (1|||2 ^ (3+k)):=by
     rw[Cj,DY,List.getElem?_append_right (by rw[Eh];omega),Eh,Nat.sub_self];rfl
    have hpar:par g (3+k)=g.getD k []:=by rw[par,if_neg (by omega),show 3+k - 3=k by omega]
    rw[e,Sr,RM,Et ho,hpar]
    have hc:((g.getD k []).any fun c=>((Cj g k).getD c.toNat 0).testBit b)=(g.getD k []).any fun p=>(b==0)||JR g p.toNat b:=any_congr fun p hp=>by
     have:=ho (3+k) p (by rw[hpar];exact hp);exact RT ho k p.toNat b (by omega) (by omega)
    rw[hc];have e2:(b==3+k)=(3+k==b):=by rw[LW];simp only[Dx];omega
    rw[e2,Bool.or_assoc,Bool.or_left_comm,Z4,Bool.or_left_comm]
def Nx {g:List (List Int)} (ho:ordered g) {d b:Nat} (hd:d<3+g.length):((CE g).getD d 0).testBit b=(b==0||JR g d b):=RT ho g.length d b (JT _) hd
def UU {g:List (List Int)} (ho:ordered g): ∀(d b:Nat),3≤d→JR g d b=true→3≤b:=by
 intro d
 induction d using Nat.strongRecOn with
 | _ d ih=>
   intro b h3 h;rw[Et ho]at h;simp only[Fq,Dx,JU]at h;rcases h with rfl|⟨p,hp,h⟩
   ·exact h3
   ·have:=ho d p hp
    exact ih p.toNat (by omega) b (by omega) h
def Dd (us:List Nat):Nat→Nat→Nat
 | 0,m=>m
 | k+1,m=>if(Dd us k m).testBit (3+k)then Dd us k m|||us.getD (3+k) 0 else Dd us k m
def O8 {g : List (List Int)} (ho:ordered g) (m:Nat): ∀(k b:Nat),k≤g.length→((Dd (CE g) k m).testBit b=true↔m.testBit b=true∨ ∃d,3≤d∧d<3+k∧m.testBit d=true∧(b=0∨JR g d b=true))
 | 0,b,_=>by
   rw[Dd];exact⟨.inl,fun h=>h.elim id fun⟨d,h1,h2,_⟩=>by omega⟩
 | k + 1, b, hk=>by
   have ih:=O8 ho m k;rw[Dd];split
   ·rename_i hc
    rw[Nat.testBit_or,Fq,ih b (by omega),Nx ho (by omega),Fq,Dx];rw[ih _ (by omega)]at hc;constructor
    ·rintro((h|⟨d,h1,h2,h3,h4⟩)|h)
     ·exact .inl h
     ·exact .inr ⟨d,h1,by omega,h3,h4⟩
     ·rcases hc with hc|⟨d,h1,h2,h3,h4⟩
      ·exact .inr ⟨3+k,by omega,by omega,hc,h⟩
      ·refine .inr ⟨d,h1,by omega,h3,?_⟩
       rcases h with h|h
       ·exact .inl h
       ·rcases h4 with h4|h4
        ·omega
        ·exact .inr (Ls ho _ _ _ h4 h)
    ·rintro(h|⟨d,h1,h2,h3,h4⟩)
     ·exact .inl (.inl h)
     ·by_cases e:d=3+k
      ·subst e;exact .inr h4
      ·exact .inl (.inr ⟨d,h1,by omega,h3,h4⟩)
   ·rename_i hc
    rw[ih b (by omega)];constructor
    ·rintro(h|⟨d,h1,h2,h3,h4⟩)
     ·exact .inl h
     ·exact .inr ⟨d,h1,by omega,h3,h4⟩
    ·rintro(h|⟨d,h1,h2,h3,h4⟩)
     ·exact .inl h
     ·by_cases e:d=3+k
      ·subst e;exact absurd ((ih _ (by omega)).2 (.inl h3)) hc
      ·exact .inr ⟨d,h1,by omega,h3,h4⟩
def Jf: ∀(l:List Int) (bs:List Bool),(∀q∈l,0≤q∧q.toNat<bs.length)→ ∀b:Nat,(l.foldl (fun b q=>b.set q.toNat true) bs).getD b false=(bs.getD b false||l.contains (b:Int))
 | [],bs,_,b=>by simp
 | q ::r,bs,h,b=>by
   have hq:=h q (.head _);rw[List.foldl_cons,Jf r _ (fun x hx=>by rw[List.length_set];exact h x (.tail _ hx)),E2 hq.2,List.contains_cons];split
   ·rename_i e
    subst e;have:((q.toNat:Int)==q)=true:=by rw[Dx];omega
    rw[this];simp
   ·rename_i e
    have:((b:Int)==q)=false:=by rw[beq_eq_false_iff_ne];omega
    rw[this,Bool.false_or]
def G5 {g:List (List Int)} (ho:ordered g) {c:Nat} {bs:List Bool} (hc:c≤bs.length) (b:Nat):(Hk g c bs).getD b false=(bs.getD b false||(bs.getD c false&&(par g c).contains (b:Int))):=by
 rw[Hk];split
 ·rename_i h
  rw[Jf _ _ (fun q hq=>by have:=ho c q hq;omega),h,E7]
 ·rename_i h
  have:bs.getD c false=false:=by simpa using h
  rw[this,Bool.false_and,Bool.or_false]
def F6 {g:List (List Int)} (ho:ordered g) {n:Nat} {S:List Bool} (hl:S.length=n): ∀(k b:Nat),(B9 g n k S).getD b false=true→ ∃d,S.getD d false=true∧JR g d b=true
 | 0,b,h=>⟨b,h,Fh ho b⟩
 | k + 1,b,h=>by
   rw[B9,G5 ho (by rw[EZ];omega),Fq,BY]at h;rcases h with h|⟨h1,h2⟩
   ·exact F6 ho hl k b h
   ·obtain⟨d,h3,h4⟩:=F6 ho hl k _ h1
    refine⟨d,h3,Ls ho _ _ _ h4 ?_⟩;rw[Et ho,Fq,JU];rw[List.contains_iff_mem]at h2;exact .inr ⟨_,h2,by rw[KF];exact Fh ho b⟩
def T7 {g:List (List Int)} (ho:ordered g) {n:Nat} {S:List Bool} (hl:S.length=n) (k b:Nat) (h:(B9 g n k S).getD b false=true):(B9 g n (k+1) S).getD b false=true:=by
 rw[B9,G5 ho (by rw[EZ];omega),h];rfl
def I6 {g:List (List Int)} (ho:ordered g) {n:Nat} {S:List Bool} (hl:S.length=n): ∀(k b:Nat),S.getD b false=true→(B9 g n k S).getD b false=true
 | 0,_,h=>h
 | k+1,b,h=>T7 ho hl k b (I6 ho hl k b h)
def G6 {g:List (List Int)} (ho:ordered g) {n:Nat} {S:List Bool} (hl:S.length=n): ∀(k c:Nat),k≤n→n - k≤c→(B9 g n k S).getD c false=true→ ∀q∈par g c,(B9 g n k S).getD q.toNat false=true
 | 0,c,_,hc,h,q,hq=>by
   rw[B9,DY,List.getElem?_eq_none (by omega)]at h;cases h
 | k + 1,c,hk,hc,h,q,hq=>by
   rw[B9,G5 ho (by rw[EZ];omega)]at h ⊢;have hoc:=ho c q hq;rw[Fq,BY]at h
   have hbase:(B9 g n k S).getD c false=true:=by
    rcases h with h|⟨-,h2⟩
    ·exact h
    ·rw[List.contains_iff_mem]at h2
     have:=ho _ _ h2;omega
   by_cases e:c=n - 1 - k
   ·subst e
    rw[hbase,E7,Fq,List.contains_iff_mem];exact .inr (by rw[show((q.toNat:Nat):Int)=q by omega];exact hq)
   ·rw[G6 ho hl k c (by omega) (by omega) hbase q hq];rfl
def Vc {g:List (List Int)} (ho:ordered g) {S:List Bool} (hl:S.length=3+g.length) (b:Nat):(B9 g (3+g.length) g.length S).getD b false=true↔ ∃d,S.getD d false=true∧JR g d b=true:=by
 refine⟨F6 ho hl _ b,?_⟩
 have key: ∀d,(B9 g (3+g.length) g.length S).getD d false=true→JR g d b=true→(B9 g (3+g.length) g.length S).getD b false=true:=by
  intro d
  induction d using Nat.strongRecOn with
  | _ d ih=>
    intro h1 h2;rw[Et ho,Fq,Dx,JU]at h2;rcases h2 with rfl|⟨p,hp,h2⟩
    ·exact h1
    ·have hop:=ho d p hp
     refine ih p.toNat (by omega) (G6 ho hl g.length d (by omega) ?_ h1 p hp) h2;omega
 rintro⟨d,h1,h2⟩;exact key d (I6 ho hl _ d h1) h2
def RB (n:Nat) (t:BB) (u:Nat×Nat):Prop:=
 t.1.length=n∧t.2.length=n∧(∀b,t.1.getD b false=u.1.testBit b)∧(∀b,b≠1→b≠2→t.2.getD b false=u.2.testBit b)∧u.1.testBit 1=false∧u.1.testBit 2=false
def GM (m c b:Nat):(m|||2 ^ c).testBit b=(m.testBit b||b==c):=by
 rw[Nat.testBit_or,Nat.testBit_two_pow];congr 1;rw[LW];simp only[Ce,Dx];omega
def M5 {l:List Bool} {m c:Nat} (hc:c<l.length) {b:Nat} (h:l.getD b false=m.testBit b):(l.set c true).getD b false=(m|||2 ^ c).testBit b:=by
 rw[E2 hc,GM,←h];split
 ·rename_i e;subst e;simp
 ·rename_i e
  have:(b==c)=false:=by simpa using e
  rw[this,Bool.or_false]
def RA (x:Fact×Bool):Bool:= !x.2&&(!(x.1.op==2)||x.1.cls==1||x.1.cls==2)
def XW {n : Nat} {x:Fact×Bool} {t:BB} {k:Kn} (h:RB n t (k.CD,k.GY)) (hc:x.1.op=2→0≤x.1.cls∧x.1.cls<n) :
    (RA x=true→GF x t=none)∧(RA x=false→ ∃t',GF x t=some t'∧RB n t' ((Cu k x.1 x.2).CD,(Cu k x.1 x.2).GY)):=by
 obtain⟨f,c⟩:=x;simp only at hc;obtain⟨h1,h2,h3,h4,h5,h6⟩:=h;unfold RA GF Cu;simp only;by_cases ho:f.op=2
 ·have hc':=hc ho
  by_cases h12:f.cls=1∨f.cls=2
  ·rw[if_pos (.inr h12),if_pos ho]
   cases c with
   | true=>
     refine⟨fun h=>(by cases h),fun _=>⟨t,rfl,h1,h2,h3,fun b hb1 hb2=>?_,h5,h6⟩⟩;rw[if_pos rfl];show _=(k.GY|||2 ^ f.cls.toNat).testBit b;rw[GM,h4 b hb1 hb2];have:(b==f.cls.toNat)=false:=by rw[beq_eq_false_iff_ne];omega
     rw[this,Bool.or_false]
   | false=>
     refine⟨fun _=>rfl,fun h=>?_⟩;exfalso;rcases h12 with e|e<;>simp[e]at h
  ·have hn: ¬(f.op≠2∨f.cls=1∨f.cls=2):=by omega
   rw[if_neg hn,if_pos ho]
   have hb:(!c&&(!(f.op==2)||f.cls==1||f.cls==2))=false:=by
    have e1:(f.op==2)=true:=by simpa using ho
    have e2:(f.cls==1)=false:=by rw[beq_eq_false_iff_ne];omega
    have e3:(f.cls==2)=false:=by rw[beq_eq_false_iff_ne];omega
    rw[e1,e2,e3];simp
   rw[hb];refine⟨fun h=>(by cases h),fun _=>?_⟩;cases c with
   | true=>
     refine⟨_,rfl,h1,by simpa using h2,h3,fun b hb1 hb2=>?_,h5,h6⟩;exact M5 (by omega) (h4 b hb1 hb2)
   | false=>
     refine⟨_,rfl,by simpa using h1,h2,fun b=>?_,h4,?_,?_⟩
     ·exact M5 (by omega) (h3 b)
     ·show(k.CD|||2 ^ f.cls.toNat).testBit 1=false
      rw[GM,h5];have:(1==f.cls.toNat)=false:=by rw[beq_eq_false_iff_ne];omega
      rw[this];rfl
     ·show(k.CD|||2 ^ f.cls.toNat).testBit 2=false
      rw[GM,h6];have:(2==f.cls.toNat)=false:=by rw[beq_eq_false_iff_ne];omega
      rw[this];rfl
 ·rw[if_pos (.inl ho),if_neg ho]
  have e1:(f.op==2)=false:=by simpa using ho
  cases c with
  | true=>
    refine⟨fun h=>(by cases h),fun _=>⟨t,rfl,?_⟩⟩;split<;>exact⟨h1,h2,h3,h4,h5,h6⟩
  | false=>exact⟨fun _=>rfl,fun h=>by rw[e1]at h;cases h⟩
def QY {n:Nat}: ∀(os:List Fact) {t:BB} {k:Kn},RB n t (k.CD,k.GY)→Ij n os→
    (os.any (fun l=>RA (A0 l))=true→D5 os t=none)∧(os.any (fun l=>RA (A0 l))=false→ ∃t',D5 os t=some t'∧RB n t' ((Eo os k).CD,(Eo os k).GY))
 | [],t,k,h,_=>⟨fun h=>(by cases h),fun _=>⟨t,rfl,h⟩⟩
 | l ::r,t,k,h,hc=>by
   obtain⟨s1,s2⟩:=XW h (hc l (.head _));rw[Qw,D5];cases hb:RA (A0 l)with
   | true=>exact⟨fun _=>by rw[s1 hb];rfl,fun h=>(by cases h)⟩
   | false=>
     obtain⟨t',h1,h2⟩:=s2 hb;rw[h1,Bool.false_or,Option.bind_some];exact QY r h2 fun x hx=>hc x (.tail _ hx)
def cE {os:List Fact} {n:Nat} (hc:Ij n os):(os.any fun l=>RA (A0 l))=((Eo os k0).whole||(Eo os k0).CD.testBit 1||(Eo os k0).CD.testBit 2):=by
 rw[LW,Fq,Fq,Kx,Kx,J9];simp only[JU,RA,BY,Fq,Bool.not_eq_true',Dx,beq_eq_false_iff_ne,k0,Bool.false_or];constructor
 ·rintro⟨l,hl,hb,(h|h)|h⟩
  ·exact .inl (.inl ⟨l,hl,hb,h⟩)
  ·by_cases ho:(A0 l).1.op=2
   ·exact .inl (.inr ⟨l,hl,ho,hb,by rw[h];rfl⟩)
   ·exact .inl (.inl ⟨l,hl,hb,ho⟩)
  ·by_cases ho:(A0 l).1.op=2
   ·exact .inr ⟨l,hl,ho,hb,by rw[h];rfl⟩
   ·exact .inl (.inl ⟨l,hl,hb,ho⟩)
 ·rintro((⟨l,hl,hb,h⟩|⟨l,hl,ho,hb,h⟩)|⟨l,hl,ho,hb,h⟩)
  ·exact⟨l,hl,hb,.inl (.inl h)⟩
  ·have:=hc l hl ho
   exact⟨l,hl,hb,.inl (.inr (by omega))⟩
  ·have:=hc l hl ho
   exact⟨l,hl,hb,.inr (by omega)⟩
def Vq (w:AK) (A9 can:Int→Bool) (s:Int) (u:Nat×Nat):Option (Nat×Nat):=
 if A9 s&& !can s then none else some (if A9 s then u.1|||2 ^ (CV w s).toNat else u.1,if can s then u.2 else u.2|||2 ^ (CV w s).toNat)
def IP (w:AK) (A9 can:Int→Bool):List Int→Nat×Nat→Option (Nat×Nat)
 | [],u=>some u
 | s::r,u=>(Vq w A9 can s u).bind (IP w A9 can r)
def Wj {w:AK} {ls:List Fact} {a:Int} {p:List Int} {can A9:Int→Bool} (hn: ∀s,A9 s= !EH ls a (p++[s])) {n:Nat} (how: ∀s:Int,0≤s→s<w.owner.length→3≤CV w s∧CV w s<n) :
    ∀(sl:List Int) {t:BB} {u:Nat×Nat},(∀s∈sl,0≤s∧s<w.owner.length)→RB n t u→
    (Dp w ls a p can sl t=none∧IP w A9 can sl u=none)∨ ∃t' u',Dp w ls a p can sl t=some t'∧IP w A9 can sl u=some u'∧RB n t' u'
 | [],t,u,_,h=> .inr ⟨t,u,rfl,rfl,h⟩
 | s ::r,t,u,hsl,h=>by
   have hs:=hsl s (.head _);have ho:=how s hs.1 hs.2;rw[Dp,IP,II,Vq,hn];obtain⟨h1,h2,h3,h4,h5,h6⟩:=h;split
   ·exact .inl ⟨rfl,rfl⟩
   ·rw[Option.bind_some,Option.bind_some]
    refine Wj hn how r (fun x hx=>hsl x (.tail _ hx)) ?_;have hb: ∀i,i<3→(i==(CV w s).toNat)=false:=fun i hi=>by rw[beq_eq_false_iff_ne];omega
    cases EH ls a (p++[s])<;>cases can s<;>refine⟨by simpa using h1,by simpa using h2,fun b=>?_,fun b hb1 hb2=>?_,?_,?_⟩
    all_goals simp only[Bool.not_false,Bool.not_true,LS,if_true,if_false]
    all_goals first
     | exact h3 b
     | exact h4 b hb1 hb2
     | exact h5
     | exact h6
     | exact M5 (by omega) (h3 b)
     | exact M5 (by omega) (h4 b hb1 hb2)
     | (rw[GM,h5,hb 1 (by omega)];rfl)
     | (rw[GM,h6,hb 2 (by omega)];rfl)
def HI (m:Nat):Nat:=m - m % 2
def TS (m b:Nat):(HI m).testBit b=(m.testBit b&& !(b==0)):=by
 cases b with
 | zero=>
   simp[HI,Nat.testBit_zero];omega
 | succ b=>
   rw[Nat.testBit_succ,Nat.testBit_succ,HI,show(m - m % 2) / 2=m / 2 by omega];simp
def jf {w : AK} (ho:ordered w.parents) {t:BB} {u:Nat×Nat} (h:RB (3+w.parents.length) t u) :
    (SO w t).isSome=(!u.2.testBit 0&&(HI (Dd (CE w.parents) w.parents.length u.1)&&&u.2==0)):=by
 obtain⟨h1,h2,h3,h4,h5,h6⟩:=h;rw[SO,h4 0 (by decide) (by decide)];cases h0:u.2.testBit 0 with
 | true=>rfl
 | false =>
   rw[if_neg (by decide),Bool.not_false,E7];have hl:(t.1.set 0 false).length=3+w.parents.length:=by simpa using h1
   have G:=Vc ho hl;have F:=O8 ho u.1 w.parents.length
   have hS: ∀d,(t.1.set 0 false).getD d false=true↔d≠0∧u.1.testBit d=true:=fun d=>by
    rw[E2 (by omega)];split
    ·rename_i e;subst e;simp
    ·rename_i e;rw[h3];exact⟨fun h=>⟨e,h⟩,fun h=>h.2⟩
   have hlt: ∀b,u.1.testBit b=true→b<3+w.parents.length:=fun b hb=>by
    rw[←h3]at hb;rcases Nat.lt_or_ge b (3+w.parents.length)with h'|h'
    ·exact h'
    ·rw[DY,List.getElem?_eq_none (by omega)]at hb;cases hb
   have h3b: ∀d,d≠0→u.1.testBit d=true→3≤d:=fun d hd hb=>by
    rcases d with _|_|_|d
    ·exact absurd rfl hd
    ·rw[h5]at hb;cases hb
    ·rw[h6]at hb;cases hb
    ·omega
   have hM: ∀b,(HI (Dd (CE w.parents) w.parents.length u.1)).testBit b=true↔(B9 w.parents (3+w.parents.length) w.parents.length (t.1.set 0 false)).getD b false=true:=fun b=>by
    rw[TS,BY,F b (JT _),G,Bool.not_eq_true',beq_eq_false_iff_ne];constructor
    ·rintro⟨h|⟨d,q1,q2,q3,q4⟩,hb⟩
     ·exact⟨b,(hS b).2 ⟨hb,h⟩,Fh ho b⟩
     ·rcases q4 with e|q4
      ·exact absurd e hb
      ·exact⟨d,(hS d).2 ⟨by omega,q3⟩,q4⟩
    ·rintro⟨d,hd,hu⟩
     obtain⟨hd0,hdu⟩:=(hS d).1 hd;have hd3:=h3b d hd0 hdu;have:=UU ho d b hd3 hu;exact⟨.inr ⟨d,hd3,hlt d hdu,hdu,.inr hu⟩,by omega⟩
   have hany:((List.range (3+w.parents.length)).any fun c=>(B9 w.parents (3+w.parents.length) w.parents.length (t.1.set 0 false)).getD c false&&t.2.getD c false)= !(HI (Dd (CE w.parents) w.parents.length u.1)&&&u.2==0):=by
    rw[LW,Bool.not_eq_true',←Bool.not_eq_true,OG,JU];constructor
    ·rintro⟨c,hc,hx⟩ hall
     rw[BY]at hx;have hm:=(hM c).2 hx.1;obtain⟨d,hd,hu⟩:=(G c).1 hx.1;obtain⟨hd0,hdu⟩:=(hS d).1 hd;have:=UU ho d c (h3b d hd0 hdu) hu;exact hall c hm (by rw[←h4 c (by omega) (by omega)];exact hx.2)
    ·intro hne
     rcases Classical.em (∃b,(HI (Dd (CE w.parents) w.parents.length u.1)).testBit b=true∧u.2.testBit b=true)with⟨b,hb1,hb2⟩|hno
     ·have hm:=(hM b).1 hb1
      obtain⟨d,hd,hu⟩:=(G b).1 hm;obtain⟨hd0,hdu⟩:=(hS d).1 hd;have:=UU ho d b (h3b d hd0 hdu) hu;have:=ZP ho d b hu;have:=hlt d hdu;exact⟨b,List.mem_range.2 (by omega),by rw[hm,h4 b (by omega) (by omega),hb2];rfl⟩
     ·exact absurd (fun b h1 h2=>hno ⟨b,h1,h2⟩) hne
   rw[hany];cases(HI (Dd (CE w.parents) w.parents.length u.1)&&&u.2==0)<;>rfl
def Mm (w:AK) (k:Kn) (A9 can:Int→Bool):Nat×Bool:=
 if k.whole||k.CD.testBit 1||k.CD.testBit 2||k.GY.testBit 0 then(0,false)else
 match IP w A9 can k.AT (k.CD,k.GY)with
 | none=>(0,false)
 | some u=>(HI (Dd (CE w.parents) w.parents.length u.1),HI (Dd (CE w.parents) w.parents.length u.1)&&&u.2==0)
def O3 {w:AK} {A9 can:Int→Bool} (how: ∀s:Int,0≤s→s<w.owner.length→3≤CV w s): ∀(sl:List Int) {u u':Nat×Nat},(∀s∈sl,0≤s∧s<w.owner.length)→IP w A9 can sl u=some u'→u'.2.testBit 0=u.2.testBit 0
 | [],u,u',_,h=>by cases h;rfl
 | s ::r,u,u',hsl,h=>by
   have hs:=hsl s (.head _);have ho:=how s hs.1 hs.2;rw[IP,Vq]at h;split at h
   ·cases h
   ·rw[Option.bind_some]at h
    rw[O3 how r (fun x hx=>hsl x (.tail _ hx)) h];simp only;split
    ·rfl
    ·rw[GM]
     have:(0==(CV w s).toNat)=false:=by rw[beq_eq_false_iff_ne];omega
     rw[this,Bool.or_false]
def fm {w:AK} {ls:List Fact} {a:Int} {p:List Int} {can A9:Int→Bool} (ho:ordered w.parents) (how: ∀s:Int,0≤s→s<w.owner.length→3≤CV w s∧CV w s<3+w.parents.length) (hc:Ij (3+w.parents.length) ls) (hp:Hq w.owner.length ls) (hn: ∀s,A9 s= !EH ls a (p++[s])) :
    (Mm w (kn ls a p) A9 can).2=(Jj w ls a p can).isSome:=by
 have hcore:=ND ls a p;have hsl:=Kz hp a p;generalize kn ls a p=k at *;have hc2:Ij (3+w.parents.length) (ls.filter (Gr a p)):=fun l hl=>hc l (JV.1 hl).1
 simp only[FH,Prod.mk.injEq]at hcore;obtain⟨-,-,-,c4,c5,c6⟩:=hcore;rw[Mm,Jj,c4,c5,c6,←cE hc2,hsl]
 have hR0:RB (3+w.parents.length) (tO w) (k0.CD,k0.GY):=by
  refine⟨by simp[tO],by simp[tO],fun b=>?_,fun b _ _=>?_,rfl,rfl⟩<;>
  ·simp only[tO,k0,Nat.zero_testBit,DY,List.getElem?_replicate]
   split<;>rfl
 obtain⟨f1,f2⟩:=QY _ hR0 hc2;cases hbad:(ls.filter (Gr a p)).any fun l=>RA (A0 l)with
 | true=>rw[f1 hbad];rfl
 | false=>
   obtain⟨t,ht,G⟩:=f2 hbad;rw[ht,Option.bind_some,Bool.false_or];have hin: ∀s∈Bs w.owner.length ls a p,0≤s∧s<(w.owner.length:Int):=fun s hs=>JJ hs
   rcases Wj (can:=can) hn (fun s h0 h1=>by have:=how s h0 h1;omega) (Bs w.owner.length ls a p) hin G with⟨e1,e2⟩|⟨t',u',e1,e2,hR'⟩
   ·rw[e1,e2]
    split<;>rfl
   ·rw[e1,e2,Option.bind_some,jf ho hR']
    have:=O3 (fun s h0 h1=>(how s h0 h1).1) _ hin e2;rw[this];simp only;cases((Eo (ls.filter (Gr a p)) k0).GY.testBit 0)<;>rfl
end Go.Gl
namespace Go.Gl
abbrev Ed (a:Int) (p:List Int):V:= .a [eI a,eI (p.length:Int),eI (p.getD 0 0),eI (p.getD 1 0)]
structure C8 where
 a:Int
 p:List Int
 b:Nat
 vn:V
 vs:V
 k:Kn
abbrev C8.is (e:C8) (a:Int) (p:List Int):Bool:=e.a==a&&e.p==p
abbrev uw (b:Nat) (vn vs:V) (k:Kn):At:= .box b [eI k.low,eI k.high,vn,eU k.CD,eU k.GY,.b k.whole,.b k.A9,vs]
abbrev hZ (b:Nat) (vn vs:V) (k:Kn):List At:=[uw b vn vs k,.own vn 1 (iL k.no),.own vs 1 (iL k.AT)]
abbrev Sg (e:C8):List At:=hZ e.b e.vn e.vs e.k
def UD (es:List C8):List (V×V):=es.map fun e=>(Ed e.a e.p,.p e.b 0)
def CH (L:Nat) (es:List C8):List At:= .map L (UD es)::es.flatMap Sg
def HN (L:Nat) (es pre post:List C8):List At:= .map L (UD es)::(pre++post).flatMap Sg
def Jr {e:C8} {a:Int} {p:List Int}:e.is a p=true↔e.a=a∧e.p=p:=by simp[C8.is]
def NF {e:C8} {a:Int} {p:List Int}:e.is a p=false↔ ¬(e.a=a∧e.p=p):=by rw[←Jr,Bool.not_eq_true]
def RI {a a':Int} {p p':List Int} (h:p.length≤2) (h':p'.length≤2):EG (Ed a p) (Ed a' p')=(a==a'&&p==p'):=by
 have e:EG (Ed a p) (Ed a' p')=(a==a'&&((p.length:Int)==p'.length&&(p.getD 0 0==p'.getD 0 0&&(p.getD 1 0==p'.getD 1 0)))):=by
  simp[EG,CN,Ed]
 rw[e];congr 1
 match p,h,p',h' with
 | [],_,[],_=>rfl
 | [],_,[_],_=>simp
 | [],_,[_,_],_=>simp<;>omega
 | [_],_,[],_=>simp
 | [x],_,[y],_=>simp
 | [_],_,[_,_],_=>simp<;>omega
 | [_,_],_,[],_=>simp<;>omega
 | [_,_],_,[_],_=>simp<;>omega
 | [x,y],_,[z,u],_=>simp
def N6 (es:List C8): ∀kv∈UD es,Bt (.a [.i64,.i64,.i64,.i64]) kv.1=true:=by
 intro kv h;obtain⟨e,_,rfl⟩:=Mk.1 h;rfl
def TH {a:Int} {p:List Int} (hp:p.length≤2): ∀ {es:List C8},(∀e∈es,e.p.length≤2)→(∀e∈es,e.is a p=false)→DG (Ed a p) (UD es)=none
 | [],_,_=>rfl
 | e ::r,hl,h=>by
   have he:=h e (.head _);rw[UD,E8,DG,RI hp (hl e (.head _))]
   have:(a==e.a&&p==e.p)=false:=by
    rw[←he,C8.is,LW];simp only[BY,Dx];exact⟨fun⟨h1,h2⟩=>⟨h1.symm,h2.symm⟩,fun⟨h1,h2⟩=>⟨h1.symm,h2.symm⟩⟩
   rw[this,cond_false];exact TH hp (fun x hx=>hl x (.tail _ hx)) (fun x hx=>h x (.tail _ hx))
def Zc {a:Int} {p:List Int} (hp:p.length≤2) (b:Nat) (vn vs:V) (k:Kn): ∀ {es:List C8},(∀e∈es,e.p.length≤2)→(∀e∈es,e.is a p=false)→EF (Ed a p) (.p b 0) (UD es)=UD (es++[⟨a,p,b,vn,vs,k⟩])
 | [],_,_=>rfl
 | e ::r,hl,h=>by
   have he:=h e (.head _);have ih:=Zc hp b vn vs k (fun x hx=>hl x (.tail _ hx)) (fun x hx=>h x (.tail _ hx));simp only[UD]at ih;rw[UD,E8,EF,RI hp (hl e (.head _))]
   have:(a==e.a&&p==e.p)=false:=by
    rw[←he,C8.is,LW];simp only[BY,Dx];exact⟨fun⟨h1,h2⟩=>⟨h1.symm,h2.symm⟩,fun⟨h1,h2⟩=>⟨h1.symm,h2.symm⟩⟩
   rw[this,cond_false,ih];rfl
def TG {a:Int} {p:List Int} (hp:p.length≤2) {e:C8} (he:e.is a p=true) {post:List C8}: ∀ {pre:List C8},(∀x∈pre++e::post,x.p.length≤2)→(∀x∈pre,x.is a p=false)→DG (Ed a p) (UD (pre++e::post))=some (.p e.b 0)
 | [],hl,_=>by
   rw[List.nil_append,UD,E8,DG,RI hp (hl e (.head _))];obtain⟨h1,h2⟩:=Jr.1 he;rw[h1,h2];simp
 | x ::r,hl,h=>by
   have hx:=h x (.head _);rw[List.cons_append,UD,E8,DG,RI hp (hl x (.head _))]
   have:(a==x.a&&p==x.p)=false:=by
    rw[←hx,C8.is,LW];simp only[BY,Dx];exact⟨fun⟨h1,h2⟩=>⟨h1.symm,h2.symm⟩,fun⟨h1,h2⟩=>⟨h1.symm,h2.symm⟩⟩
   rw[this,cond_false];exact TG hp he (fun y hy=>hl y (.tail _ hy)) (fun y hy=>h y (.tail _ hy))
def fg (a : Int) (p:List Int): ∀(es:List C8),(∀e∈es,e.is a p=false)∨ ∃pre e post,es=pre++e::post∧e.is a p=true∧ ∀x∈pre,x.is a p=false
 | []=> .inl fun _ h=>by cases h
 | e ::r=>by
   cases h:e.is a p with
   | true=>exact .inr ⟨[],e,r,rfl,h,fun _ h=>by cases h⟩
   | false=>
     rcases fg a p r with h1|⟨pre,x,post,rfl,h1,h2⟩
     ·exact .inl fun x hx=>by
       rcases GB.1 hx with rfl|hx
       ·exact h
       ·exact h1 x hx
     ·exact .inr ⟨e::pre,x,post,rfl,h1,fun y hy=>by
       rcases GB.1 hy with rfl|hy
       ·exact h
       ·exact h2 y hy⟩
def TL (L:Nat) (pre post:List C8) (e:C8):(CH L (pre++e::post)).Perm (Sg e++HN L (pre++e::post) pre post):=by
 unfold CH HN;rw[List.flatMap_append,List.flatMap_cons,List.flatMap_append];refine List.Perm.trans ?_ (List.perm_middle.symm);refine List.Perm.cons _ ?_;rw[←UC,←UC];exact List.Perm.append_right _ SE
def U8 {pre post:List C8} {e e':C8} (h1:e'.a=e.a) (h2:e'.p=e.p) (h3:e'.b=e.b):UD (pre++e'::post)=UD (pre++e::post):=by
 simp only[UD,R9,E8,h1,h2,h3]
def Rv {L:Nat} {pre post:List C8} {e e':C8} (h1:e'.a=e.a) (h2:e'.p=e.p) (h3:e'.b=e.b):HN L (pre++e'::post) pre post=HN L (pre++e::post) pre post:=by
 rw[HN,HN,U8 h1 h2 h3]
structure D0 (kf:Int→List Int→Kn) (es:List C8):Prop where
 val: ∀e∈es,e.k=kf e.a e.p
 Ym: ∀a p,(∀e∈es,e.is a p=false)→kf a p=k0
 one:es.Pairwise fun e e'=>e.is e'.a e'.p=false
 len: ∀e∈es,e.p.length≤2
def Px (es:List C8):Prop:= ∀e∈es,∀s∈e.k.AT,∃e'∈es,e'.is e.a (e.p++[s])=true
def D0.congr {kf kf':Int→List Int→Kn} {es:List C8} (h:D0 kf es) (e: ∀a p,kf a p=kf' a p):D0 kf' es:=
 ⟨fun x hx=>(h.val x hx).trans (e _ _),fun a p hp=>(e a p).symm.trans (h.Ym a p hp),h.one,h.len⟩
def D0.add {kf:Int→List Int→Kn} {es:List C8} (h:D0 kf es) {a:Int} {p:List Int} (hp:p.length≤2) (hn: ∀e∈es,e.is a p=false) (b:Nat) (vn vs:V):D0 kf (es++[⟨a,p,b,vn,vs,k0⟩]):=by
 refine⟨fun x hx=>?_,fun a' p' h'=>h.Ym a' p' fun x hx=>h' x (PL _ hx),?_,fun x hx=>?_⟩
 ·rcases Fs.1 hx with hx|hx
  ·exact h.val x hx
  ·rw[LV.1 hx];exact(h.Ym a p hn).symm
 ·rw[List.pairwise_append]
  exact⟨h.one,List.pairwise_singleton _ _,fun x hx y hy=>by rw[LV.1 hy];exact hn x hx⟩
 ·rcases Fs.1 hx with hx|hx
  ·exact h.len x hx
  ·rw[LV.1 hx];exact hp
def Px.add {es:List C8} (h:Px es) {a:Int} {p:List Int} (b:Nat) (vn vs:V):Px (es++[⟨a,p,b,vn,vs,k0⟩]):=by
 intro e he s hs;rcases Fs.1 he with he|he
 ·obtain⟨e',h1,h2⟩:=h e he s hs
  exact⟨e',PL _ h1,h2⟩
 ·rw[LV.1 he]at hs
  cases hs
def SJ (kf:Int→List Int→Kn) (a:Int) (p:List Int) (k:Kn):Int→List Int→Kn:=fun a' p'=>if a'=a∧p'=p then k else kf a' p'
def D0.change {kf:Int→List Int→Kn} {pre post:List C8} {e:C8} (h:D0 kf (pre++e::post)) (b:Nat) (vn vs:V) (k:Kn):D0 (SJ kf e.a e.p k) (pre++⟨e.a,e.p,b,vn,vs,k⟩::post):=by
 have h1:=h.one;rw[List.pairwise_append,List.pairwise_cons]at h1;obtain⟨o1,⟨o2,o3⟩,o4⟩:=h1;refine⟨fun x hx=>?_,fun a p hp=>?_,?_,fun x hx=>?_⟩
 ·rw [SJ]
  rcases Fs.1 hx with hx|hx
  ·rw[if_neg]
   ·exact h.val x (PL _ hx)
   ·have:=o4 x hx e (.head _)
    rw[NF]at this;exact this
  ·rcases GB.1 hx with rfl|hx
   ·rw[if_pos ⟨rfl,rfl⟩]
   ·rw[if_neg]
    ·exact h.val x (PH _ (.tail _ hx))
    ·have:=o2 x hx
     rw[NF]at this;exact fun⟨q1,q2⟩=>this ⟨q1.symm,q2.symm⟩
 ·have he:=NF.1 (hp _ (PH _ (.head _)))
  rw[SJ,if_neg (fun⟨q1,q2⟩=>he ⟨q1.symm,q2.symm⟩)];refine h.Ym a p fun x hx=>?_
  rcases Fs.1 hx with hx|hx
  ·exact hp x (PL _ hx)
  ·rcases GB.1 hx with rfl|hx
   ·exact NF.2 he
   ·exact hp x (PH _ (.tail _ hx))
 ·rw[List.pairwise_append,List.pairwise_cons]
  refine⟨o1,⟨o2,o3⟩,fun x hx y hy=>?_⟩;rcases GB.1 hy with rfl|hy
  ·exact o4 x hx e (.head _)
  ·exact o4 x hx y (.tail _ hy)
 ·rcases Fs.1 hx with hx|hx
  ·exact h.len x (PL _ hx)
  ·rcases GB.1 hx with rfl|hx
   ·exact h.len e (PH _ (.head _))
   ·exact h.len x (PH _ (.tail _ hx))
def Px.change {pre post:List C8} {e:C8} (h:Px (pre++e::post)) (b:Nat) (vn vs:V) (k:Kn) (hs: ∀s∈k.AT,s∈e.k.AT∨ ∃e'∈pre++e::post,e'.is e.a (e.p++[s])=true):Px (pre++⟨e.a,e.p,b,vn,vs,k⟩::post):=by
 have mov: ∀ {a p},(∃e'∈pre++e::post,e'.is a p=true)→ ∃e'∈pre++(⟨e.a,e.p,b,vn,vs,k⟩:C8)::post,e'.is a p=true:=by
  rintro a p ⟨x,hx,h'⟩;rcases Fs.1 hx with hx|hx
  ·exact⟨x,PL _ hx,h'⟩
  ·rcases GB.1 hx with rfl|hx
   ·exact⟨_,PH _ (.head _),h'⟩
   ·exact⟨x,PH _ (.tail _ hx),h'⟩
 intro x hx s hxs;rcases Fs.1 hx with hx|hx
 ·exact mov (h x (PL _ hx) s hxs)
 ·rcases GB.1 hx with rfl|hx
  ·rcases hs s hxs with h'|h'
   ·exact mov (h e (PH _ (.head _)) s h')
   ·exact mov h'
  ·exact mov (h x (PH _ (.tail _ hx)) s hxs)
def Df (f:Fact) (c:Bool) (j:Nat) (a:Int) (p:List Int) (k:Kn):Kn:=
 if f.arg=a∧Bx f.path p=true then(if p.length<j then cR (Dm k c) (f.path.getD p.length 0)else if p.length=j then Dm k c else k)else k
def Mh {path p:List Int}:Bx path p=true↔p.length≤path.length∧p=path.take p.length:=by
 rw[Cc];constructor
 ·rintro⟨t,rfl⟩
  exact⟨by simp,by simp⟩
 ·rintro⟨h1,h2⟩
  exact⟨path.drop p.length,by conv=>rhs;rw[h2,KG,Nat.min_eq_left h1,List.take_append_drop]⟩
def eC (f:Fact) (c:Bool) (a:Int) (p:List Int) (k:Kn):Df f c 0 a p k=if a=f.arg∧p= []then Dm k c else k:=by
 unfold Df;by_cases h:f.arg=a∧Bx f.path p=true
 ·rw[if_pos h,if_neg (by omega)]
  by_cases hp:p.length=0
  ·rw[if_pos hp,if_pos ⟨h.1.symm,Yq.1 hp⟩]
  ·rw[if_neg hp,if_neg (fun h'=>hp (by rw[h'.2];rfl))]
 ·rw[if_neg h,if_neg]
  rintro⟨rfl,rfl⟩;exact h ⟨rfl,Cc.2 ⟨f.path,by simp⟩⟩
def eE (f:Fact) (c:Bool) {j:Nat} (hj:j<f.path.length) (a:Int) (p:List Int) (k:Kn):Df f c (j+1) a p k=if a=f.arg∧p=f.path.take (j+1)then Dm (Df f c j a p k) c else if a=f.arg∧p=f.path.take j then cR (Df f c j a p k) (f.path.getD j 0)else Df f c j a p k:=by
 unfold Df;by_cases h:f.arg=a∧Bx f.path p=true
 ·rw [if_pos h,if_pos h]
  obtain⟨h1,h2⟩:=h;rw[Mh]at h2;obtain⟨h2,h3⟩:=h2;have l1:p=f.path.take (j+1)↔p.length=j+1:=⟨fun e=>by rw[e,KG];omega,fun e=>by rw[e]at h3;exact h3⟩
  have l2:p=f.path.take j↔p.length=j:=⟨fun e=>by rw[e,KG];omega,fun e=>by rw[e]at h3;exact h3⟩
  have n1:p.length≠j+1→ ¬(a=f.arg∧p=f.path.take (j+1)):=fun h h'=>h (l1.1 h'.2)
  have n2:p.length≠j→ ¬(a=f.arg∧p=f.path.take j):=fun h h'=>h (l2.1 h'.2)
  by_cases q1:p.length<j
  ·rw[if_pos (show p.length<j+1 by omega),if_neg (n1 (by omega)),if_neg (n2 (by omega)),if_pos q1]
  ·by_cases q2:p.length=j
   ·rw[if_pos (show p.length<j+1 by omega),if_neg (n1 (by omega)),if_pos (show a=f.arg∧p=f.path.take j from⟨h1.symm,l2.2 q2⟩),if_neg q1,if_pos q2,q2]
   ·by_cases q3:p.length=j+1
    ·rw[if_neg (show¬p.length<j+1 by omega),if_pos q3,if_pos (show a=f.arg∧p=f.path.take (j+1) from⟨h1.symm,l1.2 q3⟩),if_neg q1,if_neg q2]
    ·rw[if_neg (show¬p.length<j+1 by omega),if_neg q3,if_neg (n1 q3),if_neg (n2 q2),if_neg q1,if_neg q2]
 ·rw[if_neg h,if_neg h,if_neg,if_neg]
  ·rintro⟨rfl,rfl⟩
   exact h ⟨rfl,Cc.2 ⟨f.path.drop j,by rw[List.take_append_drop]⟩⟩
  ·rintro⟨rfl,rfl⟩
   exact h ⟨rfl,Cc.2 ⟨f.path.drop (j+1),by rw[List.take_append_drop]⟩⟩
def jR (a : Int) (p:List Int) (k:Kn) (l:Fact):DI a p k l=if a=(A0 l).1.arg∧p=(A0 l).1.path then Cu (Df (A0 l).1 (A0 l).2 (A0 l).1.path.length a p k) (A0 l).1 (A0 l).2 else Df (A0 l).1 (A0 l).2 (A0 l).1.path.length a p k:=by
 unfold DI Df;by_cases h:(A0 l).1.arg=a∧Bx (A0 l).1.path p=true
 ·rw [if_pos h,if_pos h]
  obtain⟨h1,h2⟩:=h;rw[Mh]at h2;obtain⟨h2,h3⟩:=h2;by_cases hp:(A0 l).1.path=p
  ·rw[if_pos hp,if_pos ⟨h1.symm,hp.symm⟩,if_neg (by rw[hp];omega),if_pos (by rw[hp])]
  ·have hne:p.length<(A0 l).1.path.length:=by
    rcases Nat.lt_or_ge p.length (A0 l).1.path.length with h'|h'
    ·exact h'
    ·rw[List.take_of_length_le h']at h3
     exact absurd h3.symm hp
   rw[if_neg hp,if_neg (fun h=>hp h.2.symm),if_pos hne]
 ·rw[if_neg h,if_neg h,if_neg]
  rintro⟨rfl,rfl⟩;exact h ⟨rfl,Mi _⟩
def eH (ls:List Fact) (l:Fact) (a:Int) (p:List Int):kn (ls++[l]) a p=DI a p (kn ls a p) l:=by
 rw[kn,List.foldl_append];rfl
def Qr (l:List Int) (s:Int):(Iv l s).length≤l.length+1:=by
 unfold Iv;split
 ·omega
 ·rw[List.length_mergeSort];simp
def Vg (k:Kn) (f:Fact) (b:Bool):(Cu k f b).no.length≤k.no.length+1:=by
 unfold Cu
 repeat' split
 all_goals simp
def Ze (a:Int) (p:List Int): ∀(ls:List Fact) (k:Kn),(ls.foldl (DI a p) k).no.length≤k.no.length+ls.length∧(ls.foldl (DI a p) k).AT.length≤k.AT.length+ls.length
 | [],k=>⟨JT _,JT _⟩
 | l ::r,k=>by
   obtain⟨h1,h2⟩:=Ze a p r (DI a p k l)
   have h3:(DI a p k l).no.length≤k.no.length+1∧(DI a p k l).AT.length≤k.AT.length+1:=by
    unfold DI
    repeat' split
    ·have:=Vg (Dm k (A0 l).2) (A0 l).1 (A0 l).2
     rw[Qk];simp only[Dm]at this ⊢;omega
    ·have:=Qr k.AT ((A0 l).1.path.getD p.length 0)
     simp only[cR,Dm]at this ⊢;omega
    ·omega
   rw[List.foldl_cons,KH];omega
def eJ {n:Nat} {ls:List Fact} (h:Ij n ls) (a:Int) (p:List Int):(kn ls a p).CD<2 ^ n∧(kn ls a p).GY<2 ^ n:=by
 have hc:=ND ls a p;simp only[FH,Prod.mk.injEq]at hc;have hc2:Ij n (ls.filter (Gr a p)):=fun l hl=>h l (JV.1 hl).1
 rw[hc.2.2.2.1,hc.2.2.2.2.1];exact⟨Ra hc2,ig hc2⟩
end Go.Gl
