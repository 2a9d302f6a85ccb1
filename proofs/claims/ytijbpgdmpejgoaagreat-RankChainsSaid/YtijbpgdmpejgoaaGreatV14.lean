import Derived.Test.YtijbpgdmpejgoaaGreatV13
set_option linter.all false
noncomputable section
namespace Go.Gl
open Go.Proofs
attribute [local irreducible] BL A4 Aj AW AM Ai AV AX AN Ah AS AU A8 BJ Sat Ac BF Ak W
def Lq (w:AK) (f:Fact):Bool:=decide (0≤f.arg)&&(decide (f.arg<3)&&(E3 w f.path&&(if f.op=2 then f.n==0&&Nh w f.cls else f.cls==0&&(decide (-1000000000≤f.n)&&decide (f.n≤1000000000)))))
def Ep (w:AK) (f:Fact):Int→Int→Bool×Int:=f.HC fun f l left deep=>
 if IntKind.i64.wrap (left - 1)<0∨deep=0∨f.op<1∨7<f.op∨f.kids.length≠CF f.op then(false,IntKind.i64.wrap (left - 1))else
 if Br f then(Lq w f,IntKind.i64.wrap (left - 1))else
 if f.arg≠0∨0<f.path.length∨f.cls≠0∨f.n≠0 then(false,IntKind.i64.wrap (left - 1))else
 Co (fun(k:Int→Int→Bool×Int) s=>k s (deep - 1)) l (IntKind.i64.wrap (left - 1))
theorem LG {α β S:Type} (g:α→β) (stp:β→S→Bool×S): ∀(l:List α) (s:S),Co stp (l.map g) s=Co (fun a s=>stp (g a) s) l s
 | [],_=>rfl
 | a::r,s=>by simp only[FC,Co,LG g stp r]
theorem HS (w:AK) (f:Fact) (left deep:Int):Ep w f left deep =
 if IntKind.i64.wrap (left - 1)<0∨deep=0∨f.op<1∨7<f.op∨f.kids.length≠CF f.op then(false,IntKind.i64.wrap (left - 1))else
 if Br f then(Lq w f,IntKind.i64.wrap (left - 1))else
 if f.arg≠0∨0<f.path.length∨f.cls≠0∨f.n≠0 then(false,IntKind.i64.wrap (left - 1))else
 Co (fun k s=>Ep w k s (deep - 1)) f.kids (IntKind.i64.wrap (left - 1)):=by
 rw[Ep,Fact.Dj,LG];rfl
theorem V9 {w:AK} {f:Fact} {left deep L1:Int} {b:Bool} {nL:Nat} {σ:AH} (hs:Sat σ [.box nL [eI L1]]) (h:Ep w f left deep=(b,L1)):A4 σ (.b b) fun r σ'=> ∃post:List At,(r=R.ret (.b (Ep w f left deep).1)∧post= [.box nL [eI (Ep w f left deep).2]])∧Sat σ' post:=by
 rw[h];exact AO ⟨_,⟨rfl,rfl⟩,hs⟩
set_option maxHeartbeats 4000000 in
theorem ed (w:AK) (us:List Nat) (hw1:w.parents.length≤60) (hw2:w.owner.length≤60) (nL:Nat) (f:Fact): ∀(left deep:Int),0≤deep→deep≤12→
 Bh Tryz.prog 181 [.rp (wC w us),.a (xF f),.p nL 0,eI deep] [.box nL [eI left]] fun r post=>r= .ret (.b (Ep w f left deep).1)∧post= [.box nL [eI (Ep w f left deep).2]]:=by
 induction f using Fact.ind with
 | h f ih=>
   intro left deep hd0 hd1 σ hs;refine BL.fit (by kernel_rfl) fun hf=>?_
   have⟨h2,h3,h4⟩:=IM hf.2.1;have hM:=Mx;have hdw:IntKind.i64.wrap (deep - 1)=deep - 1:=wrap64 (by omega) (by omega);refine mI nb ?_
   have hstep:DD Tryz.prog (.f (.func 223) [] [.rp [.rp (wC w us)],.rp [.p nL 0],.rp [eI deep]]) (fun y=> .a (xF y)) (fun s=>[.box nL [eI s]]) (fun k s=>Ep w k s (deep - 1)) (fun y _=>y∈f.kids∧deep≠0):=by
    rintro y s ⟨hy,hdn⟩ σ hs;refine Bp ?_;show BL Tryz.prog 223 ([]++[.a (xF y)]++[.rp [.rp (wC w us)],.rp [.p nL 0],.rp [eI deep]]) σ _;refine lU nb ?_
    conv=>whnf
    repeat'((first|apply st|(apply sq;intro K U)|(apply si;intro A B Y Z)|(apply Y;clear Z B Y A)|(apply U;clear U K)|refine⟨rfl,?_⟩|refine⟨nb,?_⟩|fail)<;>conv=>whnf)
    rw[hdw];refine(ih y hy s (deep - 1) (by omega) (by omega)).use (rest:=[]) hs ?_;rintro r post σ ⟨rfl,rfl⟩ hs
    conv=>whnf
    repeat'((first|apply st|(apply Y;clear Z B Y A)|(apply U;clear U K)|fail)<;>conv=>whnf)
    exact AO ⟨rfl,hs⟩
   conv=>whnf
   repeat'((first|apply st|(apply sq;intro K U)|(apply si;intro A B Y Z)|(apply Y;clear Z B Y A)|(apply U;clear U K)|apply dr|refine rk ?_ ?_|exact fun s e=>by cases e;rfl|refine⟨rfl,?_⟩|refine⟨nb,?_⟩|refine ld ?_|refine FB fun σ hs=>?_|refine Pure.use (NN _) ?_|refine Pure.use (fB _) ?_|refine Pure.use (cZ w us _ hw1) ?_|refine Pure.use (eQ w us _ _ hw2) ?_|(constructor<;>intro hc<;>(try rw[hc])<;>(replace hc:=bp hc)<;>(try simp(disch:=omega) only[BE,wrap64,AL]at hc))|clear U K)<;>conv=>whnf)
   all_goals first
    | (refine V9 hs ?_;rw[HS,if_pos (by omega)];done)
    | (refine V9 hs ?_;rw[HS,if_neg (by omega),if_pos (by assumption)];simp[Lq, *];done)
    | (refine V9 hs ?_;rw[HS,if_neg (by omega),if_pos (by assumption)];simp[Lq, *];intros;omega)
    | (refine V9 hs ?_;rw[HS,if_neg (by omega),if_neg (by simp[*]),if_pos (by omega)];done)
    | skip
   refine(aT 223 [] _ _ _ _ hstep f.kids false (IntKind.i64.wrap (left - 1)) h2 (Gz fun y hy _=>⟨hy,by omega⟩)).use (rest:=[]) hs ?_;have hE:=HS w f left deep;rw[if_neg (by omega),if_neg (by simp[*]),if_neg (by omega)]at hE;rw[←hE];rintro r post σ ⟨rfl,rfl⟩ hs
   conv=>whnf
   repeat'((first|apply st|(apply Y;clear Z B Y A)|(apply U;clear U K)|fail)<;>conv=>whnf)
   exact AO ⟨_,⟨rfl,rfl⟩,hs⟩
def Kb (w:AK) (f:Fact):Bool:=(Ep w f 24 12).1
theorem Ya (w:AK) (us:List Nat) (hw1:w.parents.length≤60) (hw2:w.owner.length≤60) (f:Fact):Pure Tryz.prog 180 [.a (xF f),.rp [.rp (wC w us)]] (.b (Kb w f)):=by
 refine Pure.of ?_;refine mJ nb ?_;have hs:=Sn
 conv=>whnf
 repeat'((first|apply st|(apply sq;intro K U)|(apply si;intro A B Y Z)|(apply Y;clear Z B Y A)|(apply U;clear U K)|refine⟨nb,?_⟩|refine FB fun σ hs=>?_|(intro nn hnn;generalize hg:BC _ nn _=σ;refine Cm hg fun hs=>?_;clear hg)|fail)<;>conv=>whnf)
 refine(ed w us hw1 hw2 _ f 24 12 (by omega) (by omega)).use (rest:=[]) hs ?_;rintro r post σ ⟨rfl,rfl⟩ hs
 conv=>whnf
 repeat'((first|apply st|(apply Y;clear Z B Y A)|(apply U;clear U K)|fail)<;>conv=>whnf)
 exact AO rfl
theorem fv {g:FuncId} {fi ca:List V} {f:Fact→Bool} {xs:List Fact} (b:Bool) (hl:xs.length≤Ad) (h: ∀y∈xs,Pure Tryz.prog g (fi++[.a (xF y)]++ca) (.b (f y))):Pure Tryz.prog 179 [.l (facts xs) b,.f (.func g) fi ca] (.b (xs.all f)):=by
 have:=aT g fi ca (fun _=>[]) (fun y (_:Unit)=>(f y,())) (fun y _=>y∈xs) (fun y s hy σ hs=>Bp (BL.mono ((h y hy).use (k:=fun v σ'=>v= .b (f y)∧Sat σ' []) (kp:=fun _ _=>False) ⟨rfl,Sat.nil⟩) (by
  rintro(v|v) σ' hq
  ·obtain⟨rfl,h⟩:=hq
   exact⟨rfl,h⟩
  ·exact hq.elim))) xs b () hl (Gz fun y hy _=>hy)
 rw[JS]at this;exact Pure.of (BL.mono (this emp Sat.nil) fun r σ' ⟨post,⟨h1,h2⟩,h3⟩=>h1)
theorem Yc (w:AK) (us:List Nat) (hw1:w.parents.length≤60) (hw2:w.owner.length≤60) (l:List Fact) (b:Bool) (hl:l.length≤60):Pure Tryz.prog 140 [.rp (wC w us),.l (facts l) b] (.b (l.all (Kb w))):=by
 have hall:=fv (g:=180) (fi:=[]) (ca:=[.rp [.rp (wC w us)]]) (f:=Kb w) (xs:=l) b (by simp only[Ad];omega) fun y _=>Ya w us hw1 hw2 y
 refine m9 nb ?_;have hs:=Sn
 conv=>whnf
 repeat'((first|apply st|(apply sq;intro K U)|(apply si;intro A B Y Z)|(apply Y;clear Z B Y A)|(apply U;clear U K)|refine Pure.use (by assumption) ?_|fail)<;>conv=>whnf)
 exact AI rfl
theorem NH (w:AK) (hw:CR w) (l:List Fact) (b:Bool) (hl:l.length≤60):Pure Tryz.prog 109 [.a (A2 w),.l (facts l) b] (.t [.rp (wC w (CE w.parents)),.b (l.all (Kb w))]):=by
 have hfo:=Yc w (CE w.parents) (by have:=hw.1.1;omega) (by have:=hw.2.1;omega) l b hl;refine ni nb ?_;have hs:=Sn
 conv=>whnf
 repeat'((first|apply st|(apply sq;intro K U)|(apply si;intro A B Y Z)|(apply Y;clear Z B Y A)|(apply U;clear U K)|refine⟨nb,?_⟩|refine Pure.use (eY w hw) ?_|refine Pure.use hfo ?_|fail)<;>conv=>whnf)
 all_goals exact AI rfl
theorem Y5 (w:AK) (hw:CR w) (f:Fact):Pure Tryz.prog 170 [.a (A2 w),.a (xF f)] (eI (if Kb w f then 0 else 2)):=by
 have hfo: ∀b,Pure Tryz.prog 109 [.a (A2 w),.l [Fv f] b] (.t [.rp (wC w (CE w.parents)),.b (Kb w f)]):=fun b=>by
  have:=NH w hw [f] b (by simp);simpa using this
 refine mQ nb ?_;have hs:=Sn
 conv=>whnf
 repeat'((first|apply st|(apply sq;intro K U)|(apply si;intro A B Y Z)|(apply Y;clear Z B Y A)|(apply U;clear U K)|refine⟨nb,?_⟩|fail)<;>conv=>whnf)
 rw[Bd]at hfo;refine(hfo _).use ?_
 conv=>whnf
 repeat'((first|apply st|(apply sq;intro K U)|(apply si;intro A B Y Z)|(apply Y;clear Z B Y A)|(apply U;clear U K)|refine Pure.use (VC _) ?_|fail)<;>conv=>whnf)
 exact AI rfl
end Go.Gl
namespace Go.Gl
theorem LL {most:Int}: ∀(l:List Fact) (n:Int),(∀k∈l,∀m:Int,(La k:Int)≤m→CZ k m=La k)→n+(l.map La).sum≤most→Df (l.map CZ) n most=n+(l.map La).sum
 | [],n,_,_=>by simp[Df]
 | k::r,n,h,h1=>by
   simp only[FC,List.sum_cons,Df]at *;rw[if_pos (by omega),h k (.head _) (most - n) (by omega),LL r _ (fun k' hk'=>h k' (.tail _ hk')) (by omega)];omega
theorem SA (f:Fact): ∀m:Int,(La f:Int)≤m→CZ f m=La f:=by
 induction f using Fact.ind with
 | h f ih=>
   intro m hm;rw[Hc];rw[J1]at *;rw[LL f.kids 1 ih (by omega)];omega
theorem YE (f:Fact) {m:Int} (h0:0≤m):CZ f m≤m↔(La f:Int)≤m:=
 ⟨fun h=>by rw[←KC f m h0 h];exact h,fun h=>by rw[SA f m h];exact h⟩
theorem fg (f:Fact):1≤La f:=by rw[J1];omega
theorem GS {m:Int}: ∀(l:List Int) (a:Int),l.foldl HA a≤m↔a≤m∧ ∀x∈l,x≤m
 | [],a=>by simp
 | x ::r,a=>by
   rw[List.foldl_cons,GS r];unfold HA;constructor
   ·rintro⟨h1,h2⟩
    refine⟨by split at h1<;>omega,fun y hy=>?_⟩;rcases GB.1 hy with rfl|hy
    ·split at h1<;>omega
    ·exact h2 y hy
   ·rintro⟨h1,h2⟩
    have hx:=h2 x (.head _);exact⟨by split<;>omega,fun y hy=>h2 y (.tail _ hy)⟩
theorem cS (f:Fact) {m:Int}:EL f≤m↔1≤m∧ ∀k∈f.kids,EL k≤m - 1:=by
 rw[F7];constructor
 ·intro h
  have:=(GS (m:=m - 1) (f.kids.map EL) 0).1 (by omega);exact⟨by omega,fun k hk=>this.2 _ (List.mem_map_of_mem hk)⟩
 ·rintro⟨h1,h2⟩
  have:=(GS (m:=m - 1) (f.kids.map EL) 0).2 ⟨by omega,fun x hx=>by
   obtain⟨k,hk,rfl⟩:=Lc.1 hx
   exact h2 k hk⟩
  omega
def ZZ (w:AK) (f:Fact) (left deep:Int):Prop:=(La f:Int)≤left∧EL f≤deep∧Bi w f=true
theorem Qz (w:AK) {deep:Int}: ∀(l:List Fact) (left:Int),0≤left→left≤24→(∀k∈l,∀left:Int,0≤left→left≤24→((Ep w k left deep).1=true↔ZZ w k left deep)∧((Ep w k left deep).1=true→(Ep w k left deep).2=left - La k))→
 ((Co (fun k s=>Ep w k s deep) l left).1=true↔((l.map La).sum:Int)≤left∧ ∀k∈l,EL k≤deep∧Bi w k=true)∧((Co (fun k s=>Ep w k s deep) l left).1=true→(Co (fun k s=>Ep w k s deep) l left).2=left - ((l.map La).sum:Nat))
 | [],left,h0,h1,_=>by simp[Co];exact h0
 | k ::r,left,h0,h1,h=>by
   obtain⟨ha,hb⟩:=h k (.head _) left h0 h1;simp only[Co,FC,List.sum_cons];cases hk:(Ep w k left deep).1
   ·simp only[LY,if_false,false_iff,false_implies,and_true]
    rintro⟨h2,h3⟩;have:=ha.2 ⟨by omega,(h3 k (.head _)).1,(h3 k (.head _)).2⟩;rw[hk]at this;cases this
   ·obtain⟨g1,g2,g3⟩:=ha.1 hk
    have hc:=fg k;rw[if_pos rfl,hb hk];obtain⟨i1,i2⟩:=Qz w r (left - La k) (by omega) (by omega) fun k' hk'=>h k' (.tail _ hk')
    refine⟨i1.trans ⟨fun⟨e1,e2⟩=>⟨by omega,fun x hx=>?_⟩,fun⟨e1,e2⟩=>⟨by omega,fun x hx=>e2 x (.tail _ hx)⟩⟩,fun h=>by rw[i2 h];omega⟩;rcases GB.1 hx with rfl|hx
    ·exact⟨g2,g3⟩
    ·exact e2 x hx
theorem ec (w:AK) (f:Fact): ∀left deep:Int,0≤left→left≤24→0≤deep→((Ep w f left deep).1=true↔ZZ w f left deep)∧((Ep w f left deep).1=true→(Ep w f left deep).2=left - La f):=by
 induction f using Fact.ind with
 | h f ih=>
   intro left deep h0 h1 hd;have hw:IntKind.i64.wrap (left - 1)=left - 1:=wrap64 (by omega) (by omega);rw[HS,hw];have hc:=J1 f;have hn:=Cg w f;have hdl:=cS f (m:=deep)
   have hko:DC w f=true→f.kids.length=CF f.op:=fun h=>by
    simp only[DC,BZ,D1]at h;exact h.2.1
   have hop:DC w f=true→1≤f.op∧f.op≤7:=fun h=>by
    simp only[DC,BZ]at h;have h1:=h.1;unfold SV at h1;split at h1
    ·omega
    split at h1
    ·omega
    simp at h1;omega
   by_cases hbad:left - 1<0∨deep=0∨f.op<1∨7<f.op∨f.kids.length≠CF f.op
   ·rw[if_pos hbad]
    simp only[LY,false_iff,false_implies,and_true];rintro⟨g1,g2,g3⟩;rw[hn,BZ]at g3;have g4:=hko g3.1;have g5:=hop g3.1;have g6:=(hdl.1 g2).1;omega
   rw[if_neg hbad];by_cases hl:Br f=true
   ·rw [if_pos hl]
    have hl':f.op=2∨f.op=3∨f.op=4:=by
     simp only[Br,Fx,D1]at hl;omega
    have hk0:f.kids= []:=by
     have:f.kids.length=CF f.op:=by omega
     rw[CF,if_neg (by omega),if_neg (by omega)]at this;exact dD.1 this
    have hd1:EL f=1:=by rw[F7,hk0];rfl
    have hc1:La f=1:=by rw[hc,hk0];rfl
    have hh:DC w f=Lq w f:=by
     unfold DC SV Lq;rw[hl,hk0];have e:CF f.op=0:=by rw[CF,if_neg (by omega),if_neg (by omega)]
     rw[e];simp only[List.length_nil,beq_self_eq_true,Fm,Bool.true_or,Bool.and_true];rcases hl' with e|e|e
     ·rw[if_pos e,if_pos e]
      cases(f.n==0&&Nh w f.cls)<;>simp
     ·rw[if_neg (show¬f.op=2 by omega),if_neg (show¬f.op=2 by omega),if_pos (show f.op=3∨f.op=4 from .inl e)]
      cases(f.cls==0&&(decide (-1000000000≤f.n)&&decide (f.n≤1000000000)))<;>simp
     ·rw[if_neg (show¬f.op=2 by omega),if_neg (show¬f.op=2 by omega),if_pos (show f.op=3∨f.op=4 from .inr e)]
      cases(f.cls==0&&(decide (-1000000000≤f.n)&&decide (f.n≤1000000000)))<;>simp
    refine⟨⟨fun h=>⟨by omega,by omega,?_⟩,fun⟨_,_,h⟩=>?_⟩,fun _=>by dsimp only;omega⟩
    ·rw[hn,hk0,hh];simpa using h
    ·rw[hn,hk0,hh]at h;simpa using h
   ·have hl':f.op=1∨f.op=5∨f.op=6∨f.op=7:=by
     simp only[Br,Fx,D1]at hl;omega
    have hlf:Br f=false:=by simpa using hl
    rw[if_neg hl];by_cases hz:f.arg≠0∨0<f.path.length∨f.cls≠0∨f.n≠0
    ·rw[if_pos hz]
     simp only[LY,false_iff,false_implies,and_true];rintro⟨g1,g2,g3⟩;rw[hn,BZ]at g3;have g4:=g3.1;simp only[DC,hlf,Bool.false_or,BZ,D1]at g4;omega
    ·rw [if_neg hz]
     obtain⟨i1,i2⟩:=Qz w (deep:=deep - 1) f.kids (left - 1) (by omega) (by omega) fun k hk left hl0 hl1=>ih k hk left (deep - 1) hl0 hl1 (by omega)
     have hh:DC w f=true:=by
      have hp:f.path= []:=dD.1 (by omega)
      have e1:SV w f=true:=by
       unfold SV;rw[if_neg (by omega),if_neg (by omega)];simp only[Fx,D1];omega
      have z1:f.arg=0:=by omega
      have z2:f.cls=0:=by omega
      have z3:f.n=0:=by omega
      have z4:f.kids.length=CF f.op:=by omega
      simp[DC,e1,hlf,hp,z1,z2,z3,z4,E3]
     refine⟨i1.trans ⟨fun⟨e1,e2⟩=>⟨by omega,hdl.2 ⟨by omega,fun k hk=>(e2 k hk).1⟩,?_⟩,fun⟨g1,g2,g3⟩=>⟨by omega,fun k hk=>⟨(hdl.1 g2).2 k hk,?_⟩⟩⟩,fun h=>by rw[i2 h];omega⟩
     ·rw[hn,hh,Fm,Em]
      exact fun k hk=>(e2 k hk).2
     ·rw[hn,hh,Fm,Em]at g3
      exact g3 k hk
theorem NS (w:AK) (f:Fact):Kb w f=Ce w f:=by
 have:=(ec w f 24 12 (by omega) (by omega) (by omega)).1;rw[Kb,Ce,Lb,this,ZZ];simp only[BZ,CX];rw[YE f (by omega)]
end Go.Gl
namespace Go.Gl
open Go.Proofs
attribute [local irreducible] BL A4 Aj AW AM Ai AV AX AN Ah AS AU A8 BJ Sat Ac BF Ak W
theorem K7 {p:Prog} (h:BI p=true):CR (AP p)∧Bx p.AQ≤40∧p.AQ.length≤10:=by
 have h1:=h;rw[PM]at h1;simp only[BZ,CX]at h1;have h2:=h;simp only[BI,BZ,CX]at h2;have hm:=(FO _ _ h2.2.1).1;refine⟨⟨Dy h1.2.2.2.1,?_,fun o ho=>?_⟩,by omega,h1.1⟩
 ·rw[AP,Cc];omega
 ·have:=F3 ho
  simp only[AP,A7,BE];omega
def dK (s:List Int):Prop:= ∀x∈s,(-1:Int)≤x
theorem fM {s:List Int} (h:dK s) (i:Nat) {x:Int} (hx:0≤x):dK (s.set i x):=fun y hy=>by
 rcases List.mem_or_eq_of_mem_set hy with hy|rfl
 ·exact h y hy
 ·omega
theorem TR {f:Int→Int→List Int→Option (List Int)} (hf: ∀ {a b s s'},0≤b→f a b s=some s'→dK s→dK s') {op size:Int} (h0:0≤size): ∀(i:Nat) (l:List Int) {s s':List Int},Fe f op size i l s=some s'→dK s→dK s'
 | _,[],s,s',h,hs=>by cases h;exact hs
 | i,k::r,s,s',h,hs=>by
   simp only[Fe]at h;split at h
   ·cases h
   ·rename_i s1 h1
    refine TR hf h0 (i+1) r h (hf ?_ h1 hs);split<;>omega
theorem Kq {p:Prog} {next:Bool}: ∀(d:Nat) {n size:Int} {s s':List Int},0≤size→CQ p next d n size s=some s'→dK s→dK s'
 | 0,_,_,_,_,_,h,_=>by cases h
 | d + 1,n,size,s,s',h0,h,hs=>by
   simp only[CQ]at h;split at h
   ·cases h
   ·split at h
    ·cases h
    ·split at h
     ·exact TR (fun hb h hs=>Kq d hb h hs) h0 0 _ h (fM hs _ h0)
     ·cases h
theorem fN {s:List Int} (h:dK s):(s.all fun n=>decide (0≤n))= !s.contains (-1):=by
 rw[Lb];simp only[Em,CX,Bool.not_eq_true',←Bool.not_eq_true,List.contains_iff_mem];constructor
 ·intro h1 h2
  have:=h1 _ h2;omega
 ·intro h1 x hx
  have:=h x hx;rcases Int.lt_or_le x 0 with hlt|hle
  ·exact absurd ((show x= -1 by omega) ▸ hx) h1
  ·exact hle
def om (p:Prog) (nO:Nat) (r:R) (σ:AH):Prop:=
 match BO p with
 | some s=>r= .ret (.t [])∧ ∃v,Sat σ [.box nO [v],.own v 1 (iL s)]
 | none=>r= .C8 Dw∧ ∃v s,Sat σ [.box nO [v],.own v 1 (iL s)]
theorem XX {p:Prog} {nO:Nat} {σ:AH} {v:V} {s:List Int} {l:List At} (h:BO p=none) (hs:Sat σ l) (hsub: [At.box nO [v],.own v 1 (iL s)].Sublist l):Aj σ Dw (om p nO):=DR (by
 rw[om,h]
 exact⟨rfl,v,s,hs.less hsub⟩)
theorem xY {p:Prog} {nO:Nat} {σ:AH} {v:V} {s:List Int} {l:List At} (h:BO p=some s) (hs:Sat σ l) (hsub: [At.box nO [v],.own v 1 (iL s)].Sublist l):A4 σ (.t []) (om p nO):=AO (by
 rw[om,h]
 exact⟨rfl,v,hs.less hsub⟩)
theorem RR {p:Prog} (h:Cw p=false):BO p=none:=by unfold BO;rw[h];rfl
theorem XO {w:AK} {f:Fact} (h:Ce w f=true):Nw f=true:=Oy (w:=w) f (by simp only[Ce,BZ]at h;exact h.2.2)
theorem Va {w:AK} (hw:CR w) (f:Fact):Pure Tryz.prog 170 [.a (A2 w),.a (xF f)] (eI (if Ce w f then 0 else 2)):=by
 rw[←NS];exact Y5 w hw f
theorem X8 {α:Type} (a b c:α): [a,b,c].Perm [c,b,a]:=by simpa using(List.reverse_perm [a,b,c]).symm
set_option maxHeartbeats 4000000 in
theorem bN (p : Prog) (nO:Nat) (σ:AH) (hs:Sat σ [.box nO [.l [] true]]):BL Tryz.prog 162 [.rp (BK p),.p nO 0] σ (om p nO):=by
 refine BL.fit (by kernel_rfl) fun hf=>?_
 have hM:=Mx
 have hfp:FD (.a (BK p)):=by
  have:=hf.1;simp only[Ry]at this;simpa only[G0]using this
 have⟨p1,p2,p3,p4⟩:=GG hfp;refine mY nb ?_;have hcl:=Vv p;replace hs:Sat σ [.box nO [.l [] true],.own (.l [] true) 1 (iL [])]:=Ey hs 1;cases hcB:BI p with
 | false=>
   rw[hcB]at hcl
   conv=>whnf
   repeat'((first|apply st|(apply sq;intro K U)|(apply si;intro A B Y Z)|refine⟨nb,?_⟩|fail)<;>conv=>whnf)
   refine hcl.use (pre:=[]) (rest:=[.box nO [.l [] true],.own (.l [] true) 1 (iL [])]) hs ?_;rintro r post σ ⟨rfl,rfl⟩ hs
   conv=>whnf
   repeat'((first|(refine Z _ _ _ ?_;clear Z B Y A)|clear U K)<;>conv=>whnf)
   exact XX (RR (by simp[Cw,hcB])) hs (.refl _)
 | true=>
   rw[hcB]at hcl;obtain⟨hgW,hmS,h10⟩:=K7 hcB
   conv=>whnf
   repeat'((first|apply st|(apply sq;intro K U)|(apply si;intro A B Y Z)|refine⟨nb,?_⟩|fail)<;>conv=>whnf)
   refine hcl.use (pre:=[]) (rest:=[.box nO [.l [] true],.own (.l [] true) 1 (iL [])]) hs ?_;clear hs;rintro r post σ ⟨rfl,rfl⟩ hs
   conv=>whnf
   repeat'((first|apply st|(apply sq;intro K U)|(apply si;intro A B Y Z)|(apply Y;clear Z B Y A)|(refine Z _ _ _ ?_;clear Z B Y A)|(apply U;clear U K)|refine⟨rfl,?_⟩|(refine Cs (fun hc=>?_) (fun hc=>?_)<;>(replace hc:=bp hc)<;>(try simp(disch:=omega) only[BE,wrap64,AL]at hc)<;>(try(cases hc;done)))|(constructor<;>intro hc<;>(try rw[hc])<;>(replace hc:=bp hc)<;>(try simp(disch:=omega) only[BE,wrap64,AL]at hc))|clear U K)<;>conv=>whnf)
   rotate_left
   all_goals first
    | exact XX (RR (by simp[Cw, *];intros;omega)) hs (.refl _)
    | skip
   have a1:p.DA.length≤8:=by omega
   have a2:p.methods.length≤16:=by omega
   have a3:1≤p.nodes.length:=by omega
   have a4:p.nodes.length≤120:=by omega
   have hg:Cw p=p.DA.all fun g=>decide (1≤g)&&decide (g≤3):=by
    simp only[Cw,a1,a2,a3,a4,decide_true,Fm];simp[*]
   refine B4 p.DA.length (fun k (_:Unit)=>[(36,eI (A6 k))]) (fun _ _=>[.box nO [.l [] true],.own (.l [] true) 1 (iL [])]) (fun k _=>Cw p=(p.DA.drop k).all fun g=>decide (1≤g)&&decide (g≤3)) () rfl (by simpa using hg) hs ?_;clear hs hg;rintro k - σ hk hn hs;rcases BH p.DA hk with⟨g,hgk,hlt⟩|hke
   ·rw[drop_cons hgk,NA]at hn
    conv=>whnf
    repeat'((first|apply st|(apply sq;intro K U)|(apply si;intro A B Y Z)|(apply Y;clear Z B Y A)|(refine Z _ _ _ ?_;clear Z B Y A)|(apply U;clear U K)|refine⟨rfl,?_⟩|refine ix ?_|(refine CS (fun hc=>?_)<;>(try rw[hc])<;>clear hc)|(refine Cs (fun hc=>?_) (fun hc=>?_)<;>(replace hc:=bp hc)<;>(try simp(disch:=omega) only[BE,wrap64,AL]at hc)<;>(try(cases hc;done)))|(constructor<;>intro hc<;>(try rw[hc])<;>(replace hc:=bp hc))|clear U K)<;>conv=>whnf)
    ·exact⟨hlt,(),rfl,by rw[hn];simp[*],hs⟩
    ·exact XX (RR (by rw[hn,decide_eq_false (show¬g≤3 by omega)];simp)) hs (.refl _)
    ·exact XX (RR (by rw[hn,decide_eq_false (show¬1≤g by omega)];simp)) hs (.refl _)
   ·have hh : Cw p=true:=by rw[hn,Al hke];rfl
    have hL:=Wn hh;clear hn
    conv=>whnf
    repeat'((first|apply st|(apply sq;intro K U)|(apply si;intro A B Y Z)|(apply Y;clear Z B Y A)|(apply U;clear U K)|refine⟨rfl,?_⟩|(refine Dh (fun hc=>?_)<;>(try rw[hc])<;>clear hc)|clear U K)<;>conv=>whnf)
    rw[BE];refine(X1 p.nodes.length a3 a4).use (pre:=[]) (rest:=[.box nO [.l [] true],.own (.l [] true) 1 (iL [])]) hs ?_;clear hs;rintro r post σ ⟨v,rfl,rfl,hv⟩ hs
    conv=>whnf
    repeat'((first|apply st|(apply sq;intro K U)|(apply si;intro A B Y Z)|(apply Y;clear Z B Y A)|(apply U;clear U K)|refine⟨nb,?_⟩|refine FB fun σ hs=>?_|refine Dm fun σ hs=>?_|refine Pure.use (Sw p (by omega) (by omega)) ?_|(intro nn hnn;generalize hg:BC _ nn _=σ;refine Cm hg fun hs=>?_;clear hg)|fail)<;>conv=>whnf)
    rename_i nw hnw _ hs;generalize nn=n5 at *;replace hs:=hs.less (show [At.box n5 (A2 (AP p)),.own v 1 (iL (List.replicate p.nodes.length (-1))),.box nO [v]].Sublist _ from .cons₂ _ (.cons₂ _ (.cons₂ _ (.cons _ .slnil))));refine B4 p.methods.length (fun k (s:List Int)=>[(59,eI (A6 k))]) (fun _ s=>[.box nO [v],.own v 1 (iL s),.box n5 (A2 (AP p))]) (fun k s=>s.length=p.nodes.length∧dK s∧BO p=Jd p (runM p (p.methods.drop k) s)) (List.replicate p.nodes.length (-1)) rfl ⟨by simp,fun x hx=>by rw[List.eq_of_mem_replicate hx];omega,hL⟩ (hs.perm (X8 _ _ _)) ?_;clear hs hnw hnn;rintro k s σ hk ⟨hl,hge,hn⟩ hs;rcases BH p.methods hk with⟨m,hm,hlt⟩|hke
    ·have hF:=Va hgW m.fact
     cases hfB:Ce (AP p) m.fact with
     | false=>
       rw[hfB,if_neg Bool.false_ne_true]at hF;have hno:=DX hm hn (by simp[NY,hfB])
       conv=>whnf
       repeat'((first|apply st|(apply sq;intro K U)|(apply si;intro A B Y Z)|(apply Y;clear Z B Y A)|(refine Z _ _ _ ?_;clear Z B Y A)|(refine Z _ _ fun σ hsub=>?_;clear Z B Y A)|(apply U;clear U K)|apply dr|refine rk ?_ ?_|exact fun s e=>by cases e;rfl|refine⟨rfl,?_⟩|refine⟨nb,?_⟩|refine ix ?_|refine ld ?_|refine Dm fun σ hs=>?_|(refine CS (fun hc=>?_)<;>(try rw[hc])<;>clear hc)|(refine Cs (fun hc=>?_) (fun hc=>?_)<;>(replace hc:=bp hc)<;>(try simp(disch:=omega) only[BE,wrap64,AL]at hc)<;>(try(cases hc;done)))|refine Pure.use hF ?_|(constructor<;>intro hc<;>(try rw[hc])<;>(replace hc:=bp hc)<;>try(exfalso;omega))|(intro nn hnn;generalize hg:BC _ nn _=σ;refine Cm hg fun hs=>?_;clear hg)|clear U K)<;>conv=>whnf)
       all_goals first
        | (refine XX (v:=v) (s:=s) hno hs ?_;(repeat first|exact MR _|apply List.Sublist.cons₂|apply List.Sublist.cons);done)
        | (refine XX (v:=v) (s:=s) hno (hs.up (by assumption)) ?_;(repeat first|exact MR _|apply List.Sublist.cons₂|apply List.Sublist.cons);done)
        | skip
     | true=>
       rw[hfB,if_pos rfl]at hF;have hsp:=Xu _ (XO hfB)
       conv=>whnf
       repeat'((first|apply st|(apply sq;intro K U)|(apply si;intro A B Y Z)|(apply Y;clear Z B Y A)|(refine Z _ _ _ ?_;clear Z B Y A)|(refine Z _ _ fun σ hsub=>?_;clear Z B Y A)|(apply U;clear U K)|apply dr|refine rk ?_ ?_|exact fun s e=>by cases e;rfl|refine⟨rfl,?_⟩|refine⟨nb,?_⟩|refine ix ?_|refine F6 ?_|refine iq fun x hx=>?_|refine ld ?_|refine Dm fun σ hs=>?_|(refine CS (fun hc=>?_)<;>(try rw[hc])<;>clear hc)|(refine Cs (fun hc=>?_) (fun hc=>?_)<;>(replace hc:=bp hc)<;>(try simp(disch:=omega) only[BE,wrap64,AL]at hc)<;>(try(cases hc;done)))|refine Pure.use hF ?_|refine Pure.use hsp ?_|(constructor<;>intro hc<;>(try rw[hc])<;>(replace hc:=bp hc)<;>(try simp(disch:=omega) only[BE,wrap64,AL]at hc)<;>try(exfalso;omega))|(intro nn hnn;generalize hg:BC _ nn _=σ;refine Cm hg fun hs=>?_;clear hg)|clear U K)<;>conv=>whnf)
       all_goals first
        | (refine XX (v:=v) (s:=s) (DX hm hn ?_) hs ?_;(simp[NY, *];intros;omega);(repeat first|exact MR _|apply List.Sublist.cons₂|apply List.Sublist.cons);done)
        | (refine XX (v:=v) (s:=s) (DX hm hn ?_) (hs.up (by assumption)) ?_;(simp[NY, *];intros;omega);(repeat first|exact MR _|apply List.Sublist.cons₂|apply List.Sublist.cons);done)
        | skip
       rotate_left 2
       ·refine XX (v:=v) (s:=s) (DX hm hn ?_) (hs.up (by assumption)) ?_
        ·simp only[NY,show p.DA.getD m.gen.toNat 0=x by rw[DL,hx];rfl,decide_eq_false (show¬DM m.fact≤x by omega),Bool.and_false]
        ·repeat first|exact MR _|apply List.Sublist.cons₂|apply List.Sublist.cons
       all_goals
        have hx13:=Qc hh hx;have hgd:p.DA.getD m.gen.toNat 0=x:=by rw[DL,hx];rfl
        have hok:NY p m=true:=by simp only[NY,hgd,BZ,CX];exact⟨by omega,by omega,by omega,by omega,hfB,by assumption⟩
        have hgo:=fun s'=>WU (s':=s') hm hn hok
        have hno:=QH hm hn hok;rw[hgd]at hgo hno
       ·have hnb:Jc m.kind=(m.kind==4):=by simp[Jc, *]
        rw[hnb]at hgo hno;refine Bp ((R1 p (m.kind==4) hv m.node x s (by omega) (by omega) hl [.box n5 (A2 (AP p))] σ (hs.less (.cons _ (.refl _)))).mono ?_);cases hw:CQ p (m.kind==4) 12 m.node x s with
        | none=>
          clear hs;rintro r σ' ⟨rfl,s',hl',hs⟩
          conv=>whnf
          repeat'((first|(refine Z _ _ fun σ hsub=>?_;clear Z B Y A)|clear U K)<;>conv=>whnf)
          exact XX (v:=v) (s:=s') (hno hw) (hs.up (by assumption)) (.cons₂ _ (.cons₂ _ (MR _)))
        | some s2=>
          clear hs;rintro r σ' ⟨rfl,hs⟩
          conv=>whnf
          repeat'((first|(apply si;intro A B Y Z)|(apply Y;clear Z B Y A)|(apply U;clear U K)|apply dr|refine⟨rfl,?_⟩|clear U K)<;>conv=>whnf)
          exact⟨hlt,s2,rfl,⟨(JJ _ hw).trans hl,Kq _ (by omega) hw hge,hgo s2 hw⟩,hs⟩
       ·have hnb:Jc m.kind=true:=by simp[Jc, *]
        rw[hnb]at hgo hno;refine Bp ((R1 p true hv m.node x s (by omega) (by omega) hl [.box n5 (A2 (AP p))] σ (hs.less (.cons _ (.refl _)))).mono ?_);cases hw:CQ p true 12 m.node x s with
        | none=>
          clear hs;rintro r σ' ⟨rfl,s',hl',hs⟩
          conv=>whnf
          repeat'((first|(refine Z _ _ fun σ hsub=>?_;clear Z B Y A)|clear U K)<;>conv=>whnf)
          exact XX (v:=v) (s:=s') (hno hw) (hs.up (by assumption)) (.cons₂ _ (.cons₂ _ (MR _)))
        | some s2=>
          clear hs;rintro r σ' ⟨rfl,hs⟩
          conv=>whnf
          repeat'((first|(apply si;intro A B Y Z)|(apply Y;clear Z B Y A)|(apply U;clear U K)|apply dr|refine⟨rfl,?_⟩|clear U K)<;>conv=>whnf)
          exact⟨hlt,s2,rfl,⟨(JJ _ hw).trans hl,Kq _ (by omega) hw hge,hgo s2 hw⟩,hs⟩
    ·subst hke
     rw[List.drop_length,runM]at hn
     conv=>whnf
     repeat'((first|apply st|(apply sq;intro K U)|(apply si;intro A B Y Z)|(apply Y;clear Z B Y A)|(apply U;clear U K)|refine⟨rfl,?_⟩|refine⟨nb,?_⟩|refine ix ?_|refine ld ?_|refine Dm fun σ hs=>?_|(refine fc (fun x hx hlt hc=>?_) (fun hk hc=>?_)<;>(try rw[hc])<;>clear hc)|(constructor<;>intro hc<;>(try rw[hc])<;>(replace hc:=bp hc)<;>try(exfalso;omega))|(intro nn hnn;generalize hg:BC _ nn _=σ;refine Cm hg fun hs=>?_;clear hg)|clear U K)<;>conv=>whnf)
     rw[Jd]at hn;refine Bp ((R1 p false hv p.main 0 s (by omega) (by omega) hl [.box n5 (A2 (AP p))] σ hs).mono ?_);cases hw:CQ p false 12 p.main 0 s with
     | none=>
       rw[hw]at hn;clear hs;rintro r σ' ⟨rfl,s',hl',hs⟩
       conv=>whnf
       repeat'((first|(refine Z _ _ _ ?_;clear Z B Y A)|clear U K)<;>conv=>whnf)
       exact XX (v:=v) (s:=s') hn hs (.cons₂ _ (.cons₂ _ (MR _)))
     | some s2=>
       rw[hw]at hn;have hge2:=Kq _ (by omega) hw hge;simp only[fN hge2]at hn;clear hs;rintro r σ' ⟨rfl,hs⟩;have hct:=fun f=>Dz s2 f (-1)
       cases hyes:s2.contains (-1)with
       | true=>
         rw[hyes]at hct hn
         conv=>whnf
         repeat'((first|(apply si;intro A B Y Z)|(apply Y;clear Z B Y A)|(apply U;clear U K)|refine ld ?_|fail)<;>conv=>whnf)
         refine Pure.Xf (hct false) (.cons (hs.NC 1 rfl) (.cons (.refl _) .nil)) rfl ?_
         conv=>whnf
         repeat'((first|(refine Z _ _ _ ?_;clear Z B Y A)|(refine Cs (fun hc=>?_) (fun hc=>?_)<;>(replace hc:=bp hc)<;>(try simp(disch:=omega) only[BE,wrap64,AL]at hc)<;>(try(cases hc;done)))|fail)<;>conv=>whnf)
         all_goals exact XX (v:=v) (s:=s2) hn (by first|exact hs|exact hs.up (by assumption)) (.cons₂ _ (.cons₂ _ (MR _)))
       | false=>
         rw[hyes]at hct hn
         conv=>whnf
         repeat'((first|(apply si;intro A B Y Z)|(apply Y;clear Z B Y A)|(apply U;clear U K)|refine ld ?_|fail)<;>conv=>whnf)
         refine Pure.Xf (hct false) (.cons (hs.NC 1 rfl) (.cons (.refl _) .nil)) rfl ?_
         conv=>whnf
         repeat'((first|(apply Y;clear Z B Y A)|(refine Cs (fun hc=>?_) (fun hc=>?_)<;>(replace hc:=bp hc)<;>(try simp(disch:=omega) only[BE,wrap64,AL]at hc)<;>(try(cases hc;done)))|fail)<;>conv=>whnf)
         all_goals exact xY (v:=v) hn hs (.cons₂ _ (.cons₂ _ (MR _)))
end Go.Gl
namespace Go.Gl
variable {P:Program} {σ:AH}
theorem Y6 {v:V} {Q Q':R→AH→Prop} (h:A4 σ v Q) (hq: ∀r σ,Q r σ→Q' r σ):A4 σ v Q':=by
 obtain⟨vf,s2,h1,h2,h3⟩:=h;exact⟨vf,s2,h1,h2,hq _ _ h3⟩
theorem DD.more {α S:Type} {g:FuncId} {fi ca:List V} {ea:α→V} {H:S→List At} {stp:α→S→Bool×S} {D:α→S→Prop} (h:DD P (.f (.func g) fi ca) ea H stp D) (pre:List At):DD P (.f (.func g) fi ca) ea (fun s=>pre++H s) stp D:=fun y s hd σ hs=>by
 have h1:Bh P g (fi++[ea y]++ca) (H s) fun r post=>r= .ret (.b (stp y s).1)∧post=H (stp y s).2:=fun σ hs=>BL.mono (h y s hd σ hs) fun r σ' ⟨e,h2⟩=>⟨_,⟨e,rfl⟩,h2⟩
 refine Bp (h1.use (rest:=pre) (hs.perm Pq) ?_);rintro r post σ' ⟨rfl,rfl⟩ hs';exact⟨rfl,hs'.perm Pq⟩
def Mc {α S:Type} (P:Program) (x:V) (ea:α→V) (H:S→List At) (f:α→Bool) (J:S→Prop) (D:α→Prop):Prop:=
 ∀y s,D y→J s→ ∀σ,Sat σ (H s)→A8 P x [ea y] σ fun r σ'=>r= .ret (.b (f y))∧ ∃s',J s'∧Sat σ' (H s')
theorem Mc.use {α S:Type} {x:V} {ea:α→V} {H:S→List At} {f:α→Bool} {J:S→Prop} {D:α→Prop} (h:Mc P x ea H f J D) {y:α} {s:S} (hd:D y) (hj:J s) (hs:Sat σ (H s)) {k kp:V→AH→Prop} (hk: ∀s' σ',J s'→Sat σ' (H s')→k (.b (f y)) σ'):A8 P x [ea y] σ (qk k kp):=
 (h y s hd hj σ hs).mono fun r σ' ⟨e,s',hj',h'⟩=>by rw[e];exact hk s' σ' hj' h'
def MZ {α:Type} (f:α→Bool):List α→Nat→Int
 | [],_=> -1
 | y::r,k=>if f y then(k:Int)else MZ f r (k+1)
theorem TZ {α:Type} (f:α→Bool): ∀(xs:List α) (k:Nat),decide (MZ f xs k≥0)=xs.any f
 | [],_=>rfl
 | y::r,k=>by
   rw[MZ,Q6];cases f y
   ·exact TZ f r (k+1)
   ·simp
end Go.Gl
namespace Go.Gl
structure Kn where
 low:Int
 high:Int
 no:List Int
 CD:Nat
 GY:Nat
 whole:Bool
 BA:Bool
 AT:List Int
def k0:Kn:=⟨-1000000000,1000000000,[],0,0,false,false,[]⟩
def Iw (l:List Int) (s:Int):List Int:=if l.contains s then l else(l++[s]).mergeSort G5
def Ct (k:Kn) (f:Fact) (b:Bool):Kn:=
 if f.op=2 then(if b then {k with GY:=k.GY|||2 ^ f.cls.toNat}else {k with CD:=k.CD|||2 ^ f.cls.toNat})
 else if f.op=3 then(if b then {k with low:=if f.n > k.low then f.n else k.low}else {k with high:=if f.n - 1<k.high then f.n - 1 else k.high,whole:=true})
 else if b then {k with no:=k.no++[f.n]}else {k with low:=if f.n > k.low then f.n else k.low,high:=if f.n<k.high then f.n else k.high,whole:=true}
def Ds (k:Kn) (b:Bool):Kn:={k with BA:=k.BA|| !b}
def dI (k:Kn) (s:Int):Kn:={k with AT:=Iw k.AT s}
def DK (a:Int) (p:List Int) (k:Kn) (l:Fact):Kn:=
 if(A1 l).1.arg=a∧B0 (A1 l).1.path p=true then
  (if(A1 l).1.path=p then Ct (Ds k (A1 l).2) (A1 l).1 (A1 l).2 else dI (Ds k (A1 l).2) ((A1 l).1.path.getD p.length 0))
 else k
def kn (ls:List Fact) (a:Int) (p:List Int):Kn:=ls.foldl (DK a p) k0
theorem Vy (k:Kn) (f:Fact) (b:Bool):(Ct k f b).BA=k.BA:=by
 unfold Ct
 (repeat' split)<;>rfl
theorem Qv (k:Kn) (f:Fact) (b:Bool):(Ct k f b).AT=k.AT:=by
 unfold Ct
 (repeat' split)<;>rfl
theorem SC (a:Int) (p:List Int) (k:Kn) (l:Fact):(DK a p k l).BA=(k.BA|| !((A1 l).2|| !((A1 l).1.arg==a&&B0 (A1 l).1.path p))):=by
 unfold DK;split
 ·rename_i h
  have e:((A1 l).1.arg==a)=true:=by simpa using h.1
  rw[e,h.2];split
  ·rw[Vy];simp[Ds]
  ·simp[dI,Ds]
 ·rename_i h
  have:((A1 l).1.arg==a&&B0 (A1 l).1.path p)=false:=by
   cases hb:((A1 l).1.arg==a&&B0 (A1 l).1.path p)with
   | false=>rfl
   | true=>rw[BZ]at hb;exact absurd ⟨by simpa using hb.1,hb.2⟩ h
  rw[this];simp
theorem LP (a:Int) (p:List Int): ∀(ls:List Fact) (k:Kn),(ls.foldl (DK a p) k).BA=(k.BA|| !ES ls a p)
 | [],k=>by simp[ES]
 | l::r,k=>by
   rw[List.foldl_cons,LP a p r,SC];simp only[ES,NA];generalize (r.all _)=x;generalize ((A1 l).2||_)=y;cases k.BA<;>cases x<;>cases y<;>rfl
theorem ME (ls:List Fact) (a:Int) (p:List Int):(kn ls a p).BA= !ES ls a p:=by rw[kn,LP];rfl
theorem Y2 (l:List Int) (s x:Int):x∈Iw l s↔x∈l∨x=s:=by
 unfold Iw;split
 ·rename_i h
  rw[List.contains_iff_mem]at h;constructor
  ·exact .inl
  ·rintro(h'|rfl)
   ·exact h'
   ·exact h
 ·rw[(List.mergeSort_perm _ G5).mem_iff];simp
theorem SM {l:List Int} (s:Int) (h:l.Pairwise (· < ·)):(Iw l s).Pairwise (· < ·):=by
 unfold Iw;split
 ·exact h
 ·rename_i hc
  have hc':s∉l:=by simpa using hc
  have hp:=List.mergeSort_perm (l++[s]) G5;have h1:((l++[s]).mergeSort G5).Pairwise (fun a b=>G5 a b=true):=List.pairwise_mergeSort (fun a b c=>by simp only[G5,CX];omega) (fun a b=>by simp only[G5,Fx,CX];omega) _
  have h2:((l++[s]).mergeSort G5).Nodup:=hp.nodup_iff.2 (by
   rw[List.nodup_append];refine⟨h.imp fun hab=>by omega,by simp,fun a ha b hb=>?_⟩;simp only[KN]at hb;rintro rfl
   exact hc' (hb ▸ ha))
  exact(h1.and h2).imp fun⟨h3,h4⟩=>by
   simp only[G5,CX]at h3;omega
theorem J6: ∀ {l m:List Int},l.Pairwise (· < ·)→m.Pairwise (· < ·)→(∀x,x∈l↔x∈m)→l=m
 | [],[],_,_,_=>rfl
 | [],y::m,_,_,h=>absurd ((h y).2 (.head _)) (by simp)
 | x::l,[],_,_,h=>absurd ((h x).1 (.head _)) (by simp)
 | x ::l,y::m,h1,h2,h=>by
   rw[List.pairwise_cons]at h1 h2
   have hxy:x=y:=by
    rcases GB.1 ((h x).1 (.head _))with e|hx
    ·exact e
    ·rcases GB.1 ((h y).2 (.head _))with e|hy
     ·exact e.symm
     ·have:=h1.1 y hy
      have:=h2.1 x hx;omega
   subst hxy;congr 1;refine J6 h1.2 h2.2 fun z=>?_
   constructor
   ·intro hz
    rcases GB.1 ((h z).1 (.tail _ hz))with e|hz'
    ·have:=h1.1 z hz;omega
    ·exact hz'
   ·intro hz
    rcases GB.1 ((h z).2 (.tail _ hz))with e|hz'
    ·have:=h2.1 z hz;omega
    ·exact hz'
theorem Cb {path pre:List Int}:B0 path pre=true↔ ∃t,path=pre++t:=by
 simp only[B0,BZ,CX,D1];constructor
 ·rintro⟨_,h⟩
  exact⟨path.drop pre.length,by conv=>lhs;rw[←List.take_append_drop pre.length path,h]⟩
 ·rintro⟨t,rfl⟩
  simp
theorem UM {path p:List Int} {s:Int}:B0 path (p++[s])=true↔B0 path p=true∧path≠p∧path.getD p.length 0=s:=by
 rw[Cb,Cb];constructor
 ·rintro⟨t,rfl⟩
  refine⟨⟨s::t,by simp⟩,fun e=>?_,by simp⟩;have:=congrArg List.length e;simp at this
 ·rintro⟨⟨t,rfl⟩,hne,hs⟩
  cases t with
  | nil=>simp at hne
  | cons y t=>simp at hs;subst hs;exact⟨t,by simp⟩
theorem W4 {a:Int} {p:List Int} {s:Int} {l:Fact}:V3 a p s l=true↔(A1 l).1.arg=a∧B0 (A1 l).1.path p=true∧(A1 l).1.path≠p∧(A1 l).1.path.getD p.length 0=s:=by
 rw[V3,BZ,UM,D1]
theorem T7 (a:Int) (p:List Int) (k:Kn) (l:Fact):(DK a p k l).AT=if(A1 l).1.arg=a∧B0 (A1 l).1.path p=true∧(A1 l).1.path≠p then Iw k.AT ((A1 l).1.path.getD p.length 0)else k.AT:=by
 unfold DK;by_cases h1:(A1 l).1.arg=a∧B0 (A1 l).1.path p=true
 ·rw[if_pos h1]
  by_cases h2:(A1 l).1.path=p
  ·rw[if_pos h2,if_neg (fun h=>h.2.2 h2),Qv];rfl
  ·rw[if_neg h2,if_pos ⟨h1.1,h1.2,h2⟩];rfl
 ·rw[if_neg h1,if_neg (fun h=>h1 ⟨h.1,h.2.1⟩)]
theorem PD (a:Int) (p:List Int): ∀(ls:List Fact) (k:Kn),k.AT.Pairwise (· < ·)→(ls.foldl (DK a p) k).AT.Pairwise (· < ·)∧ ∀s,s∈(ls.foldl (DK a p) k).AT↔s∈k.AT∨ls.any (V3 a p s)=true
 | [],k,h=>⟨h,fun s=>by simp⟩
 | l ::r,k,h=>by
   rw[List.foldl_cons];have e:=T7 a p k l
   have h1:(DK a p k l).AT.Pairwise (· < ·):=by
    rw[e];split
    ·exact SM _ h
    ·exact h
   obtain⟨i1,i2⟩:=PD a p r _ h1;refine⟨i1,fun s=>?_⟩;rw[i2,e,Q6,Fx,W4];split
   ·rename_i hc
    rw[Y2];constructor
    ·rintro((h|rfl)|h)
     ·exact .inl h
     ·exact .inr (.inl ⟨hc.1,hc.2.1,hc.2.2,rfl⟩)
     ·exact .inr (.inr h)
    ·rintro(h|⟨-,-,-,h⟩|h)
     ·exact .inl (.inl h)
     ·exact .inl (.inr h.symm)
     ·exact .inr h
   ·rename_i hc
    constructor
    ·rintro(h|h)
     ·exact .inl h
     ·exact .inr (.inr h)
    ·rintro(h|⟨q1,q2,q3,-⟩|h)
     ·exact .inl h
     ·exact absurd ⟨q1,q2,q3⟩ hc
     ·exact .inr h
def Hn (n:Nat) (ls:List Fact):Prop:= ∀l∈ls,∀s∈(A1 l).1.path,(0:Int)≤s∧s<n
theorem FR {n:Nat} {s:Int}:s∈Bu n↔0≤s∧s<n:=by
 simp only[Bu,Lc,List.mem_range];constructor
 ·rintro⟨m,hm,rfl⟩
  exact⟨Int.natCast_nonneg m,by simpa using hm⟩
 ·rintro⟨h0,h1⟩
  exact⟨s.toNat,by omega,by simp;omega⟩
theorem Jh (n:Nat):(Bu n).Pairwise (· < ·):=by
 rw[Bu,List.pairwise_map];exact List.pairwise_lt_range.imp fun h=>by simpa using h
theorem j3 {n:Nat} {ls:List Fact} (h:Hn n ls) {a:Int} {p:List Int} {s:Int} {l:Fact} (hl:l∈ls) (hg:V3 a p s l=true):0≤s∧s<n:=by
 rw[W4]at hg;obtain⟨-,h2,h3,h4⟩:=hg;obtain⟨t,ht⟩:=Cb.1 h2;refine h l hl s ?_;rw[ht]at h3 h4 ⊢;cases t with
 | nil=>simp at h3
 | cons y t=>simp at h4;subst h4;simp
theorem K3 {n:Nat} {ls:List Fact} (h:Hn n ls) (a:Int) (p:List Int):(kn ls a p).AT=Bt n ls a p:=by
 obtain⟨h1,h2⟩:=PD a p ls k0 .nil;refine J6 h1 ((Jh n).filter _) fun s=>?_
 show s∈(ls.foldl (DK a p) k0).AT↔_;rw[h2,Bt,JZ,FR];constructor
 ·rintro(h|hs)
  ·cases h
  ·obtain⟨l,hl,hg⟩:=JY.1 hs
   exact⟨j3 h hl hg,hs⟩
 ·exact fun hs=> .inr hs.2
def Ez (os:List Fact) (k:Kn):Kn:=os.foldl (fun k l=>Ct k (A1 l).1 (A1 l).2) k
abbrev FJ (k:Kn):Int×Int×List Int×Nat×Nat×Bool:=(k.low,k.high,k.no,k.CD,k.GY,k.whole)
theorem Tc {k k':Kn} (h:FJ k=FJ k') (f:Fact) (b:Bool):FJ (Ct k f b)=FJ (Ct k' f b):=by
 cases k;cases k';simp only[FJ,Prod.mk.injEq]at h;obtain⟨rfl,rfl,rfl,rfl,rfl,rfl⟩:=h;unfold Ct
 (repeat' split)<;>rfl
theorem Mt (p:List Int):B0 p p=true:=Cb.2 ⟨[],by simp⟩
theorem Yn (a:Int) (p:List Int) (k:Kn) (l:Fact):FJ (DK a p k l)=if Gp a p l then FJ (Ct k (A1 l).1 (A1 l).2)else FJ k:=by
 unfold DK Gp;by_cases h1:(A1 l).1.arg=a
 ·by_cases h2:(A1 l).1.path=p
  ·have e:((A1 l).1.arg==a&&(A1 l).1.path==p)=true:=by simp[h1,h2]
   rw[if_pos ⟨h1,by rw[h2];exact Mt p⟩,if_pos h2,e,if_pos rfl];exact Tc (k:=Ds k (A1 l).2) (k':=k) rfl _ _
  ·have e:((A1 l).1.arg==a&&(A1 l).1.path==p)=false:=by simp[h2]
   rw[if_neg h2,e,if_neg Bool.false_ne_true];split<;>rfl
 ·have e:((A1 l).1.arg==a&&(A1 l).1.path==p)=false:=by simp[h1]
  rw[if_neg (fun h=>h1 h.1),e,if_neg Bool.false_ne_true]
theorem MM (a:Int) (p:List Int): ∀(ls:List Fact) (k k':Kn),FJ k=FJ k'→FJ (ls.foldl (DK a p) k)=FJ (Ez (ls.filter (Gp a p)) k')
 | [],k,k',h=>h
 | l ::r,k,k',h=>by
   rw[List.foldl_cons,List.filter_cons];have e:=Yn a p k l;split
   ·rename_i ho
    rw[if_pos ho]at e;exact MM a p r _ _ (e.trans (Tc h _ _))
   ·rename_i ho
    rw[if_neg (by simpa using ho)]at e;exact MM a p r _ _ (e.trans h)
theorem NO (ls:List Fact) (a:Int) (p:List Int):FJ (kn ls a p)=FJ (Ez (ls.filter (Gp a p)) k0):=MM a p ls k0 k0 rfl
def iK (x:Fact×Bool):Bool:= !(x.1.op==2)||(decide (x.1.cls > 1)==x.2)
theorem Xt (x:Fact×Bool) (k:Kn):HD x (k.low,k.high,k.no)=if iK x then some ((Ct k x.1 x.2).low,(Ct k x.1 x.2).high,(Ct k x.1 x.2).no)else none:=by
 unfold HD iK Ct;by_cases h2:x.1.op=2
 ·rw[if_pos h2,if_pos h2]
  cases x.2<;>cases decide (x.1.cls > 1)<;>simp[h2]
 ·rw[if_neg h2,if_neg h2]
  by_cases h3:x.1.op=3
  ·rw[if_pos h3,if_pos h3]
   cases x.2<;>simp[h2]
  ·rw[if_neg h3,if_neg h3]
   cases x.2<;>simp[h2]
theorem Qk: ∀(os:List Fact) (k:Kn),foldI os (k.low,k.high,k.no)=if os.all (fun l=>iK (A1 l))then some ((Ez os k).low,(Ez os k).high,(Ez os k).no)else none
 | [],k=>rfl
 | l ::r,k=>by
   rw[foldI,Xt,NA];cases hb:iK (A1 l)with
   | false=>rfl
   | true=>
     rw[if_pos rfl,Option.bind_some,Qk r,Fm];rfl
theorem cu (k:Kn) (f:Fact) (c:Bool) (b:Nat):(Ct k f c).CD.testBit b=(k.CD.testBit b||(f.op==2&& !c&&f.cls.toNat==b)):=by
 unfold Ct;by_cases h2:f.op=2
 ·rw[if_pos h2]
  cases c<;>simp[h2,Nat.testBit_or,Nat.testBit_two_pow,Bool.beq_eq_decide_eq]
 ·rw[if_neg h2]
  have:(f.op==2)=false:=by simpa using h2
  rw[this]
  repeat' split
  all_goals simp
theorem ft (k:Kn) (f:Fact) (c:Bool) (b:Nat):(Ct k f c).GY.testBit b=(k.GY.testBit b||(f.op==2&&c&&f.cls.toNat==b)):=by
 unfold Ct;by_cases h2:f.op=2
 ·rw[if_pos h2]
  cases c<;>simp[h2,Nat.testBit_or,Nat.testBit_two_pow,Bool.beq_eq_decide_eq]
 ·rw[if_neg h2]
  have:(f.op==2)=false:=by simpa using h2
  rw[this]
  repeat' split
  all_goals simp
theorem Yy (k:Kn) (f:Fact) (c:Bool):(Ct k f c).whole=(k.whole||(!c&& !(f.op==2))):=by
 unfold Ct;by_cases h2:f.op=2
 ·rw[if_pos h2]
  cases c<;>simp[h2]
 ·rw[if_neg h2]
  have:(f.op==2)=false:=by simpa using h2
  rw[this];cases c<;>(repeat' split)<;>simp_all
theorem MO: ∀(os:List Fact) (k:Kn) (b:Nat),(Ez os k).CD.testBit b=(k.CD.testBit b||os.any fun l=>(A1 l).1.op==2&& !(A1 l).2&&(A1 l).1.cls.toNat==b)
 | [],k,b=>by simp[Ez]
 | l::r,k,b=>by
   have:=MO r (Ct k (A1 l).1 (A1 l).2) b;rw[cu]at this;rw[Q6,←Bool.or_assoc,←this];rfl
theorem OV: ∀(os:List Fact) (k:Kn) (b:Nat),(Ez os k).GY.testBit b=(k.GY.testBit b||os.any fun l=>(A1 l).1.op==2&&(A1 l).2&&(A1 l).1.cls.toNat==b)
 | [],k,b=>by simp[Ez]
 | l::r,k,b=>by
   have:=OV r (Ct k (A1 l).1 (A1 l).2) b;rw[ft]at this;rw[Q6,←Bool.or_assoc,←this];rfl
theorem KH: ∀(os:List Fact) (k:Kn),(Ez os k).whole=(k.whole||os.any fun l=> !(A1 l).2&& !((A1 l).1.op==2))
 | [],k=>by simp[Ez]
 | l::r,k=>by
   have:=KH r (Ct k (A1 l).1 (A1 l).2);rw[Yy]at this;rw[Q6,←Bool.or_assoc,←this];rfl
def PY (m up:Nat):Bool:=(List.range 64).all fun b=> !m.testBit b||up.testBit b
theorem N9 {m up:Nat} (hm:m<2 ^ 64):PY m up=true↔ ∀b,m.testBit b=true→up.testBit b=true:=by
 simp only[PY,Em,List.mem_range,Fx,Bool.not_eq_true'];constructor
 ·intro h b hb
  have hlt:b<64:=by
   rcases Nat.lt_or_ge b 64 with h'|h'
   ·exact h'
   ·rw[Nat.testBit_lt_two_pow (Nat.lt_of_lt_of_le hm (Nat.pow_le_pow_right (by decide) h'))]at hb;cases hb
  rcases h b hlt with h'|h'
  ·rw[hb]at h';cases h'
  ·exact h'
 ·intro h b _
  cases hb:m.testBit b with
  | false=>exact .inl rfl
  | true=>exact .inr (h b hb)
theorem OR {m n:Nat}:(m&&&n==0)=true↔ ∀b,m.testBit b=true→n.testBit b=true→False:=by
 rw[D1];constructor
 ·intro h b h1 h2
  have:=congrArg (fun x=>x.testBit b) h;simp[Nat.testBit_and,h1,h2]at this
 ·intro h
  refine Nat.eq_of_testBit_eq fun b=>?_
  rw[Nat.testBit_and,Nat.zero_testBit];cases h1:m.testBit b with
  | false=>rfl
  | true=>
    cases h2:n.testBit b with
    | false=>rfl
    | true=>exact(h b h1 h2).elim
theorem RX (c b:Nat):(1|||2 ^ c).testBit b=(b==0||b==c):=by
 rw[Nat.testBit_or,Nat.testBit_two_pow,show(1:Nat)=2 ^ 0 from rfl,Nat.testBit_two_pow];rw[Lb];simp only[Fx,CX,D1];omega
def Il (n:Nat) (ls:List Fact):Prop:= ∀l∈ls,(A1 l).1.op=2→0≤(A1 l).1.cls∧(A1 l).1.cls<n
theorem O6 {m n:Nat} (h: ∀b,m.testBit b=true→b<n):m<2 ^ n:=by
 refine Nat.lt_pow_two_of_testBit _ fun i hi=>?_
 cases hb:m.testBit i with
 | false=>rfl
 | true=>have:=h i hb;omega
theorem Rl {os:List Fact} {n:Nat} (h:Il n os):(Ez os k0).CD<2 ^ n:=O6 fun b hb=>by
 rw[MO]at hb;simp only[k0,Nat.zero_testBit,Bool.false_or,JY,BZ,D1]at hb;obtain⟨l,hl,⟨h2,-⟩,rfl⟩:=hb;have:=h l hl h2;omega
theorem jR {os:List Fact} {n:Nat} (h:Il n os):(Ez os k0).GY<2 ^ n:=O6 fun b hb=>by
 rw[OV]at hb;simp only[k0,Nat.zero_testBit,Bool.false_or,JY,BZ,D1]at hb;obtain⟨l,hl,⟨h2,-⟩,rfl⟩:=hb;have:=h l hl h2;omega
theorem K0 {os:List Fact} {b:Nat}:(Ez os k0).CD.testBit b=true↔ ∃l∈os,(A1 l).1.op=2∧(A1 l).2=false∧(A1 l).1.cls.toNat=b:=by
 rw[MO];simp only[k0,Nat.zero_testBit,Bool.false_or,JY,BZ,D1,Bool.not_eq_true',and_assoc]
theorem Wi {os:List Fact} {b:Nat}:(Ez os k0).GY.testBit b=true↔ ∃l∈os,(A1 l).1.op=2∧(A1 l).2=true∧(A1 l).1.cls.toNat=b:=by
 rw[OV];simp only[k0,Nat.zero_testBit,Bool.false_or,JY,BZ,D1,and_assoc]
theorem X7 {os:List Fact} {n:Nat} (hn:n≤64) (h:Il n os):(PY (Ez os k0).CD (1|||2 ^ 1)&&((Ez os k0).GY&&&(1|||2 ^ 1)==0))=os.all fun l=>iK (A1 l):=by
 rw[Lb,BZ,N9 (Nat.lt_of_lt_of_le (Rl h) (Nat.pow_le_pow_right (by decide) hn)),OR];simp only[K0,Wi,RX,Em,iK,Fx,Bool.not_eq_true',beq_eq_false_iff_ne,D1,ne_eq];constructor
 ·rintro⟨h1,h2⟩ l hl
  by_cases ho:(A1 l).1.op=2
  ·right
   have hc:=h l hl ho;cases hb:(A1 l).2 with
   | false=>
     have:=h1 _ ⟨l,hl,ho,hb,rfl⟩;rw[decide_eq_false_iff_not];omega
   | true=>
     rw[CX];rcases Int.lt_or_le 1 (A1 l).1.cls with hlt|hle
     ·exact hlt
     ·exact(h2 _ ⟨l,hl,ho,hb,rfl⟩ (by omega)).elim
  ·exact .inl ho
 ·intro h1
  constructor
  ·rintro b ⟨l,hl,ho,hb,rfl⟩
   rcases h1 l hl with h'|h'
   ·exact absurd ho h'
   ·have hc:=h l hl ho
    rw[hb,decide_eq_false_iff_not]at h';omega
  ·rintro b ⟨l,hl,ho,hb,rfl⟩ hu
   rcases h1 l hl with h'|h'
   ·exact absurd ho h'
   ·have hc:=h l hl ho
    rw[hb,CX]at h';omega
theorem Xr (x:Fact×Bool):(!IG x)=true↔(x.2=false→x.1.op=2∧(x.1.cls=0∨x.1.cls=2))∧(x.2=true→ ¬(x.1.op=2∧(x.1.cls=0∨x.1.cls=2))):=by
 have e:(x.1.op==2&&(x.1.cls==0||x.1.cls==2))=true↔x.1.op=2∧(x.1.cls=0∨x.1.cls=2):=by
  simp only[BZ,Fx,D1]
 rw[←e,IG];generalize (x.1.op==2&&(x.1.cls==0||x.1.cls==2))=y;cases x.2<;>cases y<;>simp
theorem Xm {os:List Fact}:(!(Ez os k0).whole)=true↔ ∀l∈os,(A1 l).2=false→(A1 l).1.op=2:=by
 rw[KH,Bool.not_eq_true',←Bool.not_eq_true];simp only[k0,Bool.false_or,JY,BZ,Bool.not_eq_true',beq_eq_false_iff_ne];constructor
 ·intro h l hl hb
  rcases Classical.em ((A1 l).1.op=2)with e|e
  ·exact e
  ·exact absurd ⟨l,hl,hb,e⟩ h
 ·rintro h ⟨l,hl,hb,e⟩
  exact e (h l hl hb)
theorem VJ {os:List Fact} {n:Nat} (hn:n≤64) (h:Il n os):(!(Ez os k0).whole&&(PY (Ez os k0).CD (1|||2 ^ 2)&&((Ez os k0).GY&&&(1|||2 ^ 2)==0)))=os.all fun l=> !IG (A1 l):=by
 rw[Lb,BZ,BZ,N9 (Nat.lt_of_lt_of_le (Rl h) (Nat.pow_le_pow_right (by decide) hn)),OR,Xm,Em];simp only[K0,Wi,RX,Fx,D1,Xr];constructor
 ·rintro⟨h0,h1,h2⟩ l hl
  refine⟨fun hb=>?_,fun hb ⟨ho,hc⟩=>h2 _ ⟨l,hl,ho,hb,rfl⟩ (by omega)⟩;have ho:=h0 l hl hb;have hc:=h l hl ho;have:=h1 _ ⟨l,hl,ho,hb,rfl⟩;exact⟨ho,by omega⟩
 ·intro h1
  refine⟨fun l hl hb=>((h1 l hl).1 hb).1,?_,?_⟩
  ·rintro b ⟨l,hl,ho,hb,rfl⟩
   have:=((h1 l hl).1 hb).2;omega
  ·rintro b ⟨l,hl,ho,hb,rfl⟩ hu
   have hc:=h l hl ho;exact(h1 l hl).2 hb ⟨ho,by omega⟩
theorem L4 {no:List Int}: ∀(k:Nat) (m:Int),(RA no k m).isSome=true↔ ∃j:Nat,j<k∧m+j∉no
 | 0,m=>by simp[RA]
 | k + 1,m=>by
   rw[RA];split
   ·rename_i h
    simp only[Option.isSome_some,true_iff];refine⟨0,by omega,fun hm=>?_⟩;rw[Em]at h;have:=h _ hm;simp at this
   ·rename_i h
    rw[L4 k]
    have hm:m∈no:=by
     rcases Classical.em (m∈no)with h'|h'
     ·exact h'
     ·refine absurd (Em.2 fun x hx=>?_) h
      rw[uj];rintro rfl;exact h' hx
    constructor
    ·rintro⟨j,hj,h'⟩
     exact⟨j+1,by omega,by rw[show m+((j+1:Nat):Int)=m+1+j by omega];exact h'⟩
    ·rintro⟨j,hj,h'⟩
     cases j with
     | zero=>simp at h';exact absurd hm h'
     | succ j=>exact⟨j,by omega,by rw[show m+1+(j:Int)=m+((j+1:Nat):Int) by omega];exact h'⟩
theorem bI {low high n:Int} {no:List Int} (h0:low≤n) (h1:n∉no) (h2: ∀m,low≤m→m<n→m∈no):(No (low,high,no)).isSome=decide (n≤high):=by
 rw[Lb,No,L4,CX];constructor
 ·rintro⟨j,hj,h⟩
  rcases Int.lt_or_le (low+j) n with hlt|hle
  ·exact absurd (h2 _ (by omega) hlt) h
  ·simp only at hj;omega
 ·intro h
  refine⟨(n - low).toNat,by simp only;omega,?_⟩;rw[show low+((n - low).toNat:Int)=n by omega];exact h1
end Go.Gl
namespace Go.Gl
theorem S0 (g:List (List Int)) (k:Nat): ∀(m d:Nat),d<3+k→(Ck g (k+m)).getD d 0=(Ck g k).getD d 0
 | 0,d,_=>rfl
 | m+1,d,h=>by
   rw[show k+(m+1)=k+m+1 from rfl,Ck,←S0 g k m d h];rw[DL,dF (by rw[Er];omega),←DL]
theorem S1 (us:List Nat) (b:Nat): ∀(l:List Int) (s:Nat),(UZ us l s).testBit b=(s.testBit b||l.any fun c=>(us.getD c.toNat 0).testBit b)
 | [],s=>by simp[UZ]
 | c::r,s=>by
   have:=S1 us b r (s|||us.getD c.toNat 0);rw[Q6,←Bool.or_assoc,←Nat.testBit_or,←this];rfl
theorem aS {α:Type} (f:α→Bool) (b:Bool): ∀(l:List α),(b||l.any fun x=>b||f x)=(b||l.any f)
 | []=>rfl
 | x::r=>by
   have:=aS f b r;simp only[Q6];cases b
   ·simpa using this
   ·rfl
theorem any_congr {α:Type} {f g:α→Bool}: ∀ {l:List α},(∀x∈l,f x=g x)→l.any f=l.any g
 | [],_=>rfl
 | x::r,h=>by
   rw[Q6,Q6,h x (.head _),any_congr fun y hy=>h y (.tail _ hy)]
theorem Rf {g:List (List Int)} (ho:ordered g): ∀(k d b:Nat),k≤g.length→d<3+k→((Ck g k).getD d 0).testBit b=(b==0||JV g d b)
 | 0,d,b,_,hd=>by
   have e:(Ck g 0).getD d 0=1|||2 ^ d:=by
    rcases d with _|_|_|d
    ·rfl
    ·rfl
    ·rfl
    ·omega
   rw[e,RX,E4 ho,par,if_pos (by omega),List.any_nil,Bool.or_false];rw[Lb];simp only[Fx,D1];omega
 | k + 1,d,b,hk,hd=>by
   by_cases hlt:d<3+k
   ·rw[S0 g k 1 d hlt]
    exact Rf ho k d b (by omega) hlt
   ·obtain rfl:d=3+k:=by omega
    have e:(Ck g (k+1)).getD (3+k) 0=UZ (Ck g k) (g.getD k []) (1|||2 ^ (3+k)):=by
     rw[Ck,DL,List.getElem?_append_right (by rw[Er];omega),Er,Nat.sub_self];rfl
    have hpar:par g (3+k)=g.getD k []:=by rw[par,if_neg (by omega),show 3+k - 3=k by omega]
    rw[e,S1,RX,E4 ho,hpar]
    have hc:((g.getD k []).any fun c=>((Ck g k).getD c.toNat 0).testBit b)=(g.getD k []).any fun p=>(b==0)||JV g p.toNat b:=any_congr fun p hp=>by
     have:=ho (3+k) p (by rw[hpar];exact hp);exact Rf ho k p.toNat b (by omega) (by omega)
    rw[hc];have e2:(b==3+k)=(3+k==b):=by rw[Lb];simp only[D1];omega
    rw[e2,Bool.or_assoc,Bool.or_left_comm,aS,Bool.or_left_comm]
theorem N7 {g:List (List Int)} (ho:ordered g) {d b:Nat} (hd:d<3+g.length):((CE g).getD d 0).testBit b=(b==0||JV g d b):=Rf ho g.length d b (JU _) hd
theorem Ui {g:List (List Int)} (ho:ordered g): ∀(d b:Nat),3≤d→JV g d b=true→3≤b:=by
 intro d
 induction d using Nat.strongRecOn with
 | _ d ih=>
   intro b h3 h;rw[E4 ho]at h;simp only[Fx,D1,JY]at h;rcases h with rfl|⟨p,hp,h⟩
   ·exact h3
   ·have:=ho d p hp
    exact ih p.toNat (by omega) b (by omega) h
def Dg (us:List Nat):Nat→Nat→Nat
 | 0,m=>m
 | k+1,m=>if(Dg us k m).testBit (3+k)then Dg us k m|||us.getD (3+k) 0 else Dg us k m
theorem PL {g : List (List Int)} (ho:ordered g) (m:Nat): ∀(k b:Nat),k≤g.length→((Dg (CE g) k m).testBit b=true↔m.testBit b=true∨ ∃d,3≤d∧d<3+k∧m.testBit d=true∧(b=0∨JV g d b=true))
 | 0,b,_=>by
   rw[Dg];exact⟨.inl,fun h=>h.elim id fun⟨d,h1,h2,_⟩=>by omega⟩
 | k + 1, b, hk=>by
   have ih:=PL ho m k;rw[Dg];split
   ·rename_i hc
    rw[Nat.testBit_or,Fx,ih b (by omega),N7 ho (by omega),Fx,D1];rw[ih _ (by omega)]at hc;constructor
    ·rintro((h|⟨d,h1,h2,h3,h4⟩)|h)
     ·exact .inl h
     ·exact .inr ⟨d,h1,by omega,h3,h4⟩
     ·rcases hc with hc|⟨d,h1,h2,h3,h4⟩
      ·exact .inr ⟨3+k,by omega,by omega,hc,h⟩
      ·refine .inr ⟨d,h1,by omega,h3,?_⟩
       rcases h with h|h
       ·exact .inl h
       ·rcases h4 with h4|h4
        ·omega
        ·exact .inr (L2 ho _ _ _ h4 h)
    ·rintro(h|⟨d,h1,h2,h3,h4⟩)
     ·exact .inl (.inl h)
     ·by_cases e:d=3+k
      ·subst e;exact .inr h4
      ·exact .inl (.inr ⟨d,h1,by omega,h3,h4⟩)
   ·rename_i hc
    rw[ih b (by omega)];constructor
    ·rintro(h|⟨d,h1,h2,h3,h4⟩)
     ·exact .inl h
     ·exact .inr ⟨d,h1,by omega,h3,h4⟩
    ·rintro(h|⟨d,h1,h2,h3,h4⟩)
     ·exact .inl h
     ·by_cases e:d=3+k
      ·subst e;exact absurd ((ih _ (by omega)).2 (.inl h3)) hc
      ·exact .inr ⟨d,h1,by omega,h3,h4⟩
theorem Jk: ∀(l:List Int) (bs:List Bool),(∀q∈l,0≤q∧q.toNat<bs.length)→ ∀b:Nat,(l.foldl (fun b q=>b.set q.toNat true) bs).getD b false=(bs.getD b false||l.contains (b:Int))
 | [],bs,_,b=>by simp
 | q ::r,bs,h,b=>by
   have hq:=h q (.head _);rw[List.foldl_cons,Jk r _ (fun x hx=>by rw[List.length_set];exact h x (.tail _ hx)),EV hq.2,List.contains_cons];split
   ·rename_i e
    subst e;have:((q.toNat:Int)==q)=true:=by rw[D1];omega
    rw[this];simp
   ·rename_i e
    have:((b:Int)==q)=false:=by rw[beq_eq_false_iff_ne];omega
    rw[this,Bool.false_or]
theorem G3 {g:List (List Int)} (ho:ordered g) {c:Nat} {bs:List Bool} (hc:c≤bs.length) (b:Nat):(Hg g c bs).getD b false=(bs.getD b false||(bs.getD c false&&(par g c).contains (b:Int))):=by
 rw[Hg];split
 ·rename_i h
  rw[Jk _ _ (fun q hq=>by have:=ho c q hq;omega),h,Fm]
 ·rename_i h
  have:bs.getD c false=false:=by simpa using h
  rw[this,Bool.false_and,Bool.or_false]
theorem F5 {g:List (List Int)} (ho:ordered g) {n:Nat} {S:List Bool} (hl:S.length=n): ∀(k b:Nat),(B8 g n k S).getD b false=true→ ∃d,S.getD d false=true∧JV g d b=true
 | 0,b,h=>⟨b,h,Fg ho b⟩
 | k + 1,b,h=>by
   rw[B8,G3 ho (by rw[Ek];omega),Fx,BZ]at h;rcases h with h|⟨h1,h2⟩
   ·exact F5 ho hl k b h
   ·obtain⟨d,h3,h4⟩:=F5 ho hl k _ h1
    refine⟨d,h3,L2 ho _ _ _ h4 ?_⟩;rw[E4 ho,Fx,JY];rw[List.contains_iff_mem]at h2;exact .inr ⟨_,h2,by rw[Ih];exact Fg ho b⟩
theorem UL {g:List (List Int)} (ho:ordered g) {n:Nat} {S:List Bool} (hl:S.length=n) (k b:Nat) (h:(B8 g n k S).getD b false=true):(B8 g n (k+1) S).getD b false=true:=by
 rw[B8,G3 ho (by rw[Ek];omega),h];rfl
theorem I7 {g:List (List Int)} (ho:ordered g) {n:Nat} {S:List Bool} (hl:S.length=n): ∀(k b:Nat),S.getD b false=true→(B8 g n k S).getD b false=true
 | 0,_,h=>h
 | k+1,b,h=>UL ho hl k b (I7 ho hl k b h)
theorem G4 {g:List (List Int)} (ho:ordered g) {n:Nat} {S:List Bool} (hl:S.length=n): ∀(k c:Nat),k≤n→n - k≤c→(B8 g n k S).getD c false=true→ ∀q∈par g c,(B8 g n k S).getD q.toNat false=true
 | 0,c,_,hc,h,q,hq=>by
   rw[B8,DL,List.getElem?_eq_none (by omega)]at h;cases h
 | k + 1,c,hk,hc,h,q,hq=>by
   rw[B8,G3 ho (by rw[Ek];omega)]at h ⊢;have hoc:=ho c q hq;rw[Fx,BZ]at h
   have hbase:(B8 g n k S).getD c false=true:=by
    rcases h with h|⟨-,h2⟩
    ·exact h
    ·rw[List.contains_iff_mem]at h2
     have:=ho _ _ h2;omega
   by_cases e:c=n - 1 - k
   ·subst e
    rw[hbase,Fm,Fx,List.contains_iff_mem];exact .inr (by rw[show((q.toNat:Nat):Int)=q by omega];exact hq)
   ·rw[G4 ho hl k c (by omega) (by omega) hbase q hq];rfl
theorem Vt {g:List (List Int)} (ho:ordered g) {S:List Bool} (hl:S.length=3+g.length) (b:Nat):(B8 g (3+g.length) g.length S).getD b false=true↔ ∃d,S.getD d false=true∧JV g d b=true:=by
 refine⟨F5 ho hl _ b,?_⟩
 have key: ∀d,(B8 g (3+g.length) g.length S).getD d false=true→JV g d b=true→(B8 g (3+g.length) g.length S).getD b false=true:=by
  intro d
  induction d using Nat.strongRecOn with
  | _ d ih=>
    intro h1 h2;rw[E4 ho,Fx,D1,JY]at h2;rcases h2 with rfl|⟨p,hp,h2⟩
    ·exact h1
    ·have hop:=ho d p hp
     refine ih p.toNat (by omega) (G4 ho hl g.length d (by omega) ?_ h1 p hp) h2;omega
 rintro⟨d,h1,h2⟩;exact key d (I7 ho hl _ d h1) h2
def RB (n:Nat) (t:BB) (u:Nat×Nat):Prop:=
 t.1.length=n∧t.2.length=n∧(∀b,t.1.getD b false=u.1.testBit b)∧(∀b,b≠1→b≠2→t.2.getD b false=u.2.testBit b)∧u.1.testBit 1=false∧u.1.testBit 2=false
theorem GM (m c b:Nat):(m|||2 ^ c).testBit b=(m.testBit b||b==c):=by
 rw[Nat.testBit_or,Nat.testBit_two_pow];congr 1;rw[Lb];simp only[CX,D1];omega
theorem NG {l:List Bool} {m c:Nat} (hc:c<l.length) {b:Nat} (h:l.getD b false=m.testBit b):(l.set c true).getD b false=(m|||2 ^ c).testBit b:=by
 rw[EV hc,GM,←h];split
 ·rename_i e;subst e;simp
 ·rename_i e
  have:(b==c)=false:=by simpa using e
  rw[this,Bool.or_false]
def RK (x:Fact×Bool):Bool:= !x.2&&(!(x.1.op==2)||x.1.cls==1||x.1.cls==2)
theorem Xq {n:Nat} {x:Fact×Bool} {t:BB} {k:Kn} (h:RB n t (k.CD,k.GY)) (hc:x.1.op=2→0≤x.1.cls∧x.1.cls<n) :
 (RK x=true→GC x t=none)∧(RK x=false→ ∃t',GC x t=some t'∧RB n t' ((Ct k x.1 x.2).CD,(Ct k x.1 x.2).GY)):=by
 obtain⟨f,c⟩:=x;simp only at hc;obtain⟨h1,h2,h3,h4,h5,h6⟩:=h;unfold RK GC Ct;simp only;by_cases ho:f.op=2
 ·have hc':=hc ho
  by_cases h12:f.cls=1∨f.cls=2
  ·rw[if_pos (.inr h12),if_pos ho]
   cases c with
   | true=>
     refine⟨fun h=>(by cases h),fun _=>⟨t,rfl,h1,h2,h3,fun b hb1 hb2=>?_,h5,h6⟩⟩;rw[if_pos rfl];show _=(k.GY|||2 ^ f.cls.toNat).testBit b;rw[GM,h4 b hb1 hb2];have:(b==f.cls.toNat)=false:=by rw[beq_eq_false_iff_ne];omega
     rw[this,Bool.or_false]
   | false=>
     refine⟨fun _=>rfl,fun h=>?_⟩;exfalso;rcases h12 with e|e<;>simp[e]at h
  ·have hn: ¬(f.op≠2∨f.cls=1∨f.cls=2):=by omega
   rw[if_neg hn,if_pos ho]
   have hb:(!c&&(!(f.op==2)||f.cls==1||f.cls==2))=false:=by
    have e1:(f.op==2)=true:=by simpa using ho
    have e2:(f.cls==1)=false:=by rw[beq_eq_false_iff_ne];omega
    have e3:(f.cls==2)=false:=by rw[beq_eq_false_iff_ne];omega
    rw[e1,e2,e3];simp
   rw[hb];refine⟨fun h=>(by cases h),fun _=>?_⟩;cases c with
   | true=>
     refine⟨_,rfl,h1,by simpa using h2,h3,fun b hb1 hb2=>?_,h5,h6⟩;exact NG (by omega) (h4 b hb1 hb2)
   | false=>
     refine⟨_,rfl,by simpa using h1,h2,fun b=>?_,h4,?_,?_⟩
     ·exact NG (by omega) (h3 b)
     ·show(k.CD|||2 ^ f.cls.toNat).testBit 1=false
      rw[GM,h5];have:(1==f.cls.toNat)=false:=by rw[beq_eq_false_iff_ne];omega
      rw[this];rfl
     ·show(k.CD|||2 ^ f.cls.toNat).testBit 2=false
      rw[GM,h6];have:(2==f.cls.toNat)=false:=by rw[beq_eq_false_iff_ne];omega
      rw[this];rfl
 ·rw[if_pos (.inl ho),if_neg ho]
  have e1:(f.op==2)=false:=by simpa using ho
  cases c with
  | true=>
    refine⟨fun h=>(by cases h),fun _=>⟨t,rfl,?_⟩⟩;split<;>exact⟨h1,h2,h3,h4,h5,h6⟩
  | false=>exact⟨fun _=>rfl,fun h=>by rw[e1]at h;cases h⟩
theorem Qj {n:Nat}: ∀(os:List Fact) {t:BB} {k:Kn},RB n t (k.CD,k.GY)→Il n os→
 (os.any (fun l=>RK (A1 l))=true→ED os t=none)∧(os.any (fun l=>RK (A1 l))=false→ ∃t',ED os t=some t'∧RB n t' ((Ez os k).CD,(Ez os k).GY))
 | [],t,k,h,_=>⟨fun h=>(by cases h),fun _=>⟨t,rfl,h⟩⟩
 | l ::r,t,k,h,hc=>by
   obtain⟨s1,s2⟩:=Xq h (hc l (.head _));rw[Q6,ED];cases hb:RK (A1 l)with
   | true=>exact⟨fun _=>by rw[s1 hb];rfl,fun h=>(by cases h)⟩
   | false=>
     obtain⟨t',h1,h2⟩:=s2 hb;rw[h1,Bool.false_or,Option.bind_some];exact Qj r h2 fun x hx=>hc x (.tail _ hx)
theorem ct {os:List Fact} {n:Nat} (hc:Il n os):(os.any fun l=>RK (A1 l))=((Ez os k0).whole||(Ez os k0).CD.testBit 1||(Ez os k0).CD.testBit 2):=by
 rw[Lb,Fx,Fx,K0,K0,KH];simp only[JY,RK,BZ,Fx,Bool.not_eq_true',D1,beq_eq_false_iff_ne,k0,Bool.false_or];constructor
 ·rintro⟨l,hl,hb,(h|h)|h⟩
  ·exact .inl (.inl ⟨l,hl,hb,h⟩)
  ·by_cases ho:(A1 l).1.op=2
   ·exact .inl (.inr ⟨l,hl,ho,hb,by rw[h];rfl⟩)
   ·exact .inl (.inl ⟨l,hl,hb,ho⟩)
  ·by_cases ho:(A1 l).1.op=2
   ·exact .inr ⟨l,hl,ho,hb,by rw[h];rfl⟩
   ·exact .inl (.inl ⟨l,hl,hb,ho⟩)
 ·rintro((⟨l,hl,hb,h⟩|⟨l,hl,ho,hb,h⟩)|⟨l,hl,ho,hb,h⟩)
  ·exact⟨l,hl,hb,.inl (.inl h)⟩
  ·have:=hc l hl ho
   exact⟨l,hl,hb,.inl (.inr (by omega))⟩
  ·have:=hc l hl ho
   exact⟨l,hl,hb,.inr (by omega)⟩
def V8 (w:AK) (BA can:Int→Bool) (s:Int) (u:Nat×Nat):Option (Nat×Nat):=
 if BA s&& !can s then none else some (if BA s then u.1|||2 ^ (CV w s).toNat else u.1,if can s then u.2 else u.2|||2 ^ (CV w s).toNat)
def IL (w:AK) (BA can:Int→Bool):List Int→Nat×Nat→Option (Nat×Nat)
 | [],u=>some u
 | s::r,u=>(V8 w BA can s u).bind (IL w BA can r)
theorem W8 {w:AK} {ls:List Fact} {a:Int} {p:List Int} {can BA:Int→Bool} (hn: ∀s,BA s= !ES ls a (p++[s])) {n:Nat} (how: ∀s:Int,0≤s→s<w.owner.length→3≤CV w s∧CV w s<n) :
 ∀(sl:List Int) {t:BB} {u:Nat×Nat},(∀s∈sl,0≤s∧s<w.owner.length)→RB n t u→
 (Du w ls a p can sl t=none∧IL w BA can sl u=none)∨ ∃t' u',Du w ls a p can sl t=some t'∧IL w BA can sl u=some u'∧RB n t' u'
 | [],t,u,_,h=> .inr ⟨t,u,rfl,rfl,h⟩
 | s ::r,t,u,hsl,h=>by
   have hs:=hsl s (.head _);have ho:=how s hs.1 hs.2;rw[Du,IL,IF,V8,hn];obtain⟨h1,h2,h3,h4,h5,h6⟩:=h;split
   ·exact .inl ⟨rfl,rfl⟩
   ·rw[Option.bind_some,Option.bind_some]
    refine W8 hn how r (fun x hx=>hsl x (.tail _ hx)) ?_;have hb: ∀i,i<3→(i==(CV w s).toNat)=false:=fun i hi=>by rw[beq_eq_false_iff_ne];omega
    cases ES ls a (p++[s])<;>cases can s<;>refine⟨by simpa using h1,by simpa using h2,fun b=>?_,fun b hb1 hb2=>?_,?_,?_⟩
    all_goals simp only[Bool.not_false,Bool.not_true,LY,if_true,if_false]
    all_goals first
     | exact h3 b
     | exact h4 b hb1 hb2
     | exact h5
     | exact h6
     | exact NG (by omega) (h3 b)
     | exact NG (by omega) (h4 b hb1 hb2)
     | (rw[GM,h5,hb 1 (by omega)];rfl)
     | (rw[GM,h6,hb 2 (by omega)];rfl)
def HB (m:Nat):Nat:=m - m % 2
theorem Td (m b:Nat):(HB m).testBit b=(m.testBit b&& !(b==0)):=by
 cases b with
 | zero=>
   simp[HB,Nat.testBit_zero];omega
 | succ b=>
   rw[Nat.testBit_succ,Nat.testBit_succ,HB,show(m - m % 2) / 2=m / 2 by omega];simp
theorem kA {w:AK} (ho:ordered w.parents) {t:BB} {u:Nat×Nat} (h:RB (3+w.parents.length) t u) :
 (Sc w t).isSome=(!u.2.testBit 0&&(HB (Dg (CE w.parents) w.parents.length u.1)&&&u.2==0)):=by
 obtain⟨h1,h2,h3,h4,h5,h6⟩:=h;rw[Sc,h4 0 (by decide) (by decide)];cases h0:u.2.testBit 0 with
 | true=>rfl
 | false =>
   rw[if_neg (by decide),Bool.not_false,Fm];have hl:(t.1.set 0 false).length=3+w.parents.length:=by simpa using h1
   have G:=Vt ho hl;have F:=PL ho u.1 w.parents.length
   have hS: ∀d,(t.1.set 0 false).getD d false=true↔d≠0∧u.1.testBit d=true:=fun d=>by
    rw[EV (by omega)];split
    ·rename_i e;subst e;simp
    ·rename_i e;rw[h3];exact⟨fun h=>⟨e,h⟩,fun h=>h.2⟩
   have hlt: ∀b,u.1.testBit b=true→b<3+w.parents.length:=fun b hb=>by
    rw[←h3]at hb;rcases Nat.lt_or_ge b (3+w.parents.length)with h'|h'
    ·exact h'
    ·rw[DL,List.getElem?_eq_none (by omega)]at hb;cases hb
   have h3b: ∀d,d≠0→u.1.testBit d=true→3≤d:=fun d hd hb=>by
    rcases d with _|_|_|d
    ·exact absurd rfl hd
    ·rw[h5]at hb;cases hb
    ·rw[h6]at hb;cases hb
    ·omega
   have hM: ∀b,(HB (Dg (CE w.parents) w.parents.length u.1)).testBit b=true↔(B8 w.parents (3+w.parents.length) w.parents.length (t.1.set 0 false)).getD b false=true:=fun b=>by
    rw[Td,BZ,F b (JU _),G,Bool.not_eq_true',beq_eq_false_iff_ne];constructor
    ·rintro⟨h|⟨d,q1,q2,q3,q4⟩,hb⟩
     ·exact⟨b,(hS b).2 ⟨hb,h⟩,Fg ho b⟩
     ·rcases q4 with e|q4
      ·exact absurd e hb
      ·exact⟨d,(hS d).2 ⟨by omega,q3⟩,q4⟩
    ·rintro⟨d,hd,hu⟩
     obtain⟨hd0,hdu⟩:=(hS d).1 hd;have hd3:=h3b d hd0 hdu;have:=Ui ho d b hd3 hu;exact⟨.inr ⟨d,hd3,hlt d hdu,hdu,.inr hu⟩,by omega⟩
   have hany:((List.range (3+w.parents.length)).any fun c=>(B8 w.parents (3+w.parents.length) w.parents.length (t.1.set 0 false)).getD c false&&t.2.getD c false)= !(HB (Dg (CE w.parents) w.parents.length u.1)&&&u.2==0):=by
    rw[Lb,Bool.not_eq_true',←Bool.not_eq_true,OR,JY];constructor
    ·rintro⟨c,hc,hx⟩ hall
     rw[BZ]at hx;have hm:=(hM c).2 hx.1;obtain⟨d,hd,hu⟩:=(G c).1 hx.1;obtain⟨hd0,hdu⟩:=(hS d).1 hd;have:=Ui ho d c (h3b d hd0 hdu) hu;exact hall c hm (by rw[←h4 c (by omega) (by omega)];exact hx.2)
    ·intro hne
     rcases Classical.em (∃b,(HB (Dg (CE w.parents) w.parents.length u.1)).testBit b=true∧u.2.testBit b=true)with⟨b,hb1,hb2⟩|hno
     ·have hm:=(hM b).1 hb1
      obtain⟨d,hd,hu⟩:=(G b).1 hm;obtain⟨hd0,hdu⟩:=(hS d).1 hd;have:=Ui ho d b (h3b d hd0 hdu) hu;have:=Zn ho d b hu;have:=hlt d hdu;exact⟨b,List.mem_range.2 (by omega),by rw[hm,h4 b (by omega) (by omega),hb2];rfl⟩
     ·exact absurd (fun b h1 h2=>hno ⟨b,h1,h2⟩) hne
   rw[hany];cases(HB (Dg (CE w.parents) w.parents.length u.1)&&&u.2==0)<;>rfl
def Mw (w:AK) (k:Kn) (BA can:Int→Bool):Nat×Bool:=
 if k.whole||k.CD.testBit 1||k.CD.testBit 2||k.GY.testBit 0 then(0,false)else
 match IL w BA can k.AT (k.CD,k.GY)with
 | none=>(0,false)
 | some u=>(HB (Dg (CE w.parents) w.parents.length u.1),HB (Dg (CE w.parents) w.parents.length u.1)&&&u.2==0)
theorem PG {w:AK} {BA can:Int→Bool} (how: ∀s:Int,0≤s→s<w.owner.length→3≤CV w s): ∀(sl:List Int) {u u':Nat×Nat},(∀s∈sl,0≤s∧s<w.owner.length)→IL w BA can sl u=some u'→u'.2.testBit 0=u.2.testBit 0
 | [],u,u',_,h=>by cases h;rfl
 | s ::r,u,u',hsl,h=>by
   have hs:=hsl s (.head _);have ho:=how s hs.1 hs.2;rw[IL,V8]at h;split at h
   ·cases h
   ·rw[Option.bind_some]at h
    rw[PG how r (fun x hx=>hsl x (.tail _ hx)) h];simp only;split
    ·rfl
    ·rw[GM]
     have:(0==(CV w s).toNat)=false:=by rw[beq_eq_false_iff_ne];omega
     rw[this,Bool.or_false]
theorem gW {w:AK} {ls:List Fact} {a:Int} {p:List Int} {can BA:Int→Bool} (ho:ordered w.parents) (how: ∀s:Int,0≤s→s<w.owner.length→3≤CV w s∧CV w s<3+w.parents.length) (hc:Il (3+w.parents.length) ls) (hp:Hn w.owner.length ls) (hn: ∀s,BA s= !ES ls a (p++[s])) :
 (Mw w (kn ls a p) BA can).2=(Jo w ls a p can).isSome:=by
 have hcore:=NO ls a p;have hsl:=K3 hp a p;generalize kn ls a p=k at *;have hc2:Il (3+w.parents.length) (ls.filter (Gp a p)):=fun l hl=>hc l (JZ.1 hl).1
 simp only[FJ,Prod.mk.injEq]at hcore;obtain⟨-,-,-,c4,c5,c6⟩:=hcore;rw[Mw,Jo,c4,c5,c6,←ct hc2,hsl]
 have hR0:RB (3+w.parents.length) (tO w) (k0.CD,k0.GY):=by
  refine⟨by simp[tO],by simp[tO],fun b=>?_,fun b _ _=>?_,rfl,rfl⟩<;>
  ·simp only[tO,k0,Nat.zero_testBit,DL,List.getElem?_replicate]
   split<;>rfl
 obtain⟨f1,f2⟩:=Qj _ hR0 hc2;cases hbad:(ls.filter (Gp a p)).any fun l=>RK (A1 l)with
 | true=>rw[f1 hbad];rfl
 | false=>
   obtain⟨t,ht,G⟩:=f2 hbad;rw[ht,Option.bind_some,Bool.false_or];have hin: ∀s∈Bt w.owner.length ls a p,0≤s∧s<(w.owner.length:Int):=fun s hs=>JM hs
   rcases W8 (can:=can) hn (fun s h0 h1=>by have:=how s h0 h1;omega) (Bt w.owner.length ls a p) hin G with⟨e1,e2⟩|⟨t',u',e1,e2,hR'⟩
   ·rw[e1,e2]
    split<;>rfl
   ·rw[e1,e2,Option.bind_some,kA ho hR']
    have:=PG (fun s h0 h1=>(how s h0 h1).1) _ hin e2;rw[this];simp only;cases((Ez (ls.filter (Gp a p)) k0).GY.testBit 0)<;>rfl
end Go.Gl
namespace Go.Gl
abbrev Eo (a:Int) (p:List Int):V:= .a [eI a,eI (p.length:Int),eI (p.getD 0 0),eI (p.getD 1 0)]
structure C9 where
 a:Int
 p:List Int
 b:Nat
 vn:V
 vs:V
 k:Kn
abbrev C9.is (e:C9) (a:Int) (p:List Int):Bool:=e.a==a&&e.p==p
abbrev vT (b:Nat) (vn vs:V) (k:Kn):At:= .box b [eI k.low,eI k.high,vn,eU k.CD,eU k.GY,.b k.whole,.b k.BA,vs]
abbrev ij (b:Nat) (vn vs:V) (k:Kn):List At:=[vT b vn vs k,.own vn 1 (iL k.no),.own vs 1 (iL k.AT)]
abbrev St (e:C9):List At:=ij e.b e.vn e.vs e.k
def UQ (es:List C9):List (V×V):=es.map fun e=>(Eo e.a e.p,.p e.b 0)
def CI (L:Nat) (es:List C9):List At:= .map L (UQ es)::es.flatMap St
def HG (L:Nat) (es pre post:List C9):List At:= .map L (UQ es)::(pre++post).flatMap St
theorem Jz {e:C9} {a:Int} {p:List Int}:e.is a p=true↔e.a=a∧e.p=p:=by simp[C9.is]
theorem NP {e:C9} {a:Int} {p:List Int}:e.is a p=false↔ ¬(e.a=a∧e.p=p):=by rw[←Jz,Bool.not_eq_true]
theorem RT {a a':Int} {p p':List Int} (h:p.length≤2) (h':p'.length≤2):ER (Eo a p) (Eo a' p')=(a==a'&&p==p'):=by
 have e:ER (Eo a p) (Eo a' p')=(a==a'&&((p.length:Int)==p'.length&&(p.getD 0 0==p'.getD 0 0&&(p.getD 1 0==p'.getD 1 0)))):=by
  simp[ER,CO,Eo]
 rw[e];congr 1
 match p,h,p',h' with
 | [],_,[],_=>rfl
 | [],_,[_],_=>simp
 | [],_,[_,_],_=>simp<;>omega
 | [_],_,[],_=>simp
 | [x],_,[y],_=>simp
 | [_],_,[_,_],_=>simp<;>omega
 | [_,_],_,[],_=>simp<;>omega
 | [_,_],_,[_],_=>simp<;>omega
 | [x,y],_,[z,u],_=>simp
theorem OH (es:List C9): ∀kv∈UQ es,Bv (.a [.i64,.i64,.i64,.i64]) kv.1=true:=by
 intro kv h;obtain⟨e,_,rfl⟩:=Lc.1 h;rfl
theorem TQ {a:Int} {p:List Int} (hp:p.length≤2): ∀ {es:List C9},(∀e∈es,e.p.length≤2)→(∀e∈es,e.is a p=false)→DH (Eo a p) (UQ es)=none
 | [],_,_=>rfl
 | e ::r,hl,h=>by
   have he:=h e (.head _);rw[UQ,FC,DH,RT hp (hl e (.head _))]
   have:(a==e.a&&p==e.p)=false:=by
    rw[←he,C9.is,Lb];simp only[BZ,D1];exact⟨fun⟨h1,h2⟩=>⟨h1.symm,h2.symm⟩,fun⟨h1,h2⟩=>⟨h1.symm,h2.symm⟩⟩
   rw[this,cond_false];exact TQ hp (fun x hx=>hl x (.tail _ hx)) (fun x hx=>h x (.tail _ hx))
theorem Zy {a:Int} {p:List Int} (hp:p.length≤2) (b:Nat) (vn vs:V) (k:Kn): ∀ {es:List C9},(∀e∈es,e.p.length≤2)→(∀e∈es,e.is a p=false)→EO (Eo a p) (.p b 0) (UQ es)=UQ (es++[⟨a,p,b,vn,vs,k⟩])
 | [],_,_=>rfl
 | e ::r,hl,h=>by
   have he:=h e (.head _);have ih:=Zy hp b vn vs k (fun x hx=>hl x (.tail _ hx)) (fun x hx=>h x (.tail _ hx));simp only[UQ]at ih;rw[UQ,FC,EO,RT hp (hl e (.head _))]
   have:(a==e.a&&p==e.p)=false:=by
    rw[←he,C9.is,Lb];simp only[BZ,D1];exact⟨fun⟨h1,h2⟩=>⟨h1.symm,h2.symm⟩,fun⟨h1,h2⟩=>⟨h1.symm,h2.symm⟩⟩
   rw[this,cond_false,ih];rfl
theorem TP {a:Int} {p:List Int} (hp:p.length≤2) {e:C9} (he:e.is a p=true) {post:List C9}: ∀ {pre:List C9},(∀x∈pre++e::post,x.p.length≤2)→(∀x∈pre,x.is a p=false)→DH (Eo a p) (UQ (pre++e::post))=some (.p e.b 0)
 | [],hl,_=>by
   rw[List.nil_append,UQ,FC,DH,RT hp (hl e (.head _))];obtain⟨h1,h2⟩:=Jz.1 he;rw[h1,h2];simp
 | x ::r,hl,h=>by
   have hx:=h x (.head _);rw[List.cons_append,UQ,FC,DH,RT hp (hl x (.head _))]
   have:(a==x.a&&p==x.p)=false:=by
    rw[←hx,C9.is,Lb];simp only[BZ,D1];exact⟨fun⟨h1,h2⟩=>⟨h1.symm,h2.symm⟩,fun⟨h1,h2⟩=>⟨h1.symm,h2.symm⟩⟩
   rw[this,cond_false];exact TP hp he (fun y hy=>hl y (.tail _ hy)) (fun y hy=>h y (.tail _ hy))
theorem gR (a:Int) (p:List Int): ∀(es:List C9),(∀e∈es,e.is a p=false)∨ ∃pre e post,es=pre++e::post∧e.is a p=true∧ ∀x∈pre,x.is a p=false
 | []=> .inl fun _ h=>by cases h
 | e ::r=>by
   cases h:e.is a p with
   | true=>exact .inr ⟨[],e,r,rfl,h,fun _ h=>by cases h⟩
   | false=>
     rcases gR a p r with h1|⟨pre,x,post,rfl,h1,h2⟩
     ·exact .inl fun x hx=>by
       rcases GB.1 hx with rfl|hx
       ·exact h
       ·exact h1 x hx
     ·exact .inr ⟨e::pre,x,post,rfl,h1,fun y hy=>by
       rcases GB.1 hy with rfl|hy
       ·exact h
       ·exact h2 y hy⟩
theorem TV (L:Nat) (pre post:List C9) (e:C9):(CI L (pre++e::post)).Perm (St e++HG L (pre++e::post) pre post):=by
 unfold CI HG;rw[List.flatMap_append,List.flatMap_cons,List.flatMap_append];refine List.Perm.trans ?_ (List.perm_middle.symm);refine List.Perm.cons _ ?_;rw[←SS,←SS];exact List.Perm.append_right _ Pq
theorem VP {pre post:List C9} {e e':C9} (h1:e'.a=e.a) (h2:e'.p=e.p) (h3:e'.b=e.b):UQ (pre++e'::post)=UQ (pre++e::post):=by
 simp only[UQ,SN,FC,h1,h2,h3]
theorem R8 {L:Nat} {pre post:List C9} {e e':C9} (h1:e'.a=e.a) (h2:e'.p=e.p) (h3:e'.b=e.b):HG L (pre++e'::post) pre post=HG L (pre++e::post) pre post:=by
 rw[HG,HG,VP h1 h2 h3]
structure D4 (kf:Int→List Int→Kn) (es:List C9):Prop where
 val: ∀e∈es,e.k=kf e.a e.p
 Y9: ∀a p,(∀e∈es,e.is a p=false)→kf a p=k0
 one:es.Pairwise fun e e'=>e.is e'.a e'.p=false
 len: ∀e∈es,e.p.length≤2
def P6 (es:List C9):Prop:= ∀e∈es,∀s∈e.k.AT,∃e'∈es,e'.is e.a (e.p++[s])=true
theorem D4.congr {kf kf':Int→List Int→Kn} {es:List C9} (h:D4 kf es) (e: ∀a p,kf a p=kf' a p):D4 kf' es:=
 ⟨fun x hx=>(h.val x hx).trans (e _ _),fun a p hp=>(e a p).symm.trans (h.Y9 a p hp),h.one,h.len⟩
theorem D4.add {kf:Int→List Int→Kn} {es:List C9} (h:D4 kf es) {a:Int} {p:List Int} (hp:p.length≤2) (hn: ∀e∈es,e.is a p=false) (b:Nat) (vn vs:V):D4 kf (es++[⟨a,p,b,vn,vs,k0⟩]):=by
 refine⟨fun x hx=>?_,fun a' p' h'=>h.Y9 a' p' fun x hx=>h' x (PU _ hx),?_,fun x hx=>?_⟩
 ·rcases Fk.1 hx with hx|hx
  ·exact h.val x hx
  ·rw[KN.1 hx];exact(h.Y9 a p hn).symm
 ·rw[List.pairwise_append]
  exact⟨h.one,List.pairwise_singleton _ _,fun x hx y hy=>by rw[KN.1 hy];exact hn x hx⟩
 ·rcases Fk.1 hx with hx|hx
  ·exact h.len x hx
  ·rw[KN.1 hx];exact hp
theorem P6.add {es:List C9} (h:P6 es) {a:Int} {p:List Int} (b:Nat) (vn vs:V):P6 (es++[⟨a,p,b,vn,vs,k0⟩]):=by
 intro e he s hs;rcases Fk.1 he with he|he
 ·obtain⟨e',h1,h2⟩:=h e he s hs
  exact⟨e',PU _ h1,h2⟩
 ·rw[KN.1 he]at hs
  cases hs
def SX (kf:Int→List Int→Kn) (a:Int) (p:List Int) (k:Kn):Int→List Int→Kn:=fun a' p'=>if a'=a∧p'=p then k else kf a' p'
theorem D4.change {kf:Int→List Int→Kn} {pre post:List C9} {e:C9} (h:D4 kf (pre++e::post)) (b:Nat) (vn vs:V) (k:Kn):D4 (SX kf e.a e.p k) (pre++⟨e.a,e.p,b,vn,vs,k⟩::post):=by
 have h1:=h.one;rw[List.pairwise_append,List.pairwise_cons]at h1;obtain⟨o1,⟨o2,o3⟩,o4⟩:=h1;refine⟨fun x hx=>?_,fun a p hp=>?_,?_,fun x hx=>?_⟩
 ·rw [SX]
  rcases Fk.1 hx with hx|hx
  ·rw[if_neg]
   ·exact h.val x (PU _ hx)
   ·have:=o4 x hx e (.head _)
    rw[NP]at this;exact this
  ·rcases GB.1 hx with rfl|hx
   ·rw[if_pos ⟨rfl,rfl⟩]
   ·rw[if_neg]
    ·exact h.val x (PX _ (.tail _ hx))
    ·have:=o2 x hx
     rw[NP]at this;exact fun⟨q1,q2⟩=>this ⟨q1.symm,q2.symm⟩
 ·have he:=NP.1 (hp _ (PX _ (.head _)))
  rw[SX,if_neg (fun⟨q1,q2⟩=>he ⟨q1.symm,q2.symm⟩)];refine h.Y9 a p fun x hx=>?_
  rcases Fk.1 hx with hx|hx
  ·exact hp x (PU _ hx)
  ·rcases GB.1 hx with rfl|hx
   ·exact NP.2 he
   ·exact hp x (PX _ (.tail _ hx))
 ·rw[List.pairwise_append,List.pairwise_cons]
  refine⟨o1,⟨o2,o3⟩,fun x hx y hy=>?_⟩;rcases GB.1 hy with rfl|hy
  ·exact o4 x hx e (.head _)
  ·exact o4 x hx y (.tail _ hy)
 ·rcases Fk.1 hx with hx|hx
  ·exact h.len x (PU _ hx)
  ·rcases GB.1 hx with rfl|hx
   ·exact h.len e (PX _ (.head _))
   ·exact h.len x (PX _ (.tail _ hx))
theorem P6.change {pre post:List C9} {e:C9} (h:P6 (pre++e::post)) (b:Nat) (vn vs:V) (k:Kn) (hs: ∀s∈k.AT,s∈e.k.AT∨ ∃e'∈pre++e::post,e'.is e.a (e.p++[s])=true):P6 (pre++⟨e.a,e.p,b,vn,vs,k⟩::post):=by
 have mov: ∀ {a p},(∃e'∈pre++e::post,e'.is a p=true)→ ∃e'∈pre++(⟨e.a,e.p,b,vn,vs,k⟩:C9)::post,e'.is a p=true:=by
  rintro a p ⟨x,hx,h'⟩;rcases Fk.1 hx with hx|hx
  ·exact⟨x,PU _ hx,h'⟩
  ·rcases GB.1 hx with rfl|hx
   ·exact⟨_,PX _ (.head _),h'⟩
   ·exact⟨x,PX _ (.tail _ hx),h'⟩
 intro x hx s hxs;rcases Fk.1 hx with hx|hx
 ·exact mov (h x (PU _ hx) s hxs)
 ·rcases GB.1 hx with rfl|hx
  ·rcases hs s hxs with h'|h'
   ·exact mov (h e (PX _ (.head _)) s h')
   ·exact mov h'
  ·exact mov (h x (PX _ (.tail _ hx)) s hxs)
def Di (f:Fact) (c:Bool) (j:Nat) (a:Int) (p:List Int) (k:Kn):Kn:=
 if f.arg=a∧B0 f.path p=true then(if p.length<j then dI (Ds k c) (f.path.getD p.length 0)else if p.length=j then Ds k c else k)else k
theorem Ms {path p:List Int}:B0 path p=true↔p.length≤path.length∧p=path.take p.length:=by
 rw[Cb];constructor
 ·rintro⟨t,rfl⟩
  exact⟨by simp,by simp⟩
 ·rintro⟨h1,h2⟩
  exact⟨path.drop p.length,by conv=>rhs;rw[h2,LW,Nat.min_eq_left h1,List.take_append_drop]⟩
theorem er (f:Fact) (c:Bool) (a:Int) (p:List Int) (k:Kn):Di f c 0 a p k=if a=f.arg∧p= []then Ds k c else k:=by
 unfold Di;by_cases h:f.arg=a∧B0 f.path p=true
 ·rw[if_pos h,if_neg (by omega)]
  by_cases hp:p.length=0
  ·rw[if_pos hp,if_pos ⟨h.1.symm,dD.1 hp⟩]
  ·rw[if_neg hp,if_neg (fun h'=>hp (by rw[h'.2];rfl))]
 ·rw[if_neg h,if_neg]
  rintro⟨rfl,rfl⟩;exact h ⟨rfl,Cb.2 ⟨f.path,by simp⟩⟩
theorem ew (f:Fact) (c:Bool) {j:Nat} (hj:j<f.path.length) (a:Int) (p:List Int) (k:Kn):Di f c (j+1) a p k=if a=f.arg∧p=f.path.take (j+1)then Ds (Di f c j a p k) c else if a=f.arg∧p=f.path.take j then dI (Di f c j a p k) (f.path.getD j 0)else Di f c j a p k:=by
 unfold Di;by_cases h:f.arg=a∧B0 f.path p=true
 ·rw [if_pos h,if_pos h]
  obtain⟨h1,h2⟩:=h;rw[Ms]at h2;obtain⟨h2,h3⟩:=h2;have l1:p=f.path.take (j+1)↔p.length=j+1:=⟨fun e=>by rw[e,LW];omega,fun e=>by rw[e]at h3;exact h3⟩
  have l2:p=f.path.take j↔p.length=j:=⟨fun e=>by rw[e,LW];omega,fun e=>by rw[e]at h3;exact h3⟩
  have n1:p.length≠j+1→ ¬(a=f.arg∧p=f.path.take (j+1)):=fun h h'=>h (l1.1 h'.2)
  have n2:p.length≠j→ ¬(a=f.arg∧p=f.path.take j):=fun h h'=>h (l2.1 h'.2)
  by_cases q1:p.length<j
  ·rw[if_pos (show p.length<j+1 by omega),if_neg (n1 (by omega)),if_neg (n2 (by omega)),if_pos q1]
  ·by_cases q2:p.length=j
   ·rw[if_pos (show p.length<j+1 by omega),if_neg (n1 (by omega)),if_pos (show a=f.arg∧p=f.path.take j from⟨h1.symm,l2.2 q2⟩),if_neg q1,if_pos q2,q2]
   ·by_cases q3:p.length=j+1
    ·rw[if_neg (show¬p.length<j+1 by omega),if_pos q3,if_pos (show a=f.arg∧p=f.path.take (j+1) from⟨h1.symm,l1.2 q3⟩),if_neg q1,if_neg q2]
    ·rw[if_neg (show¬p.length<j+1 by omega),if_neg q3,if_neg (n1 q3),if_neg (n2 q2),if_neg q1,if_neg q2]
 ·rw[if_neg h,if_neg h,if_neg,if_neg]
  ·rintro⟨rfl,rfl⟩
   exact h ⟨rfl,Cb.2 ⟨f.path.drop j,by rw[List.take_append_drop]⟩⟩
  ·rintro⟨rfl,rfl⟩
   exact h ⟨rfl,Cb.2 ⟨f.path.drop (j+1),by rw[List.take_append_drop]⟩⟩
theorem js (a:Int) (p:List Int) (k:Kn) (l:Fact):DK a p k l=if a=(A1 l).1.arg∧p=(A1 l).1.path then Ct (Di (A1 l).1 (A1 l).2 (A1 l).1.path.length a p k) (A1 l).1 (A1 l).2 else Di (A1 l).1 (A1 l).2 (A1 l).1.path.length a p k:=by
 unfold DK Di;by_cases h:(A1 l).1.arg=a∧B0 (A1 l).1.path p=true
 ·rw [if_pos h,if_pos h]
  obtain⟨h1,h2⟩:=h;rw[Ms]at h2;obtain⟨h2,h3⟩:=h2;by_cases hp:(A1 l).1.path=p
  ·rw[if_pos hp,if_pos ⟨h1.symm,hp.symm⟩,if_neg (by rw[hp];omega),if_pos (by rw[hp])]
  ·have hne:p.length<(A1 l).1.path.length:=by
    rcases Nat.lt_or_ge p.length (A1 l).1.path.length with h'|h'
    ·exact h'
    ·rw[List.take_of_length_le h']at h3
     exact absurd h3.symm hp
   rw[if_neg hp,if_neg (fun h=>hp h.2.symm),if_pos hne]
 ·rw[if_neg h,if_neg h,if_neg]
  rintro⟨rfl,rfl⟩;exact h ⟨rfl,Mt _⟩
theorem e8 (ls:List Fact) (l:Fact) (a:Int) (p:List Int):kn (ls++[l]) a p=DK a p (kn ls a p) l:=by
 rw[kn,List.foldl_append];rfl
theorem Q1 (l:List Int) (s:Int):(Iw l s).length≤l.length+1:=by
 unfold Iw;split
 ·omega
 ·rw[List.length_mergeSort];simp
theorem Vx (k:Kn) (f:Fact) (b:Bool):(Ct k f b).no.length≤k.no.length+1:=by
 unfold Ct
 repeat' split
 all_goals simp
theorem Z0 (a:Int) (p:List Int): ∀(ls:List Fact) (k:Kn),(ls.foldl (DK a p) k).no.length≤k.no.length+ls.length∧(ls.foldl (DK a p) k).AT.length≤k.AT.length+ls.length
 | [],k=>⟨JU _,JU _⟩
 | l ::r,k=>by
   obtain⟨h1,h2⟩:=Z0 a p r (DK a p k l)
   have h3:(DK a p k l).no.length≤k.no.length+1∧(DK a p k l).AT.length≤k.AT.length+1:=by
    unfold DK
    repeat' split
    ·have:=Vx (Ds k (A1 l).2) (A1 l).1 (A1 l).2
     rw[Qv];simp only[Ds]at this ⊢;omega
    ·have:=Q1 k.AT ((A1 l).1.path.getD p.length 0)
     simp only[dI,Ds]at this ⊢;omega
    ·omega
   rw[List.foldl_cons,LX];omega
theorem e9 {n:Nat} {ls:List Fact} (h:Il n ls) (a:Int) (p:List Int):(kn ls a p).CD<2 ^ n∧(kn ls a p).GY<2 ^ n:=by
 have hc:=NO ls a p;simp only[FJ,Prod.mk.injEq]at hc;have hc2:Il n (ls.filter (Gp a p)):=fun l hl=>h l (JZ.1 hl).1
 rw[hc.2.2.2.1,hc.2.2.2.2.1];exact⟨Rl hc2,jR hc2⟩
end Go.Gl
