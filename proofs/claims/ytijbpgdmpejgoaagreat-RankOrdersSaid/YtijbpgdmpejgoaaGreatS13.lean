import Derived.Test.YtijbpgdmpejgoaaGreatS12
set_option linter.all false
noncomputable section
namespace Go.Gl
open Go.Proofs
attribute [local irreducible] Be BQ BH Ae AR BC Af Ag AT A7 AZ Ad Bk Bx Sat Au Bs BI W
def Mf (w:AM) (f:Fact):Bool:=decide (0≤f.arg)&&(decide (f.arg<3)&&(Fl w f.path&&(if f.op=2 then f.n==0&&QS w f.cls else f.cls==0&&(decide (-1000000000≤f.n)&&decide (f.n≤1000000000)))))
def Es (w:AM) (f:Fact):Int→Int→Bool×Int:=f.I5 fun f l left deep=>
 if IntKind.i64.wrap (left - 1)<0∨deep=0∨f.op<1∨7<f.op∨f.kids.length≠Cj f.op then(false,IntKind.i64.wrap (left - 1))else
 if CO f then(Mf w f,IntKind.i64.wrap (left - 1))else
 if f.arg≠0∨0<f.path.length∨f.cls≠0∨f.n≠0 then(false,IntKind.i64.wrap (left - 1))else
 Cx (fun(k:Int→Int→Bool×Int) s=>k s (deep - 1)) l (IntKind.i64.wrap (left - 1))
theorem L8 {α β S:Type} (g:α→β) (stp:β→S→Bool×S): ∀(l:List α) (s:S),Cx stp (l.map g) s=Cx (fun a s=>stp (g a) s) l s
 | [],_=>rfl
 | a::r,s=>by simp only[Fa,Cx,L8 g stp r]
theorem Hr (w:AM) (f:Fact) (left deep:Int):Es w f left deep =
 if IntKind.i64.wrap (left - 1)<0∨deep=0∨f.op<1∨7<f.op∨f.kids.length≠Cj f.op then(false,IntKind.i64.wrap (left - 1))else
 if CO f then(Mf w f,IntKind.i64.wrap (left - 1))else
 if f.arg≠0∨0<f.path.length∨f.cls≠0∨f.n≠0 then(false,IntKind.i64.wrap (left - 1))else
 Cx (fun k s=>Es w k s (deep - 1)) f.kids (IntKind.i64.wrap (left - 1)):=by
 rw[Es,Fact.Ee,L8];rfl
theorem XT {w:AM} {f:Fact} {left deep L1:Int} {b:Bool} {nL:Nat} {σ:AH} (hs:Sat σ [.box nL [eI L1]]) (h:Es w f left deep=(b,L1)):BQ σ (.b b) fun r σ'=> ∃post:List At,(r=R.ret (.b (Es w f left deep).1)∧post= [.box nL [eI (Es w f left deep).2]])∧Sat σ' post:=by
 rw[h];exact AQ ⟨_,⟨rfl,rfl⟩,hs⟩
set_option maxHeartbeats 4000000 in
theorem gm (w:AM) (us:List Nat) (hw1:w.parents.length≤60) (hw2:w.owner.length≤60) (nL:Nat) (f:Fact): ∀(left deep:Int),0≤deep→deep≤12→
 B9 Tryz.prog 181 [.rp (wC w us),.a (xF f),.p nL 0,eI deep] [.box nL [eI left]] fun r post=>r= .ret (.b (Es w f left deep).1)∧post= [.box nL [eI (Es w f left deep).2]]:=by
 induction f using Fact.ind with
 | h f ih=>
   intro left deep hd0 hd1 σ hs;refine Be.fit (by kernel_rfl) fun hf=>?_
   have⟨h2,h3,h4⟩:=KM hf.2.1;have hM:=Mx;have hdw:IntKind.i64.wrap (deep - 1)=deep - 1:=wrap64 (by omega) (by omega);refine xj nb ?_
   have hstep:Df Tryz.prog (.f (.func 223) [] [.rp [.rp (wC w us)],.rp [.p nL 0],.rp [eI deep]]) (fun y=> .a (xF y)) (fun s=>[.box nL [eI s]]) (fun k s=>Es w k s (deep - 1)) (fun y _=>y∈f.kids∧deep≠0):=by
    rintro y s ⟨hy,hdn⟩ σ hs;refine C1 ?_;show Be Tryz.prog 223 ([]++[.a (xF y)]++[.rp [.rp (wC w us)],.rp [.p nL 0],.rp [eI deep]]) σ _;refine xN nb ?_
    conv=>whnf
    repeat'((first|apply st|(apply sq;intro K U)|(apply si;intro A B Y Z)|(apply Y;clear Z B Y A)|(apply U;clear U K)|refine⟨rfl,?_⟩|refine⟨nb,?_⟩|fail)<;>conv=>whnf)
    rw[hdw];refine(ih y hy s (deep - 1) (by omega) (by omega)).use (rest:=[]) hs ?_;rintro r post σ ⟨rfl,rfl⟩ hs
    conv=>whnf
    repeat'((first|apply st|(apply Y;clear Z B Y A)|(apply U;clear U K)|fail)<;>conv=>whnf)
    exact AQ ⟨rfl,hs⟩
   conv=>whnf
   repeat'((first|apply st|(apply sq;intro K U)|(apply si;intro A B Y Z)|(apply Y;clear Z B Y A)|(apply U;clear U K)|apply dr|refine rk ?_ ?_|exact fun s e=>by cases e;rfl|refine⟨rfl,?_⟩|refine⟨nb,?_⟩|refine ld ?_|refine IB fun σ hs=>?_|refine Pure.use (Sw _) ?_|refine Pure.use (iC _) ?_|refine Pure.use (eO w us _ hw1) ?_|refine Pure.use (gW w us _ _ hw2) ?_|(constructor<;>intro hc<;>(try rw[hc])<;>(replace hc:=bp hc)<;>(try simp(disch:=omega) only[Bz,wrap64,AP]at hc))|clear U K)<;>conv=>whnf)
   all_goals first
    | (refine XT hs ?_;rw[Hr,if_pos (by omega)];done)
    | (refine XT hs ?_;rw[Hr,if_neg (by omega),if_pos (by assumption)];simp[Mf, *];done)
    | (refine XT hs ?_;rw[Hr,if_neg (by omega),if_pos (by assumption)];simp[Mf, *];intros;omega)
    | (refine XT hs ?_;rw[Hr,if_neg (by omega),if_neg (by simp[*]),if_pos (by omega)];done)
    | skip
   refine(cZ 223 [] _ _ _ _ hstep f.kids false (IntKind.i64.wrap (left - 1)) h2 (Md fun y hy _=>⟨hy,by omega⟩)).use (rest:=[]) hs ?_;have hE:=Hr w f left deep;rw[if_neg (by omega),if_neg (by simp[*]),if_neg (by omega)]at hE;rw[←hE];rintro r post σ ⟨rfl,rfl⟩ hs
   conv=>whnf
   repeat'((first|apply st|(apply Y;clear Z B Y A)|(apply U;clear U K)|fail)<;>conv=>whnf)
   exact AQ ⟨_,⟨rfl,rfl⟩,hs⟩
def LS (w:AM) (f:Fact):Bool:=(Es w f 24 12).1
theorem Zm (w:AM) (us:List Nat) (hw1:w.parents.length≤60) (hw2:w.owner.length≤60) (f:Fact):Pure Tryz.prog 180 [.a (xF f),.rp [.rp (wC w us)]] (.b (LS w f)):=by
 refine Pure.of ?_;refine xk nb ?_;have hs:=Sn
 conv=>whnf
 repeat'((first|apply st|(apply sq;intro K U)|(apply si;intro A B Y Z)|(apply Y;clear Z B Y A)|(apply U;clear U K)|refine⟨nb,?_⟩|refine IB fun σ hs=>?_|(intro nn hnn;generalize hg:BE _ nn _=σ;refine E3 hg fun hs=>?_;clear hg)|fail)<;>conv=>whnf)
 refine(gm w us hw1 hw2 _ f 24 12 (by omega) (by omega)).use (rest:=[]) hs ?_;rintro r post σ ⟨rfl,rfl⟩ hs
 conv=>whnf
 repeat'((first|apply st|(apply Y;clear Z B Y A)|(apply U;clear U K)|fail)<;>conv=>whnf)
 exact AQ rfl
theorem mS {g:FuncId} {fi ca:List V} {f:Fact→Bool} {xs:List Fact} (b:Bool) (hl:xs.length≤Ai) (h: ∀y∈xs,Pure Tryz.prog g (fi++[.a (xF y)]++ca) (.b (f y))):Pure Tryz.prog 179 [.l (facts xs) b,.f (.func g) fi ca] (.b (xs.all f)):=by
 have:=cZ g fi ca (fun _=>[]) (fun y (_:Unit)=>(f y,())) (fun y _=>y∈xs) (fun y s hy σ hs=>C1 (Be.mono ((h y hy).use (k:=fun v σ'=>v= .b (f y)∧Sat σ' []) (kp:=fun _ _=>False) ⟨rfl,Sat.nil⟩) (by
  rintro(v|v) σ' hq
  ·obtain⟨rfl,h⟩:=hq
   exact⟨rfl,h⟩
  ·exact hq.elim))) xs b () hl (Md fun y hy _=>hy)
 rw[Jz]at this;exact Pure.of (Be.mono (this emp Sat.nil) fun r σ' ⟨post,⟨h1,h2⟩,h3⟩=>h1)
theorem Zo (w:AM) (us:List Nat) (hw1:w.parents.length≤60) (hw2:w.owner.length≤60) (l:List Fact) (b:Bool) (hl:l.length≤60):Pure Tryz.prog 140 [.rp (wC w us),.l (facts l) b] (.b (l.all (LS w))):=by
 have hall:=mS (g:=180) (fi:=[]) (ca:=[.rp [.rp (wC w us)]]) (f:=LS w) (xs:=l) b (by simp only[Ai];omega) fun y _=>Zm w us hw1 hw2 y
 refine yM nb ?_;have hs:=Sn
 conv=>whnf
 repeat'((first|apply st|(apply sq;intro K U)|(apply si;intro A B Y Z)|(apply Y;clear Z B Y A)|(apply U;clear U K)|refine Pure.use (by assumption) ?_|fail)<;>conv=>whnf)
 exact AJ rfl
theorem Xn (w:AM) (hw:Fs w) (l:List Fact) (b:Bool) (hl:l.length≤60):Pure Tryz.prog 109 [.a (BR w),.l (facts l) b] (.t [.rp (wC w (E5 w.parents)),.b (l.all (LS w))]):=by
 have hfo:=Zo w (E5 w.parents) (by have:=hw.1.1;omega) (by have:=hw.2.1;omega) l b hl;refine yg nb ?_;have hs:=Sn
 conv=>whnf
 repeat'((first|apply st|(apply sq;intro K U)|(apply si;intro A B Y Z)|(apply Y;clear Z B Y A)|(apply U;clear U K)|refine⟨nb,?_⟩|refine Pure.use (gg w hw) ?_|refine Pure.use hfo ?_|fail)<;>conv=>whnf)
 all_goals exact AJ rfl
theorem aH (w:AM) (hw:Fs w) (f:Fact):Pure Tryz.prog 170 [.a (BR w),.a (xF f)] (eI (if LS w f then 0 else 2)):=by
 have hfo: ∀b,Pure Tryz.prog 109 [.a (BR w),.l [Gz f] b] (.t [.rp (wC w (E5 w.parents)),.b (LS w f)]):=fun b=>by
  have:=Xn w hw [f] b (by simp);simpa using this
 refine xv nb ?_;have hs:=Sn
 conv=>whnf
 repeat'((first|apply st|(apply sq;intro K U)|(apply si;intro A B Y Z)|(apply Y;clear Z B Y A)|(apply U;clear U K)|refine⟨nb,?_⟩|fail)<;>conv=>whnf)
 rw[Bq]at hfo;refine(hfo _).use ?_
 conv=>whnf
 repeat'((first|apply st|(apply sq;intro K U)|(apply si;intro A B Y Z)|(apply Y;clear Z B Y A)|(apply U;clear U K)|refine Pure.use (Wa _) ?_|fail)<;>conv=>whnf)
 exact AJ rfl
end Go.Gl
namespace Go.Gl
theorem MD {most:Int}: ∀(l:List Fact) (n:Int),(∀k∈l,∀m:Int,(MP k:Int)≤m→Ci k m=MP k)→n+(l.map MP).sum≤most→Dv (l.map Ci) n most=n+(l.map MP).sum
 | [],n,_,_=>by simp[Dv]
 | k::r,n,h,h1=>by
   simp only[Fa,List.sum_cons,Dv]at *;rw[if_pos (by omega),h k (.head _) (most - n) (by omega),MD r _ (fun k' hk'=>h k' (.tail _ hk')) (by omega)];omega
theorem TG (f:Fact): ∀m:Int,(MP f:Int)≤m→Ci f m=MP f:=by
 induction f using Fact.ind with
 | h f ih=>
   intro m hm;rw[Ju];rw[Kq]at *;rw[MD f.kids 1 ih (by omega)];omega
theorem ZQ (f:Fact) {m:Int} (h0:0≤m):Ci f m≤m↔(MP f:Int)≤m:=
 ⟨fun h=>by rw[←K4 f m h0 h];exact h,fun h=>by rw[TG f m h];exact h⟩
theorem mF (f:Fact):1≤MP f:=by rw[Kq];omega
theorem Gp {m:Int}: ∀(l:List Int) (a:Int),l.foldl J7 a≤m↔a≤m∧ ∀x∈l,x≤m
 | [],a=>by simp
 | x ::r,a=>by
   rw[List.foldl_cons,Gp r];unfold J7;constructor
   ·rintro⟨h1,h2⟩
    refine⟨by split at h1<;>omega,fun y hy=>?_⟩;rcases IC.1 hy with rfl|hy
    ·split at h1<;>omega
    ·exact h2 y hy
   ·rintro⟨h1,h2⟩
    have hx:=h2 x (.head _);exact⟨by split<;>omega,fun y hy=>h2 y (.tail _ hy)⟩
theorem eJ (f:Fact) {m:Int}:EX f≤m↔1≤m∧ ∀k∈f.kids,EX k≤m - 1:=by
 rw[H7];constructor
 ·intro h
  have:=(Gp (m:=m - 1) (f.kids.map EX) 0).1 (by omega);exact⟨by omega,fun k hk=>this.2 _ (List.mem_map_of_mem hk)⟩
 ·rintro⟨h1,h2⟩
  have:=(Gp (m:=m - 1) (f.kids.map EX) 0).2 ⟨by omega,fun x hx=>by
   obtain⟨k,hk,rfl⟩:=Ob.1 hx
   exact h2 k hk⟩
  omega
def bE (w:AM) (f:Fact) (left deep:Int):Prop:=(MP f:Int)≤left∧EX f≤deep∧CW w f=true
theorem Rm (w:AM) {deep:Int}: ∀(l:List Fact) (left:Int),0≤left→left≤24→(∀k∈l,∀left:Int,0≤left→left≤24→((Es w k left deep).1=true↔bE w k left deep)∧((Es w k left deep).1=true→(Es w k left deep).2=left - MP k))→
 ((Cx (fun k s=>Es w k s deep) l left).1=true↔((l.map MP).sum:Int)≤left∧ ∀k∈l,EX k≤deep∧CW w k=true)∧((Cx (fun k s=>Es w k s deep) l left).1=true→(Cx (fun k s=>Es w k s deep) l left).2=left - ((l.map MP).sum:Nat))
 | [],left,h0,h1,_=>by simp[Cx];exact h0
 | k ::r,left,h0,h1,h=>by
   obtain⟨ha,hb⟩:=h k (.head _) left h0 h1;simp only[Cx,Fa,List.sum_cons];cases hk:(Es w k left deep).1
   ·simp only[NN,if_false,false_iff,false_implies,and_true]
    rintro⟨h2,h3⟩;have:=ha.2 ⟨by omega,(h3 k (.head _)).1,(h3 k (.head _)).2⟩;rw[hk]at this;cases this
   ·obtain⟨g1,g2,g3⟩:=ha.1 hk
    have hc:=mF k;rw[if_pos rfl,hb hk];obtain⟨i1,i2⟩:=Rm w r (left - MP k) (by omega) (by omega) fun k' hk'=>h k' (.tail _ hk')
    refine⟨i1.trans ⟨fun⟨e1,e2⟩=>⟨by omega,fun x hx=>?_⟩,fun⟨e1,e2⟩=>⟨by omega,fun x hx=>e2 x (.tail _ hx)⟩⟩,fun h=>by rw[i2 h];omega⟩;rcases IC.1 hx with rfl|hx
    ·exact⟨g2,g3⟩
    ·exact e2 x hx
theorem gl (w:AM) (f:Fact): ∀left deep:Int,0≤left→left≤24→0≤deep→((Es w f left deep).1=true↔bE w f left deep)∧((Es w f left deep).1=true→(Es w f left deep).2=left - MP f):=by
 induction f using Fact.ind with
 | h f ih=>
   intro left deep h0 h1 hd;have hw:IntKind.i64.wrap (left - 1)=left - 1:=wrap64 (by omega) (by omega);rw[Hr,hw];have hc:=Kq f;have hn:=Di w f;have hdl:=eJ f (m:=deep)
   have hko:Dd w f=true→f.kids.length=Cj f.op:=fun h=>by
    simp only[Dd,Bj,FL]at h;exact h.2.1
   have hop:Dd w f=true→1≤f.op∧f.op≤7:=fun h=>by
    simp only[Dd,Bj]at h;have h1:=h.1;unfold Vr at h1;split at h1
    ·omega
    split at h1
    ·omega
    simp at h1;omega
   by_cases hbad:left - 1<0∨deep=0∨f.op<1∨7<f.op∨f.kids.length≠Cj f.op
   ·rw[if_pos hbad]
    simp only[NN,false_iff,false_implies,and_true];rintro⟨g1,g2,g3⟩;rw[hn,Bj]at g3;have g4:=hko g3.1;have g5:=hop g3.1;have g6:=(hdl.1 g2).1;omega
   rw[if_neg hbad];by_cases hl:CO f=true
   ·rw [if_pos hl]
    have hl':f.op=2∨f.op=3∨f.op=4:=by
     simp only[CO,HW,FL]at hl;omega
    have hk0:f.kids= []:=by
     have:f.kids.length=Cj f.op:=by omega
     rw[Cj,if_neg (by omega),if_neg (by omega)]at this;exact aK.1 this
    have hd1:EX f=1:=by rw[H7,hk0];rfl
    have hc1:MP f=1:=by rw[hc,hk0];rfl
    have hh:Dd w f=Mf w f:=by
     unfold Dd Vr Mf;rw[hl,hk0];have e:Cj f.op=0:=by rw[Cj,if_neg (by omega),if_neg (by omega)]
     rw[e];simp only[List.length_nil,beq_self_eq_true,I7,Bool.true_or,Bool.and_true];rcases hl' with e|e|e
     ·rw[if_pos e,if_pos e]
      cases(f.n==0&&QS w f.cls)<;>simp
     ·rw[if_neg (show¬f.op=2 by omega),if_neg (show¬f.op=2 by omega),if_pos (show f.op=3∨f.op=4 from .inl e)]
      cases(f.cls==0&&(decide (-1000000000≤f.n)&&decide (f.n≤1000000000)))<;>simp
     ·rw[if_neg (show¬f.op=2 by omega),if_neg (show¬f.op=2 by omega),if_pos (show f.op=3∨f.op=4 from .inr e)]
      cases(f.cls==0&&(decide (-1000000000≤f.n)&&decide (f.n≤1000000000)))<;>simp
    refine⟨⟨fun h=>⟨by omega,by omega,?_⟩,fun⟨_,_,h⟩=>?_⟩,fun _=>by dsimp only;omega⟩
    ·rw[hn,hk0,hh];simpa using h
    ·rw[hn,hk0,hh]at h;simpa using h
   ·have hl':f.op=1∨f.op=5∨f.op=6∨f.op=7:=by
     simp only[CO,HW,FL]at hl;omega
    have hlf:CO f=false:=by simpa using hl
    rw[if_neg hl];by_cases hz:f.arg≠0∨0<f.path.length∨f.cls≠0∨f.n≠0
    ·rw[if_pos hz]
     simp only[NN,false_iff,false_implies,and_true];rintro⟨g1,g2,g3⟩;rw[hn,Bj]at g3;have g4:=g3.1;simp only[Dd,hlf,Bool.false_or,Bj,FL]at g4;omega
    ·rw [if_neg hz]
     obtain⟨i1,i2⟩:=Rm w (deep:=deep - 1) f.kids (left - 1) (by omega) (by omega) fun k hk left hl0 hl1=>ih k hk left (deep - 1) hl0 hl1 (by omega)
     have hh:Dd w f=true:=by
      have hp:f.path= []:=aK.1 (by omega)
      have e1:Vr w f=true:=by
       unfold Vr;rw[if_neg (by omega),if_neg (by omega)];simp only[HW,FL];omega
      have z1:f.arg=0:=by omega
      have z2:f.cls=0:=by omega
      have z3:f.n=0:=by omega
      have z4:f.kids.length=Cj f.op:=by omega
      simp[Dd,e1,hlf,hp,z1,z2,z3,z4,Fl]
     refine⟨i1.trans ⟨fun⟨e1,e2⟩=>⟨by omega,hdl.2 ⟨by omega,fun k hk=>(e2 k hk).1⟩,?_⟩,fun⟨g1,g2,g3⟩=>⟨by omega,fun k hk=>⟨(hdl.1 g2).2 k hk,?_⟩⟩⟩,fun h=>by rw[i2 h];omega⟩
     ·rw[hn,hh,I7,I0]
      exact fun k hk=>(e2 k hk).2
     ·rw[hn,hh,I7,I0]at g3
      exact g3 k hk
theorem YF (w:AM) (f:Fact):LS w f=E6 w f:=by
 have:=(gl w f 24 12 (by omega) (by omega) (by omega)).1;rw[LS,E6,KZ,this,bE];simp only[Bj,D4];rw[ZQ f (by omega)]
end Go.Gl
namespace Go.Gl
open Go.Proofs
attribute [local irreducible] Be BQ BH Ae AR BC Af Ag AT A7 AZ Ad Bk Bx Sat Au Bs BI W
theorem L4 {p:Prog} (h:A9 p=true):Fs (Ab p)∧B2 p.AL≤40∧p.AL.length≤10:=by
 have h1:=h;rw[QB]at h1;simp only[Bj,D4]at h1;have h2:=h;simp only[A9,Bj,D4]at h2;have hm:=(FR _ _ h2.2.1).1;refine⟨⟨EF h1.2.2.2.1,?_,fun o ho=>?_⟩,by omega,h1.1⟩
 ·rw[Ab,Cl];omega
 ·have:=GL ho
  simp only[Ab,A1,Bz];omega
def fA (s:List Int):Prop:= ∀x∈s,(-1:Int)≤x
theorem iO {s:List Int} (h:fA s) (i:Nat) {x:Int} (hx:0≤x):fA (s.set i x):=fun y hy=>by
 rcases List.mem_or_eq_of_mem_set hy with hy|rfl
 ·exact h y hy
 ·omega
theorem Un {f:Int→Int→List Int→Option (List Int)} (hf: ∀ {a b s s'},0≤b→f a b s=some s'→fA s→fA s') {op size:Int} (h0:0≤size): ∀(i:Nat) (l:List Int) {s s':List Int},Fq f op size i l s=some s'→fA s→fA s'
 | _,[],s,s',h,hs=>by cases h;exact hs
 | i,k::r,s,s',h,hs=>by
   simp only[Fq]at h;split at h
   ·cases h
   ·rename_i s1 h1
    refine Un hf h0 (i+1) r h (hf ?_ h1 hs);split<;>omega
theorem Lp {p:Prog} {next:Bool}: ∀(d:Nat) {n size:Int} {s s':List Int},0≤size→Cb p next d n size s=some s'→fA s→fA s'
 | 0,_,_,_,_,_,h,_=>by cases h
 | d + 1,n,size,s,s',h0,h,hs=>by
   simp only[Cb]at h;split at h
   ·cases h
   ·split at h
    ·cases h
    ·split at h
     ·exact Un (fun hb h hs=>Lp d hb h hs) h0 0 _ h (iO hs _ h0)
     ·cases h
theorem iP {s:List Int} (h:fA s):(s.all fun n=>decide (0≤n))= !s.contains (-1):=by
 rw[KZ];simp only[I0,D4,Bool.not_eq_true',←Bool.not_eq_true,List.contains_iff_mem];constructor
 ·intro h1 h2
  have:=h1 _ h2;omega
 ·intro h1 x hx
  have:=h x hx;rcases Int.lt_or_le x 0 with hlt|hle
  ·exact absurd ((show x= -1 by omega) ▸ hx) h1
  ·exact hle
def y1 (p:Prog) (nO:Nat) (r:R) (σ:AH):Prop:=
 match Bh p with
 | some s=>r= .ret (.t [])∧ ∃v,Sat σ [.box nO [v],.own v 1 (iL s)]
 | none=>r= .By ED∧ ∃v s,Sat σ [.box nO [v],.own v 1 (iL s)]
theorem Ym {p:Prog} {nO:Nat} {σ:AH} {v:V} {s:List Int} {l:List At} (h:Bh p=none) (hs:Sat σ l) (hsub: [At.box nO [v],.own v 1 (iL s)].Sublist l):BH σ ED (y1 p nO):=Da (by
 rw[y1,h]
 exact⟨rfl,v,s,hs.less hsub⟩)
theorem szT {p:Prog} {nO:Nat} {σ:AH} {v:V} {s:List Int} {l:List At} (h:Bh p=some s) (hs:Sat σ l) (hsub: [At.box nO [v],.own v 1 (iL s)].Sublist l):BQ σ (.t []) (y1 p nO):=AQ (by
 rw[y1,h]
 exact⟨rfl,v,hs.less hsub⟩)
theorem SN {p:Prog} (h:DP p=false):Bh p=none:=by unfold Bh;rw[h];rfl
theorem mM {w:AM} {f:Fact} (h:E6 w f=true):Qo f=true:=Ps (w:=w) f (by simp only[E6,Bj]at h;exact h.2.2)
theorem Wz {w:AM} (hw:Fs w) (f:Fact):Pure Tryz.prog 170 [.a (BR w),.a (xF f)] (eI (if E6 w f then 0 else 2)):=by
 rw[←YF];exact aH w hw f
theorem ZL {α:Type} (a b c:α): [a,b,c].Perm [c,b,a]:=by simpa using(List.reverse_perm [a,b,c]).symm
set_option maxHeartbeats 4000000 in
theorem dQ (p : Prog) (nO:Nat) (σ:AH) (hs:Sat σ [.box nO [.l [] true]]):Be Tryz.prog 162 [.rp (Bd p),.p nO 0] σ (y1 p nO):=by
 refine Be.fit (by kernel_rfl) fun hf=>?_
 have hM:=Mx
 have hfp:FG (.a (Bd p)):=by
  have:=hf.1;simp only[S7]at this;simpa only[HO]using this
 have⟨p1,p2,p3,p4⟩:=GD hfp;refine x5 nb ?_;have hcl:=XI p;replace hs:Sat σ [.box nO [.l [] true],.own (.l [] true) 1 (iL [])]:=HI hs 1;cases hcB:A9 p with
 | false=>
   rw[hcB]at hcl
   conv=>whnf
   repeat'((first|apply st|(apply sq;intro K U)|(apply si;intro A B Y Z)|refine⟨nb,?_⟩|fail)<;>conv=>whnf)
   refine hcl.use (pre:=[]) (rest:=[.box nO [.l [] true],.own (.l [] true) 1 (iL [])]) hs ?_;rintro r post σ ⟨rfl,rfl⟩ hs
   conv=>whnf
   repeat'((first|(refine Z _ _ _ ?_;clear Z B Y A)|clear U K)<;>conv=>whnf)
   exact Ym (SN (by simp[DP,hcB])) hs (.refl _)
 | true=>
   rw[hcB]at hcl;obtain⟨hgW,hmS,h10⟩:=L4 hcB
   conv=>whnf
   repeat'((first|apply st|(apply sq;intro K U)|(apply si;intro A B Y Z)|refine⟨nb,?_⟩|fail)<;>conv=>whnf)
   refine hcl.use (pre:=[]) (rest:=[.box nO [.l [] true],.own (.l [] true) 1 (iL [])]) hs ?_;clear hs;rintro r post σ ⟨rfl,rfl⟩ hs
   conv=>whnf
   repeat'((first|apply st|(apply sq;intro K U)|(apply si;intro A B Y Z)|(apply Y;clear Z B Y A)|(refine Z _ _ _ ?_;clear Z B Y A)|(apply U;clear U K)|refine⟨rfl,?_⟩|(refine C4 (fun hc=>?_) (fun hc=>?_)<;>(replace hc:=bp hc)<;>(try simp(disch:=omega) only[Bz,wrap64,AP]at hc)<;>(try(cases hc;done)))|(constructor<;>intro hc<;>(try rw[hc])<;>(replace hc:=bp hc)<;>(try simp(disch:=omega) only[Bz,wrap64,AP]at hc))|clear U K)<;>conv=>whnf)
   rotate_left
   all_goals first
    | exact Ym (SN (by simp[DP, *];intros;omega)) hs (.refl _)
    | skip
   have a1:p.D6.length≤8:=by omega
   have a2:p.methods.length≤16:=by omega
   have a3:1≤p.nodes.length:=by omega
   have a4:p.nodes.length≤120:=by omega
   have hg:DP p=p.D6.all fun g=>decide (1≤g)&&decide (g≤3):=by
    simp only[DP,a1,a2,a3,a4,decide_true,I7];simp[*]
   refine Cn p.D6.length (fun k (_:Unit)=>[(36,eI (BJ k))]) (fun _ _=>[.box nO [.l [] true],.own (.l [] true) 1 (iL [])]) (fun k _=>DP p=(p.D6.drop k).all fun g=>decide (1≤g)&&decide (g≤3)) () rfl (by simpa using hg) hs ?_;clear hs hg;rintro k - σ hk hn hs;rcases Bo p.D6 hk with⟨g,hgk,hlt⟩|hke
   ·rw[drop_cons hgk,OA]at hn
    conv=>whnf
    repeat'((first|apply st|(apply sq;intro K U)|(apply si;intro A B Y Z)|(apply Y;clear Z B Y A)|(refine Z _ _ _ ?_;clear Z B Y A)|(apply U;clear U K)|refine⟨rfl,?_⟩|refine ix ?_|(refine D0 (fun hc=>?_)<;>(try rw[hc])<;>clear hc)|(refine C4 (fun hc=>?_) (fun hc=>?_)<;>(replace hc:=bp hc)<;>(try simp(disch:=omega) only[Bz,wrap64,AP]at hc)<;>(try(cases hc;done)))|(constructor<;>intro hc<;>(try rw[hc])<;>(replace hc:=bp hc))|clear U K)<;>conv=>whnf)
    ·exact⟨hlt,(),rfl,by rw[hn];simp[*],hs⟩
    ·exact Ym (SN (by rw[hn,decide_eq_false (show¬g≤3 by omega)];simp)) hs (.refl _)
    ·exact Ym (SN (by rw[hn,decide_eq_false (show¬1≤g by omega)];simp)) hs (.refl _)
   ·have hh : DP p=true:=by rw[hn,As hke];rfl
    have hL:=X3 hh;clear hn
    conv=>whnf
    repeat'((first|apply st|(apply sq;intro K U)|(apply si;intro A B Y Z)|(apply Y;clear Z B Y A)|(apply U;clear U K)|refine⟨rfl,?_⟩|(refine Fh (fun hc=>?_)<;>(try rw[hc])<;>clear hc)|clear U K)<;>conv=>whnf)
    rw[Bz];refine(ZE p.nodes.length a3 a4).use (pre:=[]) (rest:=[.box nO [.l [] true],.own (.l [] true) 1 (iL [])]) hs ?_;clear hs;rintro r post σ ⟨v,rfl,rfl,hv⟩ hs
    conv=>whnf
    repeat'((first|apply st|(apply sq;intro K U)|(apply si;intro A B Y Z)|(apply Y;clear Z B Y A)|(apply U;clear U K)|refine⟨nb,?_⟩|refine IB fun σ hs=>?_|refine HZ fun σ hs=>?_|refine Pure.use (UG p (by omega) (by omega)) ?_|(intro nn hnn;generalize hg:BE _ nn _=σ;refine E3 hg fun hs=>?_;clear hg)|fail)<;>conv=>whnf)
    rename_i nw hnw _ hs;generalize nn=n5 at *;replace hs:=hs.less (show [At.box n5 (BR (Ab p)),.own v 1 (iL (List.replicate p.nodes.length (-1))),.box nO [v]].Sublist _ from .cons₂ _ (.cons₂ _ (.cons₂ _ (.cons _ .slnil))));refine Cn p.methods.length (fun k (s:List Int)=>[(59,eI (BJ k))]) (fun _ s=>[.box nO [v],.own v 1 (iL s),.box n5 (BR (Ab p))]) (fun k s=>s.length=p.nodes.length∧fA s∧Bh p=KJ p (runM p (p.methods.drop k) s)) (List.replicate p.nodes.length (-1)) rfl ⟨by simp,fun x hx=>by rw[List.eq_of_mem_replicate hx];omega,hL⟩ (hs.perm (ZL _ _ _)) ?_;clear hs hnw hnn;rintro k s σ hk ⟨hl,hge,hn⟩ hs;rcases Bo p.methods hk with⟨m,hm,hlt⟩|hke
    ·have hF:=Wz hgW m.fact
     cases hfB:E6 (Ab p) m.fact with
     | false=>
       rw[hfB,if_neg Bool.false_ne_true]at hF;have hno:=Dp hm hn (by simp[QK,hfB])
       conv=>whnf
       repeat'((first|apply st|(apply sq;intro K U)|(apply si;intro A B Y Z)|(apply Y;clear Z B Y A)|(refine Z _ _ _ ?_;clear Z B Y A)|(refine Z _ _ fun σ hsub=>?_;clear Z B Y A)|(apply U;clear U K)|apply dr|refine rk ?_ ?_|exact fun s e=>by cases e;rfl|refine⟨rfl,?_⟩|refine⟨nb,?_⟩|refine ix ?_|refine ld ?_|refine HZ fun σ hs=>?_|(refine D0 (fun hc=>?_)<;>(try rw[hc])<;>clear hc)|(refine C4 (fun hc=>?_) (fun hc=>?_)<;>(replace hc:=bp hc)<;>(try simp(disch:=omega) only[Bz,wrap64,AP]at hc)<;>(try(cases hc;done)))|refine Pure.use hF ?_|(constructor<;>intro hc<;>(try rw[hc])<;>(replace hc:=bp hc)<;>try(exfalso;omega))|(intro nn hnn;generalize hg:BE _ nn _=σ;refine E3 hg fun hs=>?_;clear hg)|clear U K)<;>conv=>whnf)
       all_goals first
        | (refine Ym (v:=v) (s:=s) hno hs ?_;(repeat first|exact QN _|apply List.Sublist.cons₂|apply List.Sublist.cons);done)
        | (refine Ym (v:=v) (s:=s) hno (hs.up (by assumption)) ?_;(repeat first|exact QN _|apply List.Sublist.cons₂|apply List.Sublist.cons);done)
        | skip
     | true=>
       rw[hfB,if_pos rfl]at hF;have hsp:=ZA _ (mM hfB)
       conv=>whnf
       repeat'((first|apply st|(apply sq;intro K U)|(apply si;intro A B Y Z)|(apply Y;clear Z B Y A)|(refine Z _ _ _ ?_;clear Z B Y A)|(refine Z _ _ fun σ hsub=>?_;clear Z B Y A)|(apply U;clear U K)|apply dr|refine rk ?_ ?_|exact fun s e=>by cases e;rfl|refine⟨rfl,?_⟩|refine⟨nb,?_⟩|refine ix ?_|refine Tb ?_|refine iq fun x hx=>?_|refine ld ?_|refine HZ fun σ hs=>?_|(refine D0 (fun hc=>?_)<;>(try rw[hc])<;>clear hc)|(refine C4 (fun hc=>?_) (fun hc=>?_)<;>(replace hc:=bp hc)<;>(try simp(disch:=omega) only[Bz,wrap64,AP]at hc)<;>(try(cases hc;done)))|refine Pure.use hF ?_|refine Pure.use hsp ?_|(constructor<;>intro hc<;>(try rw[hc])<;>(replace hc:=bp hc)<;>(try simp(disch:=omega) only[Bz,wrap64,AP]at hc)<;>try(exfalso;omega))|(intro nn hnn;generalize hg:BE _ nn _=σ;refine E3 hg fun hs=>?_;clear hg)|clear U K)<;>conv=>whnf)
       all_goals first
        | (refine Ym (v:=v) (s:=s) (Dp hm hn ?_) hs ?_;(simp[QK, *];intros;omega);(repeat first|exact QN _|apply List.Sublist.cons₂|apply List.Sublist.cons);done)
        | (refine Ym (v:=v) (s:=s) (Dp hm hn ?_) (hs.up (by assumption)) ?_;(simp[QK, *];intros;omega);(repeat first|exact QN _|apply List.Sublist.cons₂|apply List.Sublist.cons);done)
        | skip
       rotate_left 2
       ·refine Ym (v:=v) (s:=s) (Dp hm hn ?_) (hs.up (by assumption)) ?_
        ·simp only[QK,show p.D6.getD m.gen.toNat 0=x by rw[FM,hx];rfl,decide_eq_false (show¬HK m.fact≤x by omega),Bool.and_false]
        ·repeat first|exact QN _|apply List.Sublist.cons₂|apply List.Sublist.cons
       all_goals
        have hx13:=RN hh hx;have hgd:p.D6.getD m.gen.toNat 0=x:=by rw[FM,hx];rfl
        have hok:QK p m=true:=by simp only[QK,hgd,Bj,D4];exact⟨by omega,by omega,by omega,by omega,hfB,by assumption⟩
        have hgo:=fun s'=>Xj (s':=s') hm hn hok
        have hno:=Q2 hm hn hok;rw[hgd]at hgo hno
       ·have hnb:KI m.kind=(m.kind==4):=by simp[KI, *]
        rw[hnb]at hgo hno;refine C1 ((TB p (m.kind==4) hv m.node x s (by omega) (by omega) hl [.box n5 (BR (Ab p))] σ (hs.less (.cons _ (.refl _)))).mono ?_);cases hw:Cb p (m.kind==4) 12 m.node x s with
        | none=>
          clear hs;rintro r σ' ⟨rfl,s',hl',hs⟩
          conv=>whnf
          repeat'((first|(refine Z _ _ fun σ hsub=>?_;clear Z B Y A)|clear U K)<;>conv=>whnf)
          exact Ym (v:=v) (s:=s') (hno hw) (hs.up (by assumption)) (.cons₂ _ (.cons₂ _ (QN _)))
        | some s2=>
          clear hs;rintro r σ' ⟨rfl,hs⟩
          conv=>whnf
          repeat'((first|(apply si;intro A B Y Z)|(apply Y;clear Z B Y A)|(apply U;clear U K)|apply dr|refine⟨rfl,?_⟩|clear U K)<;>conv=>whnf)
          exact⟨hlt,s2,rfl,⟨(Jq _ hw).trans hl,Lp _ (by omega) hw hge,hgo s2 hw⟩,hs⟩
       ·have hnb:KI m.kind=true:=by simp[KI, *]
        rw[hnb]at hgo hno;refine C1 ((TB p true hv m.node x s (by omega) (by omega) hl [.box n5 (BR (Ab p))] σ (hs.less (.cons _ (.refl _)))).mono ?_);cases hw:Cb p true 12 m.node x s with
        | none=>
          clear hs;rintro r σ' ⟨rfl,s',hl',hs⟩
          conv=>whnf
          repeat'((first|(refine Z _ _ fun σ hsub=>?_;clear Z B Y A)|clear U K)<;>conv=>whnf)
          exact Ym (v:=v) (s:=s') (hno hw) (hs.up (by assumption)) (.cons₂ _ (.cons₂ _ (QN _)))
        | some s2=>
          clear hs;rintro r σ' ⟨rfl,hs⟩
          conv=>whnf
          repeat'((first|(apply si;intro A B Y Z)|(apply Y;clear Z B Y A)|(apply U;clear U K)|apply dr|refine⟨rfl,?_⟩|clear U K)<;>conv=>whnf)
          exact⟨hlt,s2,rfl,⟨(Jq _ hw).trans hl,Lp _ (by omega) hw hge,hgo s2 hw⟩,hs⟩
    ·subst hke
     rw[List.drop_length,runM]at hn
     conv=>whnf
     repeat'((first|apply st|(apply sq;intro K U)|(apply si;intro A B Y Z)|(apply Y;clear Z B Y A)|(apply U;clear U K)|refine⟨rfl,?_⟩|refine⟨nb,?_⟩|refine ix ?_|refine ld ?_|refine HZ fun σ hs=>?_|(refine fc (fun x hx hlt hc=>?_) (fun hk hc=>?_)<;>(try rw[hc])<;>clear hc)|(constructor<;>intro hc<;>(try rw[hc])<;>(replace hc:=bp hc)<;>try(exfalso;omega))|(intro nn hnn;generalize hg:BE _ nn _=σ;refine E3 hg fun hs=>?_;clear hg)|clear U K)<;>conv=>whnf)
     rw[KJ]at hn;refine C1 ((TB p false hv p.main 0 s (by omega) (by omega) hl [.box n5 (BR (Ab p))] σ hs).mono ?_);cases hw:Cb p false 12 p.main 0 s with
     | none=>
       rw[hw]at hn;clear hs;rintro r σ' ⟨rfl,s',hl',hs⟩
       conv=>whnf
       repeat'((first|(refine Z _ _ _ ?_;clear Z B Y A)|clear U K)<;>conv=>whnf)
       exact Ym (v:=v) (s:=s') hn hs (.cons₂ _ (.cons₂ _ (QN _)))
     | some s2=>
       rw[hw]at hn;have hge2:=Lp _ (by omega) hw hge;simp only[iP hge2]at hn;clear hs;rintro r σ' ⟨rfl,hs⟩;have hct:=fun f=>EH s2 f (-1)
       cases hyes:s2.contains (-1)with
       | true=>
         rw[hyes]at hct hn
         conv=>whnf
         repeat'((first|(apply si;intro A B Y Z)|(apply Y;clear Z B Y A)|(apply U;clear U K)|refine ld ?_|fail)<;>conv=>whnf)
         refine Pure.Yt (hct false) (.cons (hs.I6 1 rfl) (.cons (.refl _) .nil)) rfl ?_
         conv=>whnf
         repeat'((first|(refine Z _ _ _ ?_;clear Z B Y A)|(refine C4 (fun hc=>?_) (fun hc=>?_)<;>(replace hc:=bp hc)<;>(try simp(disch:=omega) only[Bz,wrap64,AP]at hc)<;>(try(cases hc;done)))|fail)<;>conv=>whnf)
         all_goals exact Ym (v:=v) (s:=s2) hn (by first|exact hs|exact hs.up (by assumption)) (.cons₂ _ (.cons₂ _ (QN _)))
       | false=>
         rw[hyes]at hct hn
         conv=>whnf
         repeat'((first|(apply si;intro A B Y Z)|(apply Y;clear Z B Y A)|(apply U;clear U K)|refine ld ?_|fail)<;>conv=>whnf)
         refine Pure.Yt (hct false) (.cons (hs.I6 1 rfl) (.cons (.refl _) .nil)) rfl ?_
         conv=>whnf
         repeat'((first|(apply Y;clear Z B Y A)|(refine C4 (fun hc=>?_) (fun hc=>?_)<;>(replace hc:=bp hc)<;>(try simp(disch:=omega) only[Bz,wrap64,AP]at hc)<;>(try(cases hc;done)))|fail)<;>conv=>whnf)
         all_goals exact szT (v:=v) hn hs (.cons₂ _ (.cons₂ _ (QN _)))
end Go.Gl
namespace Go.Gl
variable {P:Program} {σ:AH}
theorem aI {v:V} {Q Q':R→AH→Prop} (h:BQ σ v Q) (hq: ∀r σ,Q r σ→Q' r σ):BQ σ v Q':=by
 obtain⟨vf,s2,h1,h2,h3⟩:=h;exact⟨vf,s2,h1,h2,hq _ _ h3⟩
theorem Df.more {α S:Type} {g:FuncId} {fi ca:List V} {ea:α→V} {H:S→List At} {stp:α→S→Bool×S} {D:α→S→Prop} (h:Df P (.f (.func g) fi ca) ea H stp D) (pre:List At):Df P (.f (.func g) fi ca) ea (fun s=>pre++H s) stp D:=fun y s hd σ hs=>by
 have h1:B9 P g (fi++[ea y]++ca) (H s) fun r post=>r= .ret (.b (stp y s).1)∧post=H (stp y s).2:=fun σ hs=>Be.mono (h y s hd σ hs) fun r σ' ⟨e,h2⟩=>⟨_,⟨e,rfl⟩,h2⟩
 refine C1 (h1.use (rest:=pre) (hs.perm TZ) ?_);rintro r post σ' ⟨rfl,rfl⟩ hs';exact⟨rfl,hs'.perm TZ⟩
def NV {α S:Type} (P:Program) (x:V) (ea:α→V) (H:S→List At) (f:α→Bool) (J:S→Prop) (D:α→Prop):Prop:=
 ∀y s,D y→J s→ ∀σ,Sat σ (H s)→Bk P x [ea y] σ fun r σ'=>r= .ret (.b (f y))∧ ∃s',J s'∧Sat σ' (H s')
theorem NV.use {α S:Type} {x:V} {ea:α→V} {H:S→List At} {f:α→Bool} {J:S→Prop} {D:α→Prop} (h:NV P x ea H f J D) {y:α} {s:S} (hd:D y) (hj:J s) (hs:Sat σ (H s)) {k kp:V→AH→Prop} (hk: ∀s' σ',J s'→Sat σ' (H s')→k (.b (f y)) σ'):Bk P x [ea y] σ (qk k kp):=
 (h y s hd hj σ hs).mono fun r σ' ⟨e,s',hj',h'⟩=>by rw[e];exact hk s' σ' hj' h'
def NT {α:Type} (f:α→Bool):List α→Nat→Int
 | [],_=> -1
 | y::r,k=>if f y then(k:Int)else NT f r (k+1)
theorem Uv {α:Type} (f:α→Bool): ∀(xs:List α) (k:Nat),decide (NT f xs k≥0)=xs.any f
 | [],_=>rfl
 | y::r,k=>by
   rw[NT,Qe];cases f y
   ·exact Uv f r (k+1)
   ·simp
end Go.Gl
namespace Go.Gl
structure Kn where
 low:Int
 high:Int
 no:List Int
 CL:Nat
 Gu:Nat
 whole:Bool
 A4:Bool
 AK:List Int
def k0:Kn:=⟨-1000000000,1000000000,[],0,0,false,false,[]⟩
def JP (l:List Int) (s:Int):List Int:=if l.contains s then l else(l++[s]).mergeSort Oe
def C5 (k:Kn) (f:Fact) (b:Bool):Kn:=
 if f.op=2 then(if b then {k with Gu:=k.Gu|||2 ^ f.cls.toNat}else {k with CL:=k.CL|||2 ^ f.cls.toNat})
 else if f.op=3 then(if b then {k with low:=if f.n > k.low then f.n else k.low}else {k with high:=if f.n - 1<k.high then f.n - 1 else k.high,whole:=true})
 else if b then {k with no:=k.no++[f.n]}else {k with low:=if f.n > k.low then f.n else k.low,high:=if f.n<k.high then f.n else k.high,whole:=true}
def D7 (k:Kn) (b:Bool):Kn:={k with A4:=k.A4|| !b}
def ew (k:Kn) (s:Int):Kn:={k with AK:=JP k.AK s}
def DT (a:Int) (p:List Int) (k:Kn) (l:Fact):Kn:=
 if(BV l).1.arg=a∧CH (BV l).1.path p=true then
  (if(BV l).1.path=p then C5 (D7 k (BV l).2) (BV l).1 (BV l).2 else ew (D7 k (BV l).2) ((BV l).1.path.getD p.length 0))
 else k
def kn (ls:List Fact) (a:Int) (p:List Int):Kn:=ls.foldl (DT a p) k0
theorem XK (k:Kn) (f:Fact) (b:Bool):(C5 k f b).A4=k.A4:=by
 unfold C5
 (repeat' split)<;>rfl
theorem Ri (k:Kn) (f:Fact) (b:Bool):(C5 k f b).AK=k.AK:=by
 unfold C5
 (repeat' split)<;>rfl
theorem TI (a:Int) (p:List Int) (k:Kn) (l:Fact):(DT a p k l).A4=(k.A4|| !((BV l).2|| !((BV l).1.arg==a&&CH (BV l).1.path p))):=by
 unfold DT;split
 ·rename_i h
  have e:((BV l).1.arg==a)=true:=by simpa using h.1
  rw[e,h.2];split
  ·rw[XK];simp[D7]
  ·simp[ew,D7]
 ·rename_i h
  have:((BV l).1.arg==a&&CH (BV l).1.path p)=false:=by
   cases hb:((BV l).1.arg==a&&CH (BV l).1.path p)with
   | false=>rfl
   | true=>rw[Bj]at hb;exact absurd ⟨by simpa using hb.1,hb.2⟩ h
  rw[this];simp
theorem MJ (a:Int) (p:List Int): ∀(ls:List Fact) (k:Kn),(ls.foldl (DT a p) k).A4=(k.A4|| !G0 ls a p)
 | [],k=>by simp[G0]
 | l::r,k=>by
   rw[List.foldl_cons,MJ a p r,TI];simp only[G0,OA];generalize (r.all _)=x;generalize ((BV l).2||_)=y;cases k.A4<;>cases x<;>cases y<;>rfl
theorem M6 (ls:List Fact) (a:Int) (p:List Int):(kn ls a p).A4= !G0 ls a p:=by rw[kn,MJ];rfl
theorem aD (l:List Int) (s x:Int):x∈JP l s↔x∈l∨x=s:=by
 unfold JP;split
 ·rename_i h
  rw[List.contains_iff_mem]at h;constructor
  ·exact .inl
  ·rintro(h'|rfl)
   ·exact h'
   ·exact h
 ·rw[(List.mergeSort_perm _ Oe).mem_iff];simp
theorem TQ {l:List Int} (s:Int) (h:l.Pairwise (· < ·)):(JP l s).Pairwise (· < ·):=by
 unfold JP;split
 ·exact h
 ·rename_i hc
  have hc':s∉l:=by simpa using hc
  have hp:=List.mergeSort_perm (l++[s]) Oe;have h1:((l++[s]).mergeSort Oe).Pairwise (fun a b=>Oe a b=true):=List.pairwise_mergeSort (fun a b c=>by simp only[Oe,D4];omega) (fun a b=>by simp only[Oe,HW,D4];omega) _
  have h2:((l++[s]).mergeSort Oe).Nodup:=hp.nodup_iff.2 (by
   rw[List.nodup_append];refine⟨h.imp fun hab=>by omega,by simp,fun a ha b hb=>?_⟩;simp only[OZ]at hb;rintro rfl
   exact hc' (hb ▸ ha))
  exact(h1.and h2).imp fun⟨h3,h4⟩=>by
   simp only[Oe,D4]at h3;omega
theorem Ph: ∀ {l m:List Int},l.Pairwise (· < ·)→m.Pairwise (· < ·)→(∀x,x∈l↔x∈m)→l=m
 | [],[],_,_,_=>rfl
 | [],y::m,_,_,h=>absurd ((h y).2 (.head _)) (by simp)
 | x::l,[],_,_,h=>absurd ((h x).1 (.head _)) (by simp)
 | x ::l,y::m,h1,h2,h=>by
   rw[List.pairwise_cons]at h1 h2
   have hxy:x=y:=by
    rcases IC.1 ((h x).1 (.head _))with e|hx
    ·exact e
    ·rcases IC.1 ((h y).2 (.head _))with e|hy
     ·exact e.symm
     ·have:=h1.1 y hy
      have:=h2.1 x hx;omega
   subst hxy;congr 1;refine Ph h1.2 h2.2 fun z=>?_
   constructor
   ·intro hz
    rcases IC.1 ((h z).1 (.tail _ hz))with e|hz'
    ·have:=h1.1 z hz;omega
    ·exact hz'
   ·intro hz
    rcases IC.1 ((h z).2 (.tail _ hz))with e|hz'
    ·have:=h2.1 z hz;omega
    ·exact hz'
theorem EG {path pre:List Int}:CH path pre=true↔ ∃t,path=pre++t:=by
 simp only[CH,Bj,D4,FL];constructor
 ·rintro⟨_,h⟩
  exact⟨path.drop pre.length,by conv=>lhs;rw[←List.take_append_drop pre.length path,h]⟩
 ·rintro⟨t,rfl⟩
  simp
theorem Vg {path p:List Int} {s:Int}:CH path (p++[s])=true↔CH path p=true∧path≠p∧path.getD p.length 0=s:=by
 rw[EG,EG];constructor
 ·rintro⟨t,rfl⟩
  refine⟨⟨s::t,by simp⟩,fun e=>?_,by simp⟩;have:=congrArg List.length e;simp at this
 ·rintro⟨⟨t,rfl⟩,hne,hs⟩
  cases t with
  | nil=>simp at hne
  | cons y t=>simp at hs;subst hs;exact⟨t,by simp⟩
theorem YA {a:Int} {p:List Int} {s:Int} {l:Fact}:aO a p s l=true↔(BV l).1.arg=a∧CH (BV l).1.path p=true∧(BV l).1.path≠p∧(BV l).1.path.getD p.length 0=s:=by
 rw[aO,Bj,Vg,FL]
theorem VT (a:Int) (p:List Int) (k:Kn) (l:Fact):(DT a p k l).AK=if(BV l).1.arg=a∧CH (BV l).1.path p=true∧(BV l).1.path≠p then JP k.AK ((BV l).1.path.getD p.length 0)else k.AK:=by
 unfold DT;by_cases h1:(BV l).1.arg=a∧CH (BV l).1.path p=true
 ·rw[if_pos h1]
  by_cases h2:(BV l).1.path=p
  ·rw[if_pos h2,if_neg (fun h=>h.2.2 h2),Ri];rfl
  ·rw[if_neg h2,if_pos ⟨h1.1,h1.2,h2⟩];rfl
 ·rw[if_neg h1,if_neg (fun h=>h1 ⟨h.1,h.2.1⟩)]
theorem P4 (a:Int) (p:List Int): ∀(ls:List Fact) (k:Kn),k.AK.Pairwise (· < ·)→(ls.foldl (DT a p) k).AK.Pairwise (· < ·)∧ ∀s,s∈(ls.foldl (DT a p) k).AK↔s∈k.AK∨ls.any (aO a p s)=true
 | [],k,h=>⟨h,fun s=>by simp⟩
 | l ::r,k,h=>by
   rw[List.foldl_cons];have e:=VT a p k l
   have h1:(DT a p k l).AK.Pairwise (· < ·):=by
    rw[e];split
    ·exact TQ _ h
    ·exact h
   obtain⟨i1,i2⟩:=P4 a p r _ h1;refine⟨i1,fun s=>?_⟩;rw[i2,e,Qe,HW,YA];split
   ·rename_i hc
    rw[aD];constructor
    ·rintro((h|rfl)|h)
     ·exact .inl h
     ·exact .inr (.inl ⟨hc.1,hc.2.1,hc.2.2,rfl⟩)
     ·exact .inr (.inr h)
    ·rintro(h|⟨-,-,-,h⟩|h)
     ·exact .inl (.inl h)
     ·exact .inl (.inr h.symm)
     ·exact .inr h
   ·rename_i hc
    constructor
    ·rintro(h|h)
     ·exact .inl h
     ·exact .inr (.inr h)
    ·rintro(h|⟨q1,q2,q3,-⟩|h)
     ·exact .inl h
     ·exact absurd ⟨q1,q2,q3⟩ hc
     ·exact .inr h
def IL (n:Nat) (ls:List Fact):Prop:= ∀l∈ls,∀s∈(BV l).1.path,(0:Int)≤s∧s<n
theorem We {n:Nat} {s:Int}:s∈C8 n↔0≤s∧s<n:=by
 simp only[C8,Ob,List.mem_range];constructor
 ·rintro⟨m,hm,rfl⟩
  exact⟨Int.natCast_nonneg m,by simpa using hm⟩
 ·rintro⟨h0,h1⟩
  exact⟨s.toNat,by omega,by simp;omega⟩
theorem Qa (n:Nat):(C8 n).Pairwise (· < ·):=by
 rw[C8,List.pairwise_map];exact List.pairwise_lt_range.imp fun h=>by simpa using h
theorem uw {n:Nat} {ls:List Fact} (h:IL n ls) {a:Int} {p:List Int} {s:Int} {l:Fact} (hl:l∈ls) (hg:aO a p s l=true):0≤s∧s<n:=by
 rw[YA]at hg;obtain⟨-,h2,h3,h4⟩:=hg;obtain⟨t,ht⟩:=EG.1 h2;refine h l hl s ?_;rw[ht]at h3 h4 ⊢;cases t with
 | nil=>simp at h3
 | cons y t=>simp at h4;subst h4;simp
theorem L0 {n:Nat} {ls:List Fact} (h:IL n ls) (a:Int) (p:List Int):(kn ls a p).AK=Cg n ls a p:=by
 obtain⟨h1,h2⟩:=P4 a p ls k0 .nil;refine Ph h1 ((Qa n).filter _) fun s=>?_
 show s∈(ls.foldl (DT a p) k0).AK↔_;rw[h2,Cg,Rr,We];constructor
 ·rintro(h|hs)
  ·cases h
  ·obtain⟨l,hl,hg⟩:=Nt.1 hs
   exact⟨uw h hl hg,hs⟩
 ·exact fun hs=> .inr hs.2
def E0 (os:List Fact) (k:Kn):Kn:=os.foldl (fun k l=>C5 k (BV l).1 (BV l).2) k
abbrev FK (k:Kn):Int×Int×List Int×Nat×Nat×Bool:=(k.low,k.high,k.no,k.CL,k.Gu,k.whole)
theorem Uz {k k':Kn} (h:FK k=FK k') (f:Fact) (b:Bool):FK (C5 k f b)=FK (C5 k' f b):=by
 cases k;cases k';simp only[FK,Prod.mk.injEq]at h;obtain⟨rfl,rfl,rfl,rfl,rfl,rfl⟩:=h;unfold C5
 (repeat' split)<;>rfl
theorem Nr (p:List Int):CH p p=true:=EG.2 ⟨[],by simp⟩
theorem Z3 (a:Int) (p:List Int) (k:Kn) (l:Fact):FK (DT a p k l)=if I8 a p l then FK (C5 k (BV l).1 (BV l).2)else FK k:=by
 unfold DT I8;by_cases h1:(BV l).1.arg=a
 ·by_cases h2:(BV l).1.path=p
  ·have e:((BV l).1.arg==a&&(BV l).1.path==p)=true:=by simp[h1,h2]
   rw[if_pos ⟨h1,by rw[h2];exact Nr p⟩,if_pos h2,e,if_pos rfl];exact Uz (k:=D7 k (BV l).2) (k':=k) rfl _ _
  ·have e:((BV l).1.arg==a&&(BV l).1.path==p)=false:=by simp[h2]
   rw[if_neg h2,e,if_neg Bool.false_ne_true];split<;>rfl
 ·have e:((BV l).1.arg==a&&(BV l).1.path==p)=false:=by simp[h1]
  rw[if_neg (fun h=>h1 h.1),e,if_neg Bool.false_ne_true]
theorem NG (a:Int) (p:List Int): ∀(ls:List Fact) (k k':Kn),FK k=FK k'→FK (ls.foldl (DT a p) k)=FK (E0 (ls.filter (I8 a p)) k')
 | [],k,k',h=>h
 | l ::r,k,k',h=>by
   rw[List.foldl_cons,List.filter_cons];have e:=Z3 a p k l;split
   ·rename_i ho
    rw[if_pos ho]at e;exact NG a p r _ _ (e.trans (Uz h _ _))
   ·rename_i ho
    rw[if_neg (by simpa using ho)]at e;exact NG a p r _ _ (e.trans h)
theorem OQ (ls:List Fact) (a:Int) (p:List Int):FK (kn ls a p)=FK (E0 (ls.filter (I8 a p)) k0):=NG a p ls k0 k0 rfl
def tF (x:Fact×Bool):Bool:= !(x.1.op==2)||(decide (x.1.cls > 1)==x.2)
theorem Y9 (x:Fact×Bool) (k:Kn):JJ x (k.low,k.high,k.no)=if tF x then some ((C5 k x.1 x.2).low,(C5 k x.1 x.2).high,(C5 k x.1 x.2).no)else none:=by
 unfold JJ tF C5;by_cases h2:x.1.op=2
 ·rw[if_pos h2,if_pos h2]
  cases x.2<;>cases decide (x.1.cls > 1)<;>simp[h2]
 ·rw[if_neg h2,if_neg h2]
  by_cases h3:x.1.op=3
  ·rw[if_pos h3,if_pos h3]
   cases x.2<;>simp[h2]
  ·rw[if_neg h3,if_neg h3]
   cases x.2<;>simp[h2]
theorem RX: ∀(os:List Fact) (k:Kn),foldI os (k.low,k.high,k.no)=if os.all (fun l=>tF (BV l))then some ((E0 os k).low,(E0 os k).high,(E0 os k).no)else none
 | [],k=>rfl
 | l ::r,k=>by
   rw[foldI,Y9,OA];cases hb:tF (BV l)with
   | false=>rfl
   | true=>
     rw[if_pos rfl,Option.bind_some,RX r,I7];rfl
theorem ee (k:Kn) (f:Fact) (c:Bool) (b:Nat):(C5 k f c).CL.testBit b=(k.CL.testBit b||(f.op==2&& !c&&f.cls.toNat==b)):=by
 unfold C5;by_cases h2:f.op=2
 ·rw[if_pos h2]
  cases c<;>simp[h2,Nat.testBit_or,Nat.testBit_two_pow,Bool.beq_eq_decide_eq]
 ·rw[if_neg h2]
  have:(f.op==2)=false:=by simpa using h2
  rw[this]
  repeat' split
  all_goals simp
theorem mL (k:Kn) (f:Fact) (c:Bool) (b:Nat):(C5 k f c).Gu.testBit b=(k.Gu.testBit b||(f.op==2&&c&&f.cls.toNat==b)):=by
 unfold C5;by_cases h2:f.op=2
 ·rw[if_pos h2]
  cases c<;>simp[h2,Nat.testBit_or,Nat.testBit_two_pow,Bool.beq_eq_decide_eq]
 ·rw[if_neg h2]
  have:(f.op==2)=false:=by simpa using h2
  rw[this]
  repeat' split
  all_goals simp
theorem aB (k:Kn) (f:Fact) (c:Bool):(C5 k f c).whole=(k.whole||(!c&& !(f.op==2))):=by
 unfold C5;by_cases h2:f.op=2
 ·rw[if_pos h2]
  cases c<;>simp[h2]
 ·rw[if_neg h2]
  have:(f.op==2)=false:=by simpa using h2
  rw[this];cases c<;>(repeat' split)<;>simp_all
theorem NJ: ∀(os:List Fact) (k:Kn) (b:Nat),(E0 os k).CL.testBit b=(k.CL.testBit b||os.any fun l=>(BV l).1.op==2&& !(BV l).2&&(BV l).1.cls.toNat==b)
 | [],k,b=>by simp[E0]
 | l::r,k,b=>by
   have:=NJ r (C5 k (BV l).1 (BV l).2) b;rw[ee]at this;rw[Qe,←Bool.or_assoc,←this];rfl
theorem PX: ∀(os:List Fact) (k:Kn) (b:Nat),(E0 os k).Gu.testBit b=(k.Gu.testBit b||os.any fun l=>(BV l).1.op==2&&(BV l).2&&(BV l).1.cls.toNat==b)
 | [],k,b=>by simp[E0]
 | l::r,k,b=>by
   have:=PX r (C5 k (BV l).1 (BV l).2) b;rw[mL]at this;rw[Qe,←Bool.or_assoc,←this];rfl
theorem K9: ∀(os:List Fact) (k:Kn),(E0 os k).whole=(k.whole||os.any fun l=> !(BV l).2&& !((BV l).1.op==2))
 | [],k=>by simp[E0]
 | l::r,k=>by
   have:=K9 r (C5 k (BV l).1 (BV l).2);rw[aB]at this;rw[Qe,←Bool.or_assoc,←this];rfl
def QO (m up:Nat):Bool:=(List.range 64).all fun b=> !m.testBit b||up.testBit b
theorem PH {m up:Nat} (hm:m<2 ^ 64):QO m up=true↔ ∀b,m.testBit b=true→up.testBit b=true:=by
 simp only[QO,I0,List.mem_range,HW,Bool.not_eq_true'];constructor
 ·intro h b hb
  have hlt:b<64:=by
   rcases Nat.lt_or_ge b 64 with h'|h'
   ·exact h'
   ·rw[Nat.testBit_lt_two_pow (Nat.lt_of_lt_of_le hm (Nat.pow_le_pow_right (by decide) h'))]at hb;cases hb
  rcases h b hlt with h'|h'
  ·rw[hb]at h';cases h'
  ·exact h'
 ·intro h b _
  cases hb:m.testBit b with
  | false=>exact .inl rfl
  | true=>exact .inr (h b hb)
theorem PW {m n:Nat}:(m&&&n==0)=true↔ ∀b,m.testBit b=true→n.testBit b=true→False:=by
 rw[FL];constructor
 ·intro h b h1 h2
  have:=congrArg (fun x=>x.testBit b) h;simp[Nat.testBit_and,h1,h2]at this
 ·intro h
  refine Nat.eq_of_testBit_eq fun b=>?_
  rw[Nat.testBit_and,Nat.zero_testBit];cases h1:m.testBit b with
  | false=>rfl
  | true=>
    cases h2:n.testBit b with
    | false=>rfl
    | true=>exact(h b h1 h2).elim
theorem Sd (c b:Nat):(1|||2 ^ c).testBit b=(b==0||b==c):=by
 rw[Nat.testBit_or,Nat.testBit_two_pow,show(1:Nat)=2 ^ 0 from rfl,Nat.testBit_two_pow];rw[KZ];simp only[HW,D4,FL];omega
def JF (n:Nat) (ls:List Fact):Prop:= ∀l∈ls,(BV l).1.op=2→0≤(BV l).1.cls∧(BV l).1.cls<n
theorem Py {m n:Nat} (h: ∀b,m.testBit b=true→b<n):m<2 ^ n:=by
 refine Nat.lt_pow_two_of_testBit _ fun i hi=>?_
 cases hb:m.testBit i with
 | false=>rfl
 | true=>have:=h i hb;omega
theorem Ss {os:List Fact} {n:Nat} (h:JF n os):(E0 os k0).CL<2 ^ n:=Py fun b hb=>by
 rw[NJ]at hb;simp only[k0,Nat.zero_testBit,Bool.false_or,Nt,Bj,FL]at hb;obtain⟨l,hl,⟨h2,-⟩,rfl⟩:=hb;have:=h l hl h2;omega
theorem uD {os:List Fact} {n:Nat} (h:JF n os):(E0 os k0).Gu<2 ^ n:=Py fun b hb=>by
 rw[PX]at hb;simp only[k0,Nat.zero_testBit,Bool.false_or,Nt,Bj,FL]at hb;obtain⟨l,hl,⟨h2,-⟩,rfl⟩:=hb;have:=h l hl h2;omega
theorem Ly {os:List Fact} {b:Nat}:(E0 os k0).CL.testBit b=true↔ ∃l∈os,(BV l).1.op=2∧(BV l).2=false∧(BV l).1.cls.toNat=b:=by
 rw[NJ];simp only[k0,Nat.zero_testBit,Bool.false_or,Nt,Bj,FL,Bool.not_eq_true',and_assoc]
theorem Xz {os:List Fact} {b:Nat}:(E0 os k0).Gu.testBit b=true↔ ∃l∈os,(BV l).1.op=2∧(BV l).2=true∧(BV l).1.cls.toNat=b:=by
 rw[PX];simp only[k0,Nat.zero_testBit,Bool.false_or,Nt,Bj,FL,and_assoc]
theorem ZK {os:List Fact} {n:Nat} (hn:n≤64) (h:JF n os):(QO (E0 os k0).CL (1|||2 ^ 1)&&((E0 os k0).Gu&&&(1|||2 ^ 1)==0))=os.all fun l=>tF (BV l):=by
 rw[KZ,Bj,PH (Nat.lt_of_lt_of_le (Ss h) (Nat.pow_le_pow_right (by decide) hn)),PW];simp only[Ly,Xz,Sd,I0,tF,HW,Bool.not_eq_true',beq_eq_false_iff_ne,FL,ne_eq];constructor
 ·rintro⟨h1,h2⟩ l hl
  by_cases ho:(BV l).1.op=2
  ·right
   have hc:=h l hl ho;cases hb:(BV l).2 with
   | false=>
     have:=h1 _ ⟨l,hl,ho,hb,rfl⟩;rw[decide_eq_false_iff_not];omega
   | true=>
     rw[D4];rcases Int.lt_or_le 1 (BV l).1.cls with hlt|hle
     ·exact hlt
     ·exact(h2 _ ⟨l,hl,ho,hb,rfl⟩ (by omega)).elim
  ·exact .inl ho
 ·intro h1
  constructor
  ·rintro b ⟨l,hl,ho,hb,rfl⟩
   rcases h1 l hl with h'|h'
   ·exact absurd ho h'
   ·have hc:=h l hl ho
    rw[hb,decide_eq_false_iff_not]at h';omega
  ·rintro b ⟨l,hl,ho,hb,rfl⟩ hu
   rcases h1 l hl with h'|h'
   ·exact absurd ho h'
   ·have hc:=h l hl ho
    rw[hb,D4]at h';omega
theorem Y8 (x:Fact×Bool):(!KD x)=true↔(x.2=false→x.1.op=2∧(x.1.cls=0∨x.1.cls=2))∧(x.2=true→ ¬(x.1.op=2∧(x.1.cls=0∨x.1.cls=2))):=by
 have e:(x.1.op==2&&(x.1.cls==0||x.1.cls==2))=true↔x.1.op=2∧(x.1.cls=0∨x.1.cls=2):=by
  simp only[Bj,HW,FL]
 rw[←e,KD];generalize (x.1.op==2&&(x.1.cls==0||x.1.cls==2))=y;cases x.2<;>cases y<;>simp
theorem Y3 {os:List Fact}:(!(E0 os k0).whole)=true↔ ∀l∈os,(BV l).2=false→(BV l).1.op=2:=by
 rw[K9,Bool.not_eq_true',←Bool.not_eq_true];simp only[k0,Bool.false_or,Nt,Bj,Bool.not_eq_true',beq_eq_false_iff_ne];constructor
 ·intro h l hl hb
  rcases Classical.em ((BV l).1.op=2)with e|e
  ·exact e
  ·exact absurd ⟨l,hl,hb,e⟩ h
 ·rintro h ⟨l,hl,hb,e⟩
  exact e (h l hl hb)
theorem Wj {os:List Fact} {n:Nat} (hn:n≤64) (h:JF n os):(!(E0 os k0).whole&&(QO (E0 os k0).CL (1|||2 ^ 2)&&((E0 os k0).Gu&&&(1|||2 ^ 2)==0)))=os.all fun l=> !KD (BV l):=by
 rw[KZ,Bj,Bj,PH (Nat.lt_of_lt_of_le (Ss h) (Nat.pow_le_pow_right (by decide) hn)),PW,Y3,I0];simp only[Ly,Xz,Sd,HW,FL,Y8];constructor
 ·rintro⟨h0,h1,h2⟩ l hl
  refine⟨fun hb=>?_,fun hb ⟨ho,hc⟩=>h2 _ ⟨l,hl,ho,hb,rfl⟩ (by omega)⟩;have ho:=h0 l hl hb;have hc:=h l hl ho;have:=h1 _ ⟨l,hl,ho,hb,rfl⟩;exact⟨ho,by omega⟩
 ·intro h1
  refine⟨fun l hl hb=>((h1 l hl).1 hb).1,?_,?_⟩
  ·rintro b ⟨l,hl,ho,hb,rfl⟩
   have:=((h1 l hl).1 hb).2;omega
  ·rintro b ⟨l,hl,ho,hb,rfl⟩ hu
   have hc:=h l hl ho;exact(h1 l hl).2 hb ⟨ho,by omega⟩
theorem Qv {no:List Int}: ∀(k:Nat) (m:Int),(R1 no k m).isSome=true↔ ∃j:Nat,j<k∧m+j∉no
 | 0,m=>by simp[R1]
 | k + 1,m=>by
   rw[R1];split
   ·rename_i h
    simp only[Option.isSome_some,true_iff];refine⟨0,by omega,fun hm=>?_⟩;rw[I0]at h;have:=h _ hm;simp at this
   ·rename_i h
    rw[Qv k]
    have hm:m∈no:=by
     rcases Classical.em (m∈no)with h'|h'
     ·exact h'
     ·refine absurd (I0.2 fun x hx=>?_) h
      rw[bne_iff_ne];rintro rfl;exact h' hx
    constructor
    ·rintro⟨j,hj,h'⟩
     exact⟨j+1,by omega,by rw[show m+((j+1:Nat):Int)=m+1+j by omega];exact h'⟩
    ·rintro⟨j,hj,h'⟩
     cases j with
     | zero=>simp at h';exact absurd hm h'
     | succ j=>exact⟨j,by omega,by rw[show m+1+(j:Int)=m+((j+1:Nat):Int) by omega];exact h'⟩
theorem dK {low high n:Int} {no:List Int} (h0:low≤n) (h1:n∉no) (h2: ∀m,low≤m→m<n→m∈no):(Tz (low,high,no)).isSome=decide (n≤high):=by
 rw[KZ,Tz,Qv,D4];constructor
 ·rintro⟨j,hj,h⟩
  rcases Int.lt_or_le (low+j) n with hlt|hle
  ·exact absurd (h2 _ (by omega) hlt) h
  ·simp only at hj;omega
 ·intro h
  refine⟨(n - low).toNat,by simp only;omega,?_⟩;rw[show low+((n - low).toNat:Int)=n by omega];exact h1
end Go.Gl
namespace Go.Gl
theorem UK (g:List (List Int)) (k:Nat): ∀(m d:Nat),d<3+k→(Cv g (k+m)).getD d 0=(Cv g k).getD d 0
 | 0,d,_=>rfl
 | m+1,d,h=>by
   rw[show k+(m+1)=k+m+1 from rfl,Cv,←UK g k m d h];rw[FM,tC (by rw[GN];omega),←FM]
theorem UL (us:List Nat) (b:Nat): ∀(l:List Int) (s:Nat),(Vt us l s).testBit b=(s.testBit b||l.any fun c=>(us.getD c.toNat 0).testBit b)
 | [],s=>by simp[Vt]
 | c::r,s=>by
   have:=UL us b r (s|||us.getD c.toNat 0);rw[Qe,←Bool.or_assoc,←Nat.testBit_or,←this];rfl
theorem cY {α:Type} (f:α→Bool) (b:Bool): ∀(l:List α),(b||l.any fun x=>b||f x)=(b||l.any f)
 | []=>rfl
 | x::r=>by
   have:=cY f b r;simp only[Qe];cases b
   ·simpa using this
   ·rfl
theorem any_congr {α:Type} {f g:α→Bool}: ∀ {l:List α},(∀x∈l,f x=g x)→l.any f=l.any g
 | [],_=>rfl
 | x::r,h=>by
   rw[Qe,Qe,h x (.head _),any_congr fun y hy=>h y (.tail _ hy)]
theorem Sj {g:List (List Int)} (ho:ordered g): ∀(k d b:Nat),k≤g.length→d<3+k→((Cv g k).getD d 0).testBit b=(b==0||KA g d b)
 | 0,d,b,_,hd=>by
   have e:(Cv g 0).getD d 0=1|||2 ^ d:=by
    rcases d with _|_|_|d
    ·rfl
    ·rfl
    ·rfl
    ·omega
   rw[e,Sd,GY ho,par,if_pos (by omega),List.any_nil,Bool.or_false];rw[KZ];simp only[HW,FL];omega
 | k + 1,d,b,hk,hd=>by
   by_cases hlt:d<3+k
   ·rw[UK g k 1 d hlt]
    exact Sj ho k d b (by omega) hlt
   ·obtain rfl:d=3+k:=by omega
    have e:(Cv g (k+1)).getD (3+k) 0=Vt (Cv g k) (g.getD k []) (1|||2 ^ (3+k)):=by
     rw[Cv,FM,List.getElem?_append_right (by rw[GN];omega),GN,Nat.sub_self];rfl
    have hpar:par g (3+k)=g.getD k []:=by rw[par,if_neg (by omega),show 3+k - 3=k by omega]
    rw[e,UL,Sd,GY ho,hpar]
    have hc:((g.getD k []).any fun c=>((Cv g k).getD c.toNat 0).testBit b)=(g.getD k []).any fun p=>(b==0)||KA g p.toNat b:=any_congr fun p hp=>by
     have:=ho (3+k) p (by rw[hpar];exact hp);exact Sj ho k p.toNat b (by omega) (by omega)
    rw[hc];have e2:(b==3+k)=(3+k==b):=by rw[KZ];simp only[FL];omega
    rw[e2,Bool.or_assoc,Bool.or_left_comm,cY,Bool.or_left_comm]
theorem dG {g:List (List Int)} (ho:ordered g) {d b:Nat} (hd:d<3+g.length):((E5 g).getD d 0).testBit b=(b==0||KA g d b):=Sj ho g.length d b (J1 _) hd
theorem V7 {g:List (List Int)} (ho:ordered g): ∀(d b:Nat),3≤d→KA g d b=true→3≤b:=by
 intro d
 induction d using Nat.strongRecOn with
 | _ d ih=>
   intro b h3 h;rw[GY ho]at h;simp only[HW,FL,Nt]at h;rcases h with rfl|⟨p,hp,h⟩
   ·exact h3
   ·have:=ho d p hp
    exact ih p.toNat (by omega) b (by omega) h
def Dx (us:List Nat):Nat→Nat→Nat
 | 0,m=>m
 | k+1,m=>if(Dx us k m).testBit (3+k)then Dx us k m|||us.getD (3+k) 0 else Dx us k m
theorem QA {g : List (List Int)} (ho:ordered g) (m:Nat): ∀(k b:Nat),k≤g.length→((Dx (E5 g) k m).testBit b=true↔m.testBit b=true∨ ∃d,3≤d∧d<3+k∧m.testBit d=true∧(b=0∨KA g d b=true))
 | 0,b,_=>by
   rw[Dx];exact⟨.inl,fun h=>h.elim id fun⟨d,h1,h2,_⟩=>by omega⟩
 | k + 1, b, hk=>by
   have ih:=QA ho m k;rw[Dx];split
   ·rename_i hc
    rw[Nat.testBit_or,HW,ih b (by omega),dG ho (by omega),HW,FL];rw[ih _ (by omega)]at hc;constructor
    ·rintro((h|⟨d,h1,h2,h3,h4⟩)|h)
     ·exact .inl h
     ·exact .inr ⟨d,h1,by omega,h3,h4⟩
     ·rcases hc with hc|⟨d,h1,h2,h3,h4⟩
      ·exact .inr ⟨3+k,by omega,by omega,hc,h⟩
      ·refine .inr ⟨d,h1,by omega,h3,?_⟩
       rcases h with h|h
       ·exact .inl h
       ·rcases h4 with h4|h4
        ·omega
        ·exact .inr (Mr ho _ _ _ h4 h)
    ·rintro(h|⟨d,h1,h2,h3,h4⟩)
     ·exact .inl (.inl h)
     ·by_cases e:d=3+k
      ·subst e;exact .inr h4
      ·exact .inl (.inr ⟨d,h1,by omega,h3,h4⟩)
   ·rename_i hc
    rw[ih b (by omega)];constructor
    ·rintro(h|⟨d,h1,h2,h3,h4⟩)
     ·exact .inl h
     ·exact .inr ⟨d,h1,by omega,h3,h4⟩
    ·rintro(h|⟨d,h1,h2,h3,h4⟩)
     ·exact .inl h
     ·by_cases e:d=3+k
      ·subst e;exact absurd ((ih _ (by omega)).2 (.inl h3)) hc
      ·exact .inr ⟨d,h1,by omega,h3,h4⟩
theorem KV: ∀(l:List Int) (bs:List Bool),(∀q∈l,0≤q∧q.toNat<bs.length)→ ∀b:Nat,(l.foldl (fun b q=>b.set q.toNat true) bs).getD b false=(bs.getD b false||l.contains (b:Int))
 | [],bs,_,b=>by simp
 | q ::r,bs,h,b=>by
   have hq:=h q (.head _);rw[List.foldl_cons,KV r _ (fun x hx=>by rw[List.length_set];exact h x (.tail _ hx)),Gc hq.2,List.contains_cons];split
   ·rename_i e
    subst e;have:((q.toNat:Int)==q)=true:=by rw[FL];omega
    rw[this];simp
   ·rename_i e
    have:((b:Int)==q)=false:=by rw[beq_eq_false_iff_ne];omega
    rw[this,Bool.false_or]
theorem HU {g:List (List Int)} (ho:ordered g) {c:Nat} {bs:List Bool} (hc:c≤bs.length) (b:Nat):(H8 g c bs).getD b false=(bs.getD b false||(bs.getD c false&&(par g c).contains (b:Int))):=by
 rw[H8];split
 ·rename_i h
  rw[KV _ _ (fun q hq=>by have:=ho c q hq;omega),h,I7]
 ·rename_i h
  have:bs.getD c false=false:=by simpa using h
  rw[this,Bool.false_and,Bool.or_false]
theorem Io {g:List (List Int)} (ho:ordered g) {n:Nat} {S:List Bool} (hl:S.length=n): ∀(k b:Nat),(CM g n k S).getD b false=true→ ∃d,S.getD d false=true∧KA g d b=true
 | 0,b,h=>⟨b,h,Hn ho b⟩
 | k + 1,b,h=>by
   rw[CM,HU ho (by rw[FZ];omega),HW,Bj]at h;rcases h with h|⟨h1,h2⟩
   ·exact Io ho hl k b h
   ·obtain⟨d,h3,h4⟩:=Io ho hl k _ h1
    refine⟨d,h3,Mr ho _ _ _ h4 ?_⟩;rw[GY ho,HW,Nt];rw[List.contains_iff_mem]at h2;exact .inr ⟨_,h2,by rw[LG];exact Hn ho b⟩
theorem Vf {g:List (List Int)} (ho:ordered g) {n:Nat} {S:List Bool} (hl:S.length=n) (k b:Nat) (h:(CM g n k S).getD b false=true):(CM g n (k+1) S).getD b false=true:=by
 rw[CM,HU ho (by rw[FZ];omega),h];rfl
theorem No {g:List (List Int)} (ho:ordered g) {n:Nat} {S:List Bool} (hl:S.length=n): ∀(k b:Nat),S.getD b false=true→(CM g n k S).getD b false=true
 | 0,_,h=>h
 | k+1,b,h=>Vf ho hl k b (No ho hl k b h)
theorem KX {g:List (List Int)} (ho:ordered g) {n:Nat} {S:List Bool} (hl:S.length=n): ∀(k c:Nat),k≤n→n - k≤c→(CM g n k S).getD c false=true→ ∀q∈par g c,(CM g n k S).getD q.toNat false=true
 | 0,c,_,hc,h,q,hq=>by
   rw[CM,FM,List.getElem?_eq_none (by omega)]at h;cases h
 | k + 1,c,hk,hc,h,q,hq=>by
   rw[CM,HU ho (by rw[FZ];omega)]at h ⊢;have hoc:=ho c q hq;rw[HW,Bj]at h
   have hbase:(CM g n k S).getD c false=true:=by
    rcases h with h|⟨-,h2⟩
    ·exact h
    ·rw[List.contains_iff_mem]at h2
     have:=ho _ _ h2;omega
   by_cases e:c=n - 1 - k
   ·subst e
    rw[hbase,I7,HW,List.contains_iff_mem];exact .inr (by rw[show((q.toNat:Nat):Int)=q by omega];exact hq)
   ·rw[KX ho hl k c (by omega) (by omega) hbase q hq];rfl
theorem XG {g:List (List Int)} (ho:ordered g) {S:List Bool} (hl:S.length=3+g.length) (b:Nat):(CM g (3+g.length) g.length S).getD b false=true↔ ∃d,S.getD d false=true∧KA g d b=true:=by
 refine⟨Io ho hl _ b,?_⟩
 have key: ∀d,(CM g (3+g.length) g.length S).getD d false=true→KA g d b=true→(CM g (3+g.length) g.length S).getD b false=true:=by
  intro d
  induction d using Nat.strongRecOn with
  | _ d ih=>
    intro h1 h2;rw[GY ho,HW,FL,Nt]at h2;rcases h2 with rfl|⟨p,hp,h2⟩
    ·exact h1
    ·have hop:=ho d p hp
     refine ih p.toNat (by omega) (KX ho hl g.length d (by omega) ?_ h1 p hp) h2;omega
 rintro⟨d,h1,h2⟩;exact key d (No ho hl _ d h1) h2
def RB (n:Nat) (t:BB) (u:Nat×Nat):Prop:=
 t.1.length=n∧t.2.length=n∧(∀b,t.1.getD b false=u.1.testBit b)∧(∀b,b≠1→b≠2→t.2.getD b false=u.2.testBit b)∧u.1.testBit 1=false∧u.1.testBit 2=false
theorem Ge (m c b:Nat):(m|||2 ^ c).testBit b=(m.testBit b||b==c):=by
 rw[Nat.testBit_or,Nat.testBit_two_pow];congr 1;rw[KZ];simp only[D4,FL];omega
theorem OI {l:List Bool} {m c:Nat} (hc:c<l.length) {b:Nat} (h:l.getD b false=m.testBit b):(l.set c true).getD b false=(m|||2 ^ c).testBit b:=by
 rw[Gc hc,Ge,←h];split
 ·rename_i e;subst e;simp
 ·rename_i e
  have:(b==c)=false:=by simpa using e
  rw[this,Bool.or_false]
def SD (x:Fact×Bool):Bool:= !x.2&&(!(x.1.op==2)||x.1.cls==1||x.1.cls==2)
theorem Y7 {n:Nat} {x:Fact×Bool} {t:BB} {k:Kn} (h:RB n t (k.CL,k.Gu)) (hc:x.1.op=2→0≤x.1.cls∧x.1.cls<n) :
 (SD x=true→JI x t=none)∧(SD x=false→ ∃t',JI x t=some t'∧RB n t' ((C5 k x.1 x.2).CL,(C5 k x.1 x.2).Gu)):=by
 obtain⟨f,c⟩:=x;simp only at hc;obtain⟨h1,h2,h3,h4,h5,h6⟩:=h;unfold SD JI C5;simp only;by_cases ho:f.op=2
 ·have hc':=hc ho
  by_cases h12:f.cls=1∨f.cls=2
  ·rw[if_pos (.inr h12),if_pos ho]
   cases c with
   | true=>
     refine⟨fun h=>(by cases h),fun _=>⟨t,rfl,h1,h2,h3,fun b hb1 hb2=>?_,h5,h6⟩⟩;rw[if_pos rfl];show _=(k.Gu|||2 ^ f.cls.toNat).testBit b;rw[Ge,h4 b hb1 hb2];have:(b==f.cls.toNat)=false:=by rw[beq_eq_false_iff_ne];omega
     rw[this,Bool.or_false]
   | false=>
     refine⟨fun _=>rfl,fun h=>?_⟩;exfalso;rcases h12 with e|e<;>simp[e]at h
  ·have hn: ¬(f.op≠2∨f.cls=1∨f.cls=2):=by omega
   rw[if_neg hn,if_pos ho]
   have hb:(!c&&(!(f.op==2)||f.cls==1||f.cls==2))=false:=by
    have e1:(f.op==2)=true:=by simpa using ho
    have e2:(f.cls==1)=false:=by rw[beq_eq_false_iff_ne];omega
    have e3:(f.cls==2)=false:=by rw[beq_eq_false_iff_ne];omega
    rw[e1,e2,e3];simp
   rw[hb];refine⟨fun h=>(by cases h),fun _=>?_⟩;cases c with
   | true=>
     refine⟨_,rfl,h1,by simpa using h2,h3,fun b hb1 hb2=>?_,h5,h6⟩;exact OI (by omega) (h4 b hb1 hb2)
   | false=>
     refine⟨_,rfl,by simpa using h1,h2,fun b=>?_,h4,?_,?_⟩
     ·exact OI (by omega) (h3 b)
     ·show(k.CL|||2 ^ f.cls.toNat).testBit 1=false
      rw[Ge,h5];have:(1==f.cls.toNat)=false:=by rw[beq_eq_false_iff_ne];omega
      rw[this];rfl
     ·show(k.CL|||2 ^ f.cls.toNat).testBit 2=false
      rw[Ge,h6];have:(2==f.cls.toNat)=false:=by rw[beq_eq_false_iff_ne];omega
      rw[this];rfl
 ·rw[if_pos (.inl ho),if_neg ho]
  have e1:(f.op==2)=false:=by simpa using ho
  cases c with
  | true=>
    refine⟨fun h=>(by cases h),fun _=>⟨t,rfl,?_⟩⟩;split<;>exact⟨h1,h2,h3,h4,h5,h6⟩
  | false=>exact⟨fun _=>rfl,fun h=>by rw[e1]at h;cases h⟩
theorem RW {n:Nat}: ∀(os:List Fact) {t:BB} {k:Kn},RB n t (k.CL,k.Gu)→JF n os→
 (os.any (fun l=>SD (BV l))=true→Ft os t=none)∧(os.any (fun l=>SD (BV l))=false→ ∃t',Ft os t=some t'∧RB n t' ((E0 os k).CL,(E0 os k).Gu))
 | [],t,k,h,_=>⟨fun h=>(by cases h),fun _=>⟨t,rfl,h⟩⟩
 | l ::r,t,k,h,hc=>by
   obtain⟨s1,s2⟩:=Y7 h (hc l (.head _));rw[Qe,Ft];cases hb:SD (BV l)with
   | true=>exact⟨fun _=>by rw[s1 hb];rfl,fun h=>(by cases h)⟩
   | false=>
     obtain⟨t',h1,h2⟩:=s2 hb;rw[h1,Bool.false_or,Option.bind_some];exact RW r h2 fun x hx=>hc x (.tail _ hx)
theorem ed {os:List Fact} {n:Nat} (hc:JF n os):(os.any fun l=>SD (BV l))=((E0 os k0).whole||(E0 os k0).CL.testBit 1||(E0 os k0).CL.testBit 2):=by
 rw[KZ,HW,HW,Ly,Ly,K9];simp only[Nt,SD,Bj,HW,Bool.not_eq_true',FL,beq_eq_false_iff_ne,k0,Bool.false_or];constructor
 ·rintro⟨l,hl,hb,(h|h)|h⟩
  ·exact .inl (.inl ⟨l,hl,hb,h⟩)
  ·by_cases ho:(BV l).1.op=2
   ·exact .inl (.inr ⟨l,hl,ho,hb,by rw[h];rfl⟩)
   ·exact .inl (.inl ⟨l,hl,hb,ho⟩)
  ·by_cases ho:(BV l).1.op=2
   ·exact .inr ⟨l,hl,ho,hb,by rw[h];rfl⟩
   ·exact .inl (.inl ⟨l,hl,hb,ho⟩)
 ·rintro((⟨l,hl,hb,h⟩|⟨l,hl,ho,hb,h⟩)|⟨l,hl,ho,hb,h⟩)
  ·exact⟨l,hl,hb,.inl (.inl h)⟩
  ·have:=hc l hl ho
   exact⟨l,hl,hb,.inl (.inr (by omega))⟩
  ·have:=hc l hl ho
   exact⟨l,hl,hb,.inr (by omega)⟩
def XR (w:AM) (A4 can:Int→Bool) (s:Int) (u:Nat×Nat):Option (Nat×Nat):=
 if A4 s&& !can s then none else some (if A4 s then u.1|||2 ^ (EK w s).toNat else u.1,if can s then u.2 else u.2|||2 ^ (EK w s).toNat)
def It (w:AM) (A4 can:Int→Bool):List Int→Nat×Nat→Option (Nat×Nat)
 | [],u=>some u
 | s::r,u=>(XR w A4 can s u).bind (It w A4 can r)
theorem YH {w:AM} {ls:List Fact} {a:Int} {p:List Int} {can A4:Int→Bool} (hn: ∀s,A4 s= !G0 ls a (p++[s])) {n:Nat} (how: ∀s:Int,0≤s→s<w.owner.length→3≤EK w s∧EK w s<n) :
 ∀(sl:List Int) {t:BB} {u:Nat×Nat},(∀s∈sl,0≤s∧s<w.owner.length)→RB n t u→
 (FJ w ls a p can sl t=none∧It w A4 can sl u=none)∨ ∃t' u',FJ w ls a p can sl t=some t'∧It w A4 can sl u=some u'∧RB n t' u'
 | [],t,u,_,h=> .inr ⟨t,u,rfl,rfl,h⟩
 | s ::r,t,u,hsl,h=>by
   have hs:=hsl s (.head _);have ho:=how s hs.1 hs.2;rw[FJ,It,LN,XR,hn];obtain⟨h1,h2,h3,h4,h5,h6⟩:=h;split
   ·exact .inl ⟨rfl,rfl⟩
   ·rw[Option.bind_some,Option.bind_some]
    refine YH hn how r (fun x hx=>hsl x (.tail _ hx)) ?_;have hb: ∀i,i<3→(i==(EK w s).toNat)=false:=fun i hi=>by rw[beq_eq_false_iff_ne];omega
    cases G0 ls a (p++[s])<;>cases can s<;>refine⟨by simpa using h1,by simpa using h2,fun b=>?_,fun b hb1 hb2=>?_,?_,?_⟩
    all_goals simp only[Bool.not_false,Bool.not_true,NN,if_true,if_false]
    all_goals first
     | exact h3 b
     | exact h4 b hb1 hb2
     | exact h5
     | exact h6
     | exact OI (by omega) (h3 b)
     | exact OI (by omega) (h4 b hb1 hb2)
     | (rw[Ge,h5,hb 1 (by omega)];rfl)
     | (rw[Ge,h6,hb 2 (by omega)];rfl)
def Hd (m:Nat):Nat:=m - m % 2
theorem U0 (m b:Nat):(Hd m).testBit b=(m.testBit b&& !(b==0)):=by
 cases b with
 | zero=>
   simp[Hd,Nat.testBit_zero];omega
 | succ b=>
   rw[Nat.testBit_succ,Nat.testBit_succ,Hd,show(m - m % 2) / 2=m / 2 by omega];simp
theorem wB {w:AM} (ho:ordered w.parents) {t:BB} {u:Nat×Nat} (h:RB (3+w.parents.length) t u) :
 (Yw w t).isSome=(!u.2.testBit 0&&(Hd (Dx (E5 w.parents) w.parents.length u.1)&&&u.2==0)):=by
 obtain⟨h1,h2,h3,h4,h5,h6⟩:=h;rw[Yw,h4 0 (by decide) (by decide)];cases h0:u.2.testBit 0 with
 | true=>rfl
 | false =>
   rw[if_neg (by decide),Bool.not_false,I7];have hl:(t.1.set 0 false).length=3+w.parents.length:=by simpa using h1
   have G:=XG ho hl;have F:=QA ho u.1 w.parents.length
   have hS: ∀d,(t.1.set 0 false).getD d false=true↔d≠0∧u.1.testBit d=true:=fun d=>by
    rw[Gc (by omega)];split
    ·rename_i e;subst e;simp
    ·rename_i e;rw[h3];exact⟨fun h=>⟨e,h⟩,fun h=>h.2⟩
   have hlt: ∀b,u.1.testBit b=true→b<3+w.parents.length:=fun b hb=>by
    rw[←h3]at hb;rcases Nat.lt_or_ge b (3+w.parents.length)with h'|h'
    ·exact h'
    ·rw[FM,List.getElem?_eq_none (by omega)]at hb;cases hb
   have h3b: ∀d,d≠0→u.1.testBit d=true→3≤d:=fun d hd hb=>by
    rcases d with _|_|_|d
    ·exact absurd rfl hd
    ·rw[h5]at hb;cases hb
    ·rw[h6]at hb;cases hb
    ·omega
   have hM: ∀b,(Hd (Dx (E5 w.parents) w.parents.length u.1)).testBit b=true↔(CM w.parents (3+w.parents.length) w.parents.length (t.1.set 0 false)).getD b false=true:=fun b=>by
    rw[U0,Bj,F b (J1 _),G,Bool.not_eq_true',beq_eq_false_iff_ne];constructor
    ·rintro⟨h|⟨d,q1,q2,q3,q4⟩,hb⟩
     ·exact⟨b,(hS b).2 ⟨hb,h⟩,Hn ho b⟩
     ·rcases q4 with e|q4
      ·exact absurd e hb
      ·exact⟨d,(hS d).2 ⟨by omega,q3⟩,q4⟩
    ·rintro⟨d,hd,hu⟩
     obtain⟨hd0,hdu⟩:=(hS d).1 hd;have hd3:=h3b d hd0 hdu;have:=V7 ho d b hd3 hu;exact⟨.inr ⟨d,hd3,hlt d hdu,hdu,.inr hu⟩,by omega⟩
   have hany:((List.range (3+w.parents.length)).any fun c=>(CM w.parents (3+w.parents.length) w.parents.length (t.1.set 0 false)).getD c false&&t.2.getD c false)= !(Hd (Dx (E5 w.parents) w.parents.length u.1)&&&u.2==0):=by
    rw[KZ,Bool.not_eq_true',←Bool.not_eq_true,PW,Nt];constructor
    ·rintro⟨c,hc,hx⟩ hall
     rw[Bj]at hx;have hm:=(hM c).2 hx.1;obtain⟨d,hd,hu⟩:=(G c).1 hx.1;obtain⟨hd0,hdu⟩:=(hS d).1 hd;have:=V7 ho d c (h3b d hd0 hdu) hu;exact hall c hm (by rw[←h4 c (by omega) (by omega)];exact hx.2)
    ·intro hne
     rcases Classical.em (∃b,(Hd (Dx (E5 w.parents) w.parents.length u.1)).testBit b=true∧u.2.testBit b=true)with⟨b,hb1,hb2⟩|hno
     ·have hm:=(hM b).1 hb1
      obtain⟨d,hd,hu⟩:=(G b).1 hm;obtain⟨hd0,hdu⟩:=(hS d).1 hd;have:=V7 ho d b (h3b d hd0 hdu) hu;have:=bU ho d b hu;have:=hlt d hdu;exact⟨b,List.mem_range.2 (by omega),by rw[hm,h4 b (by omega) (by omega),hb2];rfl⟩
     ·exact absurd (fun b h1 h2=>hno ⟨b,h1,h2⟩) hne
   rw[hany];cases(Hd (Dx (E5 w.parents) w.parents.length u.1)&&&u.2==0)<;>rfl
def Ny (w:AM) (k:Kn) (A4 can:Int→Bool):Nat×Bool:=
 if k.whole||k.CL.testBit 1||k.CL.testBit 2||k.Gu.testBit 0 then(0,false)else
 match It w A4 can k.AK (k.CL,k.Gu)with
 | none=>(0,false)
 | some u=>(Hd (Dx (E5 w.parents) w.parents.length u.1),Hd (Dx (E5 w.parents) w.parents.length u.1)&&&u.2==0)
theorem P5 {w:AM} {A4 can:Int→Bool} (how: ∀s:Int,0≤s→s<w.owner.length→3≤EK w s): ∀(sl:List Int) {u u':Nat×Nat},(∀s∈sl,0≤s∧s<w.owner.length)→It w A4 can sl u=some u'→u'.2.testBit 0=u.2.testBit 0
 | [],u,u',_,h=>by cases h;rfl
 | s ::r,u,u',hsl,h=>by
   have hs:=hsl s (.head _);have ho:=how s hs.1 hs.2;rw[It,XR]at h;split at h
   ·cases h
   ·rw[Option.bind_some]at h
    rw[P5 how r (fun x hx=>hsl x (.tail _ hx)) h];simp only;split
    ·rfl
    ·rw[Ge]
     have:(0==(EK w s).toNat)=false:=by rw[beq_eq_false_iff_ne];omega
     rw[this,Bool.or_false]
theorem m7 {w:AM} {ls:List Fact} {a:Int} {p:List Int} {can A4:Int→Bool} (ho:ordered w.parents) (how: ∀s:Int,0≤s→s<w.owner.length→3≤EK w s∧EK w s<3+w.parents.length) (hc:JF (3+w.parents.length) ls) (hp:IL w.owner.length ls) (hn: ∀s,A4 s= !G0 ls a (p++[s])) :
 (Ny w (kn ls a p) A4 can).2=(Oi w ls a p can).isSome:=by
 have hcore:=OQ ls a p;have hsl:=L0 hp a p;generalize kn ls a p=k at *;have hc2:JF (3+w.parents.length) (ls.filter (I8 a p)):=fun l hl=>hc l (Rr.1 hl).1
 simp only[FK,Prod.mk.injEq]at hcore;obtain⟨-,-,-,c4,c5,c6⟩:=hcore;rw[Ny,Oi,c4,c5,c6,←ed hc2,hsl]
 have hR0:RB (3+w.parents.length) (tO w) (k0.CL,k0.Gu):=by
  refine⟨by simp[tO],by simp[tO],fun b=>?_,fun b _ _=>?_,rfl,rfl⟩<;>
  ·simp only[tO,k0,Nat.zero_testBit,FM,List.getElem?_replicate]
   split<;>rfl
 obtain⟨f1,f2⟩:=RW _ hR0 hc2;cases hbad:(ls.filter (I8 a p)).any fun l=>SD (BV l)with
 | true=>rw[f1 hbad];rfl
 | false=>
   obtain⟨t,ht,G⟩:=f2 hbad;rw[ht,Option.bind_some,Bool.false_or];have hin: ∀s∈Cg w.owner.length ls a p,0≤s∧s<(w.owner.length:Int):=fun s hs=>Mu hs
   rcases YH (can:=can) hn (fun s h0 h1=>by have:=how s h0 h1;omega) (Cg w.owner.length ls a p) hin G with⟨e1,e2⟩|⟨t',u',e1,e2,hR'⟩
   ·rw[e1,e2]
    split<;>rfl
   ·rw[e1,e2,Option.bind_some,wB ho hR']
    have:=P5 (fun s h0 h1=>(how s h0 h1).1) _ hin e2;rw[this];simp only;cases((E0 (ls.filter (I8 a p)) k0).Gu.testBit 0)<;>rfl
end Go.Gl
namespace Go.Gl
abbrev Er (a:Int) (p:List Int):V:= .a [eI a,eI (p.length:Int),eI (p.getD 0 0),eI (p.getD 1 0)]
structure DO where
 a:Int
 p:List Int
 b:Nat
 vn:V
 vs:V
 k:Kn
abbrev DO.is (e:DO) (a:Int) (p:List Int):Bool:=e.a==a&&e.p==p
abbrev entC (b:Nat) (vn vs:V) (k:Kn):At:= .box b [eI k.low,eI k.high,vn,eU k.CL,eU k.Gu,.b k.whole,.b k.A4,vs]
abbrev ta (b:Nat) (vn vs:V) (k:Kn):List At:=[entC b vn vs k,.own vn 1 (iL k.no),.own vs 1 (iL k.AK)]
abbrev T6 (e:DO):List At:=ta e.b e.vn e.vs e.k
def Vn (es:List DO):List (V×V):=es.map fun e=>(Er e.a e.p,.p e.b 0)
def CQ (L:Nat) (es:List DO):List At:= .map L (Vn es)::es.flatMap T6
def Hf (L:Nat) (es pre post:List DO):List At:= .map L (Vn es)::(pre++post).flatMap T6
theorem Kp {e:DO} {a:Int} {p:List Int}:e.is a p=true↔e.a=a∧e.p=p:=by simp[DO.is]
theorem OR {e:DO} {a:Int} {p:List Int}:e.is a p=false↔ ¬(e.a=a∧e.p=p):=by rw[←Kp,Bool.not_eq_true]
theorem SO {a a':Int} {p p':List Int} (h:p.length≤2) (h':p'.length≤2):EB (Er a p) (Er a' p')=(a==a'&&p==p'):=by
 have e:EB (Er a p) (Er a' p')=(a==a'&&((p.length:Int)==p'.length&&(p.getD 0 0==p'.getD 0 0&&(p.getD 1 0==p'.getD 1 0)))):=by
  simp[EB,B6,Er]
 rw[e];congr 1
 match p,h,p',h' with
 | [],_,[],_=>rfl
 | [],_,[_],_=>simp
 | [],_,[_,_],_=>simp<;>omega
 | [_],_,[],_=>simp
 | [x],_,[y],_=>simp
 | [_],_,[_,_],_=>simp<;>omega
 | [_,_],_,[],_=>simp<;>omega
 | [_,_],_,[_],_=>simp<;>omega
 | [x,y],_,[z,u],_=>simp
theorem PN (es:List DO): ∀kv∈Vn es,Ba (.a [.i64,.i64,.i64,.i64]) kv.1=true:=by
 intro kv h;obtain⟨e,_,rfl⟩:=Ob.1 h;rfl
theorem Um {a:Int} {p:List Int} (hp:p.length≤2): ∀ {es:List DO},(∀e∈es,e.p.length≤2)→(∀e∈es,e.is a p=false)→Cq (Er a p) (Vn es)=none
 | [],_,_=>rfl
 | e ::r,hl,h=>by
   have he:=h e (.head _);rw[Vn,Fa,Cq,SO hp (hl e (.head _))]
   have:(a==e.a&&p==e.p)=false:=by
    rw[←he,DO.is,KZ];simp only[Bj,FL];exact⟨fun⟨h1,h2⟩=>⟨h1.symm,h2.symm⟩,fun⟨h1,h2⟩=>⟨h1.symm,h2.symm⟩⟩
   rw[this,cond_false];exact Um hp (fun x hx=>hl x (.tail _ hx)) (fun x hx=>h x (.tail _ hx))
theorem b6 {a:Int} {p:List Int} (hp:p.length≤2) (b:Nat) (vn vs:V) (k:Kn): ∀ {es:List DO},(∀e∈es,e.p.length≤2)→(∀e∈es,e.is a p=false)→D9 (Er a p) (.p b 0) (Vn es)=Vn (es++[⟨a,p,b,vn,vs,k⟩])
 | [],_,_=>rfl
 | e ::r,hl,h=>by
   have he:=h e (.head _);have ih:=b6 hp b vn vs k (fun x hx=>hl x (.tail _ hx)) (fun x hx=>h x (.tail _ hx));simp only[Vn]at ih;rw[Vn,Fa,D9,SO hp (hl e (.head _))]
   have:(a==e.a&&p==e.p)=false:=by
    rw[←he,DO.is,KZ];simp only[Bj,FL];exact⟨fun⟨h1,h2⟩=>⟨h1.symm,h2.symm⟩,fun⟨h1,h2⟩=>⟨h1.symm,h2.symm⟩⟩
   rw[this,cond_false,ih];rfl
theorem Ul {a:Int} {p:List Int} (hp:p.length≤2) {e:DO} (he:e.is a p=true) {post:List DO}: ∀ {pre:List DO},(∀x∈pre++e::post,x.p.length≤2)→(∀x∈pre,x.is a p=false)→Cq (Er a p) (Vn (pre++e::post))=some (.p e.b 0)
 | [],hl,_=>by
   rw[List.nil_append,Vn,Fa,Cq,SO hp (hl e (.head _))];obtain⟨h1,h2⟩:=Kp.1 he;rw[h1,h2];simp
 | x ::r,hl,h=>by
   have hx:=h x (.head _);rw[List.cons_append,Vn,Fa,Cq,SO hp (hl x (.head _))]
   have:(a==x.a&&p==x.p)=false:=by
    rw[←hx,DO.is,KZ];simp only[Bj,FL];exact⟨fun⟨h1,h2⟩=>⟨h1.symm,h2.symm⟩,fun⟨h1,h2⟩=>⟨h1.symm,h2.symm⟩⟩
   rw[this,cond_false];exact Ul hp he (fun y hy=>hl y (.tail _ hy)) (fun y hy=>h y (.tail _ hy))
theorem my (a:Int) (p:List Int): ∀(es:List DO),(∀e∈es,e.is a p=false)∨ ∃pre e post,es=pre++e::post∧e.is a p=true∧ ∀x∈pre,x.is a p=false
 | []=> .inl fun _ h=>by cases h
 | e ::r=>by
   cases h:e.is a p with
   | true=>exact .inr ⟨[],e,r,rfl,h,fun _ h=>by cases h⟩
   | false=>
     rcases my a p r with h1|⟨pre,x,post,rfl,h1,h2⟩
     ·exact .inl fun x hx=>by
       rcases IC.1 hx with rfl|hx
       ·exact h
       ·exact h1 x hx
     ·exact .inr ⟨e::pre,x,post,rfl,h1,fun y hy=>by
       rcases IC.1 hy with rfl|hy
       ·exact h
       ·exact h2 y hy⟩
theorem Uo (L:Nat) (pre post:List DO) (e:DO):(CQ L (pre++e::post)).Perm (T6 e++Hf L (pre++e::post) pre post):=by
 unfold CQ Hf;rw[List.flatMap_append,List.flatMap_cons,List.flatMap_append];refine List.Perm.trans ?_ (List.perm_middle.symm);refine List.Perm.cons _ ?_;rw[←TV,←TV];exact List.Perm.append_right _ TZ
theorem Wo {pre post:List DO} {e e':DO} (h1:e'.a=e.a) (h2:e'.p=e.p) (h3:e'.b=e.b):Vn (pre++e'::post)=Vn (pre++e::post):=by
 simp only[Vn,TR,Fa,h1,h2,h3]
theorem TE {L:Nat} {pre post:List DO} {e e':DO} (h1:e'.a=e.a) (h2:e'.p=e.p) (h3:e'.b=e.b):Hf L (pre++e'::post) pre post=Hf L (pre++e::post) pre post:=by
 rw[Hf,Hf,Wo h1 h2 h3]
structure EN (kf:Int→List Int→Kn) (es:List DO):Prop where
 val: ∀e∈es,e.k=kf e.a e.p
 non: ∀a p,(∀e∈es,e.is a p=false)→kf a p=k0
 one:es.Pairwise fun e e'=>e.is e'.a e'.p=false
 len: ∀e∈es,e.p.length≤2
def Qr (es:List DO):Prop:= ∀e∈es,∀s∈e.k.AK,∃e'∈es,e'.is e.a (e.p++[s])=true
theorem EN.congr {kf kf':Int→List Int→Kn} {es:List DO} (h:EN kf es) (e: ∀a p,kf a p=kf' a p):EN kf' es:=
 ⟨fun x hx=>(h.val x hx).trans (e _ _),fun a p hp=>(e a p).symm.trans (h.non a p hp),h.one,h.len⟩
theorem EN.add {kf:Int→List Int→Kn} {es:List DO} (h:EN kf es) {a:Int} {p:List Int} (hp:p.length≤2) (hn: ∀e∈es,e.is a p=false) (b:Nat) (vn vs:V):EN kf (es++[⟨a,p,b,vn,vs,k0⟩]):=by
 refine⟨fun x hx=>?_,fun a' p' h'=>h.non a' p' fun x hx=>h' x (Vj _ hx),?_,fun x hx=>?_⟩
 ·rcases F8.1 hx with hx|hx
  ·exact h.val x hx
  ·rw[OZ.1 hx];exact(h.non a p hn).symm
 ·rw[List.pairwise_append]
  exact⟨h.one,List.pairwise_singleton _ _,fun x hx y hy=>by rw[OZ.1 hy];exact hn x hx⟩
 ·rcases F8.1 hx with hx|hx
  ·exact h.len x hx
  ·rw[OZ.1 hx];exact hp
theorem Qr.add {es:List DO} (h:Qr es) {a:Int} {p:List Int} (b:Nat) (vn vs:V):Qr (es++[⟨a,p,b,vn,vs,k0⟩]):=by
 intro e he s hs;rcases F8.1 he with he|he
 ·obtain⟨e',h1,h2⟩:=h e he s hs
  exact⟨e',Vj _ h1,h2⟩
 ·rw[OZ.1 he]at hs
  cases hs
def Te (kf:Int→List Int→Kn) (a:Int) (p:List Int) (k:Kn):Int→List Int→Kn:=fun a' p'=>if a'=a∧p'=p then k else kf a' p'
theorem EN.change {kf:Int→List Int→Kn} {pre post:List DO} {e:DO} (h:EN kf (pre++e::post)) (b:Nat) (vn vs:V) (k:Kn):EN (Te kf e.a e.p k) (pre++⟨e.a,e.p,b,vn,vs,k⟩::post):=by
 have h1:=h.one;rw[List.pairwise_append,List.pairwise_cons]at h1;obtain⟨o1,⟨o2,o3⟩,o4⟩:=h1;refine⟨fun x hx=>?_,fun a p hp=>?_,?_,fun x hx=>?_⟩
 ·rw [Te]
  rcases F8.1 hx with hx|hx
  ·rw[if_neg]
   ·exact h.val x (Vj _ hx)
   ·have:=o4 x hx e (.head _)
    rw[OR]at this;exact this
  ·rcases IC.1 hx with rfl|hx
   ·rw[if_pos ⟨rfl,rfl⟩]
   ·rw[if_neg]
    ·exact h.val x (XL _ (.tail _ hx))
    ·have:=o2 x hx
     rw[OR]at this;exact fun⟨q1,q2⟩=>this ⟨q1.symm,q2.symm⟩
 ·have he:=OR.1 (hp _ (XL _ (.head _)))
  rw[Te,if_neg (fun⟨q1,q2⟩=>he ⟨q1.symm,q2.symm⟩)];refine h.non a p fun x hx=>?_
  rcases F8.1 hx with hx|hx
  ·exact hp x (Vj _ hx)
  ·rcases IC.1 hx with rfl|hx
   ·exact OR.2 he
   ·exact hp x (XL _ (.tail _ hx))
 ·rw[List.pairwise_append,List.pairwise_cons]
  refine⟨o1,⟨o2,o3⟩,fun x hx y hy=>?_⟩;rcases IC.1 hy with rfl|hy
  ·exact o4 x hx e (.head _)
  ·exact o4 x hx y (.tail _ hy)
 ·rcases F8.1 hx with hx|hx
  ·exact h.len x (Vj _ hx)
  ·rcases IC.1 hx with rfl|hx
   ·exact h.len e (XL _ (.head _))
   ·exact h.len x (XL _ (.tail _ hx))
theorem Qr.change {pre post:List DO} {e:DO} (h:Qr (pre++e::post)) (b:Nat) (vn vs:V) (k:Kn) (hs: ∀s∈k.AK,s∈e.k.AK∨ ∃e'∈pre++e::post,e'.is e.a (e.p++[s])=true):Qr (pre++⟨e.a,e.p,b,vn,vs,k⟩::post):=by
 have mov: ∀ {a p},(∃e'∈pre++e::post,e'.is a p=true)→ ∃e'∈pre++(⟨e.a,e.p,b,vn,vs,k⟩:DO)::post,e'.is a p=true:=by
  rintro a p ⟨x,hx,h'⟩;rcases F8.1 hx with hx|hx
  ·exact⟨x,Vj _ hx,h'⟩
  ·rcases IC.1 hx with rfl|hx
   ·exact⟨_,XL _ (.head _),h'⟩
   ·exact⟨x,XL _ (.tail _ hx),h'⟩
 intro x hx s hxs;rcases F8.1 hx with hx|hx
 ·exact mov (h x (Vj _ hx) s hxs)
 ·rcases IC.1 hx with rfl|hx
  ·rcases hs s hxs with h'|h'
   ·exact mov (h e (XL _ (.head _)) s h')
   ·exact mov h'
  ·exact mov (h x (XL _ (.tail _ hx)) s hxs)
def D2 (f:Fact) (c:Bool) (j:Nat) (a:Int) (p:List Int) (k:Kn):Kn:=
 if f.arg=a∧CH f.path p=true then(if p.length<j then ew (D7 k c) (f.path.getD p.length 0)else if p.length=j then D7 k c else k)else k
theorem Nq {path p:List Int}:CH path p=true↔p.length≤path.length∧p=path.take p.length:=by
 rw[EG];constructor
 ·rintro⟨t,rfl⟩
  exact⟨by simp,by simp⟩
 ·rintro⟨h1,h2⟩
  exact⟨path.drop p.length,by conv=>rhs;rw[h2,QI,Nat.min_eq_left h1,List.take_append_drop]⟩
theorem gy (f:Fact) (c:Bool) (a:Int) (p:List Int) (k:Kn):D2 f c 0 a p k=if a=f.arg∧p= []then D7 k c else k:=by
 unfold D2;by_cases h:f.arg=a∧CH f.path p=true
 ·rw[if_pos h,if_neg (by omega)]
  by_cases hp:p.length=0
  ·rw[if_pos hp,if_pos ⟨h.1.symm,aK.1 hp⟩]
  ·rw[if_neg hp,if_neg (fun h'=>hp (by rw[h'.2];rfl))]
 ·rw[if_neg h,if_neg]
  rintro⟨rfl,rfl⟩;exact h ⟨rfl,EG.2 ⟨f.path,by simp⟩⟩
theorem gz (f:Fact) (c:Bool) {j:Nat} (hj:j<f.path.length) (a:Int) (p:List Int) (k:Kn):D2 f c (j+1) a p k=if a=f.arg∧p=f.path.take (j+1)then D7 (D2 f c j a p k) c else if a=f.arg∧p=f.path.take j then ew (D2 f c j a p k) (f.path.getD j 0)else D2 f c j a p k:=by
 unfold D2;by_cases h:f.arg=a∧CH f.path p=true
 ·rw [if_pos h,if_pos h]
  obtain⟨h1,h2⟩:=h;rw[Nq]at h2;obtain⟨h2,h3⟩:=h2;have l1:p=f.path.take (j+1)↔p.length=j+1:=⟨fun e=>by rw[e,QI];omega,fun e=>by rw[e]at h3;exact h3⟩
  have l2:p=f.path.take j↔p.length=j:=⟨fun e=>by rw[e,QI];omega,fun e=>by rw[e]at h3;exact h3⟩
  have n1:p.length≠j+1→ ¬(a=f.arg∧p=f.path.take (j+1)):=fun h h'=>h (l1.1 h'.2)
  have n2:p.length≠j→ ¬(a=f.arg∧p=f.path.take j):=fun h h'=>h (l2.1 h'.2)
  by_cases q1:p.length<j
  ·rw[if_pos (show p.length<j+1 by omega),if_neg (n1 (by omega)),if_neg (n2 (by omega)),if_pos q1]
  ·by_cases q2:p.length=j
   ·rw[if_pos (show p.length<j+1 by omega),if_neg (n1 (by omega)),if_pos (show a=f.arg∧p=f.path.take j from⟨h1.symm,l2.2 q2⟩),if_neg q1,if_pos q2,q2]
   ·by_cases q3:p.length=j+1
    ·rw[if_neg (show¬p.length<j+1 by omega),if_pos q3,if_pos (show a=f.arg∧p=f.path.take (j+1) from⟨h1.symm,l1.2 q3⟩),if_neg q1,if_neg q2]
    ·rw[if_neg (show¬p.length<j+1 by omega),if_neg q3,if_neg (n1 q3),if_neg (n2 q2),if_neg q1,if_neg q2]
 ·rw[if_neg h,if_neg h,if_neg,if_neg]
  ·rintro⟨rfl,rfl⟩
   exact h ⟨rfl,EG.2 ⟨f.path.drop j,by rw[List.take_append_drop]⟩⟩
  ·rintro⟨rfl,rfl⟩
   exact h ⟨rfl,EG.2 ⟨f.path.drop (j+1),by rw[List.take_append_drop]⟩⟩
theorem ui (a:Int) (p:List Int) (k:Kn) (l:Fact):DT a p k l=if a=(BV l).1.arg∧p=(BV l).1.path then C5 (D2 (BV l).1 (BV l).2 (BV l).1.path.length a p k) (BV l).1 (BV l).2 else D2 (BV l).1 (BV l).2 (BV l).1.path.length a p k:=by
 unfold DT D2;by_cases h:(BV l).1.arg=a∧CH (BV l).1.path p=true
 ·rw [if_pos h,if_pos h]
  obtain⟨h1,h2⟩:=h;rw[Nq]at h2;obtain⟨h2,h3⟩:=h2;by_cases hp:(BV l).1.path=p
  ·rw[if_pos hp,if_pos ⟨h1.symm,hp.symm⟩,if_neg (by rw[hp];omega),if_pos (by rw[hp])]
  ·have hne:p.length<(BV l).1.path.length:=by
    rcases Nat.lt_or_ge p.length (BV l).1.path.length with h'|h'
    ·exact h'
    ·rw[List.take_of_length_le h']at h3
     exact absurd h3.symm hp
   rw[if_neg hp,if_neg (fun h=>hp h.2.symm),if_pos hne]
 ·rw[if_neg h,if_neg h,if_neg]
  rintro⟨rfl,rfl⟩;exact h ⟨rfl,Nr _⟩
theorem hZ (ls:List Fact) (l:Fact) (a:Int) (p:List Int):kn (ls++[l]) a p=DT a p (kn ls a p) l:=by
 rw[kn,List.foldl_append];rfl
theorem Rn (l:List Int) (s:Int):(JP l s).length≤l.length+1:=by
 unfold JP;split
 ·omega
 ·rw[List.length_mergeSort];simp
theorem XJ (k:Kn) (f:Fact) (b:Bool):(C5 k f b).no.length≤k.no.length+1:=by
 unfold C5
 repeat' split
 all_goals simp
theorem cA (a:Int) (p:List Int): ∀(ls:List Fact) (k:Kn),(ls.foldl (DT a p) k).no.length≤k.no.length+ls.length∧(ls.foldl (DT a p) k).AK.length≤k.AK.length+ls.length
 | [],k=>⟨J1 _,J1 _⟩
 | l ::r,k=>by
   obtain⟨h1,h2⟩:=cA a p r (DT a p k l)
   have h3:(DT a p k l).no.length≤k.no.length+1∧(DT a p k l).AK.length≤k.AK.length+1:=by
    unfold DT
    repeat' split
    ·have:=XJ (D7 k (BV l).2) (BV l).1 (BV l).2
     rw[Ri];simp only[D7]at this ⊢;omega
    ·have:=Rn k.AK ((BV l).1.path.getD p.length 0)
     simp only[ew,D7]at this ⊢;omega
    ·omega
   rw[List.foldl_cons,OB];omega
theorem iA {n:Nat} {ls:List Fact} (h:JF n ls) (a:Int) (p:List Int):(kn ls a p).CL<2 ^ n∧(kn ls a p).Gu<2 ^ n:=by
 have hc:=OQ ls a p;simp only[FK,Prod.mk.injEq]at hc;have hc2:JF n (ls.filter (I8 a p)):=fun l hl=>h l (Rr.1 hl).1
 rw[hc.2.2.2.1,hc.2.2.2.2.1];exact⟨Ss hc2,uD hc2⟩
end Go.Gl
