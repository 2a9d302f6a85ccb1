import Derived.Test.YtegbmnmnaijioaaGreatB5
import Derived.Test.YtegbmnmnaijioaaGreatB14
set_option linter.all false
set_option linter.defProp false
noncomputable section
namespace Go.Gl
open Go.Proofs
attribute [local irreducible] A8 Ap Ag AT AL Ae AS AU AK Ad AO AP Aw A2 Sat AX A0 Ai W
def UF (w:AM) (f:Fact):Prop:= ∃AF M,gY w AF M∧AF f∧M f<200∧ ∀g,AF g→WH w g
def HP (p:Prog) (gen:Int):Fact×Int:=if Gm p gen then(if(Jr p gen).length≤8 then(if Co (AW p) (ES p gen)then(CS (AW p) 200 (ES p gen),0)else(T5,3))else(T5,3))else(T5,2)
def gE (p:Prog) (gen:Int) (hsh:Gm p gen=true→Co (AW p) (ES p gen)=true→UF (AW p) (ES p gen)):Pure Tryz.prog 32 [.a (Ba p),eI gen] (.t [.a (xF (HP p gen).1),eI (HP p gen).2]):=by
 refine Pure.fit (by kernel_rfl) fun hf=>?_
 have F:=IJ hf.1;have c1:=dt p gen;rw[HP];cases h1:Gm p gen<;>rw[h1]at c1
 ·rw[if_neg (by decide)]at c1 ⊢
  refine Xm kZ ?_;have hs:=Sn
  conv=>whnf
  repeat'((first|apply st|(apply sq;intro K U)|(apply si;intro A B Y Z)|(apply Y;clear Z B Y A)|(apply U;clear U K)|refine⟨rfl,?_⟩|refine⟨kZ,?_⟩|refine ld ?_|refine CX fun σ hs=>?_|refine c1.use ?_|(constructor<;>intro hc<;>(try rw[hc])<;>(replace hc:=bp hc)<;>try(exfalso;omega))|(intro nn hnn;generalize hg:Az _ nn _=σ;refine CN hg fun hs=>?_;clear hg)|clear U K)<;>conv=>whnf)
  all_goals exact An (.t (.cons Gr (.cons (.refl _) .nil)))
 rw[if_pos rfl]at c1 ⊢;replace hsh:=hsh h1;rw[Gm,BU]at h1;have hok:=look_ok h1.1;have c3:=tN p gen hok.many;have c5:=Pr p gen hok.many;have c6:=SU p F hok.tP hok.AJ;have c7:=Uy (AW p) (ES p gen);have hwk:=hok.zO;clear h1 hok;generalize ES p gen=x at *;by_cases h3:(Jr p gen).length≤8
 ·rw[if_pos h3]at c3 ⊢
  cases h4:Co (AW p) x<;>rw[h4]at c7
  ·rw[if_neg (by decide)]
   refine Xm kZ ?_;have hs:=Sn
   conv=>whnf
   repeat'((first|apply st|(apply sq;intro K U)|(apply si;intro A B Y Z)|(apply Y;clear Z B Y A)|(apply U;clear U K)|apply dr|refine rk ?_ ?_|exact fun s e=>by cases e;rfl|refine⟨rfl,?_⟩|refine⟨kZ,?_⟩|refine ld ?_|refine CX fun σ hs=>?_|refine JB ?_|refine c1.use ?_|refine c3.use ?_|refine c5.use ?_|refine c6.use ?_|refine c7.use ?_|(constructor<;>intro hc<;>(try rw[hc])<;>(replace hc:=bp hc)<;>(try simp(disch:=omega) only[BW,wrap64,AN]at hc)<;>try(exfalso;omega))|(intro nn hnn;generalize hg:Az _ nn _=σ;refine CN hg fun hs=>?_;clear hg)|clear U K)<;>conv=>whnf)
   all_goals exact An (.t (.cons Gr (.cons (.refl _) .nil)))
  ·rw[if_pos rfl]
   obtain⟨AF,M,hS,hx,-,hC⟩:=hsh h4;have c8:=iC (AW p) hwk AF (fun g hg=>⟨hC g hg,fun g2 h=>(hS.next g g2 hg h).1⟩) x hx;refine Xm kZ ?_;have hs:=Sn
   conv=>whnf
   repeat'((first|apply st|(apply sq;intro K U)|(apply si;intro A B Y Z)|(apply Y;clear Z B Y A)|(apply U;clear U K)|apply dr|refine rk ?_ ?_|exact fun s e=>by cases e;rfl|refine⟨rfl,?_⟩|refine⟨kZ,?_⟩|refine ld ?_|refine CX fun σ hs=>?_|refine G3 ?_|refine c1.use ?_|refine c3.use ?_|refine c5.use ?_|refine c6.use ?_|refine c7.use ?_|refine c8.use ?_|(constructor<;>intro hc<;>(try rw[hc])<;>(replace hc:=bp hc)<;>(try simp(disch:=omega) only[BW,wrap64,AN]at hc)<;>try(exfalso;omega))|(intro nn hnn;generalize hg:Az _ nn _=σ;refine CN hg fun hs=>?_;clear hg)|fail)<;>conv=>whnf)
   all_goals exact AI rfl
 ·rw[if_neg h3]at c3 ⊢
  refine Xm kZ ?_;have hs:=Sn
  conv=>whnf
  repeat'((first|apply st|(apply sq;intro K U)|(apply si;intro A B Y Z)|(apply Y;clear Z B Y A)|(apply U;clear U K)|apply dr|refine rk ?_ ?_|exact fun s e=>by cases e;rfl|refine⟨rfl,?_⟩|refine⟨kZ,?_⟩|refine ld ?_|refine CX fun σ hs=>?_|refine c1.use ?_|refine c3.use ?_|refine c5.use ?_|(constructor<;>intro hc<;>(try rw[hc])<;>(replace hc:=bp hc)<;>(try simp(disch:=omega) only[BW,wrap64,AN]at hc)<;>try(exfalso;omega))|(intro nn hnn;generalize hg:Az _ nn _=σ;refine CN hg fun hs=>?_;clear hg)|clear U K)<;>conv=>whnf)
  all_goals exact An (.t (.cons Gr (.cons (.refl _) .nil)))
attribute [local irreducible] Fz
def Wi (p:Prog) (gen:Int):Pure Tryz.prog 71 [.a (ko p gen)] (.b true):=by
 refine tp kZ ?_;have hs:=Sn
 conv=>whnf
 repeat'((first|apply st|(apply sq;intro K U)|(apply si;intro A B Y Z)|(apply Y;clear Z B Y A)|(apply U;clear U K)|fail)<;>conv=>whnf)
 all_goals exact AI rfl
set_option maxHeartbeats 4000000 in
def gD (p : Prog) (gen:Int) (hsh:Gm p gen=true→Co (AW p) (ES p gen)=true→UF (AW p) (ES p gen)):Pure Tryz.prog 31 [.a (Ba p),eI gen] (.t [.a (xF (HP p gen).1),eI (HP p gen).2]):=by
 refine Pure.fit (by kernel_rfl) fun hf=>?_
 have F:=IJ hf.1;have⟨p1,p2,p3,p4⟩:=Fx hf.1;have hM:=Mx;have c1:=r6 p gen 71 [] true fun _=>Wi p gen
 rw[HP];cases h1:Gm p gen
 ·rw[(Xq h1 _).1,(Xq h1 _).2]at c1
  rw[if_neg (by decide)];refine cC kZ ?_;have hs:=Sn
  conv=>whnf
  repeat'((first|apply st|(apply sq;intro K U)|(apply si;intro A B Y Z)|(apply Y;clear Z B Y A)|(apply U;clear U K)|refine⟨rfl,?_⟩|refine⟨kZ,?_⟩|refine ld ?_|refine CX fun σ hs=>?_|refine c1.use ?_|(constructor<;>intro hc<;>(try rw[hc])<;>(replace hc:=bp hc)<;>try(exfalso;omega))|(intro nn hnn;generalize hg:Az _ nn _=σ;refine CN hg fun hs=>?_;clear hg)|clear U K)<;>conv=>whnf)
  all_goals exact An (.t (.cons Gr (.cons (.refl _) .nil)))
 rw[if_pos rfl];replace hsh:=hsh h1;rw[(Xp h1).1,(Xp h1).2]at c1;by_cases h3:(Jr p gen).length≤8
 ·rw [if_pos h3]at c1 ⊢
  rw[Gm,BU]at h1;have h16:=(look_ok h1.1).many;have c4:=m8 p gen (ES p gen) h1.1;have c5:=Y7 p;rw[h1.1,if_pos rfl]at c5;have hgw:=lR h1.1;have hmm:=cz (p:=p) (gen:=gen);refine cC kZ ?_;have hs:=Sn
  conv=>whnf
  repeat'((first|apply st|(refine gM ?_;intro K U)|(apply si;intro A B Y Z)|(apply Y;clear Z B Y A)|(apply U;clear U K)|refine⟨rfl,?_⟩|refine⟨kZ,?_⟩|refine ld ?_|refine CX fun σ hs=>?_|refine c1.use ?_|refine mK ?_|(constructor<;>intro hc<;>(try rw[hc])<;>(replace hc:=bp hc)<;>(try simp(disch:=omega) only[BW,wrap64,AN]at hc)<;>try(exfalso;omega))|(intro nn hnn;generalize hg:Az _ nn _=σ;refine CN hg fun hs=>?_;clear hg)|fail)<;>conv=>whnf)
  rename_i n4 _ _ _ _ _;refine CD (Jr p gen).length (fun k v=>[(8,v),(27,eI (BM k))]) (fun k v=>[.box nn (ko p gen),.box n4 [.i .i64 0,.i .i64 0,.l [] true,.i .i64 0,.i .i64 0,.l [] true],.own v 6 (facts (Dy p ((Jr p gen).take k)))]) (fun _ _=>True) (.l [] true) rfl trivial (Ed hs 6) ?_;clear hs;rintro k v σ hk - hs;rcases BS (Jr p gen) hk with⟨x,hx,hlt⟩|hke
  ·have hck:BM k=k:=AN (by omega)
   have hst:=PM p ((Jr p gen).take k) x;rw[←AR hx]at hst;have hmx:=hmm x (Ck hx);have hxP:=Oo hmx;have hxr:=hmx;simp only[Jg,BU,DZ]at hxr;have hzl:(Dy p ((Jr p gen).take k)).length≤8:=Nat.le_trans (JP _ _) (by rw[Mo];omega);generalize Dy p ((Jr p gen).take k)=zs at *;have hll:zs.length<Aj∧(zs.length+1)*80≤140737488355328:=by omega
   generalize De p x=mx at *;by_cases hkd:mx.kind=1
   ·rw[if_pos (D4.2 hkd)]at hst
    conv=>whnf
    repeat'((first|apply st|(apply sq;intro K U)|(apply si;intro A B Y Z)|(apply Y;clear Z B Y A)|(apply U;clear U K)|refine⟨rfl,?_⟩|refine⟨kZ,?_⟩|refine ix ?_|refine TX ?_|refine kr fun v σ hs hsl=>?_|(refine C8 (fun hc=>?_)<;>(try rw[hc])<;>clear hc)|(constructor<;>intro hc<;>(try rw[hc])<;>(replace hc:=bp hc)<;>try(exfalso;omega))|clear U K)<;>conv=>whnf)
    all_goals try(exfalso;simp[hkd]at hc;done)
    all_goals exact⟨hlt,_,rfl,trivial,by rw[hst];exact hs⟩
   ·rw[if_neg (by simpa using hkd)]at hst
    conv=>whnf
    repeat'((first|apply st|(apply sq;intro K U)|(apply si;intro A B Y Z)|(apply Y;clear Z B Y A)|(apply U;clear U K)|refine⟨rfl,?_⟩|refine ix ?_|refine TX ?_|(refine C8 (fun hc=>?_)<;>(try rw[hc])<;>clear hc)|(constructor<;>intro hc<;>(try rw[hc])<;>(replace hc:=bp hc)<;>try(exfalso;omega))|clear U K)<;>conv=>whnf)
    all_goals try(exfalso;simp[hkd]at hc;done)
    all_goals exact⟨hlt,_,rfl,trivial,by rw[hst];exact hs⟩
  ·rw [Av hke]at hs
   have hpl:(Dy p (Jr p gen)).length≤8:=Nat.le_trans (JP _ _) h3;have hmf:ES p gen=if(Dy p (Jr p gen)).isEmpty then .mk 1 0 [] 0 0 []else ED (bD 7 (Dy p (Jr p gen))):=rfl
   have c3:=sh 7 (Dy p (Jr p gen)) (by omega);generalize Dy p (Jr p gen)=ls at *
   conv=>whnf
   repeat'((first|(refine gM ?_;intro K U)|(apply si;intro A B Y Z)|(apply Y;clear Z B Y A)|(apply U;clear U K)|refine⟨rfl,?_⟩|fail)<;>conv=>whnf)
   refine mK ?_
   conv=>whnf
   repeat'((first|apply st|(refine gM ?_;intro K U)|(apply U;clear U K)|(refine Es (fun hc=>?_)<;>(try rw[hc])<;>clear hc)|clear U K)<;>conv=>whnf)
   refine lS hs 2 rfl (fun σ2 h=> .cons (.refl _) (.cons (.refl _) (.cons (.refl _) (.cons h .nil)))) fun σ hs=>?_
   generalize ES p gen=xf at *
   have hfin:Co (AW p) xf=true→Pure Tryz.prog 93 [.a (BI (AW p)),.a (xF xf)] (.t [.a (xF (CS (AW p) 200 xf)),eI 0]):=fun h4=>by
    obtain⟨AF,M,hS,hx,hm,-⟩:=hsh h4;exact iD (AW p) hgw hS xf hx (by rw[Yc];exact h4) hm
   clear hsh;cases ls with
   | nil =>
     rw[List.isEmpty_nil,if_pos rfl]at hmf;subst hmf;cases h4:Co (AW p) (.mk 1 0 [] 0 0 [])<;>rw[h4]at c4
     ·rw[if_neg (by decide),if_neg (by decide)]at c4
      conv=>whnf
      repeat'((first|apply st|(apply sq;intro K U)|(apply si;intro A B Y Z)|(apply Y;clear Z B Y A)|(apply U;clear U K)|refine⟨rfl,?_⟩|refine⟨kZ,?_⟩|refine ld ?_|refine CX fun σ hs=>?_|refine Pure.use (c3 _) ?_|refine c4.use ?_|(constructor<;>intro hc<;>(try rw[hc])<;>(replace hc:=bp hc)<;>(try simp(disch:=omega) only[BW,wrap64,AN]at hc)<;>try(exfalso;omega))|(intro nn hnn;generalize hg:Az _ nn _=σ;refine CN hg fun hs=>?_;clear hg)|clear U K)<;>conv=>whnf)
      all_goals try(exfalso;simp at hc;done)
      all_goals try(exfalso;simp at hc;omega)
      all_goals first
       | exact AI rfl
       | exact An (.t (.cons Gr (.cons (.refl _) .nil)))
     ·rw[if_pos rfl,if_pos rfl]at c4
      have c6:=hfin h4
      conv=>whnf
      repeat'((first|apply st|(apply sq;intro K U)|(apply si;intro A B Y Z)|(apply Y;clear Z B Y A)|(apply U;clear U K)|refine⟨rfl,?_⟩|refine⟨kZ,?_⟩|refine ld ?_|refine CX fun σ hs=>?_|refine Pure.use (c3 _) ?_|refine c4.use ?_|refine c5.use ?_|refine c6.use ?_|(constructor<;>intro hc<;>(try rw[hc])<;>(replace hc:=bp hc)<;>(try simp(disch:=omega) only[BW,wrap64,AN]at hc)<;>try(exfalso;omega))|(intro nn hnn;generalize hg:Az _ nn _=σ;refine CN hg fun hs=>?_;clear hg)|fail)<;>conv=>whnf)
      all_goals try(exfalso;simp at hc;done)
      all_goals try(exfalso;simp at hc;omega)
      all_goals first
       | exact AI rfl
       | exact An (.t (.cons Gr (.cons (.refl _) .nil)))
   | cons x r=>
     rw[if_neg (by simp)]at hmf;have c2:=vE (bD 7 (x::r));rw[←hmf]at c2;cases h4:Co (AW p) xf<;>rw[h4]at c4
     ·rw[if_neg (by decide),if_neg (by decide)]at c4
      conv=>whnf
      repeat'((first|apply st|(apply sq;intro K U)|(apply si;intro A B Y Z)|(apply Y;clear Z B Y A)|(apply U;clear U K)|refine⟨rfl,?_⟩|refine⟨kZ,?_⟩|refine ld ?_|refine CX fun σ hs=>?_|refine c2.use ?_|refine Pure.use (c3 _) ?_|refine c4.use ?_|(constructor<;>intro hc<;>(try rw[hc])<;>(replace hc:=bp hc)<;>(try simp(disch:=omega) only[BW,wrap64,AN]at hc)<;>try(exfalso;omega))|(intro nn hnn;generalize hg:Az _ nn _=σ;refine CN hg fun hs=>?_;clear hg)|clear U K)<;>conv=>whnf)
      all_goals try(exfalso;simp at hc;done)
      all_goals try(exfalso;simp at hc;omega)
      all_goals first
       | exact AI rfl
       | exact An (.t (.cons Gr (.cons (.refl _) .nil)))
     ·rw[if_pos rfl,if_pos rfl]at c4
      have c6:=hfin h4
      conv=>whnf
      repeat'((first|apply st|(apply sq;intro K U)|(apply si;intro A B Y Z)|(apply Y;clear Z B Y A)|(apply U;clear U K)|refine⟨rfl,?_⟩|refine⟨kZ,?_⟩|refine ld ?_|refine CX fun σ hs=>?_|refine c2.use ?_|refine Pure.use (c3 _) ?_|refine c4.use ?_|refine c5.use ?_|refine c6.use ?_|(constructor<;>intro hc<;>(try rw[hc])<;>(replace hc:=bp hc)<;>(try simp(disch:=omega) only[BW,wrap64,AN]at hc)<;>try(exfalso;omega))|(intro nn hnn;generalize hg:Az _ nn _=σ;refine CN hg fun hs=>?_;clear hg)|fail)<;>conv=>whnf)
      all_goals try(exfalso;simp at hc;done)
      all_goals try(exfalso;simp at hc;omega)
      all_goals first
       | exact AI rfl
       | exact An (.t (.cons Gr (.cons (.refl _) .nil)))
 ·rw[if_neg h3]at c1 ⊢
  refine cC kZ ?_;have hs:=Sn
  conv=>whnf
  repeat'((first|apply st|(apply sq;intro K U)|(apply si;intro A B Y Z)|(apply Y;clear Z B Y A)|(apply U;clear U K)|refine⟨rfl,?_⟩|refine⟨kZ,?_⟩|refine ld ?_|refine CX fun σ hs=>?_|refine c1.use ?_|(constructor<;>intro hc<;>(try rw[hc])<;>(replace hc:=bp hc)<;>try(exfalso;omega))|(intro nn hnn;generalize hg:Az _ nn _=σ;refine CN hg fun hs=>?_;clear hg)|clear U K)<;>conv=>whnf)
  all_goals exact An (.t (.cons Gr (.cons (.refl _) .nil)))
end Go.Gl
namespace Go.Gl
open Go.Proofs
attribute [local irreducible] A8 Ap Ag AT AL Ae AS AU AK Ad AO AP Aw A2 Sat AX A0 Ai W
def cZ (p:Prog) (gen:Int) (hsh:Gm p gen=true→Co (AW p) (ES p gen)=true→UF (AW p) (ES p gen)): ∃s e,Pure Tryz.prog 31 [.a (Ba p),eI gen] (.t [.a (xF s),eI e])∧Pure Tryz.prog 32 [.a (Ba p),eI gen] (.t [.a (xF s),eI e]):=
 ⟨_,_,gD p gen hsh,gE p gen hsh⟩
set_option maxHeartbeats 4000000 in
def TK (g:uW) (hcan: ∀f,Co (AW g.p) f=true→Bh f 24≤12→UF (AW g.p) f) (c3:Pure Tryz.prog 17 [] (.b true)):Pure Tryz.prog 7 [.a (V5 g)] (.b true):=by
 have c1:=dt g.p g.gen;cases h1:Gm g.p g.gen<;>rw[h1]at c1
 ·rw[if_neg (by decide)]at c1
  obtain⟨s,e,c6,c7⟩:=cZ g.p g.gen fun h=>by rw[h1]at h;cases h
  have c8:=Ky s s;rw[(E8 s s).2 rfl]at c8;refine mj kZ ?_;have hs:=Sn
  conv=>whnf
  repeat'((first|apply st|(apply sq;intro K U)|(apply si;intro A B Y Z)|(apply Y;clear Z B Y A)|(apply U;clear U K)|refine⟨rfl,?_⟩|refine⟨kZ,?_⟩|refine ld ?_|refine CX fun σ hs=>?_|refine JB ?_|refine c1.use ?_|refine c3.use ?_|refine c6.use ?_|refine c7.use ?_|refine c8.use ?_|(constructor<;>intro hc<;>(try rw[hc])<;>(replace hc:=bp hc)<;>(try simp(disch:=omega) only[BW,wrap64,AN]at hc)<;>try(exfalso;omega))|(intro nn hnn;generalize hg:Az _ nn _=σ;refine CN hg fun hs=>?_;clear hg)|fail)<;>conv=>whnf)
  all_goals first
   | exact AI rfl
   | (exfalso;simp at hc;done)
 ·rw [if_pos rfl]at c1
  have hb:=h1;rw[Gm,BU]at hb;have c2:=Pr g.p g.gen (look_ok hb.1).many;have c5:=Ol (ES g.p g.gen);by_cases hn:12<Bh (ES g.p g.gen) 24∧Bh (ES g.p g.gen) 24≤24
  ·obtain⟨hn1,hn2⟩:=hn
   generalize Bh (ES g.p g.gen) 24=n at *;refine mj kZ ?_;have hs:=Sn
   conv=>whnf
   repeat'((first|apply st|(apply sq;intro K U)|(apply si;intro A B Y Z)|(apply Y;clear Z B Y A)|(apply U;clear U K)|refine⟨rfl,?_⟩|refine⟨kZ,?_⟩|refine c1.use ?_|refine c2.use ?_|refine c3.use ?_|refine c5.use ?_|(constructor<;>intro hc<;>(try rw[hc])<;>(replace hc:=bp hc)<;>(try simp(disch:=omega) only[BW,wrap64,AN]at hc)<;>try(exfalso;omega))|clear U K)<;>conv=>whnf)
   all_goals first
    | exact AI rfl
    | (exfalso;simp at hc;omega)
  ·obtain⟨s,e,c6,c7⟩:=cZ g.p g.gen fun _ hfm=>hcan _ hfm (by
    have h2:=hfm;simp only[Co,BU,DZ]at h2
    omega)
   have c8:=Ky s s;rw[(E8 s s).2 rfl]at c8;clear hcan;generalize Bh (ES g.p g.gen) 24=n at *;refine mj kZ ?_;have hs:=Sn
   conv=>whnf
   repeat'((first|apply st|(apply sq;intro K U)|(apply si;intro A B Y Z)|(apply Y;clear Z B Y A)|(apply U;clear U K)|refine⟨rfl,?_⟩|refine⟨kZ,?_⟩|refine ld ?_|refine CX fun σ hs=>?_|refine JB ?_|refine c1.use ?_|refine c2.use ?_|refine c3.use ?_|refine c5.use ?_|refine c6.use ?_|refine c7.use ?_|refine c8.use ?_|(constructor<;>intro hc<;>(try rw[hc])<;>(replace hc:=bp hc)<;>(try simp(disch:=omega) only[BW,wrap64,AN]at hc)<;>try(exfalso;omega))|(intro nn hnn;generalize hg:Az _ nn _=σ;refine CN hg fun hs=>?_;clear hg)|fail)<;>conv=>whnf)
   all_goals first
    | exact AI rfl
    | (exfalso;omega)
    | (exfalso;simp at hc;done)
    | (exfalso;simp at hc;omega)
end Go.Gl
namespace Go.Gl
def C2 (l:List Fact):Int:=((l.map B0).sum:Nat)
def Em:C2 []=0:=rfl
def C7 (k:Fact) (l:List Fact):C2 (k::l)=B0 k+C2 l:=by simp[C2]
def D9 (l:List Fact):0≤C2 l:=by unfold C2;omega
def Dl (f:Fact):(B0 f:Int)=1+C2 f.kids:=by rw[D3];simp[C2]
def Xu (f:Fact):wk f f.kids=f:=by cases f;rfl
def S4 (f:Fact):1≤B0 f:=by rw[D3];omega
def Sb {y:Fact}: ∀(l:List Fact) (n m:Int),(∀k∈l,∀j:Int,j<0∨(B0 k:Int)≤j→Ka y k j=k)→n<m∨m+C2 l≤n→a8 l (l.map (Ka y)) n m=l
 | [],n,m,_,_=>rfl
 | k::l,n,m,hk,h=>by
   rw[C7]at h;have:=D9 l;rw[C0,a8,hk k (.head _) (n - m) (by omega),Sb l n (m+B0 k) (fun x hx=>hk x (.tail _ hx)) (by omega)]
def Rz {y:Fact} (f:Fact): ∀n:Int,n<0∨(B0 f:Int)≤n→Ka y f n=f:=by
 induction f using Fact.ind with
 | h f ih=>
   intro n hn;have h1:=S4 f;rw[Dl]at hn;rw[Jy,if_neg (by have:=D9 f.kids;omega),Sb f.kids n 1 (fun k hk j hj=>ih k hk j hj) (by omega),Xu]
def place: ∀(l:List Fact) (j:Int),0≤j→j<C2 l→ ∃l1 k l2,l=l1++k::l2∧C2 l1≤j∧j<C2 l1+B0 k
 | [],j,h0,h=>by rw[Em]at h;omega
 | k ::l,j,h0,h=>by
   by_cases hj:j<B0 k
   ·exact⟨[],k,l,rfl,by rw[Em];exact h0,by rw[Em];omega⟩
   ·rw[C7]at h
    obtain⟨l1,x,l2,rfl,h1,h2⟩:=place l (j - B0 k) (by omega) (by omega);exact⟨k::l1,x,l2,rfl,by rw[C7];omega,by rw[C7];omega⟩
def WJ {y:Fact} (k:Fact) (l2:List Fact): ∀(l1:List Fact) (n m:Int),m+C2 l1≤n→n<m+C2 l1+B0 k→a8 (l1++k::l2) ((l1++k::l2).map (Ka y)) n m=l1++Ka y k (n - m - C2 l1)::l2
 | [],n,m,h1,h2=>by
   rw[Em]at *;rw[List.nil_append,C0,a8,Sb l2 n (m+B0 k) (fun x _=>Rz x) (by omega),Int.sub_zero];rfl
 | a::l1,n,m,h1,h2=>by
   rw[C7]at *;have:=D9 l1;rw[List.cons_append,C0,a8,Rz a (n - m) (by omega),WJ k l2 l1 n (m+B0 a) (by omega) (by omega),show n - (m+B0 a) - C2 l1=n - m - (B0 a+C2 l1) by omega];rfl
def Zs (l:List Fact) (o:Fact):IZ (l.map Ds) o (-1)=(o,-1):=by
 cases l with
 | nil=>rfl
 | cons k l=>rw[C0,IZ,if_neg (by decide)]
def Uh: ∀(l:List Fact) (o:Fact) (j:Int),(∀k∈l,∀n:Int,(B0 k:Int)≤n→(Ds k n).2=n - B0 k)→C2 l≤j→(IZ (l.map Ds) o j).2=j - C2 l
 | [],o,j,_,_=>by rw[Em,Int.sub_zero];rfl
 | k::l,o,j,hk,h=>by
   rw[C7]at *;have:=D9 l;rw[C0,IZ,if_pos (by omega),hk k (.head _) j (by omega),Uh l _ _ (fun x hx=>hk x (.tail _ hx)) (by omega)];omega
def il (f:Fact): ∀n:Int,(B0 f:Int)≤n→(Ds f n).2=n - B0 f:=by
 induction f using Fact.ind with
 | h f ih=>
   intro n hn;have h1:=S4 f;rw[Dl]at *;have:=D9 f.kids;rw[Gc,if_neg (by omega),Uh f.kids f (n - 1) ih (by omega)];omega
def Sh (k:Fact) (l2:List Fact): ∀(l1:List Fact) (o:Fact) (j:Int),C2 l1≤j→(Ds k (j - C2 l1)).2= -1→IZ ((l1++k::l2).map Ds) o j=Ds k (j - C2 l1)
 | [],o,j,h0,h=>by
   rw[Em]at *;rw[Int.sub_zero]at *;rw[List.nil_append,C0,IZ,if_pos h0,h,Zs];exact Prod.ext rfl h.symm
 | a::l1,o,j,h0,h=>by
   rw[C7]at *;have:=D9 l1;rw[List.cons_append,C0,IZ,if_pos (by omega),il a j (by omega),Sh k l2 l1 _ (j - B0 a) (by omega) (by rw[←h];congr 2;omega)];congr 1;omega
def nc (f:Fact): ∀n:Int,0≤n→n<B0 f→(Ds f n).2= -1:=by
 induction f using Fact.ind with
 | h f ih=>
   intro n h0 hn;rw[Dl]at hn;rw[Gc];split
   ·rfl
   ·obtain⟨l1,k,l2,he,h1,h2⟩:=place f.kids (n - 1) (by omega) (by omega)
    have hk:=ih k (by rw[he];simp) (n - 1 - C2 l1) (by omega) (by omega);rw[he,Sh k l2 l1 f (n - 1) h1 hk];exact hk
def eR {x:Fact} (l:List Fact):Px l (l.map (JA x)) (-1)=(l,-1):=by
 cases l with
 | nil=>rfl
 | cons k l=>rw[C0,Px,if_neg (by decide)]
def YB {x:Fact}: ∀(l:List Fact) (j:Int),(∀k∈l,∀n:Int,(B0 k:Int)≤n→JA x k n=(k,n - B0 k))→C2 l≤j→Px l (l.map (JA x)) j=(l,j - C2 l)
 | [],j,_,_=>by rw[Em,Int.sub_zero];rfl
 | k::l,j,hk,h=>by
   rw[C7]at *;have:=D9 l;rw[C0,Px,if_pos (by omega),hk k (.head _) j (by omega),YB l _ (fun x hx=>hk x (.tail _ hx)) (by dsimp only;omega)];exact Prod.ext rfl (by dsimp only;omega)
def nQ {x:Fact} (f:Fact): ∀n:Int,(B0 f:Int)≤n→JA x f n=(f,n - B0 f):=by
 induction f using Fact.ind with
 | h f ih=>
   intro n hn;have h1:=S4 f;rw[Dl]at *;have:=D9 f.kids;rw[R1,if_neg (by omega),YB f.kids (n - 1) ih (by omega)];exact Prod.ext (Xu f) (by dsimp only;omega)
def cP {x:Fact} (k:Fact) (l2:List Fact): ∀(l1:List Fact) (j:Int),C2 l1≤j→(JA x k (j - C2 l1)).2= -1→Px (l1++k::l2) ((l1++k::l2).map (JA x)) j=(l1++(JA x k (j - C2 l1)).1::l2,-1)
 | [],j,h0,h=>by
   rw[Em]at *;rw[Int.sub_zero]at *;rw[List.nil_append,C0,Px,if_pos h0,h,eR];rfl
 | a::l1,j,h0,h=>by
   rw[C7]at *;have:=D9 l1;have e:j - B0 a - C2 l1=j - (B0 a+C2 l1):=by omega
   rw[List.cons_append,C0,Px,if_pos (by omega),nQ a j (by omega),cP k l2 l1 (j - B0 a) (by omega) (by rw[e];exact h),e];rfl
def br {x:Fact} (f:Fact): ∀n:Int,0≤n→n<B0 f→JA x f n=(Ka x f n,-1):=by
 induction f using Fact.ind with
 | h f ih=>
   intro n h0 hn;rw[Dl]at hn;rw[R1,Jy];split
   ·rfl
   ·obtain⟨l1,k,l2,he,h1,h2⟩:=place f.kids (n - 1) (by omega) (by omega)
    have hk:=ih k (by rw[he];simp) (n - 1 - C2 l1) (by omega) (by omega);rw[he,cP k l2 l1 (n - 1) h1 (by rw[hk]),WJ k l2 l1 n 1 (by omega) (by omega),hk]
end Go.Gl
namespace Go.Gl
def FY (a:Int→Nat) (f:Fact):Nat:=f.Ff fun f l=>a f.op+l.sum
def Eg (a:Int→Nat) (f:Fact):FY a f=a f.op+(f.kids.map (FY a)).sum:=Fact.Cm _ f
def oD (a:Int→Nat) (f:Fact) (l:List Fact):FY a (wk f l)=a f.op+(l.map (FY a)).sum:=Eg a (wk f l)
def WK {f:Fact} {n:Int} {l1 l2:List Fact} {k:Fact} (he:f.kids=l1++k::l2) (hz:n≠0) (h1:C2 l1≤n - 1) (h2:n - 1<C2 l1+B0 k):Ds f n=Ds k (n - 1 - C2 l1):=by
 rw[Gc,if_neg hz,he,Sh k l2 l1 f (n - 1) h1 (nc k _ (by omega) (by omega))]
def lA {y f:Fact} {n:Int} {l1 l2:List Fact} {k:Fact} (he:f.kids=l1++k::l2) (hz:n≠0) (h1:C2 l1≤n - 1) (h2:n - 1<C2 l1+B0 k):Ka y f n=wk f (l1++Ka y k (n - 1 - C2 l1)::l2):=by
 rw[Jy,if_neg hz,he,WJ k l2 l1 n 1 (by omega) (by omega)]
def T1 (a:Int→Nat) (y f:Fact): ∀n:Int,0≤n→n<B0 f→FY a (Ka y f n)+FY a (Ds f n).1=FY a f+FY a y:=by
 induction f using Fact.ind with
 | h f ih=>
   intro n h0 hn;rw[Dl]at hn;by_cases hz:n=0
   ·subst hz
    rw[Jy,if_pos rfl,Gc,if_pos rfl];exact Nat.add_comm _ _
   ·obtain⟨l1,k,l2,he,h1,h2⟩:=place f.kids (n - 1) (by omega) (by omega)
    have hk:=ih k (by rw[he];simp) (n - 1 - C2 l1) (by omega) (by omega);rw[WK he hz h1 h2,lA he hz h1 h2,oD,Eg a f,he];simp only[Pw,C0,List.sum_append,List.sum_cons];omega
def WI {P : Fact→Bool} (F: ∀f,P f=true→ ∀k∈f.kids,P k=true) (hw: ∀f l,P f=true→l.length=f.kids.length→(∀k∈l,P k=true)→P (wk f l)=true) {y:Fact} (hy:P y=true) (f:Fact):P f=true→ ∀n,P (Ka y f n)=true:=by
 induction f using Fact.ind with
 | h f ih=>
   intro hf n;by_cases hz:n=0
   ·rw[Jy,if_pos hz];exact hy
   ·by_cases hi:0≤n∧n<B0 f
    ·obtain⟨h0,hn⟩:=hi
     rw[Dl]at hn;obtain⟨l1,k,l2,he,h1,h2⟩:=place f.kids (n - 1) (by omega) (by omega);rw[lA he hz h1 h2];refine hw f _ hf (by rw[he];simp) fun x hx=>?_
     rcases FJ.1 hx with hx|hx
     ·exact F f hf x (by rw[he];exact TV _ hx)
     ·rcases G5.1 hx with rfl|hx
      ·exact ih k (by rw[he];simp) (F f hf k (by rw[he];simp)) _
      ·exact F f hf x (by rw[he];exact Vu _ (.tail _ hx))
    ·rw[Rz f n (by omega)];exact hf
def Sg {P:Fact→Bool} (F: ∀f,P f=true→ ∀k∈f.kids,P k=true) (f:Fact):P f=true→ ∀n:Int,0≤n→n<B0 f→P (Ds f n).1=true:=by
 induction f using Fact.ind with
 | h f ih=>
   intro hf n h0 hn;rw[Dl]at hn;by_cases hz:n=0
   ·rw[Gc,if_pos hz];exact hf
   ·obtain⟨l1,k,l2,he,h1,h2⟩:=place f.kids (n - 1) (by omega) (by omega)
    rw[WK he hz h1 h2];exact ih k (by rw[he];simp) (F f hf k (by rw[he];simp)) _ (by omega) (by omega)
def N5 (f:Fact):List Fact:=f.Ff fun f l=>f::l.flatten
def Sd (f:Fact):N5 f=f::(f.kids.map N5).flatten:=Fact.Cm _ f
def Oh: ∀l:List Fact,(∀k∈l,(N5 k).length=B0 k)→((l.map N5).flatten.length:Int)=C2 l
 | [],_=>rfl
 | k::l,h=>by
   rw[C0,List.flatten_cons,KY,C7,h k (.head _)];have:=Oh l fun x hx=>h x (.tail _ hx)
   omega
def Oi (f:Fact):(N5 f).length=B0 f:=by
 induction f using Fact.ind with
 | h f ih=>
   have:=Oh f.kids ih;have h2:=Dl f;rw[Sd,KX];omega
def iV (f:Fact): ∀k:Nat,k<B0 f→(N5 f)[k]? =some (Ds f k).1:=by
 induction f using Fact.ind with
 | h f ih=>
   intro n hn;have hc:=Dl f;rw[Sd];cases n with
   | zero=>rw[Gc];rfl
   | succ n=>
     obtain⟨l1,k,l2,he,h1,h2⟩:=place f.kids n (by omega) (by omega);rw[sH,WK he (by omega) (by omega) (by omega),he,Pw,List.flatten_append];have hl:=Oh l1 fun x _=>Oi x
     rw[List.getElem?_append_right (by omega),C0,List.flatten_cons,kY (by rw[Oi];omega),ih k (by rw[he];simp) _ (by omega)];congr 3;omega
section
variable {S:Type}
def Vv (stp:Fact→S→Bool×S):List Fact→S→Bool×S
 | [],s=>(false,s)
 | x::r,s=>if(stp x s).1 then stp x s else Vv stp r (stp x s).2
def PB (stp:Fact→S→Bool×S): ∀(a b:List Fact) (s:S),Vv stp (a++b) s=if(Vv stp a s).1 then Vv stp a s else Vv stp b (Vv stp a s).2
 | [],_,_=>rfl
 | x ::a,b,s=>by
   rw[List.cons_append,Vv,Vv];cases h:(stp x s).1
   ·simp only[Mp,if_false]
    exact PB stp a b _
   ·simp[h]
def mz (stp:Fact→S→Bool×S) (f:Fact): ∀s,P0 stp f s=Vv stp (N5 f) s:=by
 induction f using Fact.ind with
 | h f ih=>
   have hl: ∀(l:List Fact),(∀k∈l,k∈f.kids)→ ∀s,bM (l.map (P0 stp)) s=Vv stp (l.map N5).flatten s:=fun l=>by
    induction l with
    | nil=>exact fun _ _=>rfl
    | cons k r ih2=>
      intro hm s;rw[C0,bM,C0,List.flatten_cons,PB,ih k (hm k (.head _)),ih2 fun x hx=>hm x (.tail _ hx)]
   intro s;rw[WE,Sd,Vv,hl f.kids fun _ h=>h]
end
end Go.Gl
namespace Go.Gl
def J6 (op:Int):Bool:=op==2||(op==3||op==4)
def TY (op:Int):Nat:=if op=5 then 0 else if op=6∨op=7 then 0 else 1
def aN (op:Int):Nat:=if J6 op then 2 else 1
def aM (op:Int):Nat:=if J6 op then 3 else 1
def OZ (f:Fact):B0 f=FY (fun _=>1) f:=by
 induction f using Fact.ind with
 | h f ih=>
   rw[D3,Eg,List.map_congr_left ih]
def Mv (f:Fact):arity f=true→lv f=FY TY f:=by
 induction f using Fact.ind with
 | h f ih=>
   intro har;have h2:=har;rw[EA,BU,D4,GP]at h2;rw[Km,ZC,Eg,TY];by_cases h5:f.op=5
   ·obtain⟨a,ha,hb⟩:=Fj har h5
    rw[if_pos h5,if_pos h5,ha];simpa using ih a (by rw[ha];exact .head _) hb
   ·rw[if_neg h5,if_neg h5]
    by_cases h6:f.op=6∨f.op=7
    ·obtain⟨a,b,ha,hb,hc⟩:=Fi har h6
     rw[if_pos h6,if_pos h6,ha];have e1:=ih a (by rw[ha];exact .head _) hb;have e2:=ih b (by rw[ha];exact .tail _ (.head _)) hc;simp[e1,e2]
    ·rw[if_neg h6,if_neg h6]
     have:f.kids= []:=Vt.1 (by rw[h2.1,Bw,if_neg h5,if_neg h6]);rw[this];rfl
def T2 {a b:Int→Nat} {c:Nat} (h: ∀o,a o≤c*b o) (f:Fact):FY a f≤c*FY b f:=by
 induction f using Fact.ind with
 | h f ih=>
   rw[Eg,Eg,Nat.mul_add]
   have hl: ∀l:List Fact,(∀k∈l,FY a k≤c*FY b k)→(l.map (FY a)).sum≤c*(l.map (FY b)).sum:=fun l=>by
    induction l with
    | nil=>exact fun _=>by simp
    | cons k r ih2=>
      intro hk;have h1:=hk k (.head _);have h2:=ih2 fun x hx=>hk x (.tail _ hx)
      simp only[C0,List.sum_cons,Nat.mul_add];omega
   have:=hl f.kids ih;have:=h f.op;omega
def L3 (a:Int→Nat) {f k:Fact} (h:k∈f.kids):a f.op+FY a k≤FY a f:=by
 obtain⟨l1,l2,he⟩:=List.append_of_mem h;rw[Eg a f,he];simp only[Pw,C0,List.sum_append,List.sum_cons];omega
def DP {w:AM} {f:Fact} (h:A9 w f=true): ∀k∈f.kids,A9 w k=true:=by
 rw[CM,BU,GP]at h;exact h.2
def Om {w:AM} {f:Fact} {l:List Fact} (h:A9 w f=true) (hl:l.length=f.kids.length) (hk: ∀k∈l,A9 w k=true):A9 w (wk f l)=true:=by
 rw[CM,BU,GP]at *;refine⟨?_,hk⟩;have:=h.1;cases f;simp only[Cq,RY,Bt,wk,Fact.op,Fact.arg,Fact.path,Fact.cls,Fact.n,Fact.kids]at *;rw[hl];exact this
def Nl {w : AM} {x:Fact} (h:A9 w x=true):x.op=1∧x=CK∨J6 x.op=true∨(x.op=5∨x.op=6∨x.op=7)∧x.arg=0∧x.path= []∧x.cls=0∧x.n=0:=by
 rw[CM,BU]at h;have h1:=h.1;rw[Cq,BU]at h1;obtain⟨hop,h1⟩:=h1;cases x with
 | mk o a p c n k=>
   by_cases h2:o=2
   ·right;left;simp[J6,Fact.op,h2]
   ·by_cases h3:o=3∨o=4
    ·right;left;rcases h3 with h3|h3<;>simp[J6,Fact.op,h3]
    ·rw[RY,if_neg (show¬(Fact.mk o a p c n k).op=2 from h2),if_neg (show¬((Fact.mk o a p c n k).op=3∨(Fact.mk o a p c n k).op=4) from h3)]at hop
     simp only[Bt,Fact.op,Fact.arg,Fact.path,Fact.cls,Fact.n,Fact.kids,BU,DZ,Gj,D4]at *;obtain⟨e2,-,-,-,e6⟩:=h1
     have e7:a=0∧p= []∧c=0∧n=0:=by
      rcases e6 with e6|⟨q1,q2,q3,q4⟩
      ·omega
      ·exact⟨q1,Vt.1 q2,q3,q4⟩
     obtain⟨rfl,rfl,rfl,rfl⟩:=e7;rcases hop with((rfl|rfl)|rfl)|rfl
     ·left
      have:k= []:=Vt.1 (by rw[e2];rfl);exact⟨rfl,by rw[this]⟩
     ·exact .inr (.inr ⟨.inl rfl,rfl,rfl,rfl,rfl⟩)
     ·exact .inr (.inr ⟨.inr (.inl rfl),rfl,rfl,rfl,rfl⟩)
     ·exact .inr (.inr ⟨.inr (.inr rfl),rfl,rfl,rfl,rfl⟩)
def Ys {w:AM} {x:Fact} (h:A9 w x=true):HH x=F1 x:=by
 have e:(x.op=1)↔B3 x CK=true:=by
  rw[E8];constructor
  ·intro h1
   rcases Nl h with⟨_,h2⟩|h2|⟨h2,_⟩
   ·exact h2
   ·simp[J6]at h2;omega
   ·omega
  ·rintro rfl;rfl
 rw[HH,F1];by_cases h1:x.op=1
 ·rw[if_pos h1,if_pos (e.1 h1)]
 ·rw[if_neg h1,if_neg fun h2=>h1 (e.2 h2)]
def MI (w:AM):A9 w CK=true:=by
 rw[CM];simp[Cq,RY,Bw,Ee,Bt,Fact.op,Fact.arg,Fact.path,Fact.cls,Fact.n,Fact.kids]
def ee (w:AM):A9 w Da=true:=by
 rw[CM,Da,ED];simp[Cq,RY,Bw,Ee,Bt,Fact.op,Fact.arg,Fact.path,Fact.cls,Fact.n,Fact.kids];exact MI w
def Mg {w:AM} {x:Fact} (h:A9 w x=true): ∀y∈F1 x,A9 w y=true:=fun y hy=>by
 rw[F1]at hy;rcases FJ.1 hy with hy|hy
 ·split at hy
  ·cases hy
  ·split at hy
   ·simp at hy;subst hy;exact MI w
   ·simp at hy
    rcases hy with rfl|rfl
    ·exact MI w
    ·exact ee w
 ·exact DP h y hy
end Go.Gl
namespace Go.Gl
def R6 {a:Int→Nat} (h: ∀o,1≤a o) (f:Fact):1≤FY a f:=by
 rw[Eg];have:=h f.op;omega
def SP (o:Int):1≤aN o:=by unfold aN;split<;>omega
def KA (o:Int):1≤aM o:=by unfold aM;split<;>omega
def kV {w:AM} {f:Fact} (h:A9 w f=true):1≤FY TY f:=by
 rw[←Mv f (A7 f h)];exact WO f (A7 f h)
def ni {w:AM} {x:Fact} (h:A9 w x=true) (h5:x.op=5): ∃k,x=ED k∧A9 w k=true:=by
 obtain⟨k,hk,-⟩:=Fj (A7 x h) h5;rcases Nl h with⟨h1,_⟩|h1|⟨_,e1,e2,e3,e4⟩
 ·omega
 ·simp[J6]at h1;omega
 ·refine⟨k,?_,DP h k (by rw[hk];exact .head _)⟩
  cases x;simp only[Fact.op,Fact.arg,Fact.path,Fact.cls,Fact.n,Fact.kids]at *;subst h5 e1 e2 e3 e4 hk;rfl
def Sj (a:Int→Nat):FY a CK=a 1:=by rw[Eg];rfl
def R7 (a:Int→Nat) (k:Fact):FY a (ED k)=a 5+FY a k:=by
 rw[Eg];show a 5+(([k]:List Fact).map (FY a)).sum=_;simp
def dh {w:AM} {x:Fact} (h:A9 w x=true) (hx:x≠CK):2≤FY aM x∧2≤FY aN x:=by
 rcases Nl h with⟨_,h1⟩|h1|⟨h1,_⟩
 ·exact absurd h1 hx
 ·have e1:aM x.op=3:=by rw[aM,if_pos h1]
  have e2:aN x.op=2:=by rw[aN,if_pos h1]
  rw[Eg,Eg,e1,e2];omega
 ·obtain⟨k,hk⟩: ∃k,k∈x.kids:=by
   rcases h1 with h5|h6
   ·obtain⟨k,hk,-⟩:=Fj (A7 x h) h5
    exact⟨k,by rw[hk];exact .head _⟩
   ·obtain⟨k,b,hk,-⟩:=Fi (A7 x h) h6
    exact⟨k,by rw[hk];exact .head _⟩
  have e1:=L3 aM hk;have e2:=L3 aN hk;have:=R6 KA k;have:=R6 SP k;have:=KA x.op;have:=SP x.op;omega
def fy {w:AM} {x:Fact} (h:A9 w x=true) (hx:x≠CK) (hn:x≠Da):3≤FY aM x:=by
 rcases Nl h with⟨_,h1⟩|h1|⟨h1,_⟩
 ·exact absurd h1 hx
 ·have e1:aM x.op=3:=by rw[aM,if_pos h1]
  rw[Eg,e1];omega
 ·rcases h1 with h5|h6
  ·obtain⟨k,rfl,hk⟩:=ni h h5
   have hkt:k≠CK:=fun e=>hn (by rw[e];rfl)
   have:=(dh hk hkt).1;rw[R7];have:=KA 5;omega
  ·obtain⟨a,b,hk,-⟩:=Fi (A7 x h) h6
   rw[Eg,hk];have:=R6 KA a;have:=R6 KA b;have:=KA x.op;simp only[C0,List.map_nil,List.sum_cons,List.sum_nil];omega
def Mf {w:AM} {x:Fact} (h:A9 w x=true) {y:Fact} (hy:y∈F1 x):FY TY y≤FY TY x∧FY aN y≤FY aN x∧FY aM y<FY aM x:=by
 have hlx:=kV h;have t1:FY TY CK=1:=by rw[Sj];rfl
 have t2:FY aN CK=1:=by rw[Sj];rfl
 have t3:FY aM CK=1:=by rw[Sj];rfl
 have n1:FY TY Da=1:=by rw[Da,R7,t1];rfl
 have n2:FY aN Da=2:=by rw[Da,R7,t2];rfl
 have n3:FY aM Da=2:=by rw[Da,R7,t3];rfl
 rw[F1]at hy;rcases FJ.1 hy with hy|hy
 ·cases hx1:B3 x CK
  ·have hxt:x≠CK:=fun e=>by rw[(E8 x CK).2 e]at hx1;cases hx1
   have h2:=dh h hxt;rw[hx1,if_neg (by decide)]at hy;cases hx2:B3 x Da
   ·have hxn:x≠Da:=fun e=>by rw[(E8 x Da).2 e]at hx2;cases hx2
    have h3:=fy h hxt hxn;rw[hx2,if_neg (by decide)]at hy;simp only[G5,List.not_mem_nil,or_false]at hy;rcases hy with rfl|rfl
    ·omega
    ·omega
   ·rw[hx2,if_pos rfl]at hy
    simp only[G5,List.not_mem_nil,or_false]at hy;subst hy;omega
  ·rw[hx1,if_pos rfl]at hy
   cases hy
 ·have e1:=L3 TY hy
  have e2:=L3 aN hy;have e3:=L3 aM hy;have:=KA x.op;omega
def PE {w:AM} {f g:Fact}: ∀ {l:List Nat},IC w f l=some g→ ∃n∈l,∃y∈F1 (Ds f n).1,g=(JA y f n).1
 | [],h=>by cases h
 | n ::l,h=>by
   rw[IC]at h;cases hs:Ly w f n with
   | none=>
     rw[hs,Option.none_or]at h;obtain⟨m,hm,r⟩:=PE h;exact⟨m,.tail _ hm,r⟩
   | some g2=>
     rw[hs]at h;obtain rfl:g2=g:=Option.some.inj h;have:=List.mem_of_find?_eq_some hs;obtain⟨y,hy,e⟩:=NP.1 this;exact⟨n,.head _,y,hy,e.symm⟩
def gx {w:AM} {f g:Fact} (h:A9 w f=true) (hg:C9 w f=some g):A9 w g=true∧FY TY g≤FY TY f∧FY aN g≤FY aN f∧FY aM g<FY aM f:=by
 obtain⟨n,hn,y,hy,rfl⟩:=PE hg;rw[List.mem_range]at hn;have hx:=Sg (P:=A9 w) (fun f h=>DP h) f h n (by omega) (by omega);rw[br f n (by omega) (by omega)];have h1:=Mf hx hy;have e1:=T1 TY y f n (by omega) (by omega);have e2:=T1 aN y f n (by omega) (by omega);have e3:=T1 aM y f n (by omega) (by omega);exact⟨WI (P:=A9 w) (fun f h=>DP h) (fun f l h hl hk=>Om h hl hk) (Mg hx y hy) f h n,by dsimp only;omega,by dsimp only;omega,by dsimp only;omega⟩
end Go.Gl
namespace Go.Gl
def Qf {w:AM} {f:Fact} (h:A9 w f=true): ∀(d k:Nat),k+d=B0 f→
    (Vv (Lo w f) ((N5 f).drop k) ((k:Int) - 1,f)).1=(IC w f ((List.range (B0 f)).drop k)).isSome∧(Vv (Lo w f) ((N5 f).drop k) ((k:Int) - 1,f)).2.2=(IC w f ((List.range (B0 f)).drop k)).getD f
 | 0,k,hk=>by
   rw[List.drop_of_length_le (by rw[Oi];omega),List.drop_of_length_le (by rw[sF];omega)];exact⟨rfl,rfl⟩
 | d + 1,k,hk=>by
   have hlt:k<B0 f:=by omega
   have hx:=Sg (P:=A9 w) (fun f h=>DP h) f h k (by omega) (by omega);have hr:(List.range (B0 f))[k]? =some k:=List.getElem?_range hlt
   have hc:(HH (Ds f (k:Int)).1).map (fun y=>Ka y f ((k:Int) - 1+1))=(F1 (Ds f (k:Int)).1).map fun y=>(JA y f (k:Int)).1:=by
    rw[Ys hx];refine List.map_congr_left fun y _=>?_
    rw[br f k (by omega) (by omega),Int.sub_add_cancel]
   have he:Lo w f (Ds f (k:Int)).1 ((k:Int) - 1,f)=match Ly w f k with|some g=>(true,((k:Int) - 1+1,g))|none=>(false,((k:Int) - 1+1,f)):=by
    rw[Lo,Ly,←hc];dsimp only;cases List.find? (Rr w f) ((HH (Ds f (k:Int)).1).map fun y=>Ka y f ((k:Int) - 1+1))<;>rfl
   rw[drop_cons (iV f k hlt),drop_cons hr,Vv,IC,he];cases hs:Ly w f k with
   | some g=>exact⟨rfl,rfl⟩
   | none=>
     have:=Qf h d (k+1) (by omega);rw[show(((k+1:Nat):Int) - 1)=(k:Int) - 1+1 by omega]at this;rw[Option.none_or];exact this
def eH {w:AM} {f:Fact} (h:A9 w f=true):Kj w f=((C9 w f).isSome,(Kj w f).2.1,(C9 w f).getD f):=by
 have:=Qf h (B0 f) 0 (by omega);rw[List.drop_zero,List.drop_zero]at this;have e:Kj w f=Vv (Lo w f) (N5 f) ((0:Nat) - 1,f):=by rw[Kj,mz];rfl
 rw[e]at *;exact Prod.ext this.1 (Prod.ext rfl this.2)
def PQ {most:Int}: ∀(l:List Fact) (n:Int),(∀k∈l,∀m:Int,(B0 k:Int)≤m→Bh k m=B0 k)→n+C2 l≤most→Cv (l.map Bh) n most=n+C2 l
 | [],n,_,_=>by rw[Em];simp[Cv]
 | k::l,n,hk,h=>by
   rw[C7]at *;have:=D9 l;rw[C0,Cv,if_pos (by omega),hk k (.head _) (most - n) (by omega),PQ l _ (fun x hx=>hk x (.tail _ hx)) (by omega)];omega
def W5 (f:Fact): ∀m:Int,(B0 f:Int)≤m→Bh f m=B0 f:=by
 induction f using Fact.ind with
 | h f ih=>
   intro m hm;rw[Dl]at *;rw[HW,PQ f.kids 1 ih hm]
def YT {w:AM} {x:Fact} (h:A9 w x=true):x.kids.length≤2:=by
 have:=A7 x h;rw[EA,BU,D4]at this;rw[this.1];exact OT x
def nZ {w:AM} {f x:Fact} (hf:A9 w f=true) (hl:lv f≤12) (hx:A9 w x=true) (hlx:lv x≤12):uP w f x:=by
 refine⟨YT hx,fun y hy=>?_⟩;rw[Ys hx]at hy;have hyn:=Mg hx y hy;refine⟨A7 y hyn,fun n=>?_⟩;have hs:=WI (P:=A9 w) (fun f h=>DP h) (fun f l h hl hk=>Om h hl hk) hyn f hf n;refine⟨hs,?_⟩;by_cases hi:0≤n∧n<B0 f
 ·have h1:=T1 TY y f n hi.1 hi.2
  have h2:=(Mf hx hy).1;rw[Mv _ (A7 _ hs)];rw[Mv _ (A7 _ hf)]at hl;rw[Mv _ (A7 _ hx)]at hlx;omega
 ·rw[Rz f n (by omega)]
  omega
def fj {w:AM} {f:Fact} (hf:Co w f=true) (hn:Bh f 24≤12):UF w f:=by
 simp only[Co,BU,DZ]at hf;have hnf:=hf.2.2
 have hcf:B0 f≤12:=by
  have:=Hz f 24 (by omega) (by omega);omega
 have hS:gY w (fun g=>A9 w g=true∧FY TY g≤12∧FY aN g≤24) (FY aM):=by
  refine⟨fun g ⟨h1,h2,h3⟩=>?_,fun g ⟨h1,_,_⟩=>eH h1,fun g g2 ⟨h1,h2,h3⟩ hg=>?_⟩
  ·have hl:lv g≤12:=by rw[Mv g (A7 g h1)];exact h2
   have hc:B0 g≤1*FY aN g:=by rw[OZ];exact T2 (fun o=>by have:=SP o;omega) g
   refine⟨h1,hl,A7 g h1,by omega,fun x=>A9 w x=true∧lv x≤12,⟨h1,hl⟩,fun y ⟨hy,hly⟩=>⟨nZ h1 hl hy hly,fun k hk=>⟨DP hy k hk,?_⟩⟩⟩;have e:=L3 TY hk;rw[Mv _ (A7 _ hy)]at hly;rw[Mv _ (A7 _ (DP hy k hk))];omega
  ·have:=gx h1 hg
   exact⟨⟨this.1,by omega,by omega⟩,this.2.2.2⟩
 refine⟨_,_,hS,⟨hnf,?_,?_⟩,?_,fun g ⟨h1,h2,h3⟩=>?_⟩
 ·have:=T2 (a:=TY) (b:=fun _=>1) (c:=1) (fun o=>by unfold TY;split<;>(try split)<;>omega) f
  rw[←OZ]at this;omega
 ·have:=T2 (a:=aN) (b:=fun _=>1) (c:=2) (fun o=>by unfold aN;split<;>omega) f
  rw[←OZ]at this;omega
 ·have:=T2 (a:=aM) (b:=fun _=>1) (c:=3) (fun o=>by unfold aM;split<;>omega) f
  rw[←OZ]at this;omega
 ·obtain⟨n1,n2,n3,n4,-⟩:=hS.node g ⟨h1,h2,h3⟩
  have hc:B0 g≤1*FY aN g:=by rw[OZ];exact T2 (fun o=>by have:=SP o;omega) g
  refine⟨h1,n2,n3,W5 g 24 (by omega),by omega,fun n hn=>?_⟩;have hx:=Sg (P:=A9 w) (fun f h=>DP h) g h1 n (by omega) (by omega);refine⟨YT hx,fun y hy=>?_⟩;rw[br g n (by omega) (by omega)];have hs:=WI (P:=A9 w) (fun f h=>DP h) (fun f l h hl hk=>Om h hl hk) (Mg hx y hy) g h1 n;refine⟨hs,?_⟩;have e1:=T1 TY y g n (by omega) (by omega);have e2:=(Mf hx hy).1;rw[Mv _ (A7 _ hs)];omega
end Go.Gl
namespace Go.Gl
variable {P:Program} {Λ:Nat→Prop} {σ:AH} {pu:List FuncId} {fz:List Nat}
end Go.Gl
namespace Go.Gl
def F2 {α β:Type} (R:α→β→Prop):List α→List β→Prop
 | [],l=>l= []
 | x::xs,l=> ∃y ys,R x y∧F2 R xs ys∧l=y::ys
section
variable {α β:Type} {R R':α→β→Prop}
def F2.nil:F2 R [] []:=rfl
def F2.cons {x:α} {y:β} {xs:List α} {ys:List β} (h:R x y) (h':F2 R xs ys):F2 R (x::xs) (y::ys):=⟨y,ys,h,h',rfl⟩
def F2.len: ∀ {xs:List α} {ys:List β},F2 R xs ys→ys.length=xs.length
 | [],_,h=>by cases h;rfl
 | _::_,_,⟨_,_,_,h,e⟩=>by subst e;simp[F2.len h]
def F2.get: ∀ {xs:List α} {ys:List β},F2 R xs ys→ ∀ {i:Nat} {x:α},xs[i]? =some x→ ∃y,ys[i]? =some y∧R x y
 | x::xs,_,⟨y,ys,h1,h2,e⟩,i,z,hi=>by
   subst e;cases i with
   | zero=>simp at hi;subst hi;exact⟨y,by simp,h1⟩
   | succ i=>simp at hi;simpa using F2.get h2 hi
def F2.mono (hm: ∀x y,R x y→R' x y): ∀ {xs:List α} {ys:List β},F2 R xs ys→F2 R' xs ys
 | [],_,h=>h
 | _::_,_,⟨y,ys,h1,h2,e⟩=>⟨y,ys,hm _ _ h1,F2.mono hm h2,e⟩
def F2.app: ∀ {xs xs':List α} {ys ys':List β},F2 R xs ys→F2 R xs' ys'→F2 R (xs++xs') (ys++ys')
 | [],_,_,_,h,h'=>by cases h;exact h'
 | _::_,_,_,_,⟨y,ys,h1,h2,e⟩,h'=>by subst e;exact⟨y,ys++_,h1,F2.app h2 h',rfl⟩
def F2.take: ∀ {xs:List α} {ys:List β},F2 R xs ys→ ∀n,F2 R (xs.take n) (ys.take n)
 | [],_,h,n=>by cases h;simp;rfl
 | _::_,_,⟨y,ys,h1,h2,e⟩,n=>by
   subst e;cases n with
   | zero=>exact rfl
   | succ n=>exact⟨y,_,h1,F2.take h2 n,rfl⟩
def F2.drop: ∀ {xs:List α} {ys:List β},F2 R xs ys→ ∀n,F2 R (xs.drop n) (ys.drop n)
 | [],_,h,n=>by cases h;simp;rfl
 | _::_,_,⟨y,ys,h1,h2,e⟩,n=>by
   subst e;cases n with
   | zero=>exact⟨y,ys,h1,h2,rfl⟩
   | succ n=>exact F2.drop h2 n
def F2.set: ∀ {xs:List α} {ys:List β},F2 R xs ys→ ∀(i:Nat) {x:α} {y:β},R x y→F2 R (xs.set i x) (ys.set i y)
 | [],_,h,i,_,_,_=>by cases h;simp;rfl
 | _::_,_,⟨y,ys,h1,h2,e⟩,i,_,_,h=>by
   subst e;cases i with
   | zero=>exact⟨_,_,h,h2,rfl⟩
   | succ i=>exact⟨_,_,h1,F2.set h2 i h,rfl⟩
def F2.rep {x:α} {y:β} (h:R x y): ∀n,F2 R (List.replicate n x) (List.replicate n y)
 | 0=>rfl
 | n+1=>⟨y,_,h,F2.rep h n,rfl⟩
def F2.mem: ∀ {xs:List α} {ys:List β},F2 R xs ys→ ∀ {y:β},y∈ys→ ∃x,x∈xs∧R x y
 | [],_,h,y,hy=>by cases h;cases hy
 | x ::_,_,⟨z,zs,h1,h2,e⟩,y,hy=>by
   subst e;rcases G5.1 hy with rfl|hy
   ·exact⟨x,.head _,h1⟩
   ·obtain⟨u,hu,hr⟩:=F2.mem h2 hy
    exact⟨u,.tail _ hu,hr⟩
def F2.fn (hf: ∀x y z,R x y→R x z→y=z): ∀ {xs:List α} {ys zs:List β},F2 R xs ys→F2 R xs zs→ys=zs
 | [],_,_,h,h'=>by cases h;cases h';rfl
 | _::_,_,_,⟨y,ys,h1,h2,e⟩,⟨z,zs,h3,h4,e'⟩=>by
   subst e;subst e';rw[hf _ _ _ h1 h3,F2.fn hf h2 h4]
end
abbrev Ren:=Nat→Option (Nat×Nat)
def Ren.le (ρ ρ':Ren):Prop:= ∀i m,ρ i=some m→ρ' i=some m
def Ren.le.refl (ρ:Ren):ρ.le ρ:=fun _ _ h=>h
def Ren.le.trans {a b c:Ren} (h:a.le b) (k:b.le c):a.le c:=fun i m e=>k i m (h i m e)
def ZF (ρ:Ren):Fn→Fn→Prop
 | .yield i,f=> ∃m,ρ i=some m∧f= .yield m.1
 | fn,f=>f=fn
mutual
def RV (ρ:Ren):V→V→Prop
 | .p n off,v=> ∃m,ρ n=some m∧v= .p m.1 off
 | .sl n len _,v=> ∃m,ρ n=some m∧v= .sl m.1 len m.2
 | .sv n sz off len,v=> ∃m,ρ n=some m∧v= .sv m.1 sz off len
 | .pe n sz i off,v=> ∃m,ρ n=some m∧v= .pe m.1 sz i off
 | .m n,v=> ∃m,ρ n=some m∧v= .m m.1
 | .rp cs,v=> ∃cs',RL ρ cs cs'∧v= .rp cs'
 | .l es f,v=> ∃es',RR ρ es es'∧v= .l es' f
 | .f fn first cap,v=> ∃fn' first' cap',ZF ρ fn fn'∧RL ρ first first'∧RL ρ cap cap'∧v= .f fn' first' cap'
 | .Er t x,v=> ∃x',RV ρ x x'∧v= .Er t x'
 | .a cs,v=> ∃cs',RL ρ cs cs'∧v= .a cs'
 | .t cs,v=> ∃cs',RL ρ cs cs'∧v= .t cs'
 | .b x,v=>v= .b x
 | .i k n,v=>v= .i k n
 | .s x,v=>v= .s x
 | .pn,v=>v= .pn
 | .mn,v=>v= .mn
 | .Kf,v=>v= .Kf
 | .Db,v=>v= .Db
 | .any,v=>v= .any
def RL (ρ:Ren):List V→List V→Prop
 | [],l=>l= []
 | x::xs,l=> ∃y ys,RV ρ x y∧RL ρ xs ys∧l=y::ys
def RR (ρ:Ren):List (List V)→List (List V)→Prop
 | [],l=>l= []
 | x::xs,l=> ∃y ys,RL ρ x y∧RR ρ xs ys∧l=y::ys
end
def Bd {ρ:Ren}: ∀ {xs ys:List V},RL ρ xs ys↔F2 (RV ρ) xs ys
 | [],_=>by simp only[RL,F2]
 | x::xs,l=>by
   simp only[RL,F2];constructor
   ·rintro⟨y,ys,h1,h2,rfl⟩;exact⟨y,ys,h1,Bd.1 h2,rfl⟩
   ·rintro⟨y,ys,h1,h2,rfl⟩;exact⟨y,ys,h1,Bd.2 h2,rfl⟩
def FQ {ρ:Ren}: ∀ {xs ys:List (List V)},RR ρ xs ys↔F2 (F2 (RV ρ)) xs ys
 | [],_=>by simp only[RR,F2]
 | x::xs,l=>by
   simp only[RR,F2];constructor
   ·rintro⟨y,ys,h1,h2,rfl⟩;exact⟨y,ys,Bd.1 h1,FQ.1 h2,rfl⟩
   ·rintro⟨y,ys,h1,h2,rfl⟩;exact⟨y,ys,Bd.2 h1,FQ.2 h2,rfl⟩
def ZF.mono {ρ ρ':Ren} (h:ρ.le ρ') {f g:Fn} (k:ZF ρ f g):ZF ρ' f g:=by
 cases f<;>first|exact k|exact⟨_,h _ _ k.choose_spec.1,k.choose_spec.2⟩
mutual
def RV.mono {ρ ρ':Ren} (h:ρ.le ρ'): ∀(v v':V),RV ρ v v'→RV ρ' v v'
 | .p _ _,_,k| .sl _ _ _,_,k| .sv _ _ _ _,_,k| .pe _ _ _ _,_,k| .m _,_,k=>by
   simp only[RV]at k ⊢;obtain⟨m,h1,h2⟩:=k;exact⟨m,h _ _ h1,h2⟩
 | .rp cs,_,k=>by
   simp only[RV]at k ⊢;obtain⟨c,h1,h2⟩:=k;exact⟨c,RL.mono h _ _ h1,h2⟩
 | .a cs,_,k=>by
   simp only[RV]at k ⊢;obtain⟨c,h1,h2⟩:=k;exact⟨c,RL.mono h _ _ h1,h2⟩
 | .t cs,_,k=>by
   simp only[RV]at k ⊢;obtain⟨c,h1,h2⟩:=k;exact⟨c,RL.mono h _ _ h1,h2⟩
 | .l es f,_,k=>by
   simp only[RV]at k ⊢;obtain⟨c,h1,h2⟩:=k;exact⟨c,RR.mono h _ _ h1,h2⟩
 | .f fn a b,_,k=>by
   simp only[RV]at k ⊢;obtain⟨g,c,d,h1,h2,h3,h4⟩:=k;exact⟨g,c,d,h1.mono h,RL.mono h _ _ h2,RL.mono h _ _ h3,h4⟩
 | .Er t x,_,k=>by
   simp only[RV]at k ⊢;obtain⟨c,h1,h2⟩:=k;exact⟨c,RV.mono h _ _ h1,h2⟩
 | .b _,_,k| .i _ _,_,k| .s _,_,k| .pn,_,k| .mn,_,k| .Kf,_,k| .Db,_,k| .any,_,k=>by
   simp only[RV]at k ⊢;exact k
def RL.mono {ρ ρ':Ren} (h:ρ.le ρ'): ∀(l l':List V),RL ρ l l'→RL ρ' l l'
 | [],_,k=>by simp only[RL]at k ⊢;exact k
 | x::xs,_,k=>by
   simp only[RL]at k ⊢;obtain⟨y,ys,h1,h2,h3⟩:=k;exact⟨y,ys,RV.mono h _ _ h1,RL.mono h _ _ h2,h3⟩
def RR.mono {ρ ρ':Ren} (h:ρ.le ρ'): ∀(l l':List (List V)),RR ρ l l'→RR ρ' l l'
 | [],_,k=>by simp only[RR]at k ⊢;exact k
 | x::xs,_,k=>by
   simp only[RR]at k ⊢;obtain⟨y,ys,h1,h2,h3⟩:=k;exact⟨y,ys,RL.mono h _ _ h1,RR.mono h _ _ h2,h3⟩
end
def ZF.fn {ρ:Ren} {f g g':Fn} (h:ZF ρ f g) (k:ZF ρ f g'):g=g':=by
 cases f<;>first|(simp only[ZF]at h k;rw[h,k];done)|skip
 simp only[ZF]at h k;obtain⟨m,h1,rfl⟩:=h;obtain⟨m',h2,rfl⟩:=k;rw[h1]at h2;cases h2;rfl
mutual
def RV.fn {ρ:Ren}: ∀(v a b:V),RV ρ v a→RV ρ v b→a=b
 | .p _ _,_,_,k,k'| .sl _ _ _,_,_,k,k'| .sv _ _ _ _,_,_,k,k'| .pe _ _ _ _,_,_,k,k'| .m _,_,_,k,k'=>by
   simp only[RV]at k k';obtain⟨m,h1,rfl⟩:=k;obtain⟨m',h2,rfl⟩:=k';rw[h1]at h2;cases h2;rfl
 | .rp _,_,_,k,k'| .a _,_,_,k,k'| .t _,_,_,k,k'=>by
   simp only[RV]at k k';obtain⟨m,h1,rfl⟩:=k;obtain⟨m',h2,rfl⟩:=k';rw[RL.fn _ _ _ h1 h2]
 | .l _ _,_,_,k,k'=>by
   simp only[RV]at k k';obtain⟨m,h1,rfl⟩:=k;obtain⟨m',h2,rfl⟩:=k';rw[RR.fn _ _ _ h1 h2]
 | .f fn a b,_,_,k,k'=>by
   simp only[RV]at k k';obtain⟨g,c,d,h1,h2,h3,rfl⟩:=k;obtain⟨g',c',d',h1',h2',h3',rfl⟩:=k';rw[h1.fn h1',RL.fn _ _ _ h2 h2',RL.fn _ _ _ h3 h3']
 | .Er t x,_,_,k,k'=>by
   simp only[RV]at k k';obtain⟨m,h1,rfl⟩:=k;obtain⟨m',h2,rfl⟩:=k';rw[RV.fn _ _ _ h1 h2]
 | .b _,_,_,k,k'| .i _ _,_,_,k,k'| .s _,_,_,k,k'| .pn,_,_,k,k'| .mn,_,_,k,k'| .Kf,_,_,k,k'| .Db,_,_,k,k'| .any,_,_,k,k'=>by
   simp only[RV]at k k';rw[k,k']
def RL.fn {ρ:Ren}: ∀(l a b:List V),RL ρ l a→RL ρ l b→a=b
 | [],_,_,k,k'=>by simp only[RL]at k k';rw[k,k']
 | x::xs,_,_,k,k'=>by
   simp only[RL]at k k';obtain⟨y,ys,h1,h2,rfl⟩:=k;obtain⟨z,zs,h3,h4,rfl⟩:=k';rw[RV.fn _ _ _ h1 h3,RL.fn _ _ _ h2 h4]
def RR.fn {ρ:Ren}: ∀(l a b:List (List V)),RR ρ l a→RR ρ l b→a=b
 | [],_,_,k,k'=>by simp only[RR]at k k';rw[k,k']
 | x::xs,_,_,k,k'=>by
   simp only[RR]at k k';obtain⟨y,ys,h1,h2,rfl⟩:=k;obtain⟨z,zs,h3,h4,rfl⟩:=k';rw[RL.fn _ _ _ h1 h3,RR.fn _ _ _ h2 h4]
end
def Lz:Fn→Bool
 | .yield _=>false
 | _=>true
mutual
def BL:V→Bool
 | .p _ _=>false
 | .sl _ _ _=>false
 | .sv _ _ _ _=>false
 | .pe _ _ _ _=>false
 | .m _=>false
 | .rp cs=>B6 cs
 | .a cs=>B6 cs
 | .t cs=>B6 cs
 | .l es _=>QN es
 | .f fn a b=>Lz fn&&(B6 a&&B6 b)
 | .Er _ x=>BL x
 | _=>true
def B6:List V→Bool
 | []=>true
 | x::xs=>BL x&&B6 xs
def QN:List (List V)→Bool
 | []=>true
 | x::xs=>B6 x&&QN xs
end
mutual
def RV.pure {ρ:Ren}: ∀(v:V),BL v=true→RV ρ v v
 | .p _ _,h| .sl _ _ _,h| .sv _ _ _ _,h| .pe _ _ _ _,h| .m _,h=>by simp[BL]at h
 | .rp cs,h| .a cs,h| .t cs,h=>by simp only[BL]at h;simp only[RV];exact⟨_,RL.pure cs h,rfl⟩
 | .l es f,h=>by simp only[BL]at h;simp only[RV];exact⟨_,RR.pure es h,rfl⟩
 | .f fn a b,h=>by
   simp only[BL,BU]at h;simp only[RV];refine⟨fn,a,b,?_,RL.pure a h.2.1,RL.pure b h.2.2,rfl⟩;cases fn<;>first|rfl|(simp[Lz]at h)
 | .Er t x,h=>by simp only[BL]at h;simp only[RV];exact⟨_,RV.pure x h,rfl⟩
 | .b _,_| .i _ _,_| .s _,_| .pn,_| .mn,_| .Kf,_| .Db,_| .any,_=>by simp only[RV]
def RL.pure {ρ:Ren}: ∀(v:List V),B6 v=true→RL ρ v v
 | [],_=>by simp only[RL]
 | x::xs,h=>by
   simp only[B6,BU]at h;simp only[RL];exact⟨x,xs,RV.pure x h.1,RL.pure xs h.2,rfl⟩
def RR.pure {ρ:Ren}: ∀(v:List (List V)),QN v=true→RR ρ v v
 | [],_=>by simp only[RR]
 | x::xs,h=>by
   simp only[QN,BU]at h;simp only[RR];exact⟨x,xs,RL.pure x h.1,RR.pure xs h.2,rfl⟩
end
def RV.gS {ρ:Ren} {v v':V} (h:RV ρ v v') (hp:BL v=true):v'=v:=RV.fn v _ _ h (RV.pure v hp)
mutual
def EZ:V→V→Bool
 | .b x,.b y=>x==y
 | .i k n,.i k' n'=>decide (k=k')&&decide (n=n')
 | .s x,.s y=>decide (x=y)
 | .pn,.pn=>true
 | .p n o,.p n' o'=>Nat.beq n n'&&Nat.beq o o'
 | .rp a,.rp b=>Lw a b
 | .l a f,.l b g=>(f==g)&&ZT a b
 | .sl n a b,.sl n' a' b'=>Nat.beq n n'&&(Nat.beq a a'&&Nat.beq b b')
 | .sv n a b c,.sv n' a' b' c'=>Nat.beq n n'&&(Nat.beq a a'&&(Nat.beq b b'&&Nat.beq c c'))
 | .pe n a b c,.pe n' a' b' c'=>Nat.beq n n'&&(Nat.beq a a'&&(Nat.beq b b'&&Nat.beq c c'))
 | .m n,.m n'=>Nat.beq n n'
 | .mn,.mn=>true
 | .f fn a b,.f fn' a' b'=>decide (fn=fn')&&(Lw a a'&&Lw b b')
 | .Kf,.Kf=>true
 | .Er t v,.Er t' v'=>Nat.beq t t'&&EZ v v'
 | .Db,.Db=>true
 | .a a,.a b=>Lw a b
 | .t a,.t b=>Lw a b
 | .any,.any=>true
 | _,_=>false
def Lw:List V→List V→Bool
 | [],[]=>true
 | x::xs,y::ys=>EZ x y&&Lw xs ys
 | _,_=>false
def ZT:List (List V)→List (List V)→Bool
 | [],[]=>true
 | x::xs,y::ys=>Lw x y&&ZT xs ys
 | _,_=>false
end
def Cu {a b:Nat} (h:Nat.beq a b=true):a=b:=TQ h
mutual
def Nx: ∀(a b:V),EZ a b=true→a=b
 | .b x,b,h=>by cases b<;>simp[EZ]at h;rw[h]
 | .i _ _,b,h=>by cases b<;>simp[EZ]at h;rw[h.1,h.2]
 | .s _,b,h=>by cases b<;>simp[EZ]at h;rw[h]
 | .pn,b,h=>by cases b<;>simp[EZ]at h;rfl
 | .p _ _,b,h=>by
   cases b<;>simp only[EZ,BU]at h<;>first|(rw[Cu h.1,Cu h.2];done)|cases h
 | .rp _,b,h=>by
   cases b<;>simp only[EZ]at h<;>first|(rw[Ge _ _ h];done)|cases h
 | .l _ _,b,h=>by
   cases b<;>simp only[EZ,BU,D4]at h<;>first|(rw[h.1,Yu _ _ h.2];done)|cases h
 | .sl _ _ _,b,h=>by
   cases b<;>simp only[EZ,BU]at h<;>first|(rw[Cu h.1,Cu h.2.1,Cu h.2.2];done)|cases h
 | .sv _ _ _ _,b,h=>by
   cases b<;>simp only[EZ,BU]at h<;>first|(rw[Cu h.1,Cu h.2.1,Cu h.2.2.1,Cu h.2.2.2];done)|cases h
 | .pe _ _ _ _,b,h=>by
   cases b<;>simp only[EZ,BU]at h<;>first|(rw[Cu h.1,Cu h.2.1,Cu h.2.2.1,Cu h.2.2.2];done)|cases h
 | .m _,b,h=>by
   cases b<;>simp only[EZ]at h<;>first|(rw[Cu h];done)|cases h
 | .mn,b,h=>by cases b<;>simp[EZ]at h;rfl
 | .f _ _ _,b,h=>by
   cases b<;>simp only[EZ,BU,DZ]at h<;>first|(rw[h.1,Ge _ _ h.2.1,Ge _ _ h.2.2];done)|cases h
 | .Kf,b,h=>by cases b<;>simp[EZ]at h;rfl
 | .Er _ _,b,h=>by
   cases b<;>simp only[EZ,BU]at h<;>first|(rw[Cu h.1,Nx _ _ h.2];done)|cases h
 | .Db,b,h=>by cases b<;>simp[EZ]at h;rfl
 | .a _,b,h=>by
   cases b<;>simp only[EZ]at h<;>first|(rw[Ge _ _ h];done)|cases h
 | .t _,b,h=>by
   cases b<;>simp only[EZ]at h<;>first|(rw[Ge _ _ h];done)|cases h
 | .any,b,h=>by cases b<;>simp[EZ]at h;rfl
def Ge: ∀(a b:List V),Lw a b=true→a=b
 | [],[],_=>rfl
 | x::xs,y::ys,h=>by
   simp only[Lw,BU]at h;rw[Nx _ _ h.1,Ge _ _ h.2]
 | [],_::_,h=>by simp[Lw]at h
 | _::_,[],h=>by simp[Lw]at h
def Yu: ∀(a b:List (List V)),ZT a b=true→a=b
 | [],[],_=>rfl
 | x::xs,y::ys,h=>by
   simp only[ZT,BU]at h;rw[Ge _ _ h.1,Yu _ _ h.2]
 | [],_::_,h=>by simp[ZT]at h
 | _::_,[],h=>by simp[ZT]at h
end
inductive EO where
 | cs (vs:List V)
 | arr (sz:Nat) (es:List (List V))
 | map (kvs:List (V×V))
 | loop (st:sS) (env:Env) (ps:List Nat) (a b:AY)
inductive Tr (α:Type) where
 | leaf
 | node (o:Option α) (l r:Tr α)
def Tr.get {α:Type}:Tr α→Nat→Option α
 | .leaf,_=>none
 | .node o l r,k=>match k with
   | 0=>o
   | k+1=>bif Nat.beq (k % 2) 0 then l.get (k / 2)else r.get (k / 2)
def Tr.put {α β:Type} (x:Option α):Nat→Tr α→Nat→(Tr α→β)→β
 | 0,t,_,K=>K t
 | d+1,t,k,K=>match k,t with
   | 0,.leaf=>K (.node x .leaf .leaf)
   | 0,.node _ l r=>K (.node x l r)
   | k+1,.leaf=>bif Nat.beq (k % 2) 0 then Tr.put x d .leaf (k / 2) fun l=>K (.node none l .leaf)else Tr.put x d .leaf (k / 2) fun r=>K (.node none .leaf r)
   | k+1,.node o l r=>bif Nat.beq (k % 2) 0 then Tr.put x d l (k / 2) fun l=>K (.node o l r)else Tr.put x d r (k / 2) fun r=>K (.node o l r)
def BE:Nat:=40
abbrev Tr.set {α:Type} (x:Option α) (d:Nat) (t:Tr α) (k:Nat):Tr α:=Tr.put x d t k id
def Tr.put_eq {α β:Type} {x:Option α}: ∀(d:Nat) (t:Tr α) (k:Nat) (K:Tr α→β),Tr.put x d t k K=K (Tr.set x d t k)
 | 0,t,k,K=>rfl
 | d + 1,t,k,K=>by
   unfold Tr.set;cases k with
   | zero=>cases t<;>rfl
   | succ k=>
     cases t<;>simp only[Tr.put]<;>cases Nat.beq (k % 2) 0<;>simp only[cond_true,cond_false]<;>rw[Tr.put_eq d,Tr.put_eq d _ _ (fun _=>_)]<;>rfl
def Tr.Dv {α:Type} {x:Option α}: ∀(d:Nat) (t:Tr α) (k:Nat),k+1<2 ^ d→ ∀j,(Tr.set x d t k).get j=if j=k then x else t.get j
 | 0,_,k,h,_=>by simp at h
 | d + 1, t, k,h,j=>by
   have hp:2 ^ (d+1)=2*2 ^ d:=by rw[Nat.pow_succ];omega
   cases k with
   | zero=>cases t<;>cases j<;>simp[Tr.set,Tr.put,Tr.get]
   | succ k=>
     have hk:k / 2+1<2 ^ d:=by omega
     cases t with
     | leaf=>
       simp only[Tr.set,Tr.put];cases hb:Nat.beq (k % 2) 0 with
       | true=>
         simp only[cond_true];rw[Tr.put_eq];have hb':=Cu hb;cases j with
         | zero=>simp[Tr.get]
         | succ j=>
           simp only[Tr.get,id];cases hj:Nat.beq (j % 2) 0 with
           | true=>
             have hj':=Cu hj;simp only[cond_true];rw[Tr.Dv d _ _ hk];simp only[Tr.get];by_cases e:j=k
             ·simp[e]
             ·rw[if_neg (by omega),if_neg (by omega)]
           | false=>
             simp only[cond_false];rw[if_neg (fun e=>by(have:j=k:=by omega);subst this;rw[hj]at hb;cases hb)]
       | false=>
         simp only[cond_false];rw[Tr.put_eq];have hb':=Nat.ne_of_beq_eq_false hb;cases j with
         | zero=>simp[Tr.get]
         | succ j=>
           simp only[Tr.get,id];cases hj:Nat.beq (j % 2) 0 with
           | false=>
             have hj':=Nat.ne_of_beq_eq_false hj;simp only[cond_false];rw[Tr.Dv d _ _ hk];simp only[Tr.get];by_cases e:j=k
             ·simp[e]
             ·rw[if_neg (by omega),if_neg (by omega)]
           | true=>
             simp only[cond_true];rw[if_neg (fun e=>by(have:j=k:=by omega);subst this;rw[hj]at hb;cases hb)]
     | node o l r=>
       simp only[Tr.set,Tr.put];cases hb:Nat.beq (k % 2) 0 with
       | true=>
         simp only[cond_true];rw[Tr.put_eq];have hb':=Cu hb;cases j with
         | zero=>simp[Tr.get]
         | succ j=>
           simp only[Tr.get,id];cases hj:Nat.beq (j % 2) 0 with
           | true=>
             have hj':=Cu hj;simp only[cond_true];rw[Tr.Dv d _ _ hk];by_cases e:j=k
             ·simp[e]
             ·rw[if_neg (by omega),if_neg (by omega)]
           | false=>
             simp only[cond_false];rw[if_neg (fun e=>by(have:j=k:=by omega);subst this;rw[hj]at hb;cases hb)]
       | false=>
         simp only[cond_false];rw[Tr.put_eq];have hb':=Nat.ne_of_beq_eq_false hb;cases j with
         | zero=>simp[Tr.get]
         | succ j=>
           simp only[Tr.get,id];cases hj:Nat.beq (j % 2) 0 with
           | false=>
             have hj':=Nat.ne_of_beq_eq_false hj;simp only[cond_false];rw[Tr.Dv d _ _ hk];by_cases e:j=k
             ·simp[e]
             ·rw[if_neg (by omega),if_neg (by omega)]
           | true=>
             simp only[cond_true];rw[if_neg (fun e=>by(have:j=k:=by omega);subst this;rw[hj]at hb;cases hb)]
end Go.Gl
