import Derived.Test.YtegbmnmnaijioaaGreatB7
set_option linter.all false
set_option linter.defProp false
noncomputable section
namespace Go.Gl
open Go.Proofs
attribute [local irreducible] A8 Ap Ag AT AL Ae AS AU AK Ad AO AP Aw A2 Sat AX A0 Ai W
def PT {w:AM} (f:Fact):A9 w f=true→QU f=true:=by
 induction f using Fact.ind with
 | h f ih=>
   intro h;rw[CM]at h;simp only[Cq,BU,GP,DZ]at h;rw[O4];simp only[BU,DZ,List.all_map,GP,Function.comp_apply,id];exact⟨⟨h.1.2.2.1,h.1.2.2.2.1⟩,fun k hk=>ih k hk (h.2 k hk)⟩
def P1 (p:Prog) (m:NW):Bool:=decide (1≤m.kind)&&(decide (m.kind≤4)&&(decide (0≤m.gen)&&(decide (m.gen<(p.Dc.length:Int))&&(Co (AW p) m.fact&&decide (Gn m.fact≤p.Dc.getD m.gen.toNat 0)))))
def runM (p:Prog):List NW→List Int→Option (List Int)
 | [],s=>some s
 | m::r,s=>if P1 p m then match CJ p (Jf m.kind) 12 m.node (p.Dc.getD m.gen.toNat 0) s with
   | none=>none
   | some s'=>runM p r s' else none
def C3 (p:Prog):Bool:=BD p&&(decide (p.Dc.length≤8)&&(decide (p.methods.length≤16)&&(decide (1≤p.nodes.length)&&(decide (p.nodes.length≤120)&&p.Dc.all fun g=>decide (1≤g)&&decide (g≤3)))))
def Bg (p:Prog):Option (List Int):=if C3 p then match runM p p.methods (List.replicate p.nodes.length (-1))with
 | none=>none
 | some s=>match CJ p false 12 p.main 0 s with
   | none=>none
   | some s=>if s.all fun n=>decide (0≤n)then some s else none else none
def Jh (p:Prog):Option (List Int)→Option (List Int)
 | none=>none
 | some s=>match CJ p false 12 p.main 0 s with
   | none=>none
   | some s=>if s.all fun n=>decide (0≤n)then some s else none
def Mw (p:Prog):V:=match Bg p with
 | none=> .t [.l [] true,.b false]
 | some s=> .t [.l (iL s) false,.b true]
def lL {p:Prog} (h:Bg p=none):Mw p= .t [.l [] true,.b false]:=by simp only[Mw,h]
def tR {p:Prog} (h:C3 p=false):Mw p= .t [.l [] true,.b false]:=lL (by unfold Bg;rw[h];rfl)
def Kr {p:Prog} {σ:AH} (h:Bg p=none):Ap σ (.t [.l [] true,.b false]) fun r σ'=>r=R.ret (Mw p)∧σ'=emp:=by
 rw[lL h];exact AI rfl
def OM {p:Prog} {σ:AH} (h:C3 p=false):Ap σ (.t [.l [] true,.b false]) fun r σ'=>r=R.ret (Mw p)∧σ'=emp:=by
 rw[tR h];exact AI rfl
def YR {p:Prog} (h:C3 p=true):Bg p=Jh p (runM p p.methods (List.replicate p.nodes.length (-1))):=by
 unfold Bg;rw[if_pos h];rfl
def DN {p:Prog} {k:Nat} {x:NW} {s:List Int} (hx:p.methods[k]? =some x) (hn:Bg p=Jh p (runM p (p.methods.drop k) s)) (hok:P1 p x=false):Bg p=none:=by
 rw[hn,drop_cons hx,runM,if_neg (by simp[hok])];rfl
def Qh {p:Prog} {k:Nat} {x:NW} {s:List Int} (hx:p.methods[k]? =some x) (hn:Bg p=Jh p (runM p (p.methods.drop k) s)) (hok:P1 p x=true) (hw:CJ p (Jf x.kind) 12 x.node (p.Dc.getD x.gen.toNat 0) s=none):Bg p=none:=by
 rw[hn,drop_cons hx,runM,if_pos hok,hw];rfl
def X3 {p:Prog} {k:Nat} {x:NW} {s s':List Int} (hx:p.methods[k]? =some x) (hn:Bg p=Jh p (runM p (p.methods.drop k) s)) (hok:P1 p x=true) (hw:CJ p (Jf x.kind) 12 x.node (p.Dc.getD x.gen.toNat 0) s=some s'):Bg p=Jh p (runM p (p.methods.drop (k+1)) s'):=by
 rw[hn,drop_cons hx,runM,if_pos hok,hw]
def Q1 {p:Prog} (h:C3 p=true) {k:Nat} {x:Int} (hx:p.Dc[k]? =some x):1≤x∧x≤3:=by
 simp only[C3,BU,GP,DZ]at h;exact h.2.2.2.2.2 x (Ck hx)
set_option maxHeartbeats 4000000 in
def oF (p:Prog):Pure Tryz.prog 97 [.a (Ba p)] (Mw p):=by
 refine Pure.fit (by kernel_rfl) fun hf=>?_
 have⟨p1,p2,p3,p4⟩:=Fx hf.1;have hM:=Mx;refine tc kZ ?_;have hs:=Sn
 conv=>whnf
 repeat'((first|apply st|(apply sq;intro K U)|(apply si;intro A B Y Z)|(apply Y;clear Z B Y A)|(apply U;clear U K)|refine⟨rfl,?_⟩|refine⟨kZ,?_⟩|refine Pure.use (af _) ?_|(constructor<;>intro hc<;>(try rw[hc])<;>(replace hc:=bp hc)<;>(try simp(disch:=omega) only[BW,wrap64,AN]at hc))|clear U K)<;>conv=>whnf)
 ·exact OM (by simp[C3];intros;omega)
 rotate_left
 ·exact OM (by simp[C3];intros;omega)
 ·exact OM (by simp[C3];intros;omega)
 ·exact OM (by simp[C3];intros;omega)
 ·exact OM (by simp[C3, *])
 have a1:p.Dc.length≤8:=by omega
 have a2:p.methods.length≤16:=by omega
 have a3:1≤p.nodes.length:=by omega
 have a4:p.nodes.length≤120:=by omega
 have hg:C3 p=p.Dc.all fun g=>decide (1≤g)&&decide (g≤3):=by
  simp only[C3,a1,a2,a3,a4,decide_true,I8];simp[*]
 refine CD p.Dc.length (fun k (_:Unit)=>[(4,eI (BM k))]) (fun _ _=>[]) (fun k _=>C3 p=(p.Dc.drop k).all fun g=>decide (1≤g)&&decide (g≤3)) () rfl (by simpa using hg) hs ?_;clear hs;rintro k - σ hk hn hs
 conv=>whnf
 repeat'((first|apply st|(apply sq;intro K U)|(apply si;intro A B Y Z)|(apply Y;clear Z B Y A)|(apply U;clear U K)|refine⟨rfl,?_⟩|refine ix ?_|(refine fc (fun x hx hlt hc=>?_) (fun hk hc=>?_)<;>(try rw[hc])<;>clear hc)|(constructor<;>intro hc<;>(try rw[hc])<;>(replace hc:=bp hc))|clear U K)<;>conv=>whnf)
 ·exact OM (by rw[hn,drop_cons hx];simp;intros;omega)
 ·exact⟨hlt,(),rfl,by rw[hn,drop_cons hx];simp[*],hs⟩
 ·exact OM (by rw[hn,drop_cons hx];simp;intros;omega)
 have hh:C3 p=true:=by rw[hn,Al hk];rfl
 have F:=IJ hf.1;have hcB:BD p=true:=by assumption
 have hsb:Cg 0 p.AQ=true:=by simp only[BD,BU]at hcB;exact hcB.2.1
 have hc10:p.AQ.length≤1000:=by simp only[BD,BU,DZ]at hcB;omega
 have hmS:Bk p.AQ≤Aj:=by have:=(E7 _ _ hsb).1;simp only[BD,BU,DZ]at hcB;omega
 have hL:=YR hh;clear hn hg;refine CD p.nodes.length (fun j v=>[(5,v),(6,eI (BM j))]) (fun j v=>[.own v 1 (iL (List.replicate j (-1)))]) (fun j v=>1≤j→(Dg v).isSome=true) (.l [] true) rfl (fun h=>by omega) (Ed hs 1) ?_;clear hs;rintro j v σ hj hv hs
 conv=>whnf
 repeat'((first|apply st|(apply sq;intro K U)|(apply si;intro A B Y Z)|(apply Y;clear Z B Y A)|(apply U;clear U K)|refine⟨rfl,?_⟩|refine⟨kZ,?_⟩|refine sn fun σ hs=>?_|refine aq fun v σ hs hsl=>?_|(refine fc (fun x hx hlt hc=>?_) (fun hk hc=>?_)<;>(try rw[hc])<;>clear hc)|refine Pure.use (SU _ (by assumption) (by omega) (by assumption)) ?_|(intro nn hnn;generalize hg:Az _ nn _=σ;refine al hg fun hs=>?_;clear hg)|clear U K)<;>conv=>whnf)
 ·exact⟨hlt,_,rfl,fun _=>hsl,by rw[List.replicate_succ'];exact hs⟩
 have hsv:=hv (by omega);subst hk;refine CD p.methods.length (fun k (s:List Int)=>[(8,eI (BM k))]) (fun _ s=>[.own v 1 (iL s),.box nn (BI (AW p))]) (fun k s=>s.length=p.nodes.length∧Bg p=Jh p (runM p (p.methods.drop k) s)) (List.replicate p.nodes.length (-1)) rfl ⟨by simp,hL⟩ hs ?_;clear hs;rintro k s σ hk ⟨hl,hn⟩ hs
 conv=>whnf
 repeat'((first|apply st|(apply sq;intro K U)|(apply si;intro A B Y Z)|(apply Y;clear Z B Y A)|(apply U;clear U K)|apply dr|refine rk ?_ ?_|exact fun s e=>by cases e;rfl|refine⟨rfl,?_⟩|refine⟨kZ,?_⟩|refine ix ?_|refine iq fun x hx=>?_|refine ld ?_|refine sn fun σ hs=>?_|(refine fc (fun x hx hlt hc=>?_) (fun hk hc=>?_)<;>(try rw[hc])<;>clear hc)|refine Pure.use (Uy _ _) ?_|(constructor<;>intro hc<;>(try rw[hc])<;>(replace hc:=bp hc)<;>(try simp(disch:=omega) only[BW,wrap64,AN]at hc))|(intro nn hnn;generalize hg:Az _ nn _=σ;refine al hg fun hs=>?_;clear hg)|clear U K)<;>conv=>whnf)
 rotate_left
 ·exact Kr (DN hx hn (by simp[P1, *]))
 ·exact Kr (DN hx hn (by simp[P1];intros;omega))
 ·exact Kr (DN hx hn (by simp[P1];intros;omega))
 ·exact Kr (DN hx hn (by simp[P1];intros;omega))
 ·exact Kr (DN hx hn (by simp[P1];intros;omega))
 ·refine(cF p false 12 (He _) p.main 0 1 s v rfl (by omega) (by omega) hl hsv).use hs ?_
  clear hs;rintro r post σ ⟨s2,hl2,rfl,⟨ho,rfl⟩|⟨ho,rfl⟩⟩ hs
  ·conv=>whnf
   repeat'((first|apply st|(apply sq;intro K U)|(apply si;intro A B Y Z)|(apply Y;clear Z B Y A)|(apply U;clear U K)|(constructor<;>intro hc<;>(try rw[hc])<;>(replace hc:=bp hc)<;>(try simp(disch:=omega) only[BW,wrap64,AN]at hc))|clear U K)<;>conv=>whnf)
   ·cases hc
   have hz:Bg p=if s2.all fun n=>decide (0≤n)then some s2 else none:=by rw[hn,Al hk,runM,Jh,ho]
   refine CD s2.length (fun j (_:Unit)=>[(10,eI (BM j))]) (fun _ _=>[.own v 1 (iL s2),.box nn (BI (AW p))]) (fun j _=>Bg p=if(s2.drop j).all fun n=>decide (0≤n)then some s2 else none) () rfl hz hs ?_;clear hs;rintro j - σ hj hz hs
   conv=>whnf
   repeat'((first|apply st|(apply sq;intro K U)|(apply si;intro A B Y Z)|(apply Y;clear Z B Y A)|(apply U;clear U K)|refine⟨rfl,?_⟩|refine oc ?_|refine ol fun x hx=>?_|(refine fc (fun x hx hlt hc=>?_) (fun hk hc=>?_)<;>(try rw[hc])<;>clear hc)|refine lo ?_|(constructor<;>intro hc<;>(try rw[hc])<;>(replace hc:=bp hc))|clear U K)<;>conv=>whnf)
   ·exact Kr (by rw[hz,drop_cons hx,NN,if_neg];simp;intros;omega)
   ·exact⟨hlt,(),rfl,by rw[hz,drop_cons hx,NN];simp[*],hs⟩
   ·have hz2:Bg p=some s2:=by rw[hz,Al (by assumption)];rfl
    simp only[Mw,hz2];exact An (.t (.cons (hs.G7 0 rfl) (.cons (.refl _) .nil)))
  ·conv=>whnf
   repeat'((first|apply st|(apply sq;intro K U)|(apply si;intro A B Y Z)|(apply Y;clear Z B Y A)|(apply U;clear U K)|(constructor<;>intro hc<;>(try rw[hc])<;>(replace hc:=bp hc)<;>(try simp(disch:=omega) only[BW,wrap64,AN]at hc))|clear U K)<;>conv=>whnf)
   ·exact Kr (by rw[hn,Al hk,runM,Jh,ho])
   ·cases hc
 rename NW=>m
 rename p.methods[k]? =some m=>hm
 refine(eM m.fact (PT _ (by(have:Co (AW p) m.fact=true:=by assumption);simp only[Co,BU]at this;exact this.2.2))).use ?_
 conv=>whnf
 repeat'((first|apply st|(apply sq;intro K U)|(apply si;intro A B Y Z)|(apply Y;clear Z B Y A)|(apply U;clear U K)|apply dr|refine rk ?_ ?_|exact fun s e=>by cases e;rfl|refine⟨rfl,?_⟩|refine⟨kZ,?_⟩|refine iq fun x hx=>?_|refine ld ?_|refine Pure.use (n8 _) ?_|(constructor<;>intro hc<;>(try rw[hc])<;>(replace hc:=bp hc))|clear U K)<;>conv=>whnf)
 ·exact Kr (DN hm hn (by simp[P1,E2,hx];intros;omega))
 obtain⟨hx1,hx3⟩:=Q1 hh hx;have hgd:p.Dc.getD m.gen.toNat 0=x:=by rw[E2,hx];rfl
 rename p.Dc[m.gen.toNat]? =some _=>hx2
 have hxe:=Option.some.inj (hx.symm.trans hx2);subst hxe;have hok:P1 p m=true:=by simp only[P1,hgd,BU,DZ];exact⟨by assumption,by omega,by assumption,by assumption,by assumption,by assumption⟩
 refine(cF p (Jf m.kind) 12 (He _) m.node x 1 s v rfl (by omega) (by omega) hl hsv).use (rest:=[_,_]) hs ?_;clear hs;rintro r post σ ⟨s2,hl2,rfl,⟨ho,rfl⟩|⟨ho,rfl⟩⟩ hs
 ·conv=>whnf
  repeat'((first|apply st|(apply sq;intro K U)|(apply si;intro A B Y Z)|(apply Y;clear Z B Y A)|(apply U;clear U K)|apply dr|refine⟨rfl,?_⟩|(constructor<;>intro hc<;>(try rw[hc])<;>(replace hc:=bp hc)<;>(try simp(disch:=omega) only[BW,wrap64,AN]at hc))|clear U K)<;>conv=>whnf)
  ·cases hc
  ·exact⟨by assumption,s2,rfl,⟨by omega,X3 hm hn hok (by rw[hgd];exact ho)⟩,hs.less (.cons₂ _ (.cons₂ _ (QI _)))⟩
 ·conv=>whnf
  repeat'((first|apply st|(apply sq;intro K U)|(apply si;intro A B Y Z)|(apply Y;clear Z B Y A)|(apply U;clear U K)|apply dr|refine⟨rfl,?_⟩|(constructor<;>intro hc<;>(try rw[hc])<;>(replace hc:=bp hc)<;>(try simp(disch:=omega) only[BW,wrap64,AN]at hc))|clear U K)<;>conv=>whnf)
  ·exact Kr (Qh hm hn hok (by rw[hgd];exact ho))
  ·cases hc
def nS (p:Prog):Pure Tryz.prog 36 [.a (Ba p)] (.b (Bg p).isSome):=by
 refine tv kZ ?_;have h:=oF p;unfold Mw at h;cases hl:Bg p with
 | none=>
   rw[hl]at h
   conv=>whnf
   repeat'((first|apply st|(apply sq;intro K U)|(apply si;intro A B Y Z)|(apply Y;clear Z B Y A)|(apply U;clear U K)|refine⟨kZ,?_⟩|refine Pure.use (by assumption) ?_|fail)<;>conv=>whnf)
   all_goals exact AI (by first|rfl|simp)
 | some s=>
   rw[hl]at h
   conv=>whnf
   repeat'((first|apply st|(apply sq;intro K U)|(apply si;intro A B Y Z)|(apply Y;clear Z B Y A)|(apply U;clear U K)|refine⟨kZ,?_⟩|refine Pure.use (by assumption) ?_|fail)<;>conv=>whnf)
   all_goals exact AI (by first|rfl|simp)
def KE (xs ys:List Int) (f g:Bool):Pure Tryz.prog 40 [.l (iL xs) f,.l (iL ys) g] (.b (xs==ys)):=by
 refine Pure.fit (by kernel_rfl) fun hf=>?_
 have hx:=Kq hf.1;have hy:=Kq hf.2.1;have hM:=Mx;refine tu kZ ?_;have hs:=Sn
 conv=>whnf
 repeat'((first|apply st|(apply sq;intro K U)|(apply si;intro A B Y Z)|(apply Y;clear Z B Y A)|(apply U;clear U K)|refine⟨rfl,?_⟩|(constructor<;>intro hc<;>(try rw[hc])<;>(replace hc:=bp hc)<;>(try simp(disch:=omega) only[BW,wrap64,AN]at hc))|clear U K)<;>conv=>whnf)
 ·exact AI (by(have:(xs==ys)=false:=by(simp;intro e;subst e;simp at hc));rw[this])
 have hl:xs.length=ys.length:=by omega
 refine CD xs.length (fun k (_:Unit)=>[(13,eI (BM k))]) (fun _ _=>[]) (fun k _=>(xs==ys)=(xs.drop k==ys.drop k)) () rfl rfl Sat.nil ?_;clear hs;rintro k - σ hk hn hs;by_cases hlt:k<xs.length
 ·obtain⟨y,hyk⟩: ∃y,ys[k]? =some y:=⟨_,Et (by omega)⟩
  conv=>whnf
  repeat'((first|apply st|(apply sq;intro K U)|(apply si;intro A B Y Z)|(apply Y;clear Z B Y A)|(apply U;clear U K)|apply dr|refine⟨rfl,?_⟩|refine ix ?_|(refine fc (fun x hx hlt hc=>?_) (fun hk hc=>?_)<;>(try rw[hc])<;>clear hc)|(constructor<;>intro hc<;>(try rw[hc])<;>(replace hc:=bp hc))|clear U K)<;>conv=>whnf)
  ·exact AI (by rw[hn,drop_cons hx,drop_cons hyk];simp[hc])
  ·exact⟨hlt,(),rfl,by rw[hn,drop_cons hx,drop_cons hyk,hc];simp,hs⟩
  ·omega
 ·conv=>whnf
  repeat'((first|apply st|(apply sq;intro K U)|(apply si;intro A B Y Z)|(apply Y;clear Z B Y A)|(apply U;clear U K)|apply dr|refine⟨rfl,?_⟩|refine ix ?_|refine iq fun x hx=>?_|(refine fc (fun x hx hlt hc=>?_) (fun hk hc=>?_)<;>(try rw[hc])<;>clear hc)|(constructor<;>intro hc<;>(try rw[hc])<;>(replace hc:=bp hc)<;>try(exfalso;omega))|clear U K)<;>conv=>whnf)
  exact AI (by rw[hn,Al hk,Al (by omega)];rfl)
def Ih:List (Fact→Bool)→List Fact→Bool
 | h::r,k::s=>h k&&Ih r s
 | _,_=>true
def lB (f:Fact) (l:List (Fact→Bool)) (g:Fact):Bool:=f.op==g.op&&(f.arg==g.arg&&(f.cls==g.cls&&(f.n==g.n&&(f.path==g.path&&(f.kids.length==g.kids.length&&Ih l g.kids)))))
def B3 (f:Fact):Fact→Bool:=f.Ff lB
def Ix (f g:Fact):B3 f g=(f.op==g.op&&(f.arg==g.arg&&(f.cls==g.cls&&(f.n==g.n&&(f.path==g.path&&(f.kids.length==g.kids.length&&Ih (f.kids.map B3) g.kids)))))):=congrFun (Fact.Cm lB f) g
def VB {xs ys:List Fact} (h: ∀x∈xs,∀y,B3 x y=true↔x=y) (hl:xs.length=ys.length):Ih (xs.map B3) ys=true↔xs=ys:=by
 induction xs generalizing ys with
 | nil=>cases ys with
   | nil=>simp[Ih]
   | cons _ _=>simp at hl
 | cons x r ih=>cases ys with
   | nil=>simp at hl
   | cons y s=>
     simp only[C0,Ih,BU,List.cons.injEq];rw[h x (.head _) y,ih (fun x hx=>h x (.tail _ hx)) (by simpa using hl)]
def E8 (f g:Fact):B3 f g=true↔f=g:=by
 induction f using Fact.ind generalizing g with
 | h f ih=>
   rw[Ix];cases f with
   | mk o a p c n k=>cases g with
     | mk o' a' p' c' n' k'=>
       simp only[Fact.op,Fact.arg,Fact.cls,Fact.n,Fact.path,Fact.kids,BU,D4,Fact.mk.injEq]at *;constructor
       ·rintro⟨rfl,rfl,rfl,rfl,rfl,hl,h⟩
        exact⟨rfl,rfl,rfl,rfl,rfl,(VB (fun x hx y=>ih x hx y) hl).1 h⟩
       ·rintro⟨rfl,rfl,rfl,rfl,rfl,rfl⟩
        exact⟨rfl,rfl,rfl,rfl,rfl,rfl,(VB (fun x hx y=>ih x hx y) rfl).2 rfl⟩
set_option maxHeartbeats 1000000 in
def Ky (f g:Fact):Pure Tryz.prog 27 [.a (xF f),.a (xF g)] (.b (B3 f g)):=by
 induction f using Fact.ind generalizing g with
 | h f ih=>
   refine Pure.fit (by kernel_rfl) fun hf=>?_
   have⟨h2,h3,h4⟩:=HG hf.1;have⟨g2,g3,g4⟩:=HG hf.2.1;have hM:=Mx;refine uB kZ ?_;have hs:=Sn
   conv=>whnf
   repeat'((first|apply st|(apply sq;intro K U)|(apply si;intro A B Y Z)|(apply Y;clear Z B Y A)|(apply U;clear U K)|refine⟨rfl,?_⟩|refine Pure.use (KE _ _ _ _) ?_|(constructor<;>intro hc<;>(try rw[hc])<;>(replace hc:=bp hc)<;>(try simp(disch:=omega) only[BW,wrap64,AN]at hc))|clear U K)<;>conv=>whnf)
   rotate_left
   all_goals try exact AI (by rw[Ix];simp[*]<;>omega)
   rotate_left
   ·have hkl:f.kids.length=g.kids.length:=by omega
    refine CD f.kids.length (fun k (_:Unit)=>[(52,eI (BM k))]) (fun _ _=>[]) (fun k _=>B3 f g=Ih ((f.kids.drop k).map B3) (g.kids.drop k)) () rfl (by rw[Ix];simp[*]) Sat.nil ?_;clear hs;rintro k - σ hk hn hs;by_cases hlt:k<f.kids.length
    ·obtain⟨y,hyk⟩: ∃y,g.kids[k]? =some y:=⟨_,Et (by omega)⟩
     conv=>whnf
     repeat'((first|apply st|(apply sq;intro K U)|(apply si;intro A B Y Z)|(apply Y;clear Z B Y A)|(apply U;clear U K)|apply dr|refine⟨rfl,?_⟩|refine⟨kZ,?_⟩|refine Nc ?_|(refine fc (fun x hx hlt hc=>?_) (fun hk hc=>?_)<;>(try rw[hc])<;>clear hc)|clear U K)<;>conv=>whnf)
     ·refine(ih x (Ck hx) y).use ?_
      conv=>whnf
      repeat'((first|apply st|(apply sq;intro K U)|(apply si;intro A B Y Z)|(apply Y;clear Z B Y A)|(apply U;clear U K)|apply dr|refine⟨rfl,?_⟩|(constructor<;>intro hc<;>(try rw[hc])<;>(replace hc:=bp hc))|clear U K)<;>conv=>whnf)
      ·exact AI (by rw[hn,drop_cons hx,drop_cons hyk,C0,Ih,hc];rfl)
      ·exact⟨hlt,(),rfl,by rw[hn,drop_cons hx,drop_cons hyk,C0,Ih,hc];rfl,hs⟩
     ·omega
    ·conv=>whnf
     repeat'((first|apply st|(apply sq;intro K U)|(apply si;intro A B Y Z)|(apply Y;clear Z B Y A)|(apply U;clear U K)|apply dr|refine⟨rfl,?_⟩|refine⟨kZ,?_⟩|refine Nc ?_|refine iq fun x hx=>?_|(refine fc (fun x hx hlt hc=>?_) (fun hk hc=>?_)<;>(try rw[hc])<;>clear hc)|clear U K)<;>conv=>whnf)
     all_goals first|(exfalso;omega)|exact AI (by rw[hn,Al hk];rfl)
def ED (f:Fact):Fact:= .mk 5 0 [] 0 0 [f]
def P8 (f g:Fact):Fact:= .mk 6 0 [] 0 0 [f,g]
def R5 (f:Fact):Pure Tryz.prog 68 [.a (xF f)] (.a (xF (ED f))):=by
 refine tr kZ ?_;have hs:=Sn
 conv=>whnf
 repeat'((first|apply st|(apply sq;intro K U)|(apply si;intro A B Y Z)|(apply Y;clear Z B Y A)|(apply U;clear U K)|refine⟨kZ,?_⟩|refine ld ?_|refine sn fun σ hs=>?_|(intro nn hnn;generalize hg:Az _ nn _=σ;refine al hg fun hs=>?_;clear hg)|fail)<;>conv=>whnf)
 refine An (.a (.cons (.refl _) (.cons (.refl _) (.cons CQ (.cons (.refl _) (.cons (.refl _) (.cons ?_ .nil)))))));refine .l (fun h=>by cases h) ?_;simp only[ED,Fact.kids,List.map,BC];exact CA _
def r9 (f g:Fact):Pure Tryz.prog 70 [.a (xF f),.a (xF g)] (.a (xF (P8 f g))):=by
 refine tq kZ ?_;have hs:=Sn
 conv=>whnf
 repeat'((first|apply st|(apply sq;intro K U)|(apply si;intro A B Y Z)|(apply Y;clear Z B Y A)|(apply U;clear U K)|refine⟨kZ,?_⟩|refine ld ?_|refine sn fun σ hs=>?_|(intro nn hnn;generalize hg:Az _ nn _=σ;refine al hg fun hs=>?_;clear hg)|fail)<;>conv=>whnf)
 refine An (.a (.cons (.refl _) (.cons (.refl _) (.cons CQ (.cons (.refl _) (.cons (.refl _) (.cons ?_ .nil)))))));refine .l (fun h=>by cases h) ?_;simp only[P8,Fact.kids,List.map,BC];exact CA _
def Fv (l:Fact):Prop:=l.op=5→l.kids≠[]
def BN (l:Fact):Fact×Bool:=if l.op=5 then(l.kids.headD default,true)else(l,false)
def HN (l:Fact) (h:Fv l):Pure Tryz.prog 370 [.a (xF l)] (.t [.a (xF (BN l).1),.b (BN l).2]):=by
 refine Pure.fit (by kernel_rfl) fun hf=>?_
 have⟨h2,h3,h4⟩:=HG hf.1;refine o5 kZ ?_;have hs:=Sn;by_cases h5:l.op=5
 ·have hk:0<l.kids.length:=List.length_pos_iff.2 (h h5)
  conv=>whnf
  repeat'((first|apply st|(apply sq;intro K U)|(apply si;intro A B Y Z)|(apply Y;clear Z B Y A)|(apply U;clear U K)|refine⟨rfl,?_⟩|refine⟨kZ,?_⟩|refine zZ fun x hx=>?_|refine ld ?_|refine sn fun σ hs=>?_|(constructor<;>intro hc<;>(try rw[hc])<;>(replace hc:=bp hc)<;>try(exfalso;omega))|(intro nn hnn;generalize hg:Az _ nn _=σ;refine al hg fun hs=>?_;clear hg)|clear U K)<;>conv=>whnf)
  all_goals try(exfalso;omega)
  refine AI ?_
  have:l.kids.headD default=x:=by
   cases hl:l.kids with
   | nil=>rw[hl]at hk;simp at hk
   | cons y r=>rw[hl]at hx;simpa using hx
  simp only[BN,if_pos h5,this];rfl
 ·conv=>whnf
  repeat'((first|apply st|(apply sq;intro K U)|(apply si;intro A B Y Z)|(apply Y;clear Z B Y A)|(apply U;clear U K)|refine⟨rfl,?_⟩|refine⟨kZ,?_⟩|refine ld ?_|refine sn fun σ hs=>?_|(constructor<;>intro hc<;>(try rw[hc])<;>(replace hc:=bp hc)<;>try(exfalso;omega))|(intro nn hnn;generalize hg:Az _ nn _=σ;refine al hg fun hs=>?_;clear hg)|fail)<;>conv=>whnf)
  all_goals try(exfalso;omega)
  refine AI ?_;simp only[BN,if_neg h5];rfl
def Bv (path pre:List Int):Bool:=decide (pre.length≤path.length)&&path.take pre.length==pre
def RI (xs ys:List Int) (f g:Bool):Pure Tryz.prog 378 [.l (iL xs) f,.l (iL ys) g] (.b (Bv xs ys)):=by
 refine Pure.fit (by kernel_rfl) fun hf=>?_
 have hx:=Kq hf.1;have hy:=Kq hf.2.1;have hM:=Mx;refine ot kZ ?_;have hs:=Sn
 conv=>whnf
 repeat'((first|apply st|(apply sq;intro K U)|(apply si;intro A B Y Z)|(apply Y;clear Z B Y A)|(apply U;clear U K)|refine⟨rfl,?_⟩|refine zT ?_|refine Pure.use (KE _ _ _ _) ?_|(constructor<;>intro hc<;>(try rw[hc])<;>(replace hc:=bp hc)<;>(try simp(disch:=omega) only[BW,wrap64,AN]at hc))|fail)<;>conv=>whnf)
 ·refine AI ?_
  have:ys.length≤xs.length:=by omega
  simp[Bv,this]
 ·refine AI ?_
  have: ¬ys.length≤xs.length:=by omega
  simp[Bv,this]
def GW (w:AM) (ls:List Fact) (a:Int) (p:List Int) (c:Bool):List V:=[.l (EX w.parents) false,.l (iL w.owner) false,.l (facts ls) false,eI a,.l (iL p) false,.b c]
def JF (w:AM) (ls:List Fact) (a:Int) (p:List Int) (c:Bool) (s:Int) (hp:p.length<100):Pure Tryz.prog 373 [.a (GW w ls a p c),eI s] (.a (GW w ls a (p++[s]) c)):=by
 have hM:=Mx;refine oy kZ ?_;have hs:=Sn
 conv=>whnf
 repeat'((first|apply st|(apply sq;intro K U)|(apply si;intro A B Y Z)|(apply Y;clear Z B Y A)|(apply U;clear U K)|apply dr|refine⟨kZ,?_⟩|(intro nn hnn;generalize hg:Az _ nn _=σ;refine al hg fun hs=>?_;clear hg)|fail)<;>conv=>whnf)
 replace hs:=Ed hs 1;refine GS hs 1 (xs:=[]) (ys:=p) rfl (by simp;omega) Cr fun v σ hs=>?_
 conv=>whnf
 repeat'((first|apply st|apply dr|refine rk ?_ ?_|exact fun s e=>by cases e;rfl|refine⟨kZ,?_⟩|refine aq fun v σ hs hsl=>?_|fail)<;>conv=>whnf)
 obtain⟨n,l,cc,rfl⟩:=k9 hsl
 conv=>whnf
 repeat'((first|apply st|(apply Y;clear Z B Y A)|(apply U;clear U K)|apply dr|refine⟨kZ,?_⟩|refine ld ?_|refine sn fun σ hs=>?_|fail)<;>conv=>whnf)
 exact An (.a (.cons (.refl _) (.cons (.refl _) (.cons (.refl _) (.cons (.refl _) (.cons (hs.G7 1 rfl) (.cons (.refl _) .nil)))))))
def IW (a:Int) (p:List Int) (l:Fact):Bool:=(BN l).1.arg==a&&(BN l).1.path==p
def F9 {w:AM} {ls:List Fact} {a:Int} {p:List Int} {c:Bool} (h:Eu (.a (GW w ls a p c))):ls.length≤Aj∧p.length≤Aj∧w.owner.length≤Aj∧w.parents.length≤Aj:=by
 simp only[GW,Gt,DQ,Gs,BW]at h;exact⟨h.2.2.1.1,h.2.2.2.2.1.1,h.2.1.1,h.1.1⟩
def bt (w:AM) (ls:List Fact) (a:Int) (p:List Int) (c:Bool) (hok: ∀l∈ls,Fv l) (hln:ls.length≤1000000):Pure Tryz.prog 369 [.a (GW w ls a p c)] (.l (facts (ls.filter (IW a p))) false):=by
 refine Pure.fit (by kernel_rfl) fun hf=>?_
 have⟨h1,h2,h3,h4⟩:=F9 hf.1;have hM:=Mx;refine o6 kZ ?_;have hs:=Sn
 conv=>whnf
 repeat'((first|apply st|(apply sq;intro K U)|(apply si;intro A B Y Z)|(apply Y;clear Z B Y A)|(apply U;clear U K)|fail)<;>conv=>whnf)
 refine CD ls.length (fun k v=>[(3,v),(11,eI (BM k))]) (fun k v=>[.own v 6 (facts ((ls.take k).filter (IW a p)))]) (fun _ _=>True) (.l [] true) rfl trivial (Ed hs 6) ?_;clear hs;rintro k v σ hk - hs;have hfl:=QJ (IW a p) (ls.take k)
 conv=>whnf
 repeat'((first|apply st|(apply sq;intro K U)|(apply si;intro A B Y Z)|(apply Y;clear Z B Y A)|(apply U;clear U K)|refine⟨rfl,?_⟩|refine⟨kZ,?_⟩|refine Nc ?_|refine ld ?_|refine sn fun σ hs=>?_|refine kr fun v σ hs hsl=>?_|(refine fc (fun x hx hlt hc=>?_) (fun hk hc=>?_)<;>(try rw[hc])<;>clear hc)|refine Pure.use (HN _ (hok _ (Ck (by assumption)))) ?_|refine Pure.use (KE _ _ _ _) ?_|(constructor<;>intro hc<;>(try rw[hc])<;>(replace hc:=bp hc))|(intro nn hnn;generalize hg:Az _ nn _=σ;refine al hg fun hs=>?_;clear hg)|clear U K)<;>conv=>whnf)
 ·exact⟨hlt,_,rfl,trivial,by rw[AR hx,List.filter_append];simpa[IW, *]using hs.take 1⟩
 ·exact⟨hlt,_,rfl,trivial,by rw[AR hx,List.filter_append];simpa[IW, *]using hs.take 1⟩
 ·exact⟨hlt,_,rfl,trivial,by rw[AR hx,List.filter_append];simpa[IW, *]using hs.take 1⟩
 ·exact EB hs 0 rfl (by rw[Av hk])
def GX (ls:List Fact) (a:Int) (p:List Int):Bool:=ls.all fun l=>(BN l).2|| !((BN l).1.arg==a&&Bv (BN l).1.path p)
def Yv (w:AM) (ls:List Fact) (a:Int) (p:List Int) (c:Bool) (hok: ∀l∈ls,Fv l):Pure Tryz.prog 374 [.a (GW w ls a p c)] (.b (GX ls a p)):=by
 refine Pure.fit (by kernel_rfl) fun hf=>?_
 have⟨h1,h2,h3,h4⟩:=F9 hf.1;have hM:=Mx;refine ox kZ ?_;have hs:=Sn
 conv=>whnf
 repeat'((first|apply st|(apply sq;intro K U)|(apply si;intro A B Y Z)|(apply Y;clear Z B Y A)|(apply U;clear U K)|fail)<;>conv=>whnf)
 refine CD ls.length (fun k (_:Unit)=>[(10,eI (BM k))]) (fun k _=>[]) (fun k _=>GX ls a p=(ls.drop k).all fun l=>(BN l).2|| !((BN l).1.arg==a&&Bv (BN l).1.path p)) () rfl rfl hs ?_;clear hs;rintro k - σ hk hn hs
 conv=>whnf
 repeat'((first|apply st|(apply sq;intro K U)|(apply si;intro A B Y Z)|(apply Y;clear Z B Y A)|(apply U;clear U K)|refine⟨rfl,?_⟩|refine⟨kZ,?_⟩|refine Nc ?_|refine ld ?_|refine sn fun σ hs=>?_|(refine fc (fun x hx hlt hc=>?_) (fun hk hc=>?_)<;>(try rw[hc])<;>clear hc)|refine Pure.use (HN _ (hok _ (Ck (by assumption)))) ?_|refine Pure.use (RI _ _ _ _) ?_|(constructor<;>intro hc<;>(try rw[hc])<;>(replace hc:=bp hc))|(intro nn hnn;generalize hg:Az _ nn _=σ;refine al hg fun hs=>?_;clear hg)|clear U K)<;>conv=>whnf)
 ·exact AI (by rw[hn,drop_cons hx,NN];simp[*])
 ·exact⟨hlt,(),rfl,by rw[hn,drop_cons hx,NN];simp[*],hs.take 0⟩
 ·exact⟨hlt,(),rfl,by rw[hn,drop_cons hx,NN];simp[*],hs.take 0⟩
 ·exact⟨hlt,(),rfl,by rw[hn,drop_cons hx,NN];simp[*],hs.take 0⟩
 ·exact AI (by rw[hn,Al hk];rfl)
def Ca (n:Nat):List Int:=(List.range n).map Int.ofNat
def I3 (n:Nat):Ca (n+1)=Ca n++[(n:Int)]:=by simp[Ca,List.range_succ]
def GC (n:Nat):(Ca n).length=n:=by simp[Ca]
def bE (a:Int) (p:List Int) (s:Int) (l:Fact):Bool:=(BN l).1.arg==a&&Bv (BN l).1.path (p++[s])
def CR (n:Nat) (ls:List Fact) (a:Int) (p:List Int):List Int:=(Ca n).filter fun s=>ls.any (bE a p s)
def UU (w:AM) (ls:List Fact) (a:Int) (p:List Int) (c:Bool) (hok: ∀l∈ls,Fv l) (hp:p.length<100) :
    Pure Tryz.prog 372 [.a (GW w ls a p c)] (.l (iL (CR w.owner.length ls a p)) false):=by
 refine Pure.fit (by kernel_rfl) fun hf=>?_
 have⟨h1,h2,h3,h4⟩:=F9 hf.1;have hM:=Mx;refine oz kZ ?_;have hs:=Sn
 conv=>whnf
 repeat'((first|apply st|(apply sq;intro K U)|(apply si;intro A B Y Z)|(apply Y;clear Z B Y A)|(apply U;clear U K)|fail)<;>conv=>whnf)
 refine CD w.owner.length (fun k v=>[(3,v),(14,eI (BM k))]) (fun k v=>[.own v 1 (iL (CR k ls a p))]) (fun _ _=>True) (.l [] true) rfl trivial (Ed hs 1) ?_;clear hs;rintro k v σ hk - hs;have hck:BM k=k:=AN (by omega);have hfl:=QJ (fun s=>ls.any (bE a p s)) (Ca k);rw[GC]at hfl;have hfl2:(CR k ls a p).length≤k:=hfl
 conv=>whnf
 repeat'((first|apply st|(apply sq;intro K U)|(apply si;intro A B Y Z)|(apply Y;clear Z B Y A)|(apply U;clear U K)|refine⟨rfl,?_⟩|(refine fc (fun x hx hlt hc=>?_) (fun hk hc=>?_)<;>(try rw[hc])<;>clear hc)|clear U K)<;>conv=>whnf)
 ·refine CD ls.length (fun j b=>[(5,.b b),(20,eI (BM j))]) (fun j _=>[.own v 1 (iL (CR k ls a p))]) (fun j b=>b=(ls.take j).any (bE a p (BM k))) false rfl (by simp) hs ?_
  clear hs;rintro j b σ hj hb hs;subst hb
  conv=>whnf
  repeat'((first|apply st|(apply sq;intro K U)|(apply si;intro A B Y Z)|(apply Y;clear Z B Y A)|(apply U;clear U K)|apply dr|refine rk ?_ ?_|exact fun s e=>by cases e;rfl|refine⟨rfl,?_⟩|refine⟨kZ,?_⟩|refine Nc ?_|refine ld ?_|refine sn fun σ hs=>?_|refine aq fun v σ hs hsl=>?_|(refine fc (fun x hx hlt hc=>?_) (fun hk hc=>?_)<;>(try rw[hc])<;>clear hc)|refine Pure.use (HN _ (hok _ (Ck (by assumption)))) ?_|refine Pure.use (RI _ _ _ _) ?_|refine Pure.use (JF _ _ _ _ _ _ (by omega)) ?_|(constructor<;>intro hc<;>(try rw[hc])<;>(replace hc:=bp hc)<;>(try simp(disch:=omega) only[BW,wrap64,AN]at hc))|(intro nn hnn;generalize hg:Az _ nn _=σ;refine al hg fun hs=>?_;clear hg)|clear U K)<;>conv=>whnf)
  ·exact⟨hlt,_,rfl,by rw[AR hx,List.any_append];simp[bE, *],hs.take 1⟩
  ·exact⟨hlt,_,rfl,by rw[AR hx,List.any_append];simp[bE, *],hs.take 1⟩
  ·exact⟨hlt,true,rfl,by rw[AR hx,List.any_append];simp[*],hs.take 1⟩
  ·refine⟨by assumption,_,rfl,trivial,?_⟩
   rw[Av hk]at hc;rw[CR,I3,List.filter_append];simp only[CR]at hs;simpa[hc,hck]using hs
  ·refine⟨by assumption,_,rfl,trivial,?_⟩
   rw[Av hk]at hc;rw[CR,I3,List.filter_append];simp only[CR]at hs;simpa[hc,hck]using hs
 ·exact EB hs 0 rfl (by rw[hk])
def GV (n:Nat) (ls:List Fact) (a:Int) (p:List Int):Bool:=(CR n ls a p).all fun s=>GX ls a (p++[s])
def Yi (w:AM) (ls:List Fact) (a:Int) (p:List Int) (c:Bool) (hok: ∀l∈ls,Fv l) (hp:p.length<50):Pure Tryz.prog 371 [.a (GW w ls a p c)] (.b (GV w.owner.length ls a p)):=by
 refine Pure.fit (by kernel_rfl) fun hf=>?_
 have⟨h1,h2,h3,h4⟩:=F9 hf.1;have hM:=Mx;refine o0 kZ ?_;have hs:=Sn;have hfl:=QJ (fun s=>ls.any (bE a p s)) (Ca w.owner.length);rw[GC]at hfl;have hfl2:(CR w.owner.length ls a p).length≤w.owner.length:=hfl
 conv=>whnf
 repeat'((first|apply st|(apply sq;intro K U)|(apply si;intro A B Y Z)|(apply Y;clear Z B Y A)|(apply U;clear U K)|refine⟨kZ,?_⟩|refine Pure.use (UU _ _ _ _ _ hok (by omega)) ?_|fail)<;>conv=>whnf)
 refine CD (CR w.owner.length ls a p).length (fun k (_:Unit)=>[(8,eI (BM k))]) (fun k _=>[]) (fun k _=>GV w.owner.length ls a p=((CR w.owner.length ls a p).drop k).all fun s=>GX ls a (p++[s])) () rfl rfl hs ?_;clear hs;rintro k - σ hk hn hs
 conv=>whnf
 repeat'((first|apply st|(apply sq;intro K U)|(apply si;intro A B Y Z)|(apply Y;clear Z B Y A)|(apply U;clear U K)|refine⟨rfl,?_⟩|refine⟨kZ,?_⟩|refine ix ?_|(refine fc (fun x hx hlt hc=>?_) (fun hk hc=>?_)<;>(try rw[hc])<;>clear hc)|refine Pure.use (JF _ _ _ _ _ _ (by omega)) ?_|refine Pure.use (Yv _ _ _ _ _ hok) ?_|(constructor<;>intro hc<;>(try rw[hc])<;>(replace hc:=bp hc))|clear U K)<;>conv=>whnf)
 ·exact AI (by rw[hn,drop_cons hx,NN];simp[*])
 ·exact⟨hlt,(),rfl,by rw[hn,drop_cons hx,NN];simp[*],hs⟩
 ·exact AI (by rw[hn,Al hk];rfl)
def Jx (ls:List Fact):Prop:= ∀l∈ls,-1000000000≤(BN l).1.n∧(BN l).1.n≤1000000000
def Ik (x:Fact×Bool) (t:Int×Int×List Int):Option (Int×Int×List Int):=
 if x.1.op=2 then if decide (x.1.cls > 1) != x.2 then none else some t
 else if x.1.op=3 then(if x.2 then some (if x.1.n > t.1 then x.1.n else t.1,t.2.1,t.2.2)else some (t.1,if x.1.n - 1<t.2.1 then x.1.n - 1 else t.2.1,t.2.2))
 else if x.2 then some (t.1,t.2.1,t.2.2++[x.1.n])else some (if x.1.n > t.1 then x.1.n else t.1,if x.1.n<t.2.1 then x.1.n else t.2.1,t.2.2)
def foldI:List Fact→Int×Int×List Int→Option (Int×Int×List Int)
 | [],t=>some t
 | x::r,t=>(Ik (BN x) t).bind (foldI r)
def Ma: ∀(xs ys:List Fact) (t:Int×Int×List Int),foldI (xs++ys) t=(foldI xs t).bind (foldI ys)
 | [],_,_=>rfl
 | x::r,ys,t=>by
   simp only[List.cons_append,foldI];cases Ik (BN x) t with
   | none=>rfl
   | some u=>exact Ma r ys u
def GH {os:List Fact} {k:Nat} {x:Fact} (hx:os[k]? =some x) (t:Int×Int×List Int):foldI (os.take (k+1)) t=(foldI (os.take k) t).bind (Ik (BN x)):=by
 rw[AR hx,Ma];congr 1;funext u;simp only[foldI];cases Ik (BN x) u<;>rfl
def XJ {os:List Fact} (k:Nat) {t:Int×Int×List Int} (h:foldI (os.take k) t=none):foldI os t=none:=by
 rw[←List.take_append_drop k os,Ma,h];rfl
def Rh (no:List Int):Nat→Int→Option Int
 | 0,_=>none
 | k+1,n=>if no.all (· != n)then some n else Rh no k (n+1)
def Ty (t:Int×Int×List Int):Option Int:=Rh t.2.2 (t.2.1+1 - t.1).toNat t.1
def t0:Int×Int×List Int:=(-1000000000,1000000000,[])
def Ke (ls:List Fact) (a:Int) (p:List Int):Option Int:=(foldI (ls.filter (IW a p)) t0).bind Ty
def ZN (n:Nat) (ls:List Fact) (a:Int) (p:List Int):V:=match Ke ls a p with
 | some x=> .t [eI x,.b (GV n ls a p)]
 | none=> .t [eI 0,.b false]
set_option maxHeartbeats 4000000 in
def Pc (w : AM) (ls:List Fact) (a:Int) (p:List Int) (c:Bool) (hokL: ∀l∈ls,Fv l) (hln:ls.length≤1000000) (hp:p.length<50) (hsm:Jx ls):Pure Tryz.prog 357 [.a (GW w ls a p c)] (ZN w.owner.length ls a p):=by
 refine Pure.fit (by kernel_rfl) fun hf=>?_
 have⟨h1,h2,h3,h4⟩:=F9 hf.1;have hM:=Mx;refine pD kZ ?_;have hs:=Sn;have hfl:=QJ (IW a p) ls;have hok2: ∀l∈ls.filter (IW a p),Fv l:=fun l hl=>hokL l ((Pz.1 hl).1)
 have hsm2:Jx (ls.filter (IW a p)):=fun l hl=>hsm l ((Pz.1 hl).1)
 conv=>whnf
 repeat'((first|apply st|(apply sq;intro K U)|(apply si;intro A B Y Z)|(apply Y;clear Z B Y A)|(apply U;clear U K)|refine⟨kZ,?_⟩|refine Pure.use (bt _ _ _ _ _ hokL hln) ?_|fail)<;>conv=>whnf)
 generalize hos:ls.filter (IW a p)=os at *;have hV:Ke ls a p=(foldI os t0).bind Ty:=by rw[Ke,hos]
 refine CD os.length (fun k (x:Int×Int×List Int×V)=>[(4,eI x.1),(5,eI x.2.1),(6,x.2.2.2),(18,eI (BM k))]) (fun k x=>[.own x.2.2.2 1 (iL x.2.2.1)]) (fun k x=>foldI (os.take k) t0=some (x.1,x.2.1,x.2.2.1)∧ -1000000000≤x.1∧x.1≤1000000000∧ -1000000001≤x.2.1∧x.2.1≤1000000000∧x.2.2.1.length≤k) (-1000000000,1000000000,[],.l [] true) rfl ⟨rfl,by simp⟩ (Ed hs 1) ?_;clear hs;rintro k ⟨low,high,no,v⟩ σ hk ⟨hno,hb1,hb2,hb3,hb4,hb5⟩ hs;simp only at hb1 hb2 hb3 hb4 hb5 hno;have hok:=hok2
 conv=>whnf
 repeat'((first|apply st|(apply sq;intro K U)|(apply si;intro A B Y Z)|(apply Y;clear Z B Y A)|(apply U;clear U K)|apply dr|refine⟨rfl,?_⟩|refine⟨kZ,?_⟩|refine Nc ?_|refine ld ?_|refine sn fun σ hs=>?_|refine aq fun v σ hs hsl=>?_|(refine fc (fun x hx hlt hc=>?_) (fun hk hc=>?_)<;>(try rw[hc])<;>clear hc)|refine Pure.use (HN _ (hok _ (Ck (by assumption)))) ?_|(constructor<;>intro hc<;>(try rw[hc])<;>(replace hc:=bp hc)<;>try(exfalso;omega))|(intro nn hnn;generalize hg:Az _ nn _=σ;refine al hg fun hs=>?_;clear hg)|clear U K)<;>conv=>whnf)
 all_goals first
  | (have hb:=hsm2 _ (Ck hx)
     first
      | (refine⟨hlt,(_,_,_,_),rfl,⟨?_,?_⟩,hs.take 1⟩
         ·rw[GH hx,hno]
          have hw:IntKind.i64.wrap ((BN ‹Fact›).1.n - 1)=(BN ‹Fact›).1.n - 1:=wrap64 (by omega) (by omega);simp[Ik, *]
          done
         ·have hw:IntKind.i64.wrap ((BN ‹Fact›).1.n - 1)=(BN ‹Fact›).1.n - 1:=wrap64 (by omega) (by omega)
          simp only[KY,List.length_singleton,hw]
          refine⟨?_,?_,?_,?_,?_⟩<;>(try split)<;>omega)
      | (refine AI ?_
         have:foldI os t0=none:=XJ (k+1) (by rw[GH hx,hno];simp[Ik, *]);rw[this]at hV;simp only[ZN,hV]
         rfl))
  | skip
 ·have hb:=hsm2 _ (Ck hx)
  refine⟨hlt,(if(BN x).1.n > low then(BN x).1.n else low,high,no,v),rfl,⟨?_,?_⟩,hs.take 1⟩
  ·rw[GH hx,hno]
   simp[Ik, *]
  ·dsimp only
   refine⟨?_,?_,?_,?_,?_⟩<;>(try split)<;>omega
 ·have hb:=hsm2 _ (Ck hx)
  have hw:IntKind.i64.wrap ((BN x).1.n - 1)=(BN x).1.n - 1:=wrap64 (by omega) (by omega);rw[hw];refine⟨hlt,(low,if(BN x).1.n - 1<high then(BN x).1.n - 1 else high,no,v),rfl,⟨?_,?_⟩,hs.take 1⟩
  ·rw[GH hx,hno]
   simp[Ik, *]
  ·dsimp only
   refine⟨?_,?_,?_,?_,?_⟩<;>(try split)<;>omega
 ·have hb:=hsm2 _ (Ck hx)
  refine⟨hlt,(if(BN x).1.n > low then(BN x).1.n else low,if(BN x).1.n<high then(BN x).1.n else high,no,v),rfl,⟨?_,?_⟩,hs.take 1⟩
  ·rw[GH hx,hno]
   simp[Ik, *]
  ·dsimp only
   refine⟨?_,?_,?_,?_,?_⟩<;>(try split)<;>omega
 rw[Av (by assumption)]at hno;have hV2:Ke ls a p=Ty (low,high,no):=by rw[hV,hno];rfl
 dsimp only;refine It (fun n:Int=>(high+1 - n).toNat) (fun n=>[(11,eI n)]) (fun _=>[.own v 1 (iL no)]) (fun n=>low≤n∧n≤1000000001∧Ke ls a p=Rh no (high+1 - n).toNat n) low rfl ⟨by omega,by omega,hV2⟩ hs ?_;clear hs;rintro n σ ⟨hn1,hn2,hn⟩ hs;have hnl:no.length≤Aj:=by omega
 conv=>whnf
 repeat'((first|apply st|(apply sq;intro K U)|(apply si;intro A B Y Z)|(apply Y;clear Z B Y A)|(apply U;clear U K)|refine⟨rfl,?_⟩|refine lo ?_|(constructor<;>intro hc<;>(try rw[hc])<;>(replace hc:=bp hc))|clear U K)<;>conv=>whnf)
 ·refine CD no.length (fun j b=>[(12,.b b),(80,eI (BM j))]) (fun j _=>[.own v 1 (iL no)]) (fun j b=>b=(no.take j).all (· != n)) true rfl (by simp) hs ?_
  clear hs;rintro j b σ hj hb hs;subst hb
  conv=>whnf
  repeat'((first|apply st|(apply sq;intro K U)|(apply si;intro A B Y Z)|(apply Y;clear Z B Y A)|(apply U;clear U K)|refine⟨rfl,?_⟩|refine⟨kZ,?_⟩|refine oc ?_|refine Vp ?_|(refine fc (fun x hx hlt hc=>?_) (fun hk hc=>?_)<;>(try rw[hc])<;>clear hc)|refine Pure.use (Yi _ _ _ _ _ hokL (by omega)) ?_|(constructor<;>intro hc<;>(try rw[hc])<;>(replace hc:=bp hc))|clear U K)<;>conv=>whnf)
  ·exact⟨hlt,_,rfl,by rw[AR hx,List.all_append,hc];simp,hs⟩
  ·exact⟨hlt,false,rfl,by rw[AR hx,List.all_append,hc];simp,hs⟩
  ·refine AI ?_
   rw[Av hk]at hc;rw[show(high+1 - n).toNat=(high - n).toNat+1 by omega,Rh,if_pos hc]at hn;simp only[ZN,hn]
  ·rw[Av hk]at hc
   rw[show(high+1 - n).toNat=(high+1 - (n+1)).toNat+1 by omega,Rh,if_neg (by simp[hc])]at hn;rw[wrap64 (by omega) (by omega)];exact⟨n+1,by omega,rfl,⟨by omega,by omega,hn⟩,hs⟩
 ·refine AI ?_
  have:(high+1 - n).toNat=0:=by omega
  rw[this,Rh]at hn;simp only[ZN,hn]
def Jb (x:Fact×Bool):Bool:=((x.1.op==2&&(x.1.cls==0||x.1.cls==2))==x.2)
def Je (n:Nat) (ls:List Fact) (a:Int) (p:List Int):Bool:=(ls.filter (IW a p)).all (fun l=> !Jb (BN l))&&GV n ls a p
set_option maxHeartbeats 4000000 in
def YP (w:AM) (ls:List Fact) (a:Int) (p:List Int) (c:Bool) (hokL: ∀l∈ls,Fv l) (hln:ls.length≤1000000) (hp:p.length<50):Pure Tryz.prog 358 [.a (GW w ls a p c)] (.b (Je w.owner.length ls a p)):=by
 refine Pure.fit (by kernel_rfl) fun hf=>?_
 have⟨h1,h2,h3,h4⟩:=F9 hf.1;have hM:=Mx;refine pC kZ ?_;have hs:=Sn;have hfl:=QJ (IW a p) ls;have hok: ∀l∈ls.filter (IW a p),Fv l:=fun l hl=>hokL l (Pz.1 hl).1
 conv=>whnf
 repeat'((first|apply st|(apply sq;intro K U)|(apply si;intro A B Y Z)|(apply Y;clear Z B Y A)|(apply U;clear U K)|refine⟨kZ,?_⟩|refine Pure.use (bt _ _ _ _ _ hokL hln) ?_|fail)<;>conv=>whnf)
 generalize hos:ls.filter (IW a p)=os at *;have hV:Je w.owner.length ls a p=(os.all (fun l=> !Jb (BN l))&&GV w.owner.length ls a p):=by rw[Je,hos]
 refine CD os.length (fun k (_:Unit)=>[(11,eI (BM k))]) (fun k _=>[]) (fun k _=>Je w.owner.length ls a p=((os.drop k).all (fun l=> !Jb (BN l))&&GV w.owner.length ls a p)) () rfl hV hs ?_;clear hs;rintro k - σ hk hn hs
 conv=>whnf
 repeat'((first|apply st|(apply sq;intro K U)|(apply si;intro A B Y Z)|(apply Y;clear Z B Y A)|(apply U;clear U K)|refine⟨rfl,?_⟩|refine⟨kZ,?_⟩|refine Nc ?_|refine ld ?_|refine sn fun σ hs=>?_|(refine fc (fun x hx hlt hc=>?_) (fun hk hc=>?_)<;>(try rw[hc])<;>clear hc)|refine Pure.use (HN _ (hok _ (Ck (by assumption)))) ?_|refine Pure.use (Yi _ _ _ _ _ hokL (by omega)) ?_|(constructor<;>intro hc<;>(try rw[hc])<;>(replace hc:=bp hc))|(intro nn hnn;generalize hg:Az _ nn _=σ;refine al hg fun hs=>?_;clear hg)|clear U K)<;>conv=>whnf)
 all_goals first
  | (have hst:Jb (BN x)=true:=by clear hV hn;cases hz:(BN x).2<;>cases hy:((BN x).1.cls==2)<;>simp_all [Jb]
     exact AI (by rw[hn,drop_cons hx,NN,hst];simp))
  | (have hst:Jb (BN x)=false:=by clear hV hn;cases hz:(BN x).2<;>cases hy:((BN x).1.cls==2)<;>simp_all [Jb]
     exact⟨hlt,(),rfl,by rw[hn,drop_cons hx,NN,hst];simp,hs.take 0⟩)
  | exact AI (by rw[hn,Al (by assumption)];simp)
abbrev BB:=List Bool×List Bool
def Ij (x:Fact×Bool) (t:BB):Option BB:=
 if x.1.op≠2∨x.1.cls=1∨x.1.cls=2 then(if x.2 then some t else none)else
 if x.2 then some (t.1,t.2.set x.1.cls.toNat true)else some (t.1.set x.1.cls.toNat true,t.2)
def FP:List Fact→BB→Option BB
 | [],t=>some t
 | x::r,t=>(Ij (BN x) t).bind (FP r)
def Ki (w:AM) (ls:List Fact) (a:Int) (p:List Int) (can:Int→Bool) (s:Int) (t:BB):Option BB:=
 if !GX ls a (p++[s])&& !can s then none else some (if GX ls a (p++[s])then t.1 else t.1.set (Dr w s).toNat true,if can s then t.2 else t.2.set (Dr w s).toNat true)
def Ez (w:AM) (ls:List Fact) (a:Int) (p:List Int) (can:Int→Bool):List Int→BB→Option BB
 | [],t=>some t
 | s::r,t=>(Ki w ls a p can s t).bind (Ez w ls a p can r)
def Hb (ps:List (List Int)) (c:Nat) (bs:List Bool):List Bool:=if bs.getD c false then(par ps c).foldl (fun b q=>b.set q.toNat true) bs else bs
def B5 (ps:List (List Int)) (n:Nat):Nat→List Bool→List Bool
 | 0,bs=>bs
 | k+1,bs=>Hb ps (n - 1 - k) (B5 ps n k bs)
def G0: ∀(l:List Int) (bs:List Bool),(l.foldl (fun b q=>b.set q.toNat true) bs).length=bs.length
 | [],_=>rfl
 | q::r,bs=>by rw[List.foldl_cons,G0 r,List.length_set]
def FD (ps:List (List Int)) (n:Nat): ∀(k:Nat) (bs:List Bool),(B5 ps n k bs).length=bs.length
 | 0,_=>rfl
 | k+1,bs=>by
   rw[B5,Hb];split
   ·rw[G0,FD ps n k bs]
   ·exact FD ps n k bs
def ZP (w:AM) (t:BB):Option (List Bool):=
 if t.2.getD 0 false then none else
 if(List.range (3+w.parents.length)).any (fun c=>(B5 w.parents (3+w.parents.length) w.parents.length (t.1.set 0 false)).getD c false&&t.2.getD c false)then none else some (B5 w.parents (3+w.parents.length) w.parents.length (t.1.set 0 false))
def tO (w:AM):BB:=(List.replicate (3+w.parents.length) false,List.replicate (3+w.parents.length) false)
def N6 (w:AM) (ls:List Fact) (a:Int) (p:List Int) (can:Int→Bool):Option (List Bool):=
 ((FP (ls.filter (IW a p)) (tO w)).bind (Ez w ls a p can (CR w.owner.length ls a p))).bind (ZP w)
def sm (o:Option (List Bool)):V:=match o with
 | some m=> .t [.l (bL m) false,.b true]
 | none=> .t [.l [] true,.b false]
def MZ: ∀(xs ys:List Fact) (t:BB),FP (xs++ys) t=(FP xs t).bind (FP ys)
 | [],_,_=>rfl
 | x::r,ys,t=>by
   simp only[List.cons_append,FP];cases Ij (BN x) t with
   | none=>rfl
   | some u=>exact MZ r ys u
def H4 {os:List Fact} {k:Nat} {x:Fact} (hx:os[k]? =some x) (t:BB):FP (os.take (k+1)) t=(FP (os.take k) t).bind (Ij (BN x)):=by
 rw[AR hx,MZ];congr 1;funext u;simp only[FP];cases Ij (BN x) u<;>rfl
def XI {os:List Fact} (k:Nat) {t:BB} (h:FP (os.take k) t=none):FP os t=none:=by
 rw[←List.take_append_drop k os,MZ,h];rfl
def MY {w:AM} {ls:List Fact} {a:Int} {p:List Int} {can:Int→Bool}: ∀(xs ys:List Int) (t:BB),Ez w ls a p can (xs++ys) t=(Ez w ls a p can xs t).bind (Ez w ls a p can ys)
 | [],_,_=>rfl
 | x::r,ys,t=>by
   simp only[List.cons_append,Ez];cases Ki w ls a p can x t with
   | none=>rfl
   | some u=>exact MY r ys u
def H3 {w:AM} {ls:List Fact} {a:Int} {p:List Int} {can:Int→Bool} {os:List Int} {k:Nat} {x:Int} (hx:os[k]? =some x) (t:BB):Ez w ls a p can (os.take (k+1)) t=(Ez w ls a p can (os.take k) t).bind (Ki w ls a p can x):=by
 rw[AR hx,MY];congr 1;funext u;simp only[Ez];cases Ki w ls a p can x u<;>rfl
def XH {w:AM} {ls:List Fact} {a:Int} {p:List Int} {can:Int→Bool} {os:List Int} (k:Nat) {t:BB} (h:Ez w ls a p can (os.take k) t=none):Ez w ls a p can os t=none:=by
 rw[←List.take_append_drop k os,MY,h];rfl
def ML {n:Nat} {ls:List Fact} {a:Int} {p:List Int} {s:Int} (h:s∈CR n ls a p):0≤s∧s<n:=by
 have:=(Pz.1 h).1;simp only[Ca,NP,List.mem_range]at this;obtain⟨m,hm,rfl⟩:=this;exact⟨Int.natCast_nonneg m,by simpa using hm⟩
def UE (w:AM) (ls:List Fact):Prop:= ∀l∈ls,(BN l).1.op=2→0≤(BN l).1.cls∧(BN l).1.cls<3+w.parents.length
set_option maxHeartbeats 8000000 in
def Qq (w : AM) (ls:List Fact) (a:Int) (p:List Int) (c:Bool) (can:Int→Bool) (hokL: ∀l∈ls,Fv l) (hln:ls.length≤1000000) (hp:p.length<50) (hw:gF w) (hcl:UE w ls) (hcan: ∀s∈CR w.owner.length ls a p,Pure Tryz.prog 351 [.a (GW w ls a (p++[s]) c)] (.b (can s))) :
    Pure Tryz.prog 365 [.a (GW w ls a p c)] (sm (N6 w ls a p can)):=by
 refine Pure.fit (by kernel_rfl) fun hf=>?_
 have⟨h1,h2,h3,h4⟩:=F9 hf.1;have hM:=Mx;have hwl:=hw.len;have hwo:=hw.vC;refine pB kZ ?_;have hs:=Sn;have hfl:=QJ (IW a p) ls;have hok: ∀l∈ls.filter (IW a p),Fv l:=fun l hl=>hokL l (Pz.1 hl).1
 have hcl2:UE w (ls.filter (IW a p)):=fun l hl=>hcl l (Pz.1 hl).1
 have hfl2:(CR w.owner.length ls a p).length≤w.owner.length:=by
  have:=QJ (fun s=>ls.any (bE a p s)) (Ca w.owner.length);rw[GC]at this;exact this
 conv=>whnf
 repeat'((first|apply st|(apply sq;intro K U)|(apply si;intro A B Y Z)|(apply Y;clear Z B Y A)|(apply U;clear U K)|refine⟨rfl,?_⟩|fail)<;>conv=>whnf)
 rw[show IntKind.i64.wrap (3+((EX w.parents).length:Nat))=((3+w.parents.length:Nat):Int) by rw[BW,wrap64 (by omega) (by omega)];omega];refine um hs (by omega) fun v1 σ hs hv=>?_
 obtain⟨id1,rfl⟩:=hv
 conv=>whnf
 repeat'((first|apply st|(apply sq;intro K U)|(apply si;intro A B Y Z)|(apply Y;clear Z B Y A)|(apply U;clear U K)|refine⟨rfl,?_⟩|fail)<;>conv=>whnf)
 rw[show IntKind.i64.wrap (3+((EX w.parents).length:Nat))=((3+w.parents.length:Nat):Int) by rw[BW,wrap64 (by omega) (by omega)];omega];refine um hs (by omega) fun v2 σ hs hv=>?_
 obtain⟨id2,rfl⟩:=hv
 conv=>whnf
 repeat'((first|apply st|(apply sq;intro K U)|(apply si;intro A B Y Z)|(apply Y;clear Z B Y A)|(apply U;clear U K)|refine⟨kZ,?_⟩|refine Pure.use (bt _ _ _ _ _ hokL hln) ?_|fail)<;>conv=>whnf)
 generalize hos:ls.filter (IW a p)=os at *;have hV:N6 w ls a p can=((FP os (tO w)).bind (Ez w ls a p can (CR w.owner.length ls a p))).bind (ZP w):=by rw[N6,hos]
 refine CD os.length (fun k (_:BB)=>[(34,eI (BM k))]) (fun k t=>[.own (.sl id1 (3+w.parents.length) (3+w.parents.length)) 1 (bL t.1),.own (.sl id2 (3+w.parents.length) (3+w.parents.length)) 1 (bL t.2)]) (fun k t=>FP (os.take k) (tO w)=some t∧t.1.length=3+w.parents.length∧t.2.length=3+w.parents.length) (tO w) rfl ⟨rfl,by simp[tO],by simp[tO]⟩ (by simpa[tO,bL]using hs) ?_;clear hs;rintro k ⟨B2,no⟩ σ hk ⟨hno,hl1,hl2⟩ hs;simp only at hl1 hl2;dsimp only at hs
 conv=>whnf
 repeat'((first|apply st|(apply sq;intro K U)|(apply si;intro A B Y Z)|(apply Y;clear Z B Y A)|(apply U;clear U K)|refine⟨rfl,?_⟩|refine⟨kZ,?_⟩|refine Nc ?_|refine ld ?_|refine sn fun σ hs=>?_|(refine fc (fun x hx hlt hc=>?_) (fun hk hc=>?_)<;>(try rw[hc])<;>clear hc)|refine Pure.use (HN _ (hok _ (Ck (by assumption)))) ?_|refine Pure.use (UU _ _ _ _ _ hokL (by omega)) ?_|(constructor<;>intro hc<;>(try rw[hc])<;>(replace hc:=bp hc))|(intro nn hnn;generalize hg:Az _ nn _=σ;refine al hg fun hs=>?_;clear hg)|clear U K)<;>conv=>whnf)
 all_goals try
  (have hcx:=hcl2 _ (Ck hx) (by assumption)
   conv=>whnf
   repeat'((first|(apply si;intro A B Y Z)|(apply Y;clear Z B Y A)|(apply U;clear U K)|refine⟨rfl,?_⟩|refine sL fun σ hs=>?_|refine oi ?_|clear U K)<;>conv=>whnf)
  )
 all_goals first
  | (refine AI ?_
     have:FP os (tO w)=none:=XI (k+1) (by rw[H4 hx,hno];simp[Ij, *]);rw[hV,this]
     rfl)
  | exact⟨hlt,(B2,no),rfl,⟨by rw[H4 hx,hno];simp[Ij, *],hl1,hl2⟩,hs.take 2⟩
  | exact⟨hlt,(B2.set (BN x).1.cls.toNat true,no),rfl,⟨by rw[H4 hx,hno];simp[Ij, *],by simpa using hl1,hl2⟩,hs.take 2⟩
  | exact⟨hlt,(B2,no.set (BN x).1.cls.toNat true),rfl,⟨by rw[H4 hx,hno];simp[Ij, *],hl1,by simpa using hl2⟩,hs.take 2⟩
  | skip
 rw[Av (by assumption)]at hno;have hV2:N6 w ls a p can=(Ez w ls a p can (CR w.owner.length ls a p) (B2,no)).bind (ZP w):=by rw[hV,hno];rfl
 clear hno;generalize hsl:CR w.owner.length ls a p=sl at *;have hsi: ∀s∈sl,0≤s∧s<w.owner.length:=fun s h=>ML (by rw[hsl];exact h)
 refine CD sl.length (fun k (_:BB)=>[(73,eI (BM k))]) (fun k t=>[.own (.sl id1 (3+w.parents.length) (3+w.parents.length)) 1 (bL t.1),.own (.sl id2 (3+w.parents.length) (3+w.parents.length)) 1 (bL t.2)]) (fun k t=>Ez w ls a p can (sl.take k) (B2,no)=some t∧t.1.length=3+w.parents.length∧t.2.length=3+w.parents.length) (B2,no) rfl ⟨rfl,hl1,hl2⟩ hs ?_;clear hs hl1 hl2;rintro k ⟨m1,n1⟩ σ hk ⟨hno,hl1,hl2⟩ hs;simp only at hl1 hl2;dsimp only at hs;rcases BS sl hk with⟨x,hx,hlt⟩|hke
 ·have hxm:=Ck hx
  obtain⟨hx0,hx1⟩:=hsi x hxm
  have hox:w.owner[x.toNat]? =some (Dr w x):=by
   rw[Dr,E2,Et (by omega)];rfl
  have ho:=hw.own _ (Ck hox);have hcx:=hcan x hxm;have hbx:=Yv w ls a (p++[x]) c hokL;cases Z:GX ls a (p++[x])<;>cases hC:can x<;>rw[Z]at hbx<;>rw[hC]at hcx
  ·conv=>whnf
   repeat'((first|apply st|(apply sq;intro K U)|(apply si;intro A B Y Z)|(apply Y;clear Z B Y A)|(apply U;clear U K)|apply dr|refine rk ?_ ?_|exact fun s e=>by cases e;rfl|refine⟨rfl,?_⟩|refine⟨kZ,?_⟩|refine ix ?_|refine ld ?_|refine sn fun σ hs=>?_|refine JB ?_|(refine C8 (fun hc=>?_)<;>(try rw[hc])<;>clear hc)|refine Pure.use (JF _ _ _ _ _ _ (by omega)) ?_|(intro nn hnn;generalize hg:Az _ nn _=σ;refine al hg fun hs=>?_;clear hg)|refine Pure.use (by assumption) ?_|clear U K)<;>conv=>whnf)
   refine AI ?_;have:Ez w ls a p can sl (B2,no)=none:=XH (k+1) (by rw[H3 hx,hno];simp[Ki, *]);rw[hV2,this];rfl
  ·conv=>whnf
   repeat'((first|apply st|(apply sq;intro K U)|(apply si;intro A B Y Z)|(apply Y;clear Z B Y A)|(apply U;clear U K)|apply dr|refine rk ?_ ?_|exact fun s e=>by cases e;rfl|refine⟨rfl,?_⟩|refine⟨kZ,?_⟩|refine ix ?_|refine TX ?_|refine sL fun σ hs=>?_|refine ld ?_|refine sn fun σ hs=>?_|refine oi ?_|refine JB ?_|refine G3 ?_|(refine C8 (fun hc=>?_)<;>(try rw[hc])<;>clear hc)|refine Pure.use (JF _ _ _ _ _ _ (by omega)) ?_|(intro nn hnn;generalize hg:Az _ nn _=σ;refine al hg fun hs=>?_;clear hg)|refine Pure.use (by assumption) ?_|clear U K)<;>conv=>whnf)
   exact⟨hlt,(m1.set (Dr w x).toNat true,n1),rfl,⟨by rw[H3 hx,hno];simp[Ki, *],by simpa using hl1,hl2⟩,hs.take 2⟩
  ·conv=>whnf
   repeat'((first|apply st|(apply sq;intro K U)|(apply si;intro A B Y Z)|(apply Y;clear Z B Y A)|(apply U;clear U K)|apply dr|refine rk ?_ ?_|exact fun s e=>by cases e;rfl|refine⟨rfl,?_⟩|refine⟨kZ,?_⟩|refine ix ?_|refine TX ?_|refine sL fun σ hs=>?_|refine ld ?_|refine sn fun σ hs=>?_|refine oi ?_|refine JB ?_|refine G3 ?_|(refine C8 (fun hc=>?_)<;>(try rw[hc])<;>clear hc)|refine Pure.use (JF _ _ _ _ _ _ (by omega)) ?_|(intro nn hnn;generalize hg:Az _ nn _=σ;refine al hg fun hs=>?_;clear hg)|refine Pure.use (by assumption) ?_|clear U K)<;>conv=>whnf)
   exact⟨hlt,(m1,n1.set (Dr w x).toNat true),rfl,⟨by rw[H3 hx,hno];simp[Ki, *],hl1,by simpa using hl2⟩,hs.take 2⟩
  ·conv=>whnf
   repeat'((first|apply st|(apply sq;intro K U)|(apply si;intro A B Y Z)|(apply Y;clear Z B Y A)|(apply U;clear U K)|apply dr|refine rk ?_ ?_|exact fun s e=>by cases e;rfl|refine⟨rfl,?_⟩|refine⟨kZ,?_⟩|refine ix ?_|refine ld ?_|refine sn fun σ hs=>?_|refine G3 ?_|(refine C8 (fun hc=>?_)<;>(try rw[hc])<;>clear hc)|refine Pure.use (JF _ _ _ _ _ _ (by omega)) ?_|(intro nn hnn;generalize hg:Az _ nn _=σ;refine al hg fun hs=>?_;clear hg)|refine Pure.use (by assumption) ?_|clear U K)<;>conv=>whnf)
   exact⟨hlt,(m1,n1),rfl,⟨by rw[H3 hx,hno];simp[Ki, *],hl1,hl2⟩,hs.take 2⟩
 ·rw [Av hke]at hno
  have hV3:N6 w ls a p can=ZP w (m1,n1):=by rw[hV2,hno];rfl
  have hrow: ∀l∈w.parents,l.length≤Aj:=(SD (g:=false) (by have:=hf.1;simp only[GW,Gt,DQ]at this;exact this.1)).2
  have hen:N6 w ls a p can=if n1.getD 0 false then none else
   if(List.range (3+w.parents.length)).any (fun c=>(B5 w.parents (3+w.parents.length) w.parents.length (m1.set 0 false)).getD c false&&n1.getD c false)then none else some (B5 w.parents (3+w.parents.length) w.parents.length (m1.set 0 false)):=hV3.trans rfl
  clear hcan hcl hV hV2 hV3 hno hos hsl hcl2 hok;obtain⟨n0,hn0⟩: ∃b,n1[0]? =some b:=⟨_,Et (by omega)⟩
  have hn0':n1[Int.toNat 0]? =some n0:=hn0;have hng:n1.getD 0 false=n0:=by rw[E2,hn0];rfl
  rw[hng]at hen;cases n0
  ·generalize hms:m1.set 0 false=ms at *
   have hl3:ms.length=3+w.parents.length:=by rw[←hms,List.length_set];exact hl1
   conv=>whnf
   repeat'((first|apply st|(apply sq;intro K U)|(apply si;intro A B Y Z)|(apply Y;clear Z B Y A)|(apply U;clear U K)|refine⟨rfl,?_⟩|refine lo ?_|refine sL fun σ hs=>?_|refine oi ?_|refine Vp ?_|(refine Es (fun hc=>?_)<;>(try rw[hc])<;>clear hc)|clear U K)<;>conv=>whnf)
   replace hs:Sat σ [.own (.sl id1 (3+w.parents.length) (3+w.parents.length)) 1 (bL ms),.own (.sl id2 (3+w.parents.length) (3+w.parents.length)) 1 (bL n1)]:=by rw[←hms];exact hs
   rw[show IntKind.i64.wrap (((bL (m1.set (Int.toNat 0) false)).length:Nat) - 1)=((2+w.parents.length:Nat):Int) by rw[BW,List.length_set,hl1,wrap64 (by omega) (by omega)];omega];refine CD w.parents.length (fun k (_:Unit)=>[(15,eI (NU ((2+w.parents.length:Nat):Int) k))]) (fun k _=>[.own (.sl id1 (3+w.parents.length) (3+w.parents.length)) 1 (bL (B5 w.parents (3+w.parents.length) k ms)),.own (.sl id2 (3+w.parents.length) (3+w.parents.length)) 1 (bL n1)]) (fun k _=>True) () rfl trivial hs ?_;clear hs;rintro k - σ hk - hs;have hd:NU ((2+w.parents.length:Nat):Int) k=((2+w.parents.length:Nat):Int) - k:=S3 (by omega) (by omega);have hcl:=FD w.parents (3+w.parents.length) k ms;rcases Nat.lt_or_ge k w.parents.length with hlt|hge
   ·have hpw:w.parents[(IntKind.i64.wrap (NU ((2+w.parents.length:Nat):Int) k - 3)).toNat]? =some (par w.parents (3+w.parents.length - 1 - k)):=by
     rw[hd,wrap64 (by omega) (by omega),show(((2+w.parents.length:Nat):Int) - k - 3).toNat=(3+w.parents.length - 1 - k) - 3 by omega];exact cQ (by omega) (by omega)
    have hwi:0≤IntKind.i64.wrap (NU ((2+w.parents.length:Nat):Int) k - 3):=by rw[hd,wrap64 (by omega) (by omega)];omega
    have hpl:=hrow _ (Ck hpw);have hpr:=fun q=>hw.ord (3+w.parents.length - 1 - k) q
    generalize hpe:par w.parents (3+w.parents.length - 1 - k)=pr at *;generalize hce:B5 w.parents (3+w.parents.length) k ms=ce at *;have hcs:B5 w.parents (3+w.parents.length) (k+1) ms=if ce.getD (3+w.parents.length - 1 - k) false then pr.foldl (fun b q=>b.set q.toNat true) ce else ce:=by rw[B5,Hb,hce,hpe]
    conv=>whnf
    repeat'((first|apply st|(apply sq;intro K U)|(apply si;intro A B Y Z)|(apply Y;clear Z B Y A)|(apply U;clear U K)|refine⟨rfl,?_⟩|refine TX ?_|refine oi ?_|refine ol fun x hx=>?_|(constructor<;>intro hc<;>(try rw[hc])<;>(replace hc:=bp hc)<;>try(exfalso;omega))|clear U K)<;>conv=>whnf)
    ·rw[show(NU ((2+w.parents.length:Nat):Int) k).toNat=3+w.parents.length - 1 - k by rw[hd];omega]at hx
     rw[E2,hx,hc]at hcs;simp only[Option.getD_some,if_true]at hcs;refine CD pr.length (fun j (_:Unit)=>[(135,eI (BM j))]) (fun j _=>[.own (.sl id1 (3+w.parents.length) (3+w.parents.length)) 1 (bL ((pr.take j).foldl (fun b q=>b.set q.toNat true) ce)),.own (.sl id2 (3+w.parents.length) (3+w.parents.length)) 1 (bL n1)]) (fun _ _=>True) () rfl trivial hs ?_;clear hs hx;rintro j - σ hj - hs;have hfl:=G0 (pr.take j) ce;rcases BS pr hj with⟨q,hq,hjlt⟩|hje
     ·have hqr:=hpr q (Ck hq)
      conv=>whnf
      repeat'((first|apply st|(apply sq;intro K U)|(apply si;intro A B Y Z)|(apply Y;clear Z B Y A)|(apply U;clear U K)|refine⟨rfl,?_⟩|refine ix ?_|refine sL fun σ hs=>?_|refine oi ?_|(refine C8 (fun hc=>?_)<;>(try rw[hc])<;>clear hc)|clear U K)<;>conv=>whnf)
      exact⟨hjlt,(),rfl,trivial,by rw[AR hq,List.foldl_append];exact hs⟩
     ·conv=>whnf
      repeat'((first|apply st|(apply sq;intro K U)|(apply si;intro A B Y Z)|(apply Y;clear Z B Y A)|(apply U;clear U K)|refine⟨rfl,?_⟩|(refine Es (fun hc=>?_)<;>(try rw[hc])<;>clear hc)|clear U K)<;>conv=>whnf)
      rw[Av hje]at hs;exact⟨hlt,(),rfl,trivial,by rw[hcs];exact hs⟩
    ·rw[show(NU ((2+w.parents.length:Nat):Int) k).toNat=3+w.parents.length - 1 - k by rw[hd];omega]at hx
     rw[E2,hx,hc]at hcs;simp only[Option.getD_some,Mp,if_false]at hcs;exact⟨hlt,(),rfl,trivial,by rw[hcs];exact hs⟩
   ·have hke2:k=w.parents.length:=by omega
    rw[hke2]at hs hcl;generalize hme:B5 w.parents (3+w.parents.length) w.parents.length ms=me at *
    conv=>whnf
    repeat'((first|apply st|(apply sq;intro K U)|(apply si;intro A B Y Z)|(apply Y;clear Z B Y A)|(apply U;clear U K)|refine⟨rfl,?_⟩|refine lo ?_|(constructor<;>intro hc<;>(try rw[hc])<;>(replace hc:=bp hc)<;>try(exfalso;omega))|clear U K)<;>conv=>whnf)
    refine CD me.length (fun j (_:Unit)=>[(145,eI (BM j))]) (fun _ _=>[.own (.sl id1 (3+w.parents.length) (3+w.parents.length)) 1 (bL me),.own (.sl id2 (3+w.parents.length) (3+w.parents.length)) 1 (bL n1)]) (fun j _=>N6 w ls a p can=if((List.range (3+w.parents.length)).drop j).any (fun c=>me.getD c false&&n1.getD c false)then none else some me) () rfl hen hs ?_;clear hs hen;rintro j - σ hj hn hs;rcases BS me hj with⟨x,hx,hjlt⟩|hje
    ·obtain⟨y,hy⟩: ∃y,n1[j]? =some y:=⟨_,Et (by omega)⟩
     have hrg:(List.range (3+w.parents.length))[j]? =some j:=by rw[List.getElem?_range (by omega)]
     rw[drop_cons hrg,QH,E2,E2,hx,hy]at hn;cases x<;>cases y<;>simp only[Option.getD_some,Bool.and_true,Bool.and_false,Bool.false_or,Bool.true_or,if_true]at hn
     ·conv=>whnf
      repeat'((first|apply st|(apply sq;intro K U)|(apply si;intro A B Y Z)|(apply Y;clear Z B Y A)|(apply U;clear U K)|refine⟨rfl,?_⟩|refine oc ?_|refine Vp ?_|(refine C8 (fun hc=>?_)<;>(try rw[hc])<;>clear hc)|clear U K)<;>conv=>whnf)
      exact⟨hjlt,(),rfl,hn,hs⟩
     ·conv=>whnf
      repeat'((first|apply st|(apply sq;intro K U)|(apply si;intro A B Y Z)|(apply Y;clear Z B Y A)|(apply U;clear U K)|refine⟨rfl,?_⟩|refine oc ?_|refine Vp ?_|(refine C8 (fun hc=>?_)<;>(try rw[hc])<;>clear hc)|clear U K)<;>conv=>whnf)
      exact⟨hjlt,(),rfl,hn,hs⟩
     ·conv=>whnf
      repeat'((first|apply st|(apply sq;intro K U)|(apply si;intro A B Y Z)|(apply Y;clear Z B Y A)|(apply U;clear U K)|refine⟨rfl,?_⟩|refine oc ?_|refine Vp ?_|refine G3 ?_|(refine C8 (fun hc=>?_)<;>(try rw[hc])<;>clear hc)|clear U K)<;>conv=>whnf)
      exact⟨hjlt,(),rfl,hn,hs⟩
     ·conv=>whnf
      repeat'((first|apply st|(apply sq;intro K U)|(apply si;intro A B Y Z)|(apply Y;clear Z B Y A)|(apply U;clear U K)|refine⟨rfl,?_⟩|refine oc ?_|refine Vp ?_|refine JB ?_|(refine C8 (fun hc=>?_)<;>(try rw[hc])<;>clear hc)|clear U K)<;>conv=>whnf)
      exact AI (by rw[hn];rfl)
    ·rw[List.drop_of_length_le (by rw[sF];omega)]at hn
     simp only[List.any_nil,Mp,if_false]at hn
     conv=>whnf
     repeat'((first|apply st|(apply sq;intro K U)|(apply si;intro A B Y Z)|(apply Y;clear Z B Y A)|(apply U;clear U K)|refine⟨rfl,?_⟩|(refine Es (fun hc=>?_)<;>(try rw[hc])<;>clear hc)|clear U K)<;>conv=>whnf)
     rw[hn];exact An (.t (.cons (hs.G7 0 rfl) (.cons (.refl _) .nil)))
  ·conv=>whnf
   repeat'((first|apply st|(apply sq;intro K U)|(apply si;intro A B Y Z)|(apply Y;clear Z B Y A)|(apply U;clear U K)|refine⟨rfl,?_⟩|refine sL fun σ hs=>?_|refine oi ?_|refine Vp ?_|(refine Es (fun hc=>?_)<;>(try rw[hc])<;>clear hc)|clear U K)<;>conv=>whnf)
   exact AI (by rw[hen];rfl)
def OB (w:AM) (ls:List Fact) (a:Int):Nat→List Int→Bool
 | 0,p=>((Ke ls a p).isSome&&GV w.owner.length ls a p)||(Je w.owner.length ls a p||(N6 w ls a p fun _=>false).isSome)
 | d+1,p=>((Ke ls a p).isSome&&GV w.owner.length ls a p)||(Je w.owner.length ls a p||(N6 w ls a p fun s=>OB w ls a d (p++[s])).isSome)
def Ry (ls:List Fact) (n:Nat):Prop:= ∀l∈ls,(BN l).1.path.length≤n
def Qc {n m:Nat} {ls:List Fact} {a:Int} {p:List Int} (h:Ry ls m) (hp:m≤p.length):CR n ls a p= []:=by
 rw[CR,List.filter_eq_nil_iff];intro s _ hs;rw[NO]at hs;obtain⟨l,hl,hg⟩:=hs;have:=h l hl;simp only[bE,Bv,BU,DZ,KY,List.length_singleton]at hg;omega
def YW {n:Nat} {ls:List Fact} {a:Int} {p:List Int}:ZN n ls a p= .t [eI ((Ke ls a p).getD 0),.b ((Ke ls a p).isSome&&GV n ls a p)]:=by
 unfold ZN;cases Ke ls a p<;>rfl
def YL (o:Option (List Bool)):sm o= .t [.l (bL (o.getD [])) o.isNone,.b o.isSome]:=by
 cases o<;>rfl
def ru (w:AM) (ls:List Fact) (a:Int) (hokL: ∀l∈ls,Fv l) (hln:ls.length≤1000000) (hw:gF w) (hcl:UE w ls) (hsm:Jx ls) (hsh:Ry ls 2): ∀(d:Nat) (p:List Int),p.length+d=2→Pure Tryz.prog 351 [.a (GW w ls a p false)] (.b (OB w ls a d p)):=by
 intro d
 induction d with
 | zero=>
   intro p hp;have hI:=Pc w ls a p false hokL hln (by omega) hsm;rw[YW]at hI;have hN:=YP w ls a p false hokL hln (by omega);have hO:=Qq w ls a p false (fun _=>false) hokL hln (by omega) hw hcl (by rw[Qc hsh (by omega)];intro s hs;cases hs);rw[YL]at hO;refine dD kZ ?_;have hs:=Sn;rw[OB];cases Y:(Ke ls a p).isSome&&GV w.owner.length ls a p<;>cases Z:Je w.owner.length ls a p<;>rw[Y]at hI<;>rw[Z]at hN
   all_goals
    conv=>whnf
    repeat'((first|apply st|(apply sq;intro K U)|(apply si;intro A B Y Z)|(apply Y;clear Z B Y A)|(apply U;clear U K)|refine⟨kZ,?_⟩|refine JB ?_|refine G3 ?_|refine hI.use ?_|refine hN.use ?_|refine hO.use ?_|clear U K)<;>conv=>whnf)
   all_goals exact AI (by simp)
 | succ d ih=>
   intro p hp;have hI:=Pc w ls a p false hokL hln (by omega) hsm;rw[YW]at hI;have hN:=YP w ls a p false hokL hln (by omega);have hO:=Qq w ls a p false (fun s=>OB w ls a d (p++[s])) hokL hln (by omega) hw hcl (fun s hs=>ih (p++[s]) (by simp;omega));rw[YL]at hO;refine dD kZ ?_;have hs:=Sn;rw[OB];cases Y:(Ke ls a p).isSome&&GV w.owner.length ls a p<;>cases Z:Je w.owner.length ls a p<;>rw[Y]at hI<;>rw[Z]at hN
   all_goals
    conv=>whnf
    repeat'((first|apply st|(apply sq;intro K U)|(apply si;intro A B Y Z)|(apply Y;clear Z B Y A)|(apply U;clear U K)|refine⟨kZ,?_⟩|refine JB ?_|refine G3 ?_|refine hI.use ?_|refine hN.use ?_|refine hO.use ?_|clear U K)<;>conv=>whnf)
   all_goals exact AI (by simp)
def Hg (w:AM) (ls:List Fact):Bool:=(Ca 3).all fun a=>OB w ls a 2 []
def VK (w:AM) (ls:List Fact) (hokL: ∀l∈ls,Fv l) (hln:ls.length≤1000000) (hw:gF w) (hcl:UE w ls) (hsm:Jx ls) (hsh:Ry ls 2):Pure Tryz.prog 321 [.a (BI w),.l (facts ls) false] (.b (Hg w ls)):=by
 have hM:=Mx;refine pd kZ ?_;have hs:=Sn
 conv=>whnf
 repeat'((first|apply st|(apply sq;intro K U)|(apply si;intro A B Y Z)|(apply Y;clear Z B Y A)|(apply U;clear U K)|fail)<;>conv=>whnf)
 refine CD 3 (fun k (_:Unit)=>[(5,eI (BM k))]) (fun _ _=>[]) (fun k _=>Hg w ls=((Ca 3).drop k).all fun a=>OB w ls a 2 []) () rfl rfl hs ?_;clear hs;rintro k - σ hk hn hs;have hck:BM k=k:=AN (by omega);rcases Nat.lt_or_ge k 3 with hlt|hge
 ·have hrk:(Ca 3)[k]? =some (BM k):=by
   rw[hck];rcases k with _|_|_|k
   ·rfl
   ·rfl
   ·rfl
   ·omega
  rw[drop_cons hrk,NN]at hn
  conv=>whnf
  repeat'((first|apply st|(apply sq;intro K U)|(apply si;intro A B Y Z)|(apply Y;clear Z B Y A)|(apply U;clear U K)|refine⟨rfl,?_⟩|refine⟨kZ,?_⟩|refine ld ?_|refine sn fun σ hs=>?_|refine Pure.ZM (ru w ls (BM k) hokL hln hw hcl hsm hsh 2 [] rfl) (.cons (.a (.cons (.refl _) (.cons (.refl _) (.cons (.refl _) (.cons (.refl _) (.cons CQ (.cons (.refl _) .nil))))))) .nil) rfl ?_|(constructor<;>intro hc<;>(try rw[hc])<;>(replace hc:=bp hc)<;>(try simp(disch:=omega) only[BW,wrap64,AN]at hc)<;>try(exfalso;omega))|(intro nn hnn;generalize hg:Az _ nn _=σ;refine al hg fun hs=>?_;clear hg)|clear U K)<;>conv=>whnf)
  ·exact AI (by rw[hn,hck,hc];rfl)
  ·exact⟨hlt,(),rfl,by rw[hn,hck,hc];rfl,hs.take 0⟩
 ·rw[List.drop_of_length_le (by rw[GC];omega)]at hn
  conv=>whnf
  repeat'((first|apply st|(apply sq;intro K U)|(apply si;intro A B Y Z)|(apply Y;clear Z B Y A)|(apply U;clear U K)|refine⟨rfl,?_⟩|(constructor<;>intro hc<;>(try rw[hc])<;>(replace hc:=bp hc)<;>(try simp(disch:=omega) only[BW,wrap64,AN]at hc)<;>try(exfalso;omega))|clear U K)<;>conv=>whnf)
  exact AI (by rw[hn];rfl)
def Sw {b:Nat} {σ:AH} {l:List At} (h:Sat σ l) (i j:Nat) {v u:V} {sz:Nat} {es ys:List (List V)} {K:V→AH→Prop} (hi:l[i]? =some (.own v sz es)) (hj:l[j]? =some (.own u sz ys)) (hl:es.length+ys.length≤Aj∧(es.length+ys.length)*b≤140737488355328) (hys: ∀e∈ys,e.length=sz) (ho: ∀e∈ys,∀v∈e,CE v=true)
    (hk: ∀v' σ',Sat σ' (l.set i (.own v' sz (es++ys)))→K v' σ'):AL b σ sz v u K:=by
 have Y:AL b σ sz v (.l ys true) K:=hAppend h i hi hl hys ho hk;rcases h.get hj with⟨rfl,hel⟩|⟨n,cap,rfl,hn⟩
 ·exact Y
 ·unfold AL at Y ⊢
  simp only[rowsOf]at Y ⊢;rw[hn];refine⟨rfl,He _,?_⟩;rw[List.take_length];exact Y.2
def Ce (a:List Fact):List Fact→List Fact
 | []=>a
 | x::r=>Ce (if a.any (B3 x)then a else a++[x]) r
def Pa (a:List Fact): ∀(b:List Fact) (x:Fact),Ce a (b++[x])=if(Ce a b).any (B3 x)then Ce a b else Ce a b++[x]:=by
 intro b
 induction b generalizing a with
 | nil=>intro x;rfl
 | cons y r ih=>intro x;simp only[List.cons_append,Ce];exact ih _ x
def MW (a:List Fact): ∀(b:List Fact),(Ce a b).length≤a.length+b.length:=by
 intro b
 induction b generalizing a with
 | nil=>simp[Ce]
 | cons y r ih=>
   simp only[Ce,KX];refine Nat.le_trans (ih _) ?_;split
   ·omega
   ·simp;omega
def Qy (a:List Fact): ∀(b:List Fact) (x:Fact),x∈Ce a b→x∈a∨x∈b:=by
 intro b
 induction b generalizing a with
 | nil=>intro x hx;exact .inl hx
 | cons y r ih=>
   intro x hx;simp only[Ce]at hx;rcases ih _ x hx with h|h
   ·split at h
    ·exact .inl h
    ·rcases FJ.1 h with h|h
     ·exact .inl h
     ·rw[Nz.1 h];exact .inr (.head _)
   ·exact .inr (.tail _ h)
def Zv (a b:List Fact) (f g:Bool) (hl:a.length+b.length<1000000):Pure Tryz.prog 335 [.l (facts a) f,.l (facts b) g] (.l (facts (Ce a b)) false):=by
 have hM:=Mx;refine pR kZ ?_;have hs:=Sn
 conv=>whnf
 repeat'((first|(apply sq;intro K U)|(apply si;intro A B Y Z)|(apply Y;clear Z B Y A)|(apply U;clear U K)|fail)<;>conv=>whnf)
 replace hs:=Ed hs 6;refine GS hs 0 (xs:=[]) (ys:=a) rfl (by simp;omega) F5 fun v σ hs=>?_
 conv=>whnf
 repeat'((first|apply st|(apply sq;intro K U)|(apply si;intro A B Y Z)|(apply Y;clear Z B Y A)|(apply U;clear U K)|fail)<;>conv=>whnf)
 refine CD b.length (fun k v=>[(5,v),(15,eI (BM k))]) (fun k v=>[.own v 6 (facts (Ce a (b.take k)))]) (fun _ _=>True) v rfl trivial hs ?_;clear hs;rintro k v σ hk - hs;have hml:=MW a (b.take k);rw[Mo]at hml;rcases BS b hk with⟨x,hx,hlt⟩|hke
 ·have hsn:=Pa a (b.take k) x
  rw[←AR hx]at hsn;generalize Ce a (b.take k)=m at *
  conv=>whnf
  repeat'((first|apply st|(apply sq;intro K U)|(apply si;intro A B Y Z)|(apply Y;clear Z B Y A)|(apply U;clear U K)|refine⟨rfl,?_⟩|refine⟨kZ,?_⟩|refine Nc ?_|refine lo ?_|refine sn fun σ hs=>?_|(refine C8 (fun hc=>?_)<;>(try rw[hc])<;>clear hc)|(intro nn hnn;generalize hg:Az _ nn _=σ;refine al hg fun hs=>?_;clear hg)|fail)<;>conv=>whnf)
  refine CD m.length (fun j t=>[(8,.b t),(21,eI (BM j))]) (fun j t=>[.own v 6 (facts m),.obj nn (.cs (xF x))]) (fun j t=>t=(m.take j).any (B3 x)) false rfl (by simp) hs ?_;clear hs;rintro j t σ hj ht hs;rcases BS m hj with⟨y,hy,hjlt⟩|hje
  ·cases t
   ·conv=>whnf
    repeat'((first|apply st|(apply sq;intro K U)|(apply si;intro A B Y Z)|(apply Y;clear Z B Y A)|(apply U;clear U K)|refine⟨rfl,?_⟩|refine⟨kZ,?_⟩|refine ld ?_|refine sn fun σ hs=>?_|refine oc ?_|refine P3 ?_|(refine C8 (fun hc=>?_)<;>(try rw[hc])<;>clear hc)|refine Pure.use (Ky _ _) ?_|(intro nn hnn;generalize hg:Az _ nn _=σ;refine al hg fun hs=>?_;clear hg)|clear U K)<;>conv=>whnf)
    exact⟨hjlt,_,rfl,by rw[AR hy,List.any_append,←ht];simp,hs.take 2⟩
   ·conv=>whnf
    repeat'((first|apply st|(apply sq;intro K U)|(apply si;intro A B Y Z)|(apply Y;clear Z B Y A)|(apply U;clear U K)|refine⟨rfl,?_⟩|refine⟨kZ,?_⟩|refine sn fun σ hs=>?_|refine oc ?_|refine P3 ?_|(refine C8 (fun hc=>?_)<;>(try rw[hc])<;>clear hc)|(intro nn hnn;generalize hg:Az _ nn _=σ;refine al hg fun hs=>?_;clear hg)|clear U K)<;>conv=>whnf)
    exact⟨hjlt,true,rfl,by rw[AR hy,List.any_append,←ht];simp,hs.take 2⟩
  ·rw[Av hje]at ht
   subst ht
   conv=>whnf
   repeat'((first|apply st|(apply sq;intro K U)|(apply si;intro A B Y Z)|(apply Y;clear Z B Y A)|(apply U;clear U K)|refine⟨rfl,?_⟩|refine⟨kZ,?_⟩|refine ld ?_|refine kr fun v σ hs hsl=>?_|(refine Es (fun hc=>?_)<;>(try rw[hc])<;>clear hc)|(constructor<;>intro hc<;>(try rw[hc])<;>(replace hc:=bp hc))|clear U K)<;>conv=>whnf)
   ·rw[hc]at hsn
    exact⟨hlt,_,rfl,trivial,by rw[hsn];exact hs.take 1⟩
   ·rw[hc]at hsn
    exact⟨hlt,_,rfl,trivial,by rw[hsn];exact hs.take 1⟩
 ·conv=>whnf
  repeat'((first|apply st|(apply sq;intro K U)|(apply si;intro A B Y Z)|(apply Y;clear Z B Y A)|(apply U;clear U K)|refine⟨rfl,?_⟩|(refine Es (fun hc=>?_)<;>(try rw[hc])<;>clear hc)|clear U K)<;>conv=>whnf)
  exact EB hs 0 rfl (by rw[Av hke])
abbrev gR (ls:List (List Fact)):List (List V):=ls.map fun l=>[.l (facts l) false]
def D7 (A B:List (List Fact)):List (List Fact):=A.flatMap fun x=>B.map fun y=>Ce x y
def FX (f:Fact) (l:List (Bool→List (List Fact))) (c:Bool):List (List Fact):=
 if f.op=1 then(if c then []else [[]])else
 if f.op=5 then(l.getD 0 (fun _=>[])) (!c)else
 if f.op=6∨f.op=7 then(if c != (f.op==7)then l.getD 0 (fun _=>[]) c++l.getD 1 (fun _=>[]) c else D7 (l.getD 0 (fun _=>[]) c) (l.getD 1 (fun _=>[]) c))else
 if c then [[ED f]]else [[f]]
def BT (f:Fact):Bool→List (List Fact):=f.Ff FX
def Hd (f:Fact) (c:Bool):BT f c=FX f (f.kids.map BT) c:=congrFun (Fact.Cm FX f) c
def ZC (f:Fact) (l:List Nat):Nat:=if f.op=5 then l.getD 0 0 else if f.op=6∨f.op=7 then l.getD 0 0+l.getD 1 0 else 1
def lv (f:Fact):Nat:=f.Ff ZC
def Km (f:Fact):lv f=ZC f (f.kids.map lv):=Fact.Cm ZC f
def arity (f:Fact):Bool:=f.Ff fun f l=>f.kids.length==Bw f.op&&l.all id
def EA (f:Fact):arity f=(f.kids.length==Bw f.op&&f.kids.all arity):=by
 rw[arity,Fact.Cm,List.all_map];rfl
def A7 {w:AM} (f:Fact):A9 w f=true→arity f=true:=by
 induction f using Fact.ind with
 | h f ih=>
   intro h;rw[CM]at h;simp only[Cq,BU,GP]at h;rw[EA,BU,GP];exact⟨h.1.2.1,fun k hk=>ih k hk (h.2 k hk)⟩
def Fj {f:Fact} (h:arity f=true) (h5:f.op=5): ∃a,f.kids= [a]∧arity a=true:=by
 rw[EA,BU,GP,h5]at h;have hl:f.kids.length=1:=by simpa[Bw]using h.1
 obtain⟨a,ha⟩:=List.length_eq_one_iff.1 hl;exact⟨a,ha,h.2 a (by rw[ha];exact .head _)⟩
def Fi {f:Fact} (h:arity f=true) (h6:f.op=6∨f.op=7): ∃a b,f.kids= [a,b]∧arity a=true∧arity b=true:=by
 rw[EA,BU,GP]at h
 have hl:f.kids.length=2:=by
  have h5:f.op≠5:=by omega
  simpa[Bw,h5,h6]using h.1
 match hk:f.kids,hl with
 | [a,b],_=>exact⟨a,b,rfl,h.2 a (by rw[hk];exact .head _),h.2 b (by rw[hk];exact .tail _ (.head _))⟩
def WO (f:Fact):arity f=true→1≤lv f:=by
 induction f using Fact.ind with
 | h f ih=>
   intro h;rw[Km,ZC];split
   ·rename_i h5
    obtain⟨a,ha,hb⟩:=Fj h h5;rw[ha];exact ih a (by rw[ha];exact .head _) hb
   ·split
    ·rename_i h6
     obtain⟨a,b,ha,hb,_⟩:=Fi h h6;rw[ha];have:=ih a (by rw[ha];exact .head _) hb;simp only[C0,List.getD_cons_zero];omega
    ·omega
def iW {a b:Nat} (ha:1≤a) (hb:1≤b):2 ^ a+2 ^ b≤2 ^ (a+b):=by
 rw[Nat.pow_add];have h1:2≤2 ^ a:=by simpa using Nat.pow_le_pow_right (show 0<2 by omega) ha
 have h2:2≤2 ^ b:=by simpa using Nat.pow_le_pow_right (show 0<2 by omega) hb
 generalize 2 ^ a=x at *;generalize 2 ^ b=y at *;have:=Nat.mul_le_mul_left (x - 1) (show 1≤y - 1 by omega);obtain⟨x,rfl⟩: ∃u,x=u+1:=⟨x - 1,by omega⟩
 obtain⟨y,rfl⟩: ∃u,y=u+1:=⟨y - 1,by omega⟩
 simp only[Nat.add_sub_cancel,Nat.mul_one]at this;rw[Nat.add_mul,Nat.mul_add];omega
def Qn (A B:List (List Fact)):(D7 A B).length=A.length*B.length:=by
 induction A with
 | nil=>simp[D7]
 | cons x r ih=>
   simp only[D7,List.flatMap_cons,KY,BW,KX]at *;rw[ih,Nat.add_mul];omega
def EN (f : Fact):arity f=true→ ∀c,(BT f c).length≤2 ^ lv f∧ ∀l∈BT f c,l.length≤lv f:=by
 induction f using Fact.ind with
 | h f ih=>
   intro h c;rw[Hd,Km,FX,ZC];by_cases h1:f.op=1
   ·have e5: ¬f.op=5:=by omega
    have e6: ¬(f.op=6∨f.op=7):=by omega
    rw[if_pos h1,if_neg e5,if_neg e6];cases c
    ·rw[if_neg (by decide)]
     exact⟨by simp,fun l hl=>by simp at hl;subst hl;simp⟩
    ·rw[if_pos rfl]
     exact⟨by simp,fun l hl=>by cases hl⟩
   rw[if_neg h1];by_cases h5:f.op=5
   ·obtain⟨a,ha,hb⟩:=Fj h h5
    rw[if_pos h5,if_pos h5,ha];exact ih a (by rw[ha];exact .head _) hb (!c)
   rw[if_neg h5,if_neg h5];by_cases h6:f.op=6∨f.op=7
   ·obtain⟨a,b,ha,hb1,hb2⟩:=Fi h h6
    rw[if_pos h6,if_pos h6,ha];simp only[C0,List.map_nil,List.getD_cons_zero,List.getD_cons_succ];obtain⟨i1,i2⟩:=ih a (by rw[ha];exact .head _) hb1 c;obtain⟨j1,j2⟩:=ih b (by rw[ha];exact .tail _ (.head _)) hb2 c;have p1:=WO a hb1;have p2:=WO b hb2;split
    ·refine⟨?_,fun l hl=>?_⟩
     ·rw[KY]
      have:=iW p1 p2;omega
     ·rcases FJ.1 hl with hl|hl
      ·have:=i2 l hl;omega
      ·have:=j2 l hl;omega
    ·refine⟨?_,fun l hl=>?_⟩
     ·rw[Qn,Nat.pow_add]
      exact Nat.mul_le_mul i1 j1
     ·simp only[D7,List.mem_flatMap,NP]at hl
      obtain⟨x,hx,y,hy,rfl⟩:=hl;have:=MW x y;have:=i2 x hx;have:=j2 y hy;omega
   ·rw[if_neg h6,if_neg h6]
    cases c
    ·exact⟨by simp,fun l hl=>by simp at hl;subst hl;simp⟩
    ·exact⟨by simp,fun l hl=>by simp at hl;subst hl;simp⟩
def oE (f:Fact):arity f=true→2*lv f≤B0 f+1:=by
 induction f using Fact.ind with
 | h f ih=>
   intro h;rw[Km,ZC,D3];by_cases h5:f.op=5
   ·obtain⟨a,ha,hb⟩:=Fj h h5
    rw[if_pos h5,ha];have:=ih a (by rw[ha];exact .head _) hb;simp only[C0,List.map_nil,List.getD_cons_zero,List.sum_cons,List.sum_nil];omega
   rw[if_neg h5];by_cases h6:f.op=6∨f.op=7
   ·obtain⟨a,b,ha,hb1,hb2⟩:=Fi h h6
    rw[if_pos h6,ha];have:=ih a (by rw[ha];exact .head _) hb1;have:=ih b (by rw[ha];exact .tail _ (.head _)) hb2;simp only[C0,List.map_nil,List.getD_cons_zero,List.getD_cons_succ,List.sum_cons,List.sum_nil];omega
   ·rw[if_neg h6]
    omega
def Nu {σ:AH} {es es':List (List V)} (hs:Sat σ []) (h:E3 σ σ es es') (he: ∀e∈es',e.length=1):Ap σ (.l es true) fun r σ'=> ∃post,(∃v,r= .ret v∧post= [.own v 1 es'])∧Sat σ' post:=
 Hu (fun _ _ h=>h) (.l (fun _=>rfl) h) ⟨_,⟨_,rfl,rfl⟩,gi hs he⟩
set_option maxHeartbeats 4000000 in
def sA (f : Fact):arity f=true→lv f≤28→ ∀c,By Tryz.prog 300 [.a (xF f),.b c] [] fun r post=> ∃v,r= .ret v∧post= [.own v 1 (gR (BT f c))]:=by
 induction f using Fact.ind with
 | h f ih =>
   intro h hlv c σ hs;refine A8.fit (by kernel_rfl) fun hf=>?_
   have⟨h2,h3,h4⟩:=HG hf.1;have hM:=Mx;refine px kZ ?_;rw[Hd];rw[Km]at hlv;by_cases h5:f.op=5
   ·obtain⟨a,ha,hb⟩:=Fj h h5
    have ha0:f.kids[Int.toNat 0]? =some a:=by rw[ha];rfl
    have hrec:=ih a (by rw[ha];exact .head _) hb (by simpa[ZC,h5,ha]using hlv) (!c)
    conv=>whnf
    repeat'((first|apply st|(apply sq;intro K U)|(apply si;intro A B Y Z)|(apply Y;clear Z B Y A)|(apply U;clear U K)|refine⟨rfl,?_⟩|refine⟨kZ,?_⟩|refine Nc ?_|(constructor<;>intro hc<;>(try rw[hc])<;>(replace hc:=bp hc)<;>try(exfalso;omega))|fail)<;>conv=>whnf)
    all_goals try(exfalso;omega)
    refine hrec.use (rest:=[]) hs ?_;clear hs;rintro r post σ ⟨v,rfl,rfl⟩ hs
    conv=>whnf
    repeat'((first|apply st|(apply Y;clear Z B Y A)|(apply U;clear U K)|clear U K)<;>conv=>whnf)
    refine A5 hs (List.Sublist.refl _) (.refl _) fun σ' hs'=>⟨_,⟨_,rfl,?_⟩,hs'⟩
    simp only[FX,h5,ha];rfl
   by_cases h6:f.op=6∨f.op=7
   ·obtain ⟨a,b,ha,hb1,hb2⟩:=Fi h h6
    have ha0:f.kids[Int.toNat 0]? =some a:=by rw[ha];rfl
    have ha1:f.kids[Int.toNat 1]? =some b:=by rw[ha];rfl
    have hlv2:lv a+lv b≤28:=by simpa[ZC,h5,h6,ha]using hlv
    have hrec:=ih a (by rw[ha];exact .head _) hb1 (by omega) c;have hrec2:=ih b (by rw[ha];exact .tail _ (.head _)) hb2 (by omega) c
    have hcg:FX f (f.kids.map BT) c=if c != (f.op==7)then BT a c++BT b c else D7 (BT a c) (BT b c):=by
     have h1: ¬f.op=1:=by omega
     simp only[FX,if_neg h1,if_neg h5,if_pos h6,ha];rfl
    rw[hcg];obtain⟨i1,i2⟩:=EN a hb1 c;obtain⟨j1,j2⟩:=EN b hb2 c
    have hpw:2 ^ lv a*2 ^ lv b≤268435456:=by
     rw[←Nat.pow_add];exact Nat.pow_le_pow_right (by omega) (show lv a+lv b≤28 from hlv2)
    have hAB:=Nat.le_trans (Nat.mul_le_mul i1 j1) hpw;have q1:1≤2 ^ lv a:=Nat.one_le_two_pow;have q2:1≤2 ^ lv b:=Nat.one_le_two_pow;have q3:2 ^ lv a≤268435456:=Nat.le_trans (Nat.le_mul_of_pos_right _ q2) hpw;have q4:2 ^ lv b≤268435456:=Nat.le_trans (Nat.le_mul_of_pos_left _ q1) hpw;generalize BT a c=LA at *;generalize BT b c=LB at *;have hgB:=EV Ns LB;clear hcg;generalize hres:(if c != (f.op==7)then LA++LB else D7 LA LB)=RES;clear ih
    conv=>whnf
    repeat'((first|apply st|(apply sq;intro K U)|(apply si;intro A B Y Z)|(apply Y;clear Z B Y A)|(apply U;clear U K)|apply dr|refine⟨rfl,?_⟩|refine⟨kZ,?_⟩|refine Nc ?_|refine Lt ?_|(constructor<;>intro hc<;>(try rw[hc])<;>(replace hc:=bp hc)<;>try(exfalso;omega))|fail)<;>conv=>whnf)
    all_goals try(exfalso;omega)
    all_goals
     refine hrec.use (rest:=[]) hs ?_;clear hs;rintro r post σ ⟨v1,rfl,rfl⟩ hs
     conv=>whnf
     repeat'((first|apply st|apply dr|refine rk ?_ ?_|exact fun s e=>by cases e;rfl|refine⟨kZ,?_⟩|fail)<;>conv=>whnf)
     refine hrec2.use (pre:=[]) (rest:=[_]) hs ?_;clear hs;rintro r post σ ⟨v2,rfl,rfl⟩ hs
     conv=>whnf
     repeat'((first|apply st|(apply sq;intro K U)|(apply si;intro A B Y Z)|(apply Y;clear Z B Y A)|(apply U;clear U K)|apply dr|refine⟨rfl,?_⟩|refine lo ?_|(constructor<;>intro hc<;>(try rw[hc])<;>(replace hc:=bp hc))|fail)<;>conv=>whnf)
    all_goals have hct:=hc
    all_goals clear hc
    all_goals first
     | (refine Sw hs 1 0 rfl rfl (by simp only[BW];omega) hgB.1 hgB.2 fun v σ hs=>?_
        conv=>whnf
        repeat'((first|apply st|(apply Y;clear Z B Y A)|(apply U;clear U K)|clear U K)<;>conv=>whnf)
        rw[hct,if_pos rfl]at hres;refine A5 (hs.less (IV _ _)) (List.Sublist.refl _) (.refl _) fun σ' hs'=>⟨_,⟨_,rfl,?_⟩,hs'⟩
        rw[←hres];simp only[gR,Pw]
        rfl)
     | (refine CD LA.length (fun k v=>[(7,v),(52,eI (BM k))]) (fun k v=>[.own v2 1 (gR LB),.own v1 1 (gR LA),.own v 1 (gR (D7 (LA.take k) LB))]) (fun _ _=>True) (.l [] true) rfl trivial (Ed hs 1) ?_
        clear hs;rintro k v σ hk - hs;rcases BS LA hk with⟨x,hx,hlt⟩|hke
        ·have hxl:=i2 x (Ck hx)
         have hpk:D7 (LA.take (k+1)) LB=D7 (LA.take k) LB++LB.map fun y=>Ce x y:=by
          rw[AR hx];simp[D7]
         have hpl:(D7 (LA.take k) LB).length+LB.length≤LA.length*LB.length:=by
          rw[Qn,Mo,Nat.min_eq_left hk];have:=TP LB.length (show k+1≤LA.length from hlt);rw[Nat.add_mul]at this;omega
         generalize D7 (LA.take k) LB=pk0 at *
         conv=>whnf
         repeat'((first|apply st|(apply sq;intro K U)|(apply si;intro A B Y Z)|(apply Y;clear Z B Y A)|(apply U;clear U K)|refine⟨rfl,?_⟩|refine lo ?_|refine oc ?_|refine Vp ?_|(refine C8 (fun hc=>?_)<;>(try rw[hc])<;>clear hc)|fail)<;>conv=>whnf)
         refine CD LB.length (fun j v=>[(7,v),(58,eI (BM j))]) (fun j v=>[.own v2 1 (gR LB),.own v1 1 (gR LA),.own v 1 (gR (pk0++(LB.take j).map fun y=>Ce x y))]) (fun _ _=>True) v rfl trivial (by simpa using hs) ?_;clear hs;rintro j v σ hj - hs;rcases BS LB hj with⟨y,hy,hjlt⟩|hje
         ·have hyl:=j2 y (Ck hy)
          conv=>whnf
          repeat'((first|apply st|(apply sq;intro K U)|(apply si;intro A B Y Z)|(apply Y;clear Z B Y A)|(apply U;clear U K)|refine⟨rfl,?_⟩|refine oc ?_|refine Vp ?_|refine aq fun v σ hs hsl=>?_|(refine C8 (fun hc=>?_)<;>(try rw[hc])<;>clear hc)|refine Pure.use (Zv _ _ _ _ (by omega)) ?_|clear U K)<;>conv=>whnf)
          refine⟨hjlt,_,rfl,trivial,?_⟩;rw[AR hy,Pw,←TR];exact hs
         ·conv=>whnf
          repeat'((first|apply st|(apply sq;intro K U)|(apply si;intro A B Y Z)|(apply Y;clear Z B Y A)|(apply U;clear U K)|refine⟨rfl,?_⟩|(refine Es (fun hc=>?_)<;>(try rw[hc])<;>clear hc)|clear U K)<;>conv=>whnf)
          rw[Av hje]at hs;exact⟨hlt,_,rfl,trivial,by rw[hpk];exact hs⟩
        ·conv=>whnf
         repeat'((first|apply st|(apply sq;intro K U)|(apply si;intro A B Y Z)|(apply Y;clear Z B Y A)|(apply U;clear U K)|refine⟨rfl,?_⟩|(refine Es (fun hc=>?_)<;>(try rw[hc])<;>clear hc)|clear U K)<;>conv=>whnf)
         rw[Av hke]at hs;rw[hct,if_neg (by decide)]at hres;rw[←hres]
         refine A5 (hs.less ((IV _ _).trans (IV _ _))) (List.Sublist.refl _) (.refl _) fun σ' hs'=>⟨_,⟨_,rfl,rfl⟩,hs'⟩)
   ·have e1:FX f (f.kids.map BT) c=if f.op=1 then(if c then []else [[]])else if c then [[ED f]]else [[f]]:=by
     simp only[FX,if_neg h5,if_neg h6]
    rw[e1];clear e1
    conv=>whnf
    repeat'((first|apply st|(apply sq;intro K U)|(apply si;intro A B Y Z)|(apply Y;clear Z B Y A)|(apply U;clear U K)|refine⟨rfl,?_⟩|refine⟨kZ,?_⟩|refine Pure.use (R5 _) ?_|(constructor<;>intro hc<;>(try rw[hc])<;>(replace hc:=bp hc)<;>try(exfalso;omega))|clear U K)<;>conv=>whnf)
    all_goals try(exfalso;omega)
    ·subst hc
     rw[if_pos (by assumption),if_pos rfl];exact Nu hs .nil (fun e h=>by cases h)
    ·subst hc
     rw[if_pos (by assumption),if_neg (by decide)];refine Nu hs (.cons (.cons CQ .nil) .nil) ?_;intro e he;simp at he;subst he;rfl
    ·subst hc
     rw[if_neg (by assumption),if_pos rfl];refine Nu hs (.cons (.cons (.l (fun h=>by cases h) ?_) .nil) .nil) ?_
     ·simp only[facts,List.map,BC]
      exact CA _
     ·intro e he
      simp at he;subst he;rfl
    ·subst hc
     rw[if_neg (by assumption),if_neg (by decide)];refine Nu hs (.cons (.cons (.l (fun h=>by cases h) ?_) .nil) .nil) ?_
     ·simp only[facts,List.map,BC]
      exact CA _
     ·intro e he
      simp at he;subst he;rfl
end Go.Gl
