import Derived.Test.YtegbmnmnaijioaaGreatA7
set_option linter.all false
set_option linter.defProp false
noncomputable section
namespace Go.Gl
open Go.Proofs
attribute [local irreducible] BC Aw Ai AV AM Ah AU AW AN Ag AQ AS A3 BA Sat Ab A8 Ak W
def P3 {w:AL} (f:Fact):Bo w f=true→RI f=true:=by
 induction f using Fact.ind with
 | h f ih=>
   intro h;rw[Cz]at h;simp only[DI,BJ,Em,Cn]at h;rw[Ph];simp only[BJ,Cn,List.all_map,Em,Function.comp_apply,id];exact⟨⟨h.1.2.2.1,h.1.2.2.2.1⟩,fun k hk=>ih k hk (h.2 k hk)⟩
def Od (p:Prog) (m:Mc):Bool:=decide (1≤m.kind)&&(decide (m.kind≤4)&&(decide (0≤m.gen)&&(decide (m.gen<(p.Dj.length:Int))&&(CS (AR p) m.fact&&decide (GC m.fact≤p.Dj.getD m.gen.toNat 0)))))
def runM (p:Prog):List Mc→List Int→Option (List Int)
 | [],s=>some s
 | m::r,s=>if Od p m then match CR p (J3 m.kind) 12 m.node (p.Dj.getD m.gen.toNat 0) s with
   | none=>none
   | some s'=>runM p r s' else none
def C9 (p:Prog):Bool:=BE p&&(decide (p.Dj.length≤8)&&(decide (p.methods.length≤16)&&(decide (1≤p.nodes.length)&&(decide (p.nodes.length≤120)&&p.Dj.all fun g=>decide (1≤g)&&decide (g≤3)))))
def Bb (p:Prog):Option (List Int):=if C9 p then match runM p p.methods (List.replicate p.nodes.length (-1))with
 | none=>none
 | some s=>match CR p false 12 p.main 0 s with
   | none=>none
   | some s=>if s.all fun n=>decide (0≤n)then some s else none else none
def J4 (p:Prog):Option (List Int)→Option (List Int)
 | none=>none
 | some s=>match CR p false 12 p.main 0 s with
   | none=>none
   | some s=>if s.all fun n=>decide (0≤n)then some s else none
def Nb (p:Prog):V:=match Bb p with
 | none=> .t [.l [] true,.b false]
 | some s=> .t [.l (iL s) false,.b true]
def ng {p:Prog} (h:Bb p=none):Nb p= .t [.l [] true,.b false]:=by simp only[Nb,h]
def wP {p:Prog} (h:C9 p=false):Nb p= .t [.l [] true,.b false]:=ng (by unfold Bb;rw[h];rfl)
def LL {p:Prog} {σ:AH} (h:Bb p=none):Aw σ (.t [.l [] true,.b false]) fun r σ'=>r=R.ret (Nb p)∧σ'=emp:=by
 rw[ng h];exact AI rfl
def O0 {p:Prog} {σ:AH} (h:C9 p=false):Aw σ (.t [.l [] true,.b false]) fun r σ'=>r=R.ret (Nb p)∧σ'=emp:=by
 rw[wP h];exact AI rfl
def ZF {p:Prog} (h:C9 p=true):Bb p=J4 p (runM p p.methods (List.replicate p.nodes.length (-1))):=by
 unfold Bb;rw[if_pos h];rfl
def DV {p:Prog} {k:Nat} {x:Mc} {s:List Int} (hx:p.methods[k]? =some x) (hn:Bb p=J4 p (runM p (p.methods.drop k) s)) (hok:Od p x=false):Bb p=none:=by
 rw[hn,drop_cons hx,runM,if_neg (by simp[hok])];rfl
def Rh {p:Prog} {k:Nat} {x:Mc} {s:List Int} (hx:p.methods[k]? =some x) (hn:Bb p=J4 p (runM p (p.methods.drop k) s)) (hok:Od p x=true) (hw:CR p (J3 x.kind) 12 x.node (p.Dj.getD x.gen.toNat 0) s=none):Bb p=none:=by
 rw[hn,drop_cons hx,runM,if_pos hok,hw];rfl
def Yt {p:Prog} {k:Nat} {x:Mc} {s s':List Int} (hx:p.methods[k]? =some x) (hn:Bb p=J4 p (runM p (p.methods.drop k) s)) (hok:Od p x=true) (hw:CR p (J3 x.kind) 12 x.node (p.Dj.getD x.gen.toNat 0) s=some s'):Bb p=J4 p (runM p (p.methods.drop (k+1)) s'):=by
 rw[hn,drop_cons hx,runM,if_pos hok,hw]
def R3 {p:Prog} (h:C9 p=true) {k:Nat} {x:Int} (hx:p.Dj[k]? =some x):1≤x∧x≤3:=by
 simp only[C9,BJ,Em,Cn]at h;exact h.2.2.2.2.2 x (B9 hx)
set_option maxHeartbeats 4000000 in
def qU (p:Prog):Pure Tryz.prog 97 [.a (BR p)] (Nb p):=by
 refine Pure.fit (by kernel_rfl) fun hf=>?_
 have⟨p1,p2,p3,p4⟩:=Er hf.1;have hM:=Mx;refine wa kZ ?_;have hs:=Sn
 conv=>whnf
 repeat'((first|apply st|(apply sq;intro K U)|(apply si;intro A B Y Z)|(apply Y;clear Z B Y A)|(apply U;clear U K)|refine⟨rfl,?_⟩|refine⟨kZ,?_⟩|refine Pure.use (cW _) ?_|(constructor<;>intro hc<;>(try rw[hc])<;>(replace hc:=bp hc)<;>(try simp(disch:=omega) only[A9,wrap64,AK]at hc))|clear U K)<;>conv=>whnf)
 ·exact O0 (by simp[C9];intros;omega)
 rotate_left
 ·exact O0 (by simp[C9];intros;omega)
 ·exact O0 (by simp[C9];intros;omega)
 ·exact O0 (by simp[C9];intros;omega)
 ·exact O0 (by simp[C9, *])
 have a1:p.Dj.length≤8:=by omega
 have a2:p.methods.length≤16:=by omega
 have a3:1≤p.nodes.length:=by omega
 have a4:p.nodes.length≤120:=by omega
 have hg:C9 p=p.Dj.all fun g=>decide (1≤g)&&decide (g≤3):=by
  simp only[C9,a1,a2,a3,a4,decide_true,Il];simp[*]
 refine CA p.Dj.length (fun k (_:Unit)=>[(4,eI (BG k))]) (fun _ _=>[]) (fun k _=>C9 p=(p.Dj.drop k).all fun g=>decide (1≤g)&&decide (g≤3)) () rfl (by simpa using hg) hs ?_;clear hs;rintro k - σ hk hn hs
 conv=>whnf
 repeat'((first|apply st|(apply sq;intro K U)|(apply si;intro A B Y Z)|(apply Y;clear Z B Y A)|(apply U;clear U K)|refine⟨rfl,?_⟩|refine ix ?_|(refine fc (fun x hx hlt hc=>?_) (fun hk hc=>?_)<;>(try rw[hc])<;>clear hc)|(constructor<;>intro hc<;>(try rw[hc])<;>(replace hc:=bp hc))|clear U K)<;>conv=>whnf)
 ·exact O0 (by rw[hn,drop_cons hx];simp;intros;omega)
 ·exact⟨hlt,(),rfl,by rw[hn,drop_cons hx];simp[*],hs⟩
 ·exact O0 (by rw[hn,drop_cons hx];simp;intros;omega)
 have hh:C9 p=true:=by rw[hn,As hk];rfl
 have F:=HV hf.1;have hcB:BE p=true:=by assumption
 have hsb:Cq 0 p.AP=true:=by simp only[BE,BJ]at hcB;exact hcB.2.1
 have hc10:p.AP.length≤1000:=by simp only[BE,BJ,Cn]at hcB;omega
 have hmS:Bp p.AP≤Ad:=by have:=(FK _ _ hsb).1;simp only[BE,BJ,Cn]at hcB;omega
 have hL:=ZF hh;clear hn hg;refine CA p.nodes.length (fun j v=>[(5,v),(6,eI (BG j))]) (fun j v=>[.own v 1 (iL (List.replicate j (-1)))]) (fun j v=>1≤j→(B5 v).isSome=true) (.l [] true) rfl (fun h=>by omega) (EM hs 1) ?_;clear hs;rintro j v σ hj hv hs
 conv=>whnf
 repeat'((first|apply st|(apply sq;intro K U)|(apply si;intro A B Y Z)|(apply Y;clear Z B Y A)|(apply U;clear U K)|refine⟨rfl,?_⟩|refine⟨kZ,?_⟩|refine sn fun σ hs=>?_|refine aq fun v σ hs hsl=>?_|(refine fc (fun x hx hlt hc=>?_) (fun hk hc=>?_)<;>(try rw[hc])<;>clear hc)|refine Pure.use (OF _ (by assumption) (by omega) (by assumption)) ?_|(intro nn hnn;generalize hg:A0 _ nn _=σ;refine al hg fun hs=>?_;clear hg)|clear U K)<;>conv=>whnf)
 ·exact⟨hlt,_,rfl,fun _=>hsl,by rw[List.replicate_succ'];exact hs⟩
 have hsv:=hv (by omega);subst hk;refine CA p.methods.length (fun k (s:List Int)=>[(8,eI (BG k))]) (fun _ s=>[.own v 1 (iL s),.box nn (A7 (AR p))]) (fun k s=>s.length=p.nodes.length∧Bb p=J4 p (runM p (p.methods.drop k) s)) (List.replicate p.nodes.length (-1)) rfl ⟨by simp,hL⟩ hs ?_;clear hs;rintro k s σ hk ⟨hl,hn⟩ hs
 conv=>whnf
 repeat'((first|apply st|(apply sq;intro K U)|(apply si;intro A B Y Z)|(apply Y;clear Z B Y A)|(apply U;clear U K)|apply dr|refine rk ?_ ?_|exact fun s e=>by cases e;rfl|refine⟨rfl,?_⟩|refine⟨kZ,?_⟩|refine ix ?_|refine iq fun x hx=>?_|refine ld ?_|refine sn fun σ hs=>?_|(refine fc (fun x hx hlt hc=>?_) (fun hk hc=>?_)<;>(try rw[hc])<;>clear hc)|refine Pure.use (VZ _ _) ?_|(constructor<;>intro hc<;>(try rw[hc])<;>(replace hc:=bp hc)<;>(try simp(disch:=omega) only[A9,wrap64,AK]at hc))|(intro nn hnn;generalize hg:A0 _ nn _=σ;refine al hg fun hs=>?_;clear hg)|clear U K)<;>conv=>whnf)
 rotate_left
 ·exact LL (DV hx hn (by simp[Od, *]))
 ·exact LL (DV hx hn (by simp[Od];intros;omega))
 ·exact LL (DV hx hn (by simp[Od];intros;omega))
 ·exact LL (DV hx hn (by simp[Od];intros;omega))
 ·exact LL (DV hx hn (by simp[Od];intros;omega))
 ·refine(eH p false 12 (Iu _) p.main 0 1 s v rfl (by omega) (by omega) hl hsv).use hs ?_
  clear hs;rintro r post σ ⟨s2,hl2,rfl,⟨ho,rfl⟩|⟨ho,rfl⟩⟩ hs
  ·conv=>whnf
   repeat'((first|apply st|(apply sq;intro K U)|(apply si;intro A B Y Z)|(apply Y;clear Z B Y A)|(apply U;clear U K)|(constructor<;>intro hc<;>(try rw[hc])<;>(replace hc:=bp hc)<;>(try simp(disch:=omega) only[A9,wrap64,AK]at hc))|clear U K)<;>conv=>whnf)
   ·cases hc
   have hz:Bb p=if s2.all fun n=>decide (0≤n)then some s2 else none:=by rw[hn,As hk,runM,J4,ho]
   refine CA s2.length (fun j (_:Unit)=>[(10,eI (BG j))]) (fun _ _=>[.own v 1 (iL s2),.box nn (A7 (AR p))]) (fun j _=>Bb p=if(s2.drop j).all fun n=>decide (0≤n)then some s2 else none) () rfl hz hs ?_;clear hs;rintro j - σ hj hz hs
   conv=>whnf
   repeat'((first|apply st|(apply sq;intro K U)|(apply si;intro A B Y Z)|(apply Y;clear Z B Y A)|(apply U;clear U K)|refine⟨rfl,?_⟩|refine oc ?_|refine ol fun x hx=>?_|(refine fc (fun x hx hlt hc=>?_) (fun hk hc=>?_)<;>(try rw[hc])<;>clear hc)|refine lo ?_|(constructor<;>intro hc<;>(try rw[hc])<;>(replace hc:=bp hc))|clear U K)<;>conv=>whnf)
   ·exact LL (by rw[hz,drop_cons hx,NS,if_neg];simp;intros;omega)
   ·exact⟨hlt,(),rfl,by rw[hz,drop_cons hx,NS];simp[*],hs⟩
   ·have hz2:Bb p=some s2:=by rw[hz,As (by assumption)];rfl
    simp only[Nb,hz2];exact Al (.t (.cons (hs.GX 0 rfl) (.cons (.refl _) .nil)))
  ·conv=>whnf
   repeat'((first|apply st|(apply sq;intro K U)|(apply si;intro A B Y Z)|(apply Y;clear Z B Y A)|(apply U;clear U K)|(constructor<;>intro hc<;>(try rw[hc])<;>(replace hc:=bp hc)<;>(try simp(disch:=omega) only[A9,wrap64,AK]at hc))|clear U K)<;>conv=>whnf)
   ·exact LL (by rw[hn,As hk,runM,J4,ho])
   ·cases hc
 rename Mc=>m
 rename p.methods[k]? =some m=>hm
 refine(gW m.fact (P3 _ (by(have:CS (AR p) m.fact=true:=by assumption);simp only[CS,BJ]at this;exact this.2.2))).use ?_
 conv=>whnf
 repeat'((first|apply st|(apply sq;intro K U)|(apply si;intro A B Y Z)|(apply Y;clear Z B Y A)|(apply U;clear U K)|apply dr|refine rk ?_ ?_|exact fun s e=>by cases e;rfl|refine⟨rfl,?_⟩|refine⟨kZ,?_⟩|refine iq fun x hx=>?_|refine ld ?_|refine Pure.use (qN _) ?_|(constructor<;>intro hc<;>(try rw[hc])<;>(replace hc:=bp hc))|clear U K)<;>conv=>whnf)
 ·exact LL (DV hm hn (by simp[Od,DZ,hx];intros;omega))
 obtain⟨hx1,hx3⟩:=R3 hh hx;have hgd:p.Dj.getD m.gen.toNat 0=x:=by rw[DZ,hx];rfl
 rename p.Dj[m.gen.toNat]? =some _=>hx2
 have hxe:=Option.some.inj (hx.symm.trans hx2);subst hxe;have hok:Od p m=true:=by simp only[Od,hgd,BJ,Cn];exact⟨by assumption,by omega,by assumption,by assumption,by assumption,by assumption⟩
 refine(eH p (J3 m.kind) 12 (Iu _) m.node x 1 s v rfl (by omega) (by omega) hl hsv).use (rest:=[_,_]) hs ?_;clear hs;rintro r post σ ⟨s2,hl2,rfl,⟨ho,rfl⟩|⟨ho,rfl⟩⟩ hs
 ·conv=>whnf
  repeat'((first|apply st|(apply sq;intro K U)|(apply si;intro A B Y Z)|(apply Y;clear Z B Y A)|(apply U;clear U K)|apply dr|refine⟨rfl,?_⟩|(constructor<;>intro hc<;>(try rw[hc])<;>(replace hc:=bp hc)<;>(try simp(disch:=omega) only[A9,wrap64,AK]at hc))|clear U K)<;>conv=>whnf)
  ·cases hc
  ·exact⟨by assumption,s2,rfl,⟨by omega,Yt hm hn hok (by rw[hgd];exact ho)⟩,hs.less (.cons₂ _ (.cons₂ _ (NT _)))⟩
 ·conv=>whnf
  repeat'((first|apply st|(apply sq;intro K U)|(apply si;intro A B Y Z)|(apply Y;clear Z B Y A)|(apply U;clear U K)|apply dr|refine⟨rfl,?_⟩|(constructor<;>intro hc<;>(try rw[hc])<;>(replace hc:=bp hc)<;>(try simp(disch:=omega) only[A9,wrap64,AK]at hc))|clear U K)<;>conv=>whnf)
  ·exact LL (Rh hm hn hok (by rw[hgd];exact ho))
  ·cases hc
def po (p:Prog):Pure Tryz.prog 36 [.a (BR p)] (.b (Bb p).isSome):=by
 refine xD kZ ?_;have h:=qU p;unfold Nb at h;cases hl:Bb p with
 | none=>
   rw[hl]at h
   conv=>whnf
   repeat'((first|apply st|(apply sq;intro K U)|(apply si;intro A B Y Z)|(apply Y;clear Z B Y A)|(apply U;clear U K)|refine⟨kZ,?_⟩|refine Pure.use (by assumption) ?_|fail)<;>conv=>whnf)
   all_goals exact AI (by first|rfl|simp)
 | some s=>
   rw[hl]at h
   conv=>whnf
   repeat'((first|apply st|(apply sq;intro K U)|(apply si;intro A B Y Z)|(apply Y;clear Z B Y A)|(apply U;clear U K)|refine⟨kZ,?_⟩|refine Pure.use (by assumption) ?_|fail)<;>conv=>whnf)
   all_goals exact AI (by first|rfl|simp)
def Ki (xs ys:List Int) (f g:Bool):Pure Tryz.prog 40 [.l (iL xs) f,.l (iL ys) g] (.b (xs==ys)):=by
 refine Pure.fit (by kernel_rfl) fun hf=>?_
 have hx:=LK hf.1;have hy:=LK hf.2.1;have hM:=Mx;refine xC kZ ?_;have hs:=Sn
 conv=>whnf
 repeat'((first|apply st|(apply sq;intro K U)|(apply si;intro A B Y Z)|(apply Y;clear Z B Y A)|(apply U;clear U K)|refine⟨rfl,?_⟩|(constructor<;>intro hc<;>(try rw[hc])<;>(replace hc:=bp hc)<;>(try simp(disch:=omega) only[A9,wrap64,AK]at hc))|clear U K)<;>conv=>whnf)
 ·exact AI (by(have:(xs==ys)=false:=by(simp;intro e;subst e;simp at hc));rw[this])
 have hl:xs.length=ys.length:=by omega
 refine CA xs.length (fun k (_:Unit)=>[(13,eI (BG k))]) (fun _ _=>[]) (fun k _=>(xs==ys)=(xs.drop k==ys.drop k)) () rfl rfl Sat.nil ?_;clear hs;rintro k - σ hk hn hs;by_cases hlt:k<xs.length
 ·obtain⟨y,hyk⟩: ∃y,ys[k]? =some y:=⟨_,C7 (by omega)⟩
  conv=>whnf
  repeat'((first|apply st|(apply sq;intro K U)|(apply si;intro A B Y Z)|(apply Y;clear Z B Y A)|(apply U;clear U K)|apply dr|refine⟨rfl,?_⟩|refine ix ?_|(refine fc (fun x hx hlt hc=>?_) (fun hk hc=>?_)<;>(try rw[hc])<;>clear hc)|(constructor<;>intro hc<;>(try rw[hc])<;>(replace hc:=bp hc))|clear U K)<;>conv=>whnf)
  ·exact AI (by rw[hn,drop_cons hx,drop_cons hyk];simp[hc])
  ·exact⟨hlt,(),rfl,by rw[hn,drop_cons hx,drop_cons hyk,hc];simp,hs⟩
  ·omega
 ·conv=>whnf
  repeat'((first|apply st|(apply sq;intro K U)|(apply si;intro A B Y Z)|(apply Y;clear Z B Y A)|(apply U;clear U K)|apply dr|refine⟨rfl,?_⟩|refine ix ?_|refine iq fun x hx=>?_|(refine fc (fun x hx hlt hc=>?_) (fun hk hc=>?_)<;>(try rw[hc])<;>clear hc)|(constructor<;>intro hc<;>(try rw[hc])<;>(replace hc:=bp hc)<;>try(exfalso;omega))|clear U K)<;>conv=>whnf)
  exact AI (by rw[hn,As hk,As (by omega)];rfl)
def Ql:List (Fact→Bool)→List Fact→Bool
 | h::r,k::s=>h k&&Ql r s
 | _,_=>true
def nP (f:Fact) (l:List (Fact→Bool)) (g:Fact):Bool:=f.op==g.op&&(f.arg==g.arg&&(f.cls==g.cls&&(f.n==g.n&&(f.path==g.path&&(f.kids.length==g.kids.length&&Ql l g.kids)))))
def FW (f:Fact):Fact→Bool:=f.Ht nP
def Ll (f g:Fact):FW f g=(f.op==g.op&&(f.arg==g.arg&&(f.cls==g.cls&&(f.n==g.n&&(f.path==g.path&&(f.kids.length==g.kids.length&&Ql (f.kids.map FW) g.kids)))))):=congrFun (Fact.D4 nP f) g
def Vs {xs ys:List Fact} (h: ∀x∈xs,∀y,FW x y=true↔x=y) (hl:xs.length=ys.length):Ql (xs.map FW) ys=true↔xs=ys:=by
 induction xs generalizing ys with
 | nil=>cases ys with
   | nil=>simp[Ql]
   | cons _ _=>simp at hl
 | cons x r ih=>cases ys with
   | nil=>simp at hl
   | cons y s=>
     simp only[E3,Ql,BJ,List.cons.injEq];rw[h x (.head _) y,ih (fun x hx=>h x (.tail _ hx)) (by simpa using hl)]
def Jl (f g:Fact):FW f g=true↔f=g:=by
 induction f using Fact.ind generalizing g with
 | h f ih=>
   rw[Ll];cases f with
   | mk o a p c n k=>cases g with
     | mk o' a' p' c' n' k'=>
       simp only[Fact.op,Fact.arg,Fact.cls,Fact.n,Fact.path,Fact.kids,BJ,D9,Fact.mk.injEq]at *;constructor
       ·rintro⟨rfl,rfl,rfl,rfl,rfl,hl,h⟩
        exact⟨rfl,rfl,rfl,rfl,rfl,(Vs (fun x hx y=>ih x hx y) hl).1 h⟩
       ·rintro⟨rfl,rfl,rfl,rfl,rfl,rfl⟩
        exact⟨rfl,rfl,rfl,rfl,rfl,rfl,(Vs (fun x hx y=>ih x hx y) rfl).2 rfl⟩
set_option maxHeartbeats 1000000 in
def Ys (f g:Fact):Pure Tryz.prog 27 [.a (xF f),.a (xF g)] (.b (FW f g)):=by
 induction f using Fact.ind generalizing g with
 | h f ih=>
   refine Pure.fit (by kernel_rfl) fun hf=>?_
   have⟨h2,h3,h4⟩:=J6 hf.1;have⟨g2,g3,g4⟩:=J6 hf.2.1;have hM:=Mx;refine xI kZ ?_;have hs:=Sn
   conv=>whnf
   repeat'((first|apply st|(apply sq;intro K U)|(apply si;intro A B Y Z)|(apply Y;clear Z B Y A)|(apply U;clear U K)|refine⟨rfl,?_⟩|refine Pure.use (Ki _ _ _ _) ?_|(constructor<;>intro hc<;>(try rw[hc])<;>(replace hc:=bp hc)<;>(try simp(disch:=omega) only[A9,wrap64,AK]at hc))|clear U K)<;>conv=>whnf)
   rotate_left
   all_goals try exact AI (by rw[Ll];simp[*]<;>omega)
   rotate_left
   ·have hkl:f.kids.length=g.kids.length:=by omega
    refine CA f.kids.length (fun k (_:Unit)=>[(52,eI (BG k))]) (fun _ _=>[]) (fun k _=>FW f g=Ql ((f.kids.drop k).map FW) (g.kids.drop k)) () rfl (by rw[Ll];simp[*]) Sat.nil ?_;clear hs;rintro k - σ hk hn hs;by_cases hlt:k<f.kids.length
    ·obtain⟨y,hyk⟩: ∃y,g.kids[k]? =some y:=⟨_,C7 (by omega)⟩
     conv=>whnf
     repeat'((first|apply st|(apply sq;intro K U)|(apply si;intro A B Y Z)|(apply Y;clear Z B Y A)|(apply U;clear U K)|apply dr|refine⟨rfl,?_⟩|refine⟨kZ,?_⟩|refine Qx ?_|(refine fc (fun x hx hlt hc=>?_) (fun hk hc=>?_)<;>(try rw[hc])<;>clear hc)|clear U K)<;>conv=>whnf)
     ·refine(ih x (B9 hx) y).use ?_
      conv=>whnf
      repeat'((first|apply st|(apply sq;intro K U)|(apply si;intro A B Y Z)|(apply Y;clear Z B Y A)|(apply U;clear U K)|apply dr|refine⟨rfl,?_⟩|(constructor<;>intro hc<;>(try rw[hc])<;>(replace hc:=bp hc))|clear U K)<;>conv=>whnf)
      ·exact AI (by rw[hn,drop_cons hx,drop_cons hyk,E3,Ql,hc];rfl)
      ·exact⟨hlt,(),rfl,by rw[hn,drop_cons hx,drop_cons hyk,E3,Ql,hc];rfl,hs⟩
     ·omega
    ·conv=>whnf
     repeat'((first|apply st|(apply sq;intro K U)|(apply si;intro A B Y Z)|(apply Y;clear Z B Y A)|(apply U;clear U K)|apply dr|refine⟨rfl,?_⟩|refine⟨kZ,?_⟩|refine Qx ?_|refine iq fun x hx=>?_|(refine fc (fun x hx hlt hc=>?_) (fun hk hc=>?_)<;>(try rw[hc])<;>clear hc)|clear U K)<;>conv=>whnf)
     all_goals first|(exfalso;omega)|exact AI (by rw[hn,As hk];rfl)
def Eo (f:Fact):Fact:= .mk 5 0 [] 0 0 [f]
def N7 (f g:Fact):Fact:= .mk 6 0 [] 0 0 [f,g]
def W7 (f:Fact):Pure Tryz.prog 68 [.a (xF f)] (.a (xF (Eo f))):=by
 refine wx kZ ?_;have hs:=Sn
 conv=>whnf
 repeat'((first|apply st|(apply sq;intro K U)|(apply si;intro A B Y Z)|(apply Y;clear Z B Y A)|(apply U;clear U K)|refine⟨kZ,?_⟩|refine ld ?_|refine sn fun σ hs=>?_|(intro nn hnn;generalize hg:A0 _ nn _=σ;refine al hg fun hs=>?_;clear hg)|fail)<;>conv=>whnf)
 refine Al (.a (.cons (.refl _) (.cons (.refl _) (.cons Cy (.cons (.refl _) (.cons (.refl _) (.cons ?_ .nil)))))));refine .l (fun h=>by cases h) ?_;simp only[Eo,Fact.kids,List.map,BL];exact CY _
def ue (f g:Fact):Pure Tryz.prog 70 [.a (xF f),.a (xF g)] (.a (xF (N7 f g))):=by
 refine wu kZ ?_;have hs:=Sn
 conv=>whnf
 repeat'((first|apply st|(apply sq;intro K U)|(apply si;intro A B Y Z)|(apply Y;clear Z B Y A)|(apply U;clear U K)|refine⟨kZ,?_⟩|refine ld ?_|refine sn fun σ hs=>?_|(intro nn hnn;generalize hg:A0 _ nn _=σ;refine al hg fun hs=>?_;clear hg)|fail)<;>conv=>whnf)
 refine Al (.a (.cons (.refl _) (.cons (.refl _) (.cons Cy (.cons (.refl _) (.cons (.refl _) (.cons ?_ .nil)))))));refine .l (fun h=>by cases h) ?_;simp only[N7,Fact.kids,List.map,BL];exact CY _
def GA (l:Fact):Prop:=l.op=5→l.kids≠[]
def Az (l:Fact):Fact×Bool:=if l.op=5 then(l.kids.headD default,true)else(l,false)
def Ha (l:Fact) (h:GA l):Pure Tryz.prog 370 [.a (xF l)] (.t [.a (xF (Az l).1),.b (Az l).2]):=by
 refine Pure.fit (by kernel_rfl) fun hf=>?_
 have⟨h2,h3,h4⟩:=J6 hf.1;refine rK kZ ?_;have hs:=Sn;by_cases h5:l.op=5
 ·have hk:0<l.kids.length:=List.length_pos_iff.2 (h h5)
  conv=>whnf
  repeat'((first|apply st|(apply sq;intro K U)|(apply si;intro A B Y Z)|(apply Y;clear Z B Y A)|(apply U;clear U K)|refine⟨rfl,?_⟩|refine⟨kZ,?_⟩|refine iqF fun x hx=>?_|refine ld ?_|refine sn fun σ hs=>?_|(constructor<;>intro hc<;>(try rw[hc])<;>(replace hc:=bp hc)<;>try(exfalso;omega))|(intro nn hnn;generalize hg:A0 _ nn _=σ;refine al hg fun hs=>?_;clear hg)|clear U K)<;>conv=>whnf)
  all_goals try(exfalso;omega)
  refine AI ?_
  have:l.kids.headD default=x:=by
   cases hl:l.kids with
   | nil=>rw[hl]at hk;simp at hk
   | cons y r=>rw[hl]at hx;simpa using hx
  simp only[Az,if_pos h5,this];rfl
 ·conv=>whnf
  repeat'((first|apply st|(apply sq;intro K U)|(apply si;intro A B Y Z)|(apply Y;clear Z B Y A)|(apply U;clear U K)|refine⟨rfl,?_⟩|refine⟨kZ,?_⟩|refine ld ?_|refine sn fun σ hs=>?_|(constructor<;>intro hc<;>(try rw[hc])<;>(replace hc:=bp hc)<;>try(exfalso;omega))|(intro nn hnn;generalize hg:A0 _ nn _=σ;refine al hg fun hs=>?_;clear hg)|fail)<;>conv=>whnf)
  all_goals try(exfalso;omega)
  refine AI ?_;simp only[Az,if_neg h5];rfl
def Bw (path pre:List Int):Bool:=decide (pre.length≤path.length)&&path.take pre.length==pre
def SQ (xs ys:List Int) (f g:Bool):Pure Tryz.prog 378 [.l (iL xs) f,.l (iL ys) g] (.b (Bw xs ys)):=by
 refine Pure.fit (by kernel_rfl) fun hf=>?_
 have hx:=LK hf.1;have hy:=LK hf.2.1;have hM:=Mx;refine rD kZ ?_;have hs:=Sn
 conv=>whnf
 repeat'((first|apply st|(apply sq;intro K U)|(apply si;intro A B Y Z)|(apply Y;clear Z B Y A)|(apply U;clear U K)|refine⟨rfl,?_⟩|refine xn ?_|refine Pure.use (Ki _ _ _ _) ?_|(constructor<;>intro hc<;>(try rw[hc])<;>(replace hc:=bp hc)<;>(try simp(disch:=omega) only[A9,wrap64,AK]at hc))|fail)<;>conv=>whnf)
 ·refine AI ?_
  have:ys.length≤xs.length:=by omega
  simp[Bw,this]
 ·refine AI ?_
  have: ¬ys.length≤xs.length:=by omega
  simp[Bw,this]
def Gd (w:AL) (ls:List Fact) (a:Int) (p:List Int) (c:Bool):List V:=[.l (Eh w.parents) false,.l (iL w.owner) false,.l (facts ls) false,eI a,.l (iL p) false,.b c]
def JY (w:AL) (ls:List Fact) (a:Int) (p:List Int) (c:Bool) (s:Int) (hp:p.length<100):Pure Tryz.prog 373 [.a (Gd w ls a p c),eI s] (.a (Gd w ls a (p++[s]) c)):=by
 have hM:=Mx;refine rH kZ ?_;have hs:=Sn
 conv=>whnf
 repeat'((first|apply st|(apply sq;intro K U)|(apply si;intro A B Y Z)|(apply Y;clear Z B Y A)|(apply U;clear U K)|apply dr|refine⟨kZ,?_⟩|(intro nn hnn;generalize hg:A0 _ nn _=σ;refine al hg fun hs=>?_;clear hg)|fail)<;>conv=>whnf)
 replace hs:=EM hs 1;refine HU hs 1 (xs:=[]) (ys:=p) rfl (by simp;omega) Bk fun v σ hs=>?_
 conv=>whnf
 repeat'((first|apply st|apply dr|refine rk ?_ ?_|exact fun s e=>by cases e;rfl|refine⟨kZ,?_⟩|refine aq fun v σ hs hsl=>?_|fail)<;>conv=>whnf)
 obtain⟨n,l,cc,rfl⟩:=di hsl
 conv=>whnf
 repeat'((first|apply st|(apply Y;clear Z B Y A)|(apply U;clear U K)|apply dr|refine⟨kZ,?_⟩|refine ld ?_|refine sn fun σ hs=>?_|fail)<;>conv=>whnf)
 exact Al (.a (.cons (.refl _) (.cons (.refl _) (.cons (.refl _) (.cons (.refl _) (.cons (hs.GX 1 rfl) (.cons (.refl _) .nil)))))))
def Gs (a:Int) (p:List Int) (l:Fact):Bool:=(Az l).1.arg==a&&(Az l).1.path==p
def GG {w:AL} {ls:List Fact} {a:Int} {p:List Int} {c:Bool} (h:E4 (.a (Gd w ls a p c))):ls.length≤Ad∧p.length≤Ad∧w.owner.length≤Ad∧w.parents.length≤Ad:=by
 simp only[Gd,G3,DX,G2,A9]at h;exact⟨h.2.2.1.1,h.2.2.2.2.1.1,h.2.1.1,h.1.1⟩
def dq (w:AL) (ls:List Fact) (a:Int) (p:List Int) (c:Bool) (hok: ∀l∈ls,GA l) (hln:ls.length≤1000000):Pure Tryz.prog 369 [.a (Gd w ls a p c)] (.l (facts (ls.filter (Gs a p))) false):=by
 refine Pure.fit (by kernel_rfl) fun hf=>?_
 have⟨h1,h2,h3,h4⟩:=GG hf.1;have hM:=Mx;refine rL kZ ?_;have hs:=Sn
 conv=>whnf
 repeat'((first|apply st|(apply sq;intro K U)|(apply si;intro A B Y Z)|(apply Y;clear Z B Y A)|(apply U;clear U K)|fail)<;>conv=>whnf)
 refine CA ls.length (fun k v=>[(3,v),(11,eI (BG k))]) (fun k v=>[.own v 6 (facts ((ls.take k).filter (Gs a p)))]) (fun _ _=>True) (.l [] true) rfl trivial (EM hs 6) ?_;clear hs;rintro k v σ hk - hs;have hfl:=Oa (Gs a p) (ls.take k)
 conv=>whnf
 repeat'((first|apply st|(apply sq;intro K U)|(apply si;intro A B Y Z)|(apply Y;clear Z B Y A)|(apply U;clear U K)|refine⟨rfl,?_⟩|refine⟨kZ,?_⟩|refine Qx ?_|refine ld ?_|refine sn fun σ hs=>?_|refine oa fun v σ hs hsl=>?_|(refine fc (fun x hx hlt hc=>?_) (fun hk hc=>?_)<;>(try rw[hc])<;>clear hc)|refine Pure.use (Ha _ (hok _ (B9 (by assumption)))) ?_|refine Pure.use (Ki _ _ _ _) ?_|(constructor<;>intro hc<;>(try rw[hc])<;>(replace hc:=bp hc))|(intro nn hnn;generalize hg:A0 _ nn _=σ;refine al hg fun hs=>?_;clear hg)|clear U K)<;>conv=>whnf)
 ·exact⟨hlt,_,rfl,trivial,by rw[AO hx,List.filter_append];simpa[Gs, *]using hs.take 1⟩
 ·exact⟨hlt,_,rfl,trivial,by rw[AO hx,List.filter_append];simpa[Gs, *]using hs.take 1⟩
 ·exact⟨hlt,_,rfl,trivial,by rw[AO hx,List.filter_append];simpa[Gs, *]using hs.take 1⟩
 ·exact EK hs 0 rfl (by rw[Ap hk])
def EG (ls:List Fact) (a:Int) (p:List Int):Bool:=ls.all fun l=>(Az l).2|| !((Az l).1.arg==a&&Bw (Az l).1.path p)
def Zq (w:AL) (ls:List Fact) (a:Int) (p:List Int) (c:Bool) (hok: ∀l∈ls,GA l):Pure Tryz.prog 374 [.a (Gd w ls a p c)] (.b (EG ls a p)):=by
 refine Pure.fit (by kernel_rfl) fun hf=>?_
 have⟨h1,h2,h3,h4⟩:=GG hf.1;have hM:=Mx;refine rG kZ ?_;have hs:=Sn
 conv=>whnf
 repeat'((first|apply st|(apply sq;intro K U)|(apply si;intro A B Y Z)|(apply Y;clear Z B Y A)|(apply U;clear U K)|fail)<;>conv=>whnf)
 refine CA ls.length (fun k (_:Unit)=>[(10,eI (BG k))]) (fun k _=>[]) (fun k _=>EG ls a p=(ls.drop k).all fun l=>(Az l).2|| !((Az l).1.arg==a&&Bw (Az l).1.path p)) () rfl rfl hs ?_;clear hs;rintro k - σ hk hn hs
 conv=>whnf
 repeat'((first|apply st|(apply sq;intro K U)|(apply si;intro A B Y Z)|(apply Y;clear Z B Y A)|(apply U;clear U K)|refine⟨rfl,?_⟩|refine⟨kZ,?_⟩|refine Qx ?_|refine ld ?_|refine sn fun σ hs=>?_|(refine fc (fun x hx hlt hc=>?_) (fun hk hc=>?_)<;>(try rw[hc])<;>clear hc)|refine Pure.use (Ha _ (hok _ (B9 (by assumption)))) ?_|refine Pure.use (SQ _ _ _ _) ?_|(constructor<;>intro hc<;>(try rw[hc])<;>(replace hc:=bp hc))|(intro nn hnn;generalize hg:A0 _ nn _=σ;refine al hg fun hs=>?_;clear hg)|clear U K)<;>conv=>whnf)
 ·exact AI (by rw[hn,drop_cons hx,NS];simp[*])
 ·exact⟨hlt,(),rfl,by rw[hn,drop_cons hx,NS];simp[*],hs.take 0⟩
 ·exact⟨hlt,(),rfl,by rw[hn,drop_cons hx,NS];simp[*],hs.take 0⟩
 ·exact⟨hlt,(),rfl,by rw[hn,drop_cons hx,NS];simp[*],hs.take 0⟩
 ·exact AI (by rw[hn,As hk];rfl)
def Ci (n:Nat):List Int:=(List.range n).map Int.ofNat
def JO (n:Nat):Ci (n+1)=Ci n++[(n:Int)]:=by simp[Ci,List.range_succ]
def GJ (n:Nat):(Ci n).length=n:=by simp[Ci]
def YM (a:Int) (p:List Int) (s:Int) (l:Fact):Bool:=(Az l).1.arg==a&&Bw (Az l).1.path (p++[s])
def Bn (n:Nat) (ls:List Fact) (a:Int) (p:List Int):List Int:=(Ci n).filter fun s=>ls.any (YM a p s)
def U8 (w:AL) (ls:List Fact) (a:Int) (p:List Int) (c:Bool) (hok: ∀l∈ls,GA l) (hp:p.length<100) :
    Pure Tryz.prog 372 [.a (Gd w ls a p c)] (.l (iL (Bn w.owner.length ls a p)) false):=by
 refine Pure.fit (by kernel_rfl) fun hf=>?_
 have⟨h1,h2,h3,h4⟩:=GG hf.1;have hM:=Mx;refine rI kZ ?_;have hs:=Sn
 conv=>whnf
 repeat'((first|apply st|(apply sq;intro K U)|(apply si;intro A B Y Z)|(apply Y;clear Z B Y A)|(apply U;clear U K)|fail)<;>conv=>whnf)
 refine CA w.owner.length (fun k v=>[(3,v),(14,eI (BG k))]) (fun k v=>[.own v 1 (iL (Bn k ls a p))]) (fun _ _=>True) (.l [] true) rfl trivial (EM hs 1) ?_;clear hs;rintro k v σ hk - hs;have hck:BG k=k:=AK (by omega);have hfl:=Oa (fun s=>ls.any (YM a p s)) (Ci k);rw[GJ]at hfl;have hfl2:(Bn k ls a p).length≤k:=hfl
 conv=>whnf
 repeat'((first|apply st|(apply sq;intro K U)|(apply si;intro A B Y Z)|(apply Y;clear Z B Y A)|(apply U;clear U K)|refine⟨rfl,?_⟩|(refine fc (fun x hx hlt hc=>?_) (fun hk hc=>?_)<;>(try rw[hc])<;>clear hc)|clear U K)<;>conv=>whnf)
 ·refine CA ls.length (fun j b=>[(5,.b b),(20,eI (BG j))]) (fun j _=>[.own v 1 (iL (Bn k ls a p))]) (fun j b=>b=(ls.take j).any (YM a p (BG k))) false rfl (by simp) hs ?_
  clear hs;rintro j b σ hj hb hs;subst hb
  conv=>whnf
  repeat'((first|apply st|(apply sq;intro K U)|(apply si;intro A B Y Z)|(apply Y;clear Z B Y A)|(apply U;clear U K)|apply dr|refine rk ?_ ?_|exact fun s e=>by cases e;rfl|refine⟨rfl,?_⟩|refine⟨kZ,?_⟩|refine Qx ?_|refine ld ?_|refine sn fun σ hs=>?_|refine aq fun v σ hs hsl=>?_|(refine fc (fun x hx hlt hc=>?_) (fun hk hc=>?_)<;>(try rw[hc])<;>clear hc)|refine Pure.use (Ha _ (hok _ (B9 (by assumption)))) ?_|refine Pure.use (SQ _ _ _ _) ?_|refine Pure.use (JY _ _ _ _ _ _ (by omega)) ?_|(constructor<;>intro hc<;>(try rw[hc])<;>(replace hc:=bp hc)<;>(try simp(disch:=omega) only[A9,wrap64,AK]at hc))|(intro nn hnn;generalize hg:A0 _ nn _=σ;refine al hg fun hs=>?_;clear hg)|clear U K)<;>conv=>whnf)
  ·exact⟨hlt,_,rfl,by rw[AO hx,List.any_append];simp[YM, *],hs.take 1⟩
  ·exact⟨hlt,_,rfl,by rw[AO hx,List.any_append];simp[YM, *],hs.take 1⟩
  ·exact⟨hlt,true,rfl,by rw[AO hx,List.any_append];simp[*],hs.take 1⟩
  ·refine⟨by assumption,_,rfl,trivial,?_⟩
   rw[Ap hk]at hc;rw[Bn,JO,List.filter_append];simp only[Bn]at hs;simpa[hc,hck]using hs
  ·refine⟨by assumption,_,rfl,trivial,?_⟩
   rw[Ap hk]at hc;rw[Bn,JO,List.filter_append];simp only[Bn]at hs;simpa[hc,hck]using hs
 ·exact EK hs 0 rfl (by rw[hk])
def FE (n:Nat) (ls:List Fact) (a:Int) (p:List Int):Bool:=(Bn n ls a p).all fun s=>EG ls a (p++[s])
def Zd (w:AL) (ls:List Fact) (a:Int) (p:List Int) (c:Bool) (hok: ∀l∈ls,GA l) (hp:p.length<50):Pure Tryz.prog 371 [.a (Gd w ls a p c)] (.b (FE w.owner.length ls a p)):=by
 refine Pure.fit (by kernel_rfl) fun hf=>?_
 have⟨h1,h2,h3,h4⟩:=GG hf.1;have hM:=Mx;refine rJ kZ ?_;have hs:=Sn;have hfl:=Oa (fun s=>ls.any (YM a p s)) (Ci w.owner.length);rw[GJ]at hfl;have hfl2:(Bn w.owner.length ls a p).length≤w.owner.length:=hfl
 conv=>whnf
 repeat'((first|apply st|(apply sq;intro K U)|(apply si;intro A B Y Z)|(apply Y;clear Z B Y A)|(apply U;clear U K)|refine⟨kZ,?_⟩|refine Pure.use (U8 _ _ _ _ _ hok (by omega)) ?_|fail)<;>conv=>whnf)
 refine CA (Bn w.owner.length ls a p).length (fun k (_:Unit)=>[(8,eI (BG k))]) (fun k _=>[]) (fun k _=>FE w.owner.length ls a p=((Bn w.owner.length ls a p).drop k).all fun s=>EG ls a (p++[s])) () rfl rfl hs ?_;clear hs;rintro k - σ hk hn hs
 conv=>whnf
 repeat'((first|apply st|(apply sq;intro K U)|(apply si;intro A B Y Z)|(apply Y;clear Z B Y A)|(apply U;clear U K)|refine⟨rfl,?_⟩|refine⟨kZ,?_⟩|refine ix ?_|(refine fc (fun x hx hlt hc=>?_) (fun hk hc=>?_)<;>(try rw[hc])<;>clear hc)|refine Pure.use (JY _ _ _ _ _ _ (by omega)) ?_|refine Pure.use (Zq _ _ _ _ _ hok) ?_|(constructor<;>intro hc<;>(try rw[hc])<;>(replace hc:=bp hc))|clear U K)<;>conv=>whnf)
 ·exact AI (by rw[hn,drop_cons hx,NS];simp[*])
 ·exact⟨hlt,(),rfl,by rw[hn,drop_cons hx,NS];simp[*],hs⟩
 ·exact AI (by rw[hn,As hk];rfl)
def KN (ls:List Fact):Prop:= ∀l∈ls,-1000000000≤(Az l).1.n∧(Az l).1.n≤1000000000
def HP (x:Fact×Bool) (t:Int×Int×List Int):Option (Int×Int×List Int):=
 if x.1.op=2 then if decide (x.1.cls > 1) != x.2 then none else some t
 else if x.1.op=3 then(if x.2 then some (if x.1.n > t.1 then x.1.n else t.1,t.2.1,t.2.2)else some (t.1,if x.1.n - 1<t.2.1 then x.1.n - 1 else t.2.1,t.2.2))
 else if x.2 then some (t.1,t.2.1,t.2.2++[x.1.n])else some (if x.1.n > t.1 then x.1.n else t.1,if x.1.n<t.2.1 then x.1.n else t.2.1,t.2.2)
def foldI:List Fact→Int×Int×List Int→Option (Int×Int×List Int)
 | [],t=>some t
 | x::r,t=>(HP (Az x) t).bind (foldI r)
def NH: ∀(xs ys:List Fact) (t:Int×Int×List Int),foldI (xs++ys) t=(foldI xs t).bind (foldI ys)
 | [],_,_=>rfl
 | x::r,ys,t=>by
   simp only[List.cons_append,foldI];cases HP (Az x) t with
   | none=>rfl
   | some u=>exact NH r ys u
def GN {os:List Fact} {k:Nat} {x:Fact} (hx:os[k]? =some x) (t:Int×Int×List Int):foldI (os.take (k+1)) t=(foldI (os.take k) t).bind (HP (Az x)):=by
 rw[AO hx,NH];congr 1;funext u;simp only[foldI];cases HP (Az x) u<;>rfl
def X2 {os:List Fact} (k:Nat) {t:Int×Int×List Int} (h:foldI (os.take k) t=none):foldI os t=none:=by
 rw[←List.take_append_drop k os,NH,h];rfl
def Si (no:List Int):Nat→Int→Option Int
 | 0,_=>none
 | k+1,n=>if no.all (· != n)then some n else Si no k (n+1)
def Ot (t:Int×Int×List Int):Option Int:=Si t.2.2 (t.2.1+1 - t.1).toNat t.1
def t0:Int×Int×List Int:=(-1000000000,1000000000,[])
def Ir (ls:List Fact) (a:Int) (p:List Int):Option Int:=(foldI (ls.filter (Gs a p)) t0).bind Ot
def aI (n:Nat) (ls:List Fact) (a:Int) (p:List Int):V:=match Ir ls a p with
 | some x=> .t [eI x,.b (FE n ls a p)]
 | none=> .t [eI 0,.b false]
set_option maxHeartbeats 4000000 in
def QC (w : AL) (ls:List Fact) (a:Int) (p:List Int) (c:Bool) (hokL: ∀l∈ls,GA l) (hln:ls.length≤1000000) (hp:p.length<50) (hsm:KN ls):Pure Tryz.prog 357 [.a (Gd w ls a p c)] (aI w.owner.length ls a p):=by
 refine Pure.fit (by kernel_rfl) fun hf=>?_
 have⟨h1,h2,h3,h4⟩:=GG hf.1;have hM:=Mx;refine rR kZ ?_;have hs:=Sn;have hfl:=Oa (Gs a p) ls;have hok2: ∀l∈ls.filter (Gs a p),GA l:=fun l hl=>hokL l ((K0.1 hl).1)
 have hsm2:KN (ls.filter (Gs a p)):=fun l hl=>hsm l ((K0.1 hl).1)
 conv=>whnf
 repeat'((first|apply st|(apply sq;intro K U)|(apply si;intro A B Y Z)|(apply Y;clear Z B Y A)|(apply U;clear U K)|refine⟨kZ,?_⟩|refine Pure.use (dq _ _ _ _ _ hokL hln) ?_|fail)<;>conv=>whnf)
 generalize hos:ls.filter (Gs a p)=os at *;have hV:Ir ls a p=(foldI os t0).bind Ot:=by rw[Ir,hos]
 refine CA os.length (fun k (x:Int×Int×List Int×V)=>[(4,eI x.1),(5,eI x.2.1),(6,x.2.2.2),(18,eI (BG k))]) (fun k x=>[.own x.2.2.2 1 (iL x.2.2.1)]) (fun k x=>foldI (os.take k) t0=some (x.1,x.2.1,x.2.2.1)∧ -1000000000≤x.1∧x.1≤1000000000∧ -1000000001≤x.2.1∧x.2.1≤1000000000∧x.2.2.1.length≤k) (-1000000000,1000000000,[],.l [] true) rfl ⟨rfl,by simp⟩ (EM hs 1) ?_;clear hs;rintro k ⟨low,high,no,v⟩ σ hk ⟨hno,hb1,hb2,hb3,hb4,hb5⟩ hs;simp only at hb1 hb2 hb3 hb4 hb5 hno;have hok:=hok2
 conv=>whnf
 repeat'((first|apply st|(apply sq;intro K U)|(apply si;intro A B Y Z)|(apply Y;clear Z B Y A)|(apply U;clear U K)|apply dr|refine⟨rfl,?_⟩|refine⟨kZ,?_⟩|refine Qx ?_|refine ld ?_|refine sn fun σ hs=>?_|refine aq fun v σ hs hsl=>?_|(refine fc (fun x hx hlt hc=>?_) (fun hk hc=>?_)<;>(try rw[hc])<;>clear hc)|refine Pure.use (Ha _ (hok _ (B9 (by assumption)))) ?_|(constructor<;>intro hc<;>(try rw[hc])<;>(replace hc:=bp hc)<;>try(exfalso;omega))|(intro nn hnn;generalize hg:A0 _ nn _=σ;refine al hg fun hs=>?_;clear hg)|clear U K)<;>conv=>whnf)
 all_goals first
  | (have hb:=hsm2 _ (B9 hx)
     first
      | (refine⟨hlt,(_,_,_,_),rfl,⟨?_,?_⟩,hs.take 1⟩
         ·rw[GN hx,hno]
          have hw:IntKind.i64.wrap ((Az ‹Fact›).1.n - 1)=(Az ‹Fact›).1.n - 1:=wrap64 (by omega) (by omega);simp[HP, *]
          done
         ·have hw:IntKind.i64.wrap ((Az ‹Fact›).1.n - 1)=(Az ‹Fact›).1.n - 1:=wrap64 (by omega) (by omega)
          simp only[Qv,List.length_singleton,hw]
          refine⟨?_,?_,?_,?_,?_⟩<;>(try split)<;>omega)
      | (refine AI ?_
         have:foldI os t0=none:=X2 (k+1) (by rw[GN hx,hno];simp[HP, *]);rw[this]at hV;simp only[aI,hV]
         rfl))
  | skip
 ·have hb:=hsm2 _ (B9 hx)
  refine⟨hlt,(if(Az x).1.n > low then(Az x).1.n else low,high,no,v),rfl,⟨?_,?_⟩,hs.take 1⟩
  ·rw[GN hx,hno]
   simp[HP, *]
  ·dsimp only
   refine⟨?_,?_,?_,?_,?_⟩<;>(try split)<;>omega
 ·have hb:=hsm2 _ (B9 hx)
  have hw:IntKind.i64.wrap ((Az x).1.n - 1)=(Az x).1.n - 1:=wrap64 (by omega) (by omega);rw[hw];refine⟨hlt,(low,if(Az x).1.n - 1<high then(Az x).1.n - 1 else high,no,v),rfl,⟨?_,?_⟩,hs.take 1⟩
  ·rw[GN hx,hno]
   simp[HP, *]
  ·dsimp only
   refine⟨?_,?_,?_,?_,?_⟩<;>(try split)<;>omega
 ·have hb:=hsm2 _ (B9 hx)
  refine⟨hlt,(if(Az x).1.n > low then(Az x).1.n else low,if(Az x).1.n<high then(Az x).1.n else high,no,v),rfl,⟨?_,?_⟩,hs.take 1⟩
  ·rw[GN hx,hno]
   simp[HP, *]
  ·dsimp only
   refine⟨?_,?_,?_,?_,?_⟩<;>(try split)<;>omega
 rw[Ap (by assumption)]at hno;have hV2:Ir ls a p=Ot (low,high,no):=by rw[hV,hno];rfl
 dsimp only;refine EA (fun n:Int=>(high+1 - n).toNat) (fun n=>[(11,eI n)]) (fun _=>[.own v 1 (iL no)]) (fun n=>low≤n∧n≤1000000001∧Ir ls a p=Si no (high+1 - n).toNat n) low rfl ⟨by omega,by omega,hV2⟩ hs ?_;clear hs;rintro n σ ⟨hn1,hn2,hn⟩ hs;have hnl:no.length≤Ad:=by omega
 conv=>whnf
 repeat'((first|apply st|(apply sq;intro K U)|(apply si;intro A B Y Z)|(apply Y;clear Z B Y A)|(apply U;clear U K)|refine⟨rfl,?_⟩|refine lo ?_|(constructor<;>intro hc<;>(try rw[hc])<;>(replace hc:=bp hc))|clear U K)<;>conv=>whnf)
 ·refine CA no.length (fun j b=>[(12,.b b),(80,eI (BG j))]) (fun j _=>[.own v 1 (iL no)]) (fun j b=>b=(no.take j).all (· != n)) true rfl (by simp) hs ?_
  clear hs;rintro j b σ hj hb hs;subst hb
  conv=>whnf
  repeat'((first|apply st|(apply sq;intro K U)|(apply si;intro A B Y Z)|(apply Y;clear Z B Y A)|(apply U;clear U K)|refine⟨rfl,?_⟩|refine⟨kZ,?_⟩|refine oc ?_|refine Oc ?_|(refine fc (fun x hx hlt hc=>?_) (fun hk hc=>?_)<;>(try rw[hc])<;>clear hc)|refine Pure.use (Zd _ _ _ _ _ hokL (by omega)) ?_|(constructor<;>intro hc<;>(try rw[hc])<;>(replace hc:=bp hc))|clear U K)<;>conv=>whnf)
  ·exact⟨hlt,_,rfl,by rw[AO hx,List.all_append,hc];simp,hs⟩
  ·exact⟨hlt,false,rfl,by rw[AO hx,List.all_append,hc];simp,hs⟩
  ·refine AI ?_
   rw[Ap hk]at hc;rw[show(high+1 - n).toNat=(high - n).toNat+1 by omega,Si,if_pos hc]at hn;simp only[aI,hn]
  ·rw[Ap hk]at hc
   rw[show(high+1 - n).toNat=(high+1 - (n+1)).toNat+1 by omega,Si,if_neg (by simp[hc])]at hn;rw[wrap64 (by omega) (by omega)];exact⟨n+1,by omega,rfl,⟨by omega,by omega,hn⟩,hs⟩
 ·refine AI ?_
  have:(high+1 - n).toNat=0:=by omega
  rw[this,Si]at hn;simp only[aI,hn]
def IW (x:Fact×Bool):Bool:=((x.1.op==2&&(x.1.cls==0||x.1.cls==2))==x.2)
def HT (n:Nat) (ls:List Fact) (a:Int) (p:List Int):Bool:=(ls.filter (Gs a p)).all (fun l=> !IW (Az l))&&FE n ls a p
set_option maxHeartbeats 4000000 in
def ZD (w:AL) (ls:List Fact) (a:Int) (p:List Int) (c:Bool) (hokL: ∀l∈ls,GA l) (hln:ls.length≤1000000) (hp:p.length<50):Pure Tryz.prog 358 [.a (Gd w ls a p c)] (.b (HT w.owner.length ls a p)):=by
 refine Pure.fit (by kernel_rfl) fun hf=>?_
 have⟨h1,h2,h3,h4⟩:=GG hf.1;have hM:=Mx;refine rQ kZ ?_;have hs:=Sn;have hfl:=Oa (Gs a p) ls;have hok: ∀l∈ls.filter (Gs a p),GA l:=fun l hl=>hokL l (K0.1 hl).1
 conv=>whnf
 repeat'((first|apply st|(apply sq;intro K U)|(apply si;intro A B Y Z)|(apply Y;clear Z B Y A)|(apply U;clear U K)|refine⟨kZ,?_⟩|refine Pure.use (dq _ _ _ _ _ hokL hln) ?_|fail)<;>conv=>whnf)
 generalize hos:ls.filter (Gs a p)=os at *;have hV:HT w.owner.length ls a p=(os.all (fun l=> !IW (Az l))&&FE w.owner.length ls a p):=by rw[HT,hos]
 refine CA os.length (fun k (_:Unit)=>[(11,eI (BG k))]) (fun k _=>[]) (fun k _=>HT w.owner.length ls a p=((os.drop k).all (fun l=> !IW (Az l))&&FE w.owner.length ls a p)) () rfl hV hs ?_;clear hs;rintro k - σ hk hn hs
 conv=>whnf
 repeat'((first|apply st|(apply sq;intro K U)|(apply si;intro A B Y Z)|(apply Y;clear Z B Y A)|(apply U;clear U K)|refine⟨rfl,?_⟩|refine⟨kZ,?_⟩|refine Qx ?_|refine ld ?_|refine sn fun σ hs=>?_|(refine fc (fun x hx hlt hc=>?_) (fun hk hc=>?_)<;>(try rw[hc])<;>clear hc)|refine Pure.use (Ha _ (hok _ (B9 (by assumption)))) ?_|refine Pure.use (Zd _ _ _ _ _ hokL (by omega)) ?_|(constructor<;>intro hc<;>(try rw[hc])<;>(replace hc:=bp hc))|(intro nn hnn;generalize hg:A0 _ nn _=σ;refine al hg fun hs=>?_;clear hg)|clear U K)<;>conv=>whnf)
 all_goals first
  | (have hst:IW (Az x)=true:=by clear hV hn;cases hz:(Az x).2<;>cases hy:((Az x).1.cls==2)<;>simp_all [IW]
     exact AI (by rw[hn,drop_cons hx,NS,hst];simp))
  | (have hst:IW (Az x)=false:=by clear hV hn;cases hz:(Az x).2<;>cases hy:((Az x).1.cls==2)<;>simp_all [IW]
     exact⟨hlt,(),rfl,by rw[hn,drop_cons hx,NS,hst];simp,hs.take 0⟩)
  | exact AI (by rw[hn,As (by assumption)];simp)
abbrev BB:=List Bool×List Bool
def F9 (x:Fact×Bool) (t:BB):Option BB:=
 if x.1.op≠2∨x.1.cls=1∨x.1.cls=2 then(if x.2 then some t else none)else
 if x.2 then some (t.1,t.2.set x.1.cls.toNat true)else some (t.1.set x.1.cls.toNat true,t.2)
def D8:List Fact→BB→Option BB
 | [],t=>some t
 | x::r,t=>(F9 (Az x) t).bind (D8 r)
def IV (w:AL) (ls:List Fact) (a:Int) (p:List Int) (can:Int→Bool) (s:Int) (t:BB):Option BB:=
 if !EG ls a (p++[s])&& !can s then none else some (if EG ls a (p++[s])then t.1 else t.1.set (Cx w s).toNat true,if can s then t.2 else t.2.set (Cx w s).toNat true)
def Dr (w:AL) (ls:List Fact) (a:Int) (p:List Int) (can:Int→Bool):List Int→BB→Option BB
 | [],t=>some t
 | s::r,t=>(IV w ls a p can s t).bind (Dr w ls a p can r)
def Hp (ps:List (List Int)) (c:Nat) (bs:List Bool):List Bool:=if bs.getD c false then(par ps c).foldl (fun b q=>b.set q.toNat true) bs else bs
def B6 (ps:List (List Int)) (n:Nat):Nat→List Bool→List Bool
 | 0,bs=>bs
 | k+1,bs=>Hp ps (n - 1 - k) (B6 ps n k bs)
def HA: ∀(l:List Int) (bs:List Bool),(l.foldl (fun b q=>b.set q.toNat true) bs).length=bs.length
 | [],_=>rfl
 | q::r,bs=>by rw[List.foldl_cons,HA r,List.length_set]
def EZ (ps:List (List Int)) (n:Nat): ∀(k:Nat) (bs:List Bool),(B6 ps n k bs).length=bs.length
 | 0,_=>rfl
 | k+1,bs=>by
   rw[B6,Hp];split
   ·rw[HA,EZ ps n k bs]
   ·exact EZ ps n k bs
def UQ (w:AL) (t:BB):Option (List Bool):=
 if t.2.getD 0 false then none else
 if(List.range (3+w.parents.length)).any (fun c=>(B6 w.parents (3+w.parents.length) w.parents.length (t.1.set 0 false)).getD c false&&t.2.getD c false)then none else some (B6 w.parents (3+w.parents.length) w.parents.length (t.1.set 0 false))
def tO (w:AL):BB:=(List.replicate (3+w.parents.length) false,List.replicate (3+w.parents.length) false)
def KF (w:AL) (ls:List Fact) (a:Int) (p:List Int) (can:Int→Bool):Option (List Bool):=
 ((D8 (ls.filter (Gs a p)) (tO w)).bind (Dr w ls a p can (Bn w.owner.length ls a p))).bind (UQ w)
def vd (o:Option (List Bool)):V:=match o with
 | some m=> .t [.l (bL m) false,.b true]
 | none=> .t [.l [] true,.b false]
def NG: ∀(xs ys:List Fact) (t:BB),D8 (xs++ys) t=(D8 xs t).bind (D8 ys)
 | [],_,_=>rfl
 | x::r,ys,t=>by
   simp only[List.cons_append,D8];cases F9 (Az x) t with
   | none=>rfl
   | some u=>exact NG r ys u
def IJ {os:List Fact} {k:Nat} {x:Fact} (hx:os[k]? =some x) (t:BB):D8 (os.take (k+1)) t=(D8 (os.take k) t).bind (F9 (Az x)):=by
 rw[AO hx,NG];congr 1;funext u;simp only[D8];cases F9 (Az x) u<;>rfl
def X1 {os:List Fact} (k:Nat) {t:BB} (h:D8 (os.take k) t=none):D8 os t=none:=by
 rw[←List.take_append_drop k os,NG,h];rfl
def NF {w:AL} {ls:List Fact} {a:Int} {p:List Int} {can:Int→Bool}: ∀(xs ys:List Int) (t:BB),Dr w ls a p can (xs++ys) t=(Dr w ls a p can xs t).bind (Dr w ls a p can ys)
 | [],_,_=>rfl
 | x::r,ys,t=>by
   simp only[List.cons_append,Dr];cases IV w ls a p can x t with
   | none=>rfl
   | some u=>exact NF r ys u
def II {w:AL} {ls:List Fact} {a:Int} {p:List Int} {can:Int→Bool} {os:List Int} {k:Nat} {x:Int} (hx:os[k]? =some x) (t:BB):Dr w ls a p can (os.take (k+1)) t=(Dr w ls a p can (os.take k) t).bind (IV w ls a p can x):=by
 rw[AO hx,NF];congr 1;funext u;simp only[Dr];cases IV w ls a p can x u<;>rfl
def X0 {w:AL} {ls:List Fact} {a:Int} {p:List Int} {can:Int→Bool} {os:List Int} (k:Nat) {t:BB} (h:Dr w ls a p can (os.take k) t=none):Dr w ls a p can os t=none:=by
 rw[←List.take_append_drop k os,NF,h];rfl
def Jk {n:Nat} {ls:List Fact} {a:Int} {p:List Int} {s:Int} (h:s∈Bn n ls a p):0≤s∧s<n:=by
 have:=(K0.1 h).1;simp only[Ci,MN,List.mem_range]at this;obtain⟨m,hm,rfl⟩:=this;exact⟨Int.natCast_nonneg m,by simpa using hm⟩
def Ut (w:AL) (ls:List Fact):Prop:= ∀l∈ls,(Az l).1.op=2→0≤(Az l).1.cls∧(Az l).1.cls<3+w.parents.length
set_option maxHeartbeats 8000000 in
def Rr (w : AL) (ls:List Fact) (a:Int) (p:List Int) (c:Bool) (can:Int→Bool) (hokL: ∀l∈ls,GA l) (hln:ls.length≤1000000) (hp:p.length<50) (hw:UA w) (hcl:Ut w ls) (hcan: ∀s∈Bn w.owner.length ls a p,Pure Tryz.prog 351 [.a (Gd w ls a (p++[s]) c)] (.b (can s))) :
    Pure Tryz.prog 365 [.a (Gd w ls a p c)] (vd (KF w ls a p can)):=by
 refine Pure.fit (by kernel_rfl) fun hf=>?_
 have⟨h1,h2,h3,h4⟩:=GG hf.1;have hM:=Mx;have hwl:=hw.len;have hwo:=hw.yF;refine rP kZ ?_;have hs:=Sn;have hfl:=Oa (Gs a p) ls;have hok: ∀l∈ls.filter (Gs a p),GA l:=fun l hl=>hokL l (K0.1 hl).1
 have hcl2:Ut w (ls.filter (Gs a p)):=fun l hl=>hcl l (K0.1 hl).1
 have hfl2:(Bn w.owner.length ls a p).length≤w.owner.length:=by
  have:=Oa (fun s=>ls.any (YM a p s)) (Ci w.owner.length);rw[GJ]at this;exact this
 conv=>whnf
 repeat'((first|apply st|(apply sq;intro K U)|(apply si;intro A B Y Z)|(apply Y;clear Z B Y A)|(apply U;clear U K)|refine⟨rfl,?_⟩|fail)<;>conv=>whnf)
 rw[show IntKind.i64.wrap (3+((Eh w.parents).length:Nat))=((3+w.parents.length:Nat):Int) by rw[A9,wrap64 (by omega) (by omega)];omega];refine xy hs (by omega) fun v1 σ hs hv=>?_
 obtain⟨id1,rfl⟩:=hv
 conv=>whnf
 repeat'((first|apply st|(apply sq;intro K U)|(apply si;intro A B Y Z)|(apply Y;clear Z B Y A)|(apply U;clear U K)|refine⟨rfl,?_⟩|fail)<;>conv=>whnf)
 rw[show IntKind.i64.wrap (3+((Eh w.parents).length:Nat))=((3+w.parents.length:Nat):Int) by rw[A9,wrap64 (by omega) (by omega)];omega];refine xy hs (by omega) fun v2 σ hs hv=>?_
 obtain⟨id2,rfl⟩:=hv
 conv=>whnf
 repeat'((first|apply st|(apply sq;intro K U)|(apply si;intro A B Y Z)|(apply Y;clear Z B Y A)|(apply U;clear U K)|refine⟨kZ,?_⟩|refine Pure.use (dq _ _ _ _ _ hokL hln) ?_|fail)<;>conv=>whnf)
 generalize hos:ls.filter (Gs a p)=os at *;have hV:KF w ls a p can=((D8 os (tO w)).bind (Dr w ls a p can (Bn w.owner.length ls a p))).bind (UQ w):=by rw[KF,hos]
 refine CA os.length (fun k (_:BB)=>[(34,eI (BG k))]) (fun k t=>[.own (.sl id1 (3+w.parents.length) (3+w.parents.length)) 1 (bL t.1),.own (.sl id2 (3+w.parents.length) (3+w.parents.length)) 1 (bL t.2)]) (fun k t=>D8 (os.take k) (tO w)=some t∧t.1.length=3+w.parents.length∧t.2.length=3+w.parents.length) (tO w) rfl ⟨rfl,by simp[tO],by simp[tO]⟩ (by simpa[tO,bL]using hs) ?_;clear hs;rintro k ⟨CE,no⟩ σ hk ⟨hno,hl1,hl2⟩ hs;simp only at hl1 hl2;dsimp only at hs
 conv=>whnf
 repeat'((first|apply st|(apply sq;intro K U)|(apply si;intro A B Y Z)|(apply Y;clear Z B Y A)|(apply U;clear U K)|refine⟨rfl,?_⟩|refine⟨kZ,?_⟩|refine Qx ?_|refine ld ?_|refine sn fun σ hs=>?_|(refine fc (fun x hx hlt hc=>?_) (fun hk hc=>?_)<;>(try rw[hc])<;>clear hc)|refine Pure.use (Ha _ (hok _ (B9 (by assumption)))) ?_|refine Pure.use (U8 _ _ _ _ _ hokL (by omega)) ?_|(constructor<;>intro hc<;>(try rw[hc])<;>(replace hc:=bp hc))|(intro nn hnn;generalize hg:A0 _ nn _=σ;refine al hg fun hs=>?_;clear hg)|clear U K)<;>conv=>whnf)
 all_goals try
  (have hcx:=hcl2 _ (B9 hx) (by assumption)
   conv=>whnf
   repeat'((first|(apply si;intro A B Y Z)|(apply Y;clear Z B Y A)|(apply U;clear U K)|refine⟨rfl,?_⟩|refine ja fun σ hs=>?_|refine oi ?_|clear U K)<;>conv=>whnf)
  )
 all_goals first
  | (refine AI ?_
     have:D8 os (tO w)=none:=X1 (k+1) (by rw[IJ hx,hno];simp[F9, *]);rw[hV,this]
     rfl)
  | exact⟨hlt,(CE,no),rfl,⟨by rw[IJ hx,hno];simp[F9, *],hl1,hl2⟩,hs.take 2⟩
  | exact⟨hlt,(CE.set (Az x).1.cls.toNat true,no),rfl,⟨by rw[IJ hx,hno];simp[F9, *],by simpa using hl1,hl2⟩,hs.take 2⟩
  | exact⟨hlt,(CE,no.set (Az x).1.cls.toNat true),rfl,⟨by rw[IJ hx,hno];simp[F9, *],hl1,by simpa using hl2⟩,hs.take 2⟩
  | skip
 rw[Ap (by assumption)]at hno;have hV2:KF w ls a p can=(Dr w ls a p can (Bn w.owner.length ls a p) (CE,no)).bind (UQ w):=by rw[hV,hno];rfl
 clear hno;generalize hsl:Bn w.owner.length ls a p=sl at *;have hsi: ∀s∈sl,0≤s∧s<w.owner.length:=fun s h=>Jk (by rw[hsl];exact h)
 refine CA sl.length (fun k (_:BB)=>[(73,eI (BG k))]) (fun k t=>[.own (.sl id1 (3+w.parents.length) (3+w.parents.length)) 1 (bL t.1),.own (.sl id2 (3+w.parents.length) (3+w.parents.length)) 1 (bL t.2)]) (fun k t=>Dr w ls a p can (sl.take k) (CE,no)=some t∧t.1.length=3+w.parents.length∧t.2.length=3+w.parents.length) (CE,no) rfl ⟨rfl,hl1,hl2⟩ hs ?_;clear hs hl1 hl2;rintro k ⟨m1,n1⟩ σ hk ⟨hno,hl1,hl2⟩ hs;simp only at hl1 hl2;dsimp only at hs;rcases BI sl hk with⟨x,hx,hlt⟩|hke
 ·have hxm:=B9 hx
  obtain⟨hx0,hx1⟩:=hsi x hxm
  have hox:w.owner[x.toNat]? =some (Cx w x):=by
   rw[Cx,DZ,C7 (by omega)];rfl
  have ho:=hw.own _ (B9 hox);have hcx:=hcan x hxm;have hbx:=Zq w ls a (p++[x]) c hokL;cases Z:EG ls a (p++[x])<;>cases hC:can x<;>rw[Z]at hbx<;>rw[hC]at hcx
  ·conv=>whnf
   repeat'((first|apply st|(apply sq;intro K U)|(apply si;intro A B Y Z)|(apply Y;clear Z B Y A)|(apply U;clear U K)|apply dr|refine rk ?_ ?_|exact fun s e=>by cases e;rfl|refine⟨rfl,?_⟩|refine⟨kZ,?_⟩|refine ix ?_|refine ld ?_|refine sn fun σ hs=>?_|refine HK ?_|(refine CU (fun hc=>?_)<;>(try rw[hc])<;>clear hc)|refine Pure.use (JY _ _ _ _ _ _ (by omega)) ?_|(intro nn hnn;generalize hg:A0 _ nn _=σ;refine al hg fun hs=>?_;clear hg)|refine Pure.use (by assumption) ?_|clear U K)<;>conv=>whnf)
   refine AI ?_;have:Dr w ls a p can sl (CE,no)=none:=X0 (k+1) (by rw[II hx,hno];simp[IV, *]);rw[hV2,this];rfl
  ·conv=>whnf
   repeat'((first|apply st|(apply sq;intro K U)|(apply si;intro A B Y Z)|(apply Y;clear Z B Y A)|(apply U;clear U K)|apply dr|refine rk ?_ ?_|exact fun s e=>by cases e;rfl|refine⟨rfl,?_⟩|refine⟨kZ,?_⟩|refine ix ?_|refine HI ?_|refine ja fun σ hs=>?_|refine ld ?_|refine sn fun σ hs=>?_|refine oi ?_|refine HK ?_|refine FP ?_|(refine CU (fun hc=>?_)<;>(try rw[hc])<;>clear hc)|refine Pure.use (JY _ _ _ _ _ _ (by omega)) ?_|(intro nn hnn;generalize hg:A0 _ nn _=σ;refine al hg fun hs=>?_;clear hg)|refine Pure.use (by assumption) ?_|clear U K)<;>conv=>whnf)
   exact⟨hlt,(m1.set (Cx w x).toNat true,n1),rfl,⟨by rw[II hx,hno];simp[IV, *],by simpa using hl1,hl2⟩,hs.take 2⟩
  ·conv=>whnf
   repeat'((first|apply st|(apply sq;intro K U)|(apply si;intro A B Y Z)|(apply Y;clear Z B Y A)|(apply U;clear U K)|apply dr|refine rk ?_ ?_|exact fun s e=>by cases e;rfl|refine⟨rfl,?_⟩|refine⟨kZ,?_⟩|refine ix ?_|refine HI ?_|refine ja fun σ hs=>?_|refine ld ?_|refine sn fun σ hs=>?_|refine oi ?_|refine HK ?_|refine FP ?_|(refine CU (fun hc=>?_)<;>(try rw[hc])<;>clear hc)|refine Pure.use (JY _ _ _ _ _ _ (by omega)) ?_|(intro nn hnn;generalize hg:A0 _ nn _=σ;refine al hg fun hs=>?_;clear hg)|refine Pure.use (by assumption) ?_|clear U K)<;>conv=>whnf)
   exact⟨hlt,(m1,n1.set (Cx w x).toNat true),rfl,⟨by rw[II hx,hno];simp[IV, *],hl1,by simpa using hl2⟩,hs.take 2⟩
  ·conv=>whnf
   repeat'((first|apply st|(apply sq;intro K U)|(apply si;intro A B Y Z)|(apply Y;clear Z B Y A)|(apply U;clear U K)|apply dr|refine rk ?_ ?_|exact fun s e=>by cases e;rfl|refine⟨rfl,?_⟩|refine⟨kZ,?_⟩|refine ix ?_|refine ld ?_|refine sn fun σ hs=>?_|refine FP ?_|(refine CU (fun hc=>?_)<;>(try rw[hc])<;>clear hc)|refine Pure.use (JY _ _ _ _ _ _ (by omega)) ?_|(intro nn hnn;generalize hg:A0 _ nn _=σ;refine al hg fun hs=>?_;clear hg)|refine Pure.use (by assumption) ?_|clear U K)<;>conv=>whnf)
   exact⟨hlt,(m1,n1),rfl,⟨by rw[II hx,hno];simp[IV, *],hl1,hl2⟩,hs.take 2⟩
 ·rw [Ap hke]at hno
  have hV3:KF w ls a p can=UQ w (m1,n1):=by rw[hV2,hno];rfl
  have hrow: ∀l∈w.parents,l.length≤Ad:=(TB (g:=false) (by have:=hf.1;simp only[Gd,G3,DX]at this;exact this.1)).2
  have hen:KF w ls a p can=if n1.getD 0 false then none else
   if(List.range (3+w.parents.length)).any (fun c=>(B6 w.parents (3+w.parents.length) w.parents.length (m1.set 0 false)).getD c false&&n1.getD c false)then none else some (B6 w.parents (3+w.parents.length) w.parents.length (m1.set 0 false)):=hV3.trans rfl
  clear hcan hcl hV hV2 hV3 hno hos hsl hcl2 hok;obtain⟨n0,hn0⟩: ∃b,n1[0]? =some b:=⟨_,C7 (by omega)⟩
  have hn0':n1[Int.toNat 0]? =some n0:=hn0;have hng:n1.getD 0 false=n0:=by rw[DZ,hn0];rfl
  rw[hng]at hen;cases n0
  ·generalize hms:m1.set 0 false=ms at *
   have hl3:ms.length=3+w.parents.length:=by rw[←hms,List.length_set];exact hl1
   conv=>whnf
   repeat'((first|apply st|(apply sq;intro K U)|(apply si;intro A B Y Z)|(apply Y;clear Z B Y A)|(apply U;clear U K)|refine⟨rfl,?_⟩|refine lo ?_|refine ja fun σ hs=>?_|refine oi ?_|refine Oc ?_|(refine Dl (fun hc=>?_)<;>(try rw[hc])<;>clear hc)|clear U K)<;>conv=>whnf)
   replace hs:Sat σ [.own (.sl id1 (3+w.parents.length) (3+w.parents.length)) 1 (bL ms),.own (.sl id2 (3+w.parents.length) (3+w.parents.length)) 1 (bL n1)]:=by rw[←hms];exact hs
   rw[show IntKind.i64.wrap (((bL (m1.set (Int.toNat 0) false)).length:Nat) - 1)=((2+w.parents.length:Nat):Int) by rw[A9,List.length_set,hl1,wrap64 (by omega) (by omega)];omega];refine CA w.parents.length (fun k (_:Unit)=>[(15,eI (N5 ((2+w.parents.length:Nat):Int) k))]) (fun k _=>[.own (.sl id1 (3+w.parents.length) (3+w.parents.length)) 1 (bL (B6 w.parents (3+w.parents.length) k ms)),.own (.sl id2 (3+w.parents.length) (3+w.parents.length)) 1 (bL n1)]) (fun k _=>True) () rfl trivial hs ?_;clear hs;rintro k - σ hk - hs;have hd:N5 ((2+w.parents.length:Nat):Int) k=((2+w.parents.length:Nat):Int) - k:=Tm (by omega) (by omega);have hcl:=EZ w.parents (3+w.parents.length) k ms;rcases Nat.lt_or_ge k w.parents.length with hlt|hge
   ·have hpw:w.parents[(IntKind.i64.wrap (N5 ((2+w.parents.length:Nat):Int) k - 3)).toNat]? =some (par w.parents (3+w.parents.length - 1 - k)):=by
     rw[hd,wrap64 (by omega) (by omega),show(((2+w.parents.length:Nat):Int) - k - 3).toNat=(3+w.parents.length - 1 - k) - 3 by omega];exact eT (by omega) (by omega)
    have hwi:0≤IntKind.i64.wrap (N5 ((2+w.parents.length:Nat):Int) k - 3):=by rw[hd,wrap64 (by omega) (by omega)];omega
    have hpl:=hrow _ (B9 hpw);have hpr:=fun q=>hw.ord (3+w.parents.length - 1 - k) q
    generalize hpe:par w.parents (3+w.parents.length - 1 - k)=pr at *;generalize hce:B6 w.parents (3+w.parents.length) k ms=ce at *;have hcs:B6 w.parents (3+w.parents.length) (k+1) ms=if ce.getD (3+w.parents.length - 1 - k) false then pr.foldl (fun b q=>b.set q.toNat true) ce else ce:=by rw[B6,Hp,hce,hpe]
    conv=>whnf
    repeat'((first|apply st|(apply sq;intro K U)|(apply si;intro A B Y Z)|(apply Y;clear Z B Y A)|(apply U;clear U K)|refine⟨rfl,?_⟩|refine HI ?_|refine oi ?_|refine ol fun x hx=>?_|(constructor<;>intro hc<;>(try rw[hc])<;>(replace hc:=bp hc)<;>try(exfalso;omega))|clear U K)<;>conv=>whnf)
    ·rw[show(N5 ((2+w.parents.length:Nat):Int) k).toNat=3+w.parents.length - 1 - k by rw[hd];omega]at hx
     rw[DZ,hx,hc]at hcs;simp only[Option.getD_some,if_true]at hcs;refine CA pr.length (fun j (_:Unit)=>[(135,eI (BG j))]) (fun j _=>[.own (.sl id1 (3+w.parents.length) (3+w.parents.length)) 1 (bL ((pr.take j).foldl (fun b q=>b.set q.toNat true) ce)),.own (.sl id2 (3+w.parents.length) (3+w.parents.length)) 1 (bL n1)]) (fun _ _=>True) () rfl trivial hs ?_;clear hs hx;rintro j - σ hj - hs;have hfl:=HA (pr.take j) ce;rcases BI pr hj with⟨q,hq,hjlt⟩|hje
     ·have hqr:=hpr q (B9 hq)
      conv=>whnf
      repeat'((first|apply st|(apply sq;intro K U)|(apply si;intro A B Y Z)|(apply Y;clear Z B Y A)|(apply U;clear U K)|refine⟨rfl,?_⟩|refine ix ?_|refine ja fun σ hs=>?_|refine oi ?_|(refine CU (fun hc=>?_)<;>(try rw[hc])<;>clear hc)|clear U K)<;>conv=>whnf)
      exact⟨hjlt,(),rfl,trivial,by rw[AO hq,List.foldl_append];exact hs⟩
     ·conv=>whnf
      repeat'((first|apply st|(apply sq;intro K U)|(apply si;intro A B Y Z)|(apply Y;clear Z B Y A)|(apply U;clear U K)|refine⟨rfl,?_⟩|(refine Dl (fun hc=>?_)<;>(try rw[hc])<;>clear hc)|clear U K)<;>conv=>whnf)
      rw[Ap hje]at hs;exact⟨hlt,(),rfl,trivial,by rw[hcs];exact hs⟩
    ·rw[show(N5 ((2+w.parents.length:Nat):Int) k).toNat=3+w.parents.length - 1 - k by rw[hd];omega]at hx
     rw[DZ,hx,hc]at hcs;simp only[Option.getD_some,MO,if_false]at hcs;exact⟨hlt,(),rfl,trivial,by rw[hcs];exact hs⟩
   ·have hke2:k=w.parents.length:=by omega
    rw[hke2]at hs hcl;generalize hme:B6 w.parents (3+w.parents.length) w.parents.length ms=me at *
    conv=>whnf
    repeat'((first|apply st|(apply sq;intro K U)|(apply si;intro A B Y Z)|(apply Y;clear Z B Y A)|(apply U;clear U K)|refine⟨rfl,?_⟩|refine lo ?_|(constructor<;>intro hc<;>(try rw[hc])<;>(replace hc:=bp hc)<;>try(exfalso;omega))|clear U K)<;>conv=>whnf)
    refine CA me.length (fun j (_:Unit)=>[(145,eI (BG j))]) (fun _ _=>[.own (.sl id1 (3+w.parents.length) (3+w.parents.length)) 1 (bL me),.own (.sl id2 (3+w.parents.length) (3+w.parents.length)) 1 (bL n1)]) (fun j _=>KF w ls a p can=if((List.range (3+w.parents.length)).drop j).any (fun c=>me.getD c false&&n1.getD c false)then none else some me) () rfl hen hs ?_;clear hs hen;rintro j - σ hj hn hs;rcases BI me hj with⟨x,hx,hjlt⟩|hje
    ·obtain⟨y,hy⟩: ∃y,n1[j]? =some y:=⟨_,C7 (by omega)⟩
     have hrg:(List.range (3+w.parents.length))[j]? =some j:=by rw[List.getElem?_range (by omega)]
     rw[drop_cons hrg,Qb,DZ,DZ,hx,hy]at hn;cases x<;>cases y<;>simp only[Option.getD_some,Bool.and_true,Bool.and_false,Bool.false_or,Bool.true_or,if_true]at hn
     ·conv=>whnf
      repeat'((first|apply st|(apply sq;intro K U)|(apply si;intro A B Y Z)|(apply Y;clear Z B Y A)|(apply U;clear U K)|refine⟨rfl,?_⟩|refine oc ?_|refine Oc ?_|(refine CU (fun hc=>?_)<;>(try rw[hc])<;>clear hc)|clear U K)<;>conv=>whnf)
      exact⟨hjlt,(),rfl,hn,hs⟩
     ·conv=>whnf
      repeat'((first|apply st|(apply sq;intro K U)|(apply si;intro A B Y Z)|(apply Y;clear Z B Y A)|(apply U;clear U K)|refine⟨rfl,?_⟩|refine oc ?_|refine Oc ?_|(refine CU (fun hc=>?_)<;>(try rw[hc])<;>clear hc)|clear U K)<;>conv=>whnf)
      exact⟨hjlt,(),rfl,hn,hs⟩
     ·conv=>whnf
      repeat'((first|apply st|(apply sq;intro K U)|(apply si;intro A B Y Z)|(apply Y;clear Z B Y A)|(apply U;clear U K)|refine⟨rfl,?_⟩|refine oc ?_|refine Oc ?_|refine FP ?_|(refine CU (fun hc=>?_)<;>(try rw[hc])<;>clear hc)|clear U K)<;>conv=>whnf)
      exact⟨hjlt,(),rfl,hn,hs⟩
     ·conv=>whnf
      repeat'((first|apply st|(apply sq;intro K U)|(apply si;intro A B Y Z)|(apply Y;clear Z B Y A)|(apply U;clear U K)|refine⟨rfl,?_⟩|refine oc ?_|refine Oc ?_|refine HK ?_|(refine CU (fun hc=>?_)<;>(try rw[hc])<;>clear hc)|clear U K)<;>conv=>whnf)
      exact AI (by rw[hn];rfl)
    ·rw[List.drop_of_length_le (by rw[List.length_range];omega)]at hn
     simp only[List.any_nil,MO,if_false]at hn
     conv=>whnf
     repeat'((first|apply st|(apply sq;intro K U)|(apply si;intro A B Y Z)|(apply Y;clear Z B Y A)|(apply U;clear U K)|refine⟨rfl,?_⟩|(refine Dl (fun hc=>?_)<;>(try rw[hc])<;>clear hc)|clear U K)<;>conv=>whnf)
     rw[hn];exact Al (.t (.cons (hs.GX 0 rfl) (.cons (.refl _) .nil)))
  ·conv=>whnf
   repeat'((first|apply st|(apply sq;intro K U)|(apply si;intro A B Y Z)|(apply Y;clear Z B Y A)|(apply U;clear U K)|refine⟨rfl,?_⟩|refine ja fun σ hs=>?_|refine oi ?_|refine Oc ?_|(refine Dl (fun hc=>?_)<;>(try rw[hc])<;>clear hc)|clear U K)<;>conv=>whnf)
   exact AI (by rw[hen];rfl)
def LD (w:AL) (ls:List Fact) (a:Int):Nat→List Int→Bool
 | 0,p=>((Ir ls a p).isSome&&FE w.owner.length ls a p)||(HT w.owner.length ls a p||(KF w ls a p fun _=>false).isSome)
 | d+1,p=>((Ir ls a p).isSome&&FE w.owner.length ls a p)||(HT w.owner.length ls a p||(KF w ls a p fun s=>LD w ls a d (p++[s])).isSome)
def Sy (ls:List Fact) (n:Nat):Prop:= ∀l∈ls,(Az l).1.path.length≤n
def M0 {n m:Nat} {ls:List Fact} {a:Int} {p:List Int} (h:Sy ls m) (hp:m≤p.length):Bn n ls a p= []:=by
 rw[Bn,List.filter_eq_nil_iff];intro s _ hs;rw[Jy]at hs;obtain⟨l,hl,hg⟩:=hs;have:=h l hl;simp only[YM,Bw,BJ,Cn,Qv,List.length_singleton]at hg;omega
def ZN {n:Nat} {ls:List Fact} {a:Int} {p:List Int}:aI n ls a p= .t [eI ((Ir ls a p).getD 0),.b ((Ir ls a p).isSome&&FE n ls a p)]:=by
 unfold aI;cases Ir ls a p<;>rfl
def Y9 (o:Option (List Bool)):vd o= .t [.l (bL (o.getD [])) o.isNone,.b o.isSome]:=by
 cases o<;>rfl
def uY (w:AL) (ls:List Fact) (a:Int) (hokL: ∀l∈ls,GA l) (hln:ls.length≤1000000) (hw:UA w) (hcl:Ut w ls) (hsm:KN ls) (hsh:Sy ls 2): ∀(d:Nat) (p:List Int),p.length+d=2→Pure Tryz.prog 351 [.a (Gd w ls a p false)] (.b (LD w ls a d p)):=by
 intro d
 induction d with
 | zero=>
   intro p hp;have hI:=QC w ls a p false hokL hln (by omega) hsm;rw[ZN]at hI;have hN:=ZD w ls a p false hokL hln (by omega);have hO:=Rr w ls a p false (fun _=>false) hokL hln (by omega) hw hcl (by rw[M0 hsh (by omega)];intro s hs;cases hs);rw[Y9]at hO;refine fN kZ ?_;have hs:=Sn;rw[LD];cases Y:(Ir ls a p).isSome&&FE w.owner.length ls a p<;>cases Z:HT w.owner.length ls a p<;>rw[Y]at hI<;>rw[Z]at hN
   all_goals
    conv=>whnf
    repeat'((first|apply st|(apply sq;intro K U)|(apply si;intro A B Y Z)|(apply Y;clear Z B Y A)|(apply U;clear U K)|refine⟨kZ,?_⟩|refine HK ?_|refine FP ?_|refine hI.use ?_|refine hN.use ?_|refine hO.use ?_|clear U K)<;>conv=>whnf)
   all_goals exact AI (by simp)
 | succ d ih=>
   intro p hp;have hI:=QC w ls a p false hokL hln (by omega) hsm;rw[ZN]at hI;have hN:=ZD w ls a p false hokL hln (by omega);have hO:=Rr w ls a p false (fun s=>LD w ls a d (p++[s])) hokL hln (by omega) hw hcl (fun s hs=>ih (p++[s]) (by simp;omega));rw[Y9]at hO;refine fN kZ ?_;have hs:=Sn;rw[LD];cases Y:(Ir ls a p).isSome&&FE w.owner.length ls a p<;>cases Z:HT w.owner.length ls a p<;>rw[Y]at hI<;>rw[Z]at hN
   all_goals
    conv=>whnf
    repeat'((first|apply st|(apply sq;intro K U)|(apply si;intro A B Y Z)|(apply Y;clear Z B Y A)|(apply U;clear U K)|refine⟨kZ,?_⟩|refine HK ?_|refine FP ?_|refine hI.use ?_|refine hN.use ?_|refine hO.use ?_|clear U K)<;>conv=>whnf)
   all_goals exact AI (by simp)
def Gu (w:AL) (ls:List Fact):Bool:=(Ci 3).all fun a=>LD w ls a 2 []
def V2 (w:AL) (ls:List Fact) (hokL: ∀l∈ls,GA l) (hln:ls.length≤1000000) (hw:UA w) (hcl:Ut w ls) (hsm:KN ls) (hsh:Sy ls 2):Pure Tryz.prog 321 [.a (A7 w),.l (facts ls) false] (.b (Gu w ls)):=by
 have hM:=Mx;refine sA kZ ?_;have hs:=Sn
 conv=>whnf
 repeat'((first|apply st|(apply sq;intro K U)|(apply si;intro A B Y Z)|(apply Y;clear Z B Y A)|(apply U;clear U K)|fail)<;>conv=>whnf)
 refine CA 3 (fun k (_:Unit)=>[(5,eI (BG k))]) (fun _ _=>[]) (fun k _=>Gu w ls=((Ci 3).drop k).all fun a=>LD w ls a 2 []) () rfl rfl hs ?_;clear hs;rintro k - σ hk hn hs;have hck:BG k=k:=AK (by omega);rcases Nat.lt_or_ge k 3 with hlt|hge
 ·have hrk:(Ci 3)[k]? =some (BG k):=by
   rw[hck];rcases k with _|_|_|k
   ·rfl
   ·rfl
   ·rfl
   ·omega
  rw[drop_cons hrk,NS]at hn
  conv=>whnf
  repeat'((first|apply st|(apply sq;intro K U)|(apply si;intro A B Y Z)|(apply Y;clear Z B Y A)|(apply U;clear U K)|refine⟨rfl,?_⟩|refine⟨kZ,?_⟩|refine ld ?_|refine sn fun σ hs=>?_|refine Pure.aH (uY w ls (BG k) hokL hln hw hcl hsm hsh 2 [] rfl) (.cons (.a (.cons (.refl _) (.cons (.refl _) (.cons (.refl _) (.cons (.refl _) (.cons Cy (.cons (.refl _) .nil))))))) .nil) rfl ?_|(constructor<;>intro hc<;>(try rw[hc])<;>(replace hc:=bp hc)<;>(try simp(disch:=omega) only[A9,wrap64,AK]at hc)<;>try(exfalso;omega))|(intro nn hnn;generalize hg:A0 _ nn _=σ;refine al hg fun hs=>?_;clear hg)|clear U K)<;>conv=>whnf)
  ·exact AI (by rw[hn,hck,hc];rfl)
  ·exact⟨hlt,(),rfl,by rw[hn,hck,hc];rfl,hs.take 0⟩
 ·rw[List.drop_of_length_le (by rw[GJ];omega)]at hn
  conv=>whnf
  repeat'((first|apply st|(apply sq;intro K U)|(apply si;intro A B Y Z)|(apply Y;clear Z B Y A)|(apply U;clear U K)|refine⟨rfl,?_⟩|(constructor<;>intro hc<;>(try rw[hc])<;>(replace hc:=bp hc)<;>(try simp(disch:=omega) only[A9,wrap64,AK]at hc)<;>try(exfalso;omega))|clear U K)<;>conv=>whnf)
  exact AI (by rw[hn];rfl)
def Tg {b:Nat} {σ:AH} {l:List At} (h:Sat σ l) (i j:Nat) {v u:V} {sz:Nat} {es ys:List (List V)} {K:V→AH→Prop} (hi:l[i]? =some (.own v sz es)) (hj:l[j]? =some (.own u sz ys)) (hl:es.length+ys.length≤Ad∧(es.length+ys.length)*b≤140737488355328) (hys: ∀e∈ys,e.length=sz) (ho: ∀e∈ys,∀v∈e,CL v=true)
    (hk: ∀v' σ',Sat σ' (l.set i (.own v' sz (es++ys)))→K v' σ'):AM b σ sz v u K:=by
 have Y:AM b σ sz v (.l ys true) K:=hAppend h i hi hl hys ho hk;rcases h.get hj with⟨rfl,hel⟩|⟨n,cap,rfl,hn⟩
 ·exact Y
 ·unfold AM at Y ⊢
  simp only[rowsOf]at Y ⊢;rw[hn];refine⟨rfl,Iu _,?_⟩;rw[List.take_length];exact Y.2
def CW (a:List Fact):List Fact→List Fact
 | []=>a
 | x::r=>CW (if a.any (FW x)then a else a++[x]) r
def QA (a:List Fact): ∀(b:List Fact) (x:Fact),CW a (b++[x])=if(CW a b).any (FW x)then CW a b else CW a b++[x]:=by
 intro b
 induction b generalizing a with
 | nil=>intro x;rfl
 | cons y r ih=>intro x;simp only[List.cons_append,CW];exact ih _ x
def NC (a:List Fact): ∀(b:List Fact),(CW a b).length≤a.length+b.length:=by
 intro b
 induction b generalizing a with
 | nil=>simp[CW]
 | cons y r ih=>
   simp only[CW,K2];refine Nat.le_trans (ih _) ?_;split
   ·omega
   ·simp;omega
def R1 (a:List Fact): ∀(b:List Fact) (x:Fact),x∈CW a b→x∈a∨x∈b:=by
 intro b
 induction b generalizing a with
 | nil=>intro x hx;exact .inl hx
 | cons y r ih=>
   intro x hx;simp only[CW]at hx;rcases ih _ x hx with h|h
   ·split at h
    ·exact .inl h
    ·rcases E7.1 h with h|h
     ·exact .inl h
     ·rw[Kz.1 h];exact .inr (.head _)
   ·exact .inr (.tail _ h)
def bO (a b:List Fact) (f g:Bool) (hl:a.length+b.length<1000000):Pure Tryz.prog 335 [.l (facts a) f,.l (facts b) g] (.l (facts (CW a b)) false):=by
 have hM:=Mx;refine ri kZ ?_;have hs:=Sn
 conv=>whnf
 repeat'((first|(apply sq;intro K U)|(apply si;intro A B Y Z)|(apply Y;clear Z B Y A)|(apply U;clear U K)|fail)<;>conv=>whnf)
 replace hs:=EM hs 6;refine HU hs 0 (xs:=[]) (ys:=a) rfl (by simp;omega) KY fun v σ hs=>?_
 conv=>whnf
 repeat'((first|apply st|(apply sq;intro K U)|(apply si;intro A B Y Z)|(apply Y;clear Z B Y A)|(apply U;clear U K)|fail)<;>conv=>whnf)
 refine CA b.length (fun k v=>[(5,v),(15,eI (BG k))]) (fun k v=>[.own v 6 (facts (CW a (b.take k)))]) (fun _ _=>True) v rfl trivial hs ?_;clear hs;rintro k v σ hk - hs;have hml:=NC a (b.take k);rw[K1]at hml;rcases BI b hk with⟨x,hx,hlt⟩|hke
 ·have hsn:=QA a (b.take k) x
  rw[←AO hx]at hsn;generalize CW a (b.take k)=m at *
  conv=>whnf
  repeat'((first|apply st|(apply sq;intro K U)|(apply si;intro A B Y Z)|(apply Y;clear Z B Y A)|(apply U;clear U K)|refine⟨rfl,?_⟩|refine⟨kZ,?_⟩|refine Qx ?_|refine lo ?_|refine sn fun σ hs=>?_|(refine CU (fun hc=>?_)<;>(try rw[hc])<;>clear hc)|(intro nn hnn;generalize hg:A0 _ nn _=σ;refine al hg fun hs=>?_;clear hg)|fail)<;>conv=>whnf)
  refine CA m.length (fun j t=>[(8,.b t),(21,eI (BG j))]) (fun j t=>[.own v 6 (facts m),.obj nn (.cs (xF x))]) (fun j t=>t=(m.take j).any (FW x)) false rfl (by simp) hs ?_;clear hs;rintro j t σ hj ht hs;rcases BI m hj with⟨y,hy,hjlt⟩|hje
  ·cases t
   ·conv=>whnf
    repeat'((first|apply st|(apply sq;intro K U)|(apply si;intro A B Y Z)|(apply Y;clear Z B Y A)|(apply U;clear U K)|refine⟨rfl,?_⟩|refine⟨kZ,?_⟩|refine ld ?_|refine sn fun σ hs=>?_|refine oc ?_|refine vZ ?_|(refine CU (fun hc=>?_)<;>(try rw[hc])<;>clear hc)|refine Pure.use (Ys _ _) ?_|(intro nn hnn;generalize hg:A0 _ nn _=σ;refine al hg fun hs=>?_;clear hg)|clear U K)<;>conv=>whnf)
    exact⟨hjlt,_,rfl,by rw[AO hy,List.any_append,←ht];simp,hs.take 2⟩
   ·conv=>whnf
    repeat'((first|apply st|(apply sq;intro K U)|(apply si;intro A B Y Z)|(apply Y;clear Z B Y A)|(apply U;clear U K)|refine⟨rfl,?_⟩|refine⟨kZ,?_⟩|refine sn fun σ hs=>?_|refine oc ?_|refine vZ ?_|(refine CU (fun hc=>?_)<;>(try rw[hc])<;>clear hc)|(intro nn hnn;generalize hg:A0 _ nn _=σ;refine al hg fun hs=>?_;clear hg)|clear U K)<;>conv=>whnf)
    exact⟨hjlt,true,rfl,by rw[AO hy,List.any_append,←ht];simp,hs.take 2⟩
  ·rw[Ap hje]at ht
   subst ht
   conv=>whnf
   repeat'((first|apply st|(apply sq;intro K U)|(apply si;intro A B Y Z)|(apply Y;clear Z B Y A)|(apply U;clear U K)|refine⟨rfl,?_⟩|refine⟨kZ,?_⟩|refine ld ?_|refine oa fun v σ hs hsl=>?_|(refine Dl (fun hc=>?_)<;>(try rw[hc])<;>clear hc)|(constructor<;>intro hc<;>(try rw[hc])<;>(replace hc:=bp hc))|clear U K)<;>conv=>whnf)
   ·rw[hc]at hsn
    exact⟨hlt,_,rfl,trivial,by rw[hsn];exact hs.take 1⟩
   ·rw[hc]at hsn
    exact⟨hlt,_,rfl,trivial,by rw[hsn];exact hs.take 1⟩
 ·conv=>whnf
  repeat'((first|apply st|(apply sq;intro K U)|(apply si;intro A B Y Z)|(apply Y;clear Z B Y A)|(apply U;clear U K)|refine⟨rfl,?_⟩|(refine Dl (fun hc=>?_)<;>(try rw[hc])<;>clear hc)|clear U K)<;>conv=>whnf)
  exact EK hs 0 rfl (by rw[Ap hke])
abbrev jg (ls:List (List Fact)):List (List V):=ls.map fun l=>[.l (facts l) false]
def Dn (A B:List (List Fact)):List (List Fact):=A.flatMap fun x=>B.map fun y=>CW x y
def FJ (f:Fact) (l:List (Bool→List (List Fact))) (c:Bool):List (List Fact):=
 if f.op=1 then(if c then []else [[]])else
 if f.op=5 then(l.getD 0 (fun _=>[])) (!c)else
 if f.op=6∨f.op=7 then(if c != (f.op==7)then l.getD 0 (fun _=>[]) c++l.getD 1 (fun _=>[]) c else Dn (l.getD 0 (fun _=>[]) c) (l.getD 1 (fun _=>[]) c))else
 if c then [[Eo f]]else [[f]]
def BN (f:Fact):Bool→List (List Fact):=f.Ht FJ
def F3 (f:Fact) (c:Bool):BN f c=FJ f (f.kids.map BN) c:=congrFun (Fact.D4 FJ f) c
def dC (f:Fact) (l:List Nat):Nat:=if f.op=5 then l.getD 0 0 else if f.op=6∨f.op=7 then l.getD 0 0+l.getD 1 0 else 1
def lv (f:Fact):Nat:=f.Ht dC
def Na (f:Fact):lv f=dC f (f.kids.map lv):=Fact.D4 dC f
def arity (f:Fact):Bool:=f.Ht fun f l=>f.kids.length==CK f.op&&l.all id
def JN (f:Fact):arity f=(f.kids.length==CK f.op&&f.kids.all arity):=by
 rw[arity,Fact.D4,List.all_map];rfl
def Cm {w:AL} (f:Fact):Bo w f=true→arity f=true:=by
 induction f using Fact.ind with
 | h f ih=>
   intro h;rw[Cz]at h;simp only[DI,BJ,Em]at h;rw[JN,BJ,Em];exact⟨h.1.2.1,fun k hk=>ih k hk (h.2 k hk)⟩
def H9 {f:Fact} (h:arity f=true) (h5:f.op=5): ∃a,f.kids= [a]∧arity a=true:=by
 rw[JN,BJ,Em,h5]at h;have hl:f.kids.length=1:=by simpa[CK]using h.1
 obtain⟨a,ha⟩:=List.length_eq_one_iff.1 hl;exact⟨a,ha,h.2 a (by rw[ha];exact .head _)⟩
def H8 {f:Fact} (h:arity f=true) (h6:f.op=6∨f.op=7): ∃a b,f.kids= [a,b]∧arity a=true∧arity b=true:=by
 rw[JN,BJ,Em]at h
 have hl:f.kids.length=2:=by
  have h5:f.op≠5:=by omega
  simpa[CK,h5,h6]using h.1
 match hk:f.kids,hl with
 | [a,b],_=>exact⟨a,b,rfl,h.2 a (by rw[hk];exact .head _),h.2 b (by rw[hk];exact .tail _ (.head _))⟩
def eo (f:Fact):arity f=true→1≤lv f:=by
 induction f using Fact.ind with
 | h f ih=>
   intro h;rw[Na,dC];split
   ·rename_i h5
    obtain⟨a,ha,hb⟩:=H9 h h5;rw[ha];exact ih a (by rw[ha];exact .head _) hb
   ·split
    ·rename_i h6
     obtain⟨a,b,ha,hb,_⟩:=H8 h h6;rw[ha];have:=ih a (by rw[ha];exact .head _) hb;simp only[E3,List.getD_cons_zero];omega
    ·omega
def ku {a b:Nat} (ha:1≤a) (hb:1≤b):2 ^ a+2 ^ b≤2 ^ (a+b):=by
 rw[Nat.pow_add];have h1:2≤2 ^ a:=by simpa using Nat.pow_le_pow_right (show 0<2 by omega) ha
 have h2:2≤2 ^ b:=by simpa using Nat.pow_le_pow_right (show 0<2 by omega) hb
 generalize 2 ^ a=x at *;generalize 2 ^ b=y at *;have:=Nat.mul_le_mul_left (x - 1) (show 1≤y - 1 by omega);obtain⟨x,rfl⟩: ∃u,x=u+1:=⟨x - 1,by omega⟩
 obtain⟨y,rfl⟩: ∃u,y=u+1:=⟨y - 1,by omega⟩
 simp only[Nat.add_sub_cancel,Nat.mul_one]at this;rw[Nat.add_mul,Nat.mul_add];omega
def Ro (A B:List (List Fact)):(Dn A B).length=A.length*B.length:=by
 induction A with
 | nil=>simp[Dn]
 | cons x r ih=>
   simp only[Dn,List.flatMap_cons,Qv,A9,K2]at *;rw[ih,Nat.add_mul];omega
def Ea (f : Fact):arity f=true→ ∀c,(BN f c).length≤2 ^ lv f∧ ∀l∈BN f c,l.length≤lv f:=by
 induction f using Fact.ind with
 | h f ih=>
   intro h c;rw[F3,Na,FJ,dC];by_cases h1:f.op=1
   ·have e5: ¬f.op=5:=by omega
    have e6: ¬(f.op=6∨f.op=7):=by omega
    rw[if_pos h1,if_neg e5,if_neg e6];cases c
    ·rw[if_neg (by decide)]
     exact⟨by simp,fun l hl=>by simp at hl;subst hl;simp⟩
    ·rw[if_pos rfl]
     exact⟨by simp,fun l hl=>by cases hl⟩
   rw[if_neg h1];by_cases h5:f.op=5
   ·obtain⟨a,ha,hb⟩:=H9 h h5
    rw[if_pos h5,if_pos h5,ha];exact ih a (by rw[ha];exact .head _) hb (!c)
   rw[if_neg h5,if_neg h5];by_cases h6:f.op=6∨f.op=7
   ·obtain⟨a,b,ha,hb1,hb2⟩:=H8 h h6
    rw[if_pos h6,if_pos h6,ha];simp only[E3,List.map_nil,List.getD_cons_zero,List.getD_cons_succ];obtain⟨i1,i2⟩:=ih a (by rw[ha];exact .head _) hb1 c;obtain⟨j1,j2⟩:=ih b (by rw[ha];exact .tail _ (.head _)) hb2 c;have p1:=eo a hb1;have p2:=eo b hb2;split
    ·refine⟨?_,fun l hl=>?_⟩
     ·rw[Qv]
      have:=ku p1 p2;omega
     ·rcases E7.1 hl with hl|hl
      ·have:=i2 l hl;omega
      ·have:=j2 l hl;omega
    ·refine⟨?_,fun l hl=>?_⟩
     ·rw[Ro,Nat.pow_add]
      exact Nat.mul_le_mul i1 j1
     ·simp only[Dn,List.mem_flatMap,MN]at hl
      obtain⟨x,hx,y,hy,rfl⟩:=hl;have:=NC x y;have:=i2 x hx;have:=j2 y hy;omega
   ·rw[if_neg h6,if_neg h6]
    cases c
    ·exact⟨by simp,fun l hl=>by simp at hl;subst hl;simp⟩
    ·exact⟨by simp,fun l hl=>by simp at hl;subst hl;simp⟩
def qS (f:Fact):arity f=true→2*lv f≤MQ f+1:=by
 induction f using Fact.ind with
 | h f ih=>
   intro h;rw[Na,dC,KZ];by_cases h5:f.op=5
   ·obtain⟨a,ha,hb⟩:=H9 h h5
    rw[if_pos h5,ha];have:=ih a (by rw[ha];exact .head _) hb;simp only[E3,List.map_nil,List.getD_cons_zero,List.sum_cons,List.sum_nil];omega
   rw[if_neg h5];by_cases h6:f.op=6∨f.op=7
   ·obtain⟨a,b,ha,hb1,hb2⟩:=H8 h h6
    rw[if_pos h6,ha];have:=ih a (by rw[ha];exact .head _) hb1;have:=ih b (by rw[ha];exact .tail _ (.head _)) hb2;simp only[E3,List.map_nil,List.getD_cons_zero,List.getD_cons_succ,List.sum_cons,List.sum_nil];omega
   ·rw[if_neg h6]
    omega
def OV {σ:AH} {es es':List (List V)} (hs:Sat σ []) (h:E6 σ σ es es') (he: ∀e∈es',e.length=1):Aw σ (.l es true) fun r σ'=> ∃post,(∃v,r= .ret v∧post= [.own v 1 es'])∧Sat σ' post:=
 Gp (fun _ _ h=>h) (.l (fun _=>rfl) h) ⟨_,⟨_,rfl,rfl⟩,jv hs he⟩
set_option maxHeartbeats 4000000 in
def uf (f : Fact):arity f=true→lv f≤28→ ∀c,Bj Tryz.prog 300 [.a (xF f),.b c] [] fun r post=> ∃v,r= .ret v∧post= [.own v 1 (jg (BN f c))]:=by
 induction f using Fact.ind with
 | h f ih =>
   intro h hlv c σ hs;refine BC.fit (by kernel_rfl) fun hf=>?_
   have⟨h2,h3,h4⟩:=J6 hf.1;have hM:=Mx;refine sR kZ ?_;rw[F3];rw[Na]at hlv;by_cases h5:f.op=5
   ·obtain⟨a,ha,hb⟩:=H9 h h5
    have ha0:f.kids[Int.toNat 0]? =some a:=by rw[ha];rfl
    have hrec:=ih a (by rw[ha];exact .head _) hb (by simpa[dC,h5,ha]using hlv) (!c)
    conv=>whnf
    repeat'((first|apply st|(apply sq;intro K U)|(apply si;intro A B Y Z)|(apply Y;clear Z B Y A)|(apply U;clear U K)|refine⟨rfl,?_⟩|refine⟨kZ,?_⟩|refine Qx ?_|(constructor<;>intro hc<;>(try rw[hc])<;>(replace hc:=bp hc)<;>try(exfalso;omega))|fail)<;>conv=>whnf)
    all_goals try(exfalso;omega)
    refine hrec.use (rest:=[]) hs ?_;clear hs;rintro r post σ ⟨v,rfl,rfl⟩ hs
    conv=>whnf
    repeat'((first|apply st|(apply Y;clear Z B Y A)|(apply U;clear U K)|clear U K)<;>conv=>whnf)
    refine Av hs (List.Sublist.refl _) (.refl _) fun σ' hs'=>⟨_,⟨_,rfl,?_⟩,hs'⟩
    simp only[FJ,h5,ha];rfl
   by_cases h6:f.op=6∨f.op=7
   ·obtain ⟨a,b,ha,hb1,hb2⟩:=H8 h h6
    have ha0:f.kids[Int.toNat 0]? =some a:=by rw[ha];rfl
    have ha1:f.kids[Int.toNat 1]? =some b:=by rw[ha];rfl
    have hlv2:lv a+lv b≤28:=by simpa[dC,h5,h6,ha]using hlv
    have hrec:=ih a (by rw[ha];exact .head _) hb1 (by omega) c;have hrec2:=ih b (by rw[ha];exact .tail _ (.head _)) hb2 (by omega) c
    have hcg:FJ f (f.kids.map BN) c=if c != (f.op==7)then BN a c++BN b c else Dn (BN a c) (BN b c):=by
     have h1: ¬f.op=1:=by omega
     simp only[FJ,if_neg h1,if_neg h5,if_pos h6,ha];rfl
    rw[hcg];obtain⟨i1,i2⟩:=Ea a hb1 c;obtain⟨j1,j2⟩:=Ea b hb2 c
    have hpw:2 ^ lv a*2 ^ lv b≤268435456:=by
     rw[←Nat.pow_add];exact Nat.pow_le_pow_right (by omega) (show lv a+lv b≤28 from hlv2)
    have hAB:=Nat.le_trans (Nat.mul_le_mul i1 j1) hpw;have q1:1≤2 ^ lv a:=Nat.one_le_two_pow;have q2:1≤2 ^ lv b:=Nat.one_le_two_pow;have q3:2 ^ lv a≤268435456:=Nat.le_trans (Nat.le_mul_of_pos_right _ q2) hpw;have q4:2 ^ lv b≤268435456:=Nat.le_trans (Nat.le_mul_of_pos_left _ q1) hpw;generalize BN a c=LA at *;generalize BN b c=LB at *;have hgB:=DG LW LB;clear hcg;generalize hres:(if c != (f.op==7)then LA++LB else Dn LA LB)=RES;clear ih
    conv=>whnf
    repeat'((first|apply st|(apply sq;intro K U)|(apply si;intro A B Y Z)|(apply Y;clear Z B Y A)|(apply U;clear U K)|apply dr|refine⟨rfl,?_⟩|refine⟨kZ,?_⟩|refine Qx ?_|refine MY ?_|(constructor<;>intro hc<;>(try rw[hc])<;>(replace hc:=bp hc)<;>try(exfalso;omega))|fail)<;>conv=>whnf)
    all_goals try(exfalso;omega)
    all_goals
     refine hrec.use (rest:=[]) hs ?_;clear hs;rintro r post σ ⟨v1,rfl,rfl⟩ hs
     conv=>whnf
     repeat'((first|apply st|apply dr|refine rk ?_ ?_|exact fun s e=>by cases e;rfl|refine⟨kZ,?_⟩|fail)<;>conv=>whnf)
     refine hrec2.use (pre:=[]) (rest:=[_]) hs ?_;clear hs;rintro r post σ ⟨v2,rfl,rfl⟩ hs
     conv=>whnf
     repeat'((first|apply st|(apply sq;intro K U)|(apply si;intro A B Y Z)|(apply Y;clear Z B Y A)|(apply U;clear U K)|apply dr|refine⟨rfl,?_⟩|refine lo ?_|(constructor<;>intro hc<;>(try rw[hc])<;>(replace hc:=bp hc))|fail)<;>conv=>whnf)
    all_goals have hct:=hc
    all_goals clear hc
    all_goals first
     | (refine Tg hs 1 0 rfl rfl (by simp only[A9];omega) hgB.1 hgB.2 fun v σ hs=>?_
        conv=>whnf
        repeat'((first|apply st|(apply Y;clear Z B Y A)|(apply U;clear U K)|clear U K)<;>conv=>whnf)
        rw[hct,if_pos rfl]at hres;refine Av (hs.less (Jz _ _)) (List.Sublist.refl _) (.refl _) fun σ' hs'=>⟨_,⟨_,rfl,?_⟩,hs'⟩
        rw[←hres];simp only[jg,Sd]
        rfl)
     | (refine CA LA.length (fun k v=>[(7,v),(52,eI (BG k))]) (fun k v=>[.own v2 1 (jg LB),.own v1 1 (jg LA),.own v 1 (jg (Dn (LA.take k) LB))]) (fun _ _=>True) (.l [] true) rfl trivial (EM hs 1) ?_
        clear hs;rintro k v σ hk - hs;rcases BI LA hk with⟨x,hx,hlt⟩|hke
        ·have hxl:=i2 x (B9 hx)
         have hpk:Dn (LA.take (k+1)) LB=Dn (LA.take k) LB++LB.map fun y=>CW x y:=by
          rw[AO hx];simp[Dn]
         have hpl:(Dn (LA.take k) LB).length+LB.length≤LA.length*LB.length:=by
          rw[Ro,K1,Nat.min_eq_left hk];have:=T7 LB.length (show k+1≤LA.length from hlt);rw[Nat.add_mul]at this;omega
         generalize Dn (LA.take k) LB=pk0 at *
         conv=>whnf
         repeat'((first|apply st|(apply sq;intro K U)|(apply si;intro A B Y Z)|(apply Y;clear Z B Y A)|(apply U;clear U K)|refine⟨rfl,?_⟩|refine lo ?_|refine oc ?_|refine Oc ?_|(refine CU (fun hc=>?_)<;>(try rw[hc])<;>clear hc)|fail)<;>conv=>whnf)
         refine CA LB.length (fun j v=>[(7,v),(58,eI (BG j))]) (fun j v=>[.own v2 1 (jg LB),.own v1 1 (jg LA),.own v 1 (jg (pk0++(LB.take j).map fun y=>CW x y))]) (fun _ _=>True) v rfl trivial (by simpa using hs) ?_;clear hs;rintro j v σ hj - hs;rcases BI LB hj with⟨y,hy,hjlt⟩|hje
         ·have hyl:=j2 y (B9 hy)
          conv=>whnf
          repeat'((first|apply st|(apply sq;intro K U)|(apply si;intro A B Y Z)|(apply Y;clear Z B Y A)|(apply U;clear U K)|refine⟨rfl,?_⟩|refine oc ?_|refine Oc ?_|refine aq fun v σ hs hsl=>?_|(refine CU (fun hc=>?_)<;>(try rw[hc])<;>clear hc)|refine Pure.use (bO _ _ _ _ (by omega)) ?_|clear U K)<;>conv=>whnf)
          refine⟨hjlt,_,rfl,trivial,?_⟩;rw[AO hy,Sd,←Wd];exact hs
         ·conv=>whnf
          repeat'((first|apply st|(apply sq;intro K U)|(apply si;intro A B Y Z)|(apply Y;clear Z B Y A)|(apply U;clear U K)|refine⟨rfl,?_⟩|(refine Dl (fun hc=>?_)<;>(try rw[hc])<;>clear hc)|clear U K)<;>conv=>whnf)
          rw[Ap hje]at hs;exact⟨hlt,_,rfl,trivial,by rw[hpk];exact hs⟩
        ·conv=>whnf
         repeat'((first|apply st|(apply sq;intro K U)|(apply si;intro A B Y Z)|(apply Y;clear Z B Y A)|(apply U;clear U K)|refine⟨rfl,?_⟩|(refine Dl (fun hc=>?_)<;>(try rw[hc])<;>clear hc)|clear U K)<;>conv=>whnf)
         rw[Ap hke]at hs;rw[hct,if_neg (by decide)]at hres;rw[←hres]
         refine Av (hs.less ((Jz _ _).trans (Jz _ _))) (List.Sublist.refl _) (.refl _) fun σ' hs'=>⟨_,⟨_,rfl,rfl⟩,hs'⟩)
   ·have e1:FJ f (f.kids.map BN) c=if f.op=1 then(if c then []else [[]])else if c then [[Eo f]]else [[f]]:=by
     simp only[FJ,if_neg h5,if_neg h6]
    rw[e1];clear e1
    conv=>whnf
    repeat'((first|apply st|(apply sq;intro K U)|(apply si;intro A B Y Z)|(apply Y;clear Z B Y A)|(apply U;clear U K)|refine⟨rfl,?_⟩|refine⟨kZ,?_⟩|refine Pure.use (W7 _) ?_|(constructor<;>intro hc<;>(try rw[hc])<;>(replace hc:=bp hc)<;>try(exfalso;omega))|clear U K)<;>conv=>whnf)
    all_goals try(exfalso;omega)
    ·subst hc
     rw[if_pos (by assumption),if_pos rfl];exact OV hs .nil (fun e h=>by cases h)
    ·subst hc
     rw[if_pos (by assumption),if_neg (by decide)];refine OV hs (.cons (.cons Cy .nil) .nil) ?_;intro e he;simp at he;subst he;rfl
    ·subst hc
     rw[if_neg (by assumption),if_pos rfl];refine OV hs (.cons (.cons (.l (fun h=>by cases h) ?_) .nil) .nil) ?_
     ·simp only[facts,List.map,BL]
      exact CY _
     ·intro e he
      simp at he;subst he;rfl
    ·subst hc
     rw[if_neg (by assumption),if_neg (by decide)];refine OV hs (.cons (.cons (.l (fun h=>by cases h) ?_) .nil) .nil) ?_
     ·simp only[facts,List.map,BL]
      exact CY _
     ·intro e he
      simp at he;subst he;rfl
end Go.Gl
