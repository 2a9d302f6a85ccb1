import Derived.Shelf.Sort.Plain
import Derived.Test.YtegbmnmnaijioaaGreatProg
import Derived.Test.YtegbmnmnaijioaaGreatY4
set_option linter.all false
set_option linter.defProp false
set_option maxHeartbeats 8000000
noncomputable section
namespace Go.Gl
open Go.Proofs
attribute [local irreducible] Au Am Ae AR AK AY AQ AS AJ AX AM AO Ao A0 Sat AU Ay Af W
def Rq {w:AF} (f:Fact):Bb w f=true->S6 f=true:=by
 induction f using Fact.ind with
 | h f ih=>
   intro h;rw[CO]at h;simp only[DE,A9,EG,Cp]at h;rw[RQ];simp only[A9,Cp,List.all_map,EG,Function.comp_apply,id];exact⟨⟨h.1.2.2.1,h.1.2.2.2.1⟩,fun k hk=>ih k hk (h.2 k hk)⟩
def QF (p:Prog) (m:Nx):Bool:=decide (1<=m.kind)&&(decide (m.kind<=4)&&(decide (0<=m.gen)&&(decide (m.gen<(p.Dx.length:Int))&&(DM (AL p) m.fact&&decide (Gq m.fact<=p.Dx.getD m.gen.toNat 0)))))
def runM (p:Prog):List Nx->List Int->Option (List Int)
 | [],s=>some s
 | m::r,s=>if QF p m then match CZ p (LI m.kind) 12 m.node (p.Dx.getD m.gen.toNat 0) s with
   | none=>none
   | some s'=>runM p r s' else none
def DD (p:Prog):Bool:=BC p&&(decide (p.Dx.length<=8)&&(decide (p.methods.length<=16)&&(decide (1<=p.nodes.length)&&(decide (p.nodes.length<=120)&&p.Dx.all fun g=>decide (1<=g)&&decide (g<=3)))))
def BX (p:Prog):Option (List Int):=if DD p then match runM p p.methods (List.replicate p.nodes.length (-1))with
 | none=>none
 | some s=>match CZ p false 12 p.main 0 s with
   | none=>none
   | some s=>if s.all fun n=>decide (0<=n)then some s else none else none
def LJ (p:Prog):Option (List Int)->Option (List Int)
 | none=>none
 | some s=>match CZ p false 12 p.main 0 s with
   | none=>none
   | some s=>if s.all fun n=>decide (0<=n)then some s else none
def O1 (p:Prog):V:=match BX p with
 | none=> .t [.l [] true,.b false]
 | some s=> .t [.l (iL s) false,.b true]
def sE {p:Prog} (h:BX p=none):O1 p= .t [.l [] true,.b false]:=by simp only[O1,h]
def AAs {p:Prog} (h:DD p=false):O1 p= .t [.l [] true,.b false]:=sE (by unfold BX;rw[h];rfl)
def MT {p:Prog} {Z:AE} (h:BX p=none):Am Z (.t [.l [] true,.b false]) fun r Z'=>r=R.ret (O1 p)/\Z'=emp:=by
 rw[sE h];exact AH rfl
def Qb {p:Prog} {Z:AE} (h:DD p=false):Am Z (.t [.l [] true,.b false]) fun r Z'=>r=R.ret (O1 p)/\Z'=emp:=by
 rw[AAs h];exact AH rfl
def bV {p:Prog} (h:DD p=true):BX p=LJ p (runM p p.methods (List.replicate p.nodes.length (-1))):=by
 unfold BX;rw[if_pos h];rfl
def Di {p:Prog} {k:Nat} {x:Nx} {s:List Int} (hx:p.methods[k]? =some x) (hn:BX p=LJ p (runM p (p.methods.drop k) s)) (hok:QF p x=false):BX p=none:=by
 rw[hn,drop_cons hx,runM,if_neg (by simp[hok])];rfl
def TO {p:Prog} {k:Nat} {x:Nx} {s:List Int} (hx:p.methods[k]? =some x) (hn:BX p=LJ p (runM p (p.methods.drop k) s)) (hok:QF p x=true) (hw:CZ p (LI x.kind) 12 x.node (p.Dx.getD x.gen.toNat 0) s=none):BX p=none:=by
 rw[hn,drop_cons hx,runM,if_pos hok,hw];rfl
def az {p:Prog} {k:Nat} {x:Nx} {s s':List Int} (hx:p.methods[k]? =some x) (hn:BX p=LJ p (runM p (p.methods.drop k) s)) (hok:QF p x=true) (hw:CZ p (LI x.kind) 12 x.node (p.Dx.getD x.gen.toNat 0) s=some s'):BX p=LJ p (runM p (p.methods.drop (k+1)) s'):=by
 rw[hn,drop_cons hx,runM,if_pos hok,hw]
def Tj {p:Prog} (h:DD p=true) {k:Nat} {x:Int} (hx:p.Dx[k]? =some x):1<=x/\x<=3:=by
 simp only[DD,A9,EG,Cp]at h;exact h.2.2.2.2.2 x (Bp hx)
def ue (p:Prog):Pure zP 97 [.a (BG p)] (O1 p):=by
 refine Pure.fit (by kernel_rfl) fun hf=>?_
 have⟨p1,p2,p3,p4⟩:=Gn hf.1;have hM:=Mx;refine ABA kZ ?_;have hs:=Sn
 conv=>whnf
 repeat'((first|apply st|(apply sq;intro K U)|(apply si;intro A B hA hB)|(refine hA _ _ ?_;clear hB B hA A)|(apply U;clear U K)|refine⟨rfl,?_⟩|refine⟨kZ,?_⟩|refine Pure.use (fk _) ?_|(constructor<;>intro hc<;>(try rw[hc])<;>(replace hc:=bp hc)<;>(try simp(disch:=omega) only[B9,wrap64,Ag]at hc))|clear U K)<;>conv=>whnf)
 .exact Qb (by simp[DD];intros;omega)
 rotate_left
 .exact Qb (by simp[DD];intros;omega)
 .exact Qb (by simp[DD];intros;omega)
 .exact Qb (by simp[DD];intros;omega)
 .exact Qb (by simp[DD, *])
 have a1:p.Dx.length<=8:=by omega
 have a2:p.methods.length<=16:=by omega
 have a3:1<=p.nodes.length:=by omega
 have a4:p.nodes.length<=120:=by omega
 have hg:DD p=p.Dx.all fun g=>decide (1<=g)&&decide (g<=3):=by
  simp only[DD,a1,a2,a3,a4,decide_true,Ds];simp[*]
 refine B1 p.Dx.length (fun k (_:Unit)=>[(4,eI (A4 k))]) (fun _ _=>[]) (fun k _=>DD p=(p.Dx.drop k).all fun g=>decide (1<=g)&&decide (g<=3)) () rfl (by simpa using hg) hs ?_;clear hs;rintro k - Z hk hn hs
 conv=>whnf
 repeat'((first|apply st|(apply sq;intro K U)|(apply si;intro A B hA hB)|(refine hA _ _ ?_;clear hB B hA A)|(apply U;clear U K)|refine⟨rfl,?_⟩|refine ix ?_|(refine fc (fun x hx hlt hc=>?_) (fun hk hc=>?_)<;>(try rw[hc])<;>clear hc)|(constructor<;>intro hc<;>(try rw[hc])<;>(replace hc:=bp hc))|clear U K)<;>conv=>whnf)
 .exact Qb (by rw[hn,drop_cons hx];simp;intros;omega)
 .exact⟨hlt,(),rfl,by rw[hn,drop_cons hx];simp[*],hs⟩
 .exact Qb (by rw[hn,drop_cons hx];simp;intros;omega)
 have hh:DD p=true:=by rw[hn,Ai hk];rfl
 have hP:=J3 hf.1;have hcB:BC p=true:=by assumption
 have hsb:Cu 0 p.AP=true:=by simp only[BC,A9]at hcB;exact hcB.2.1
 have hc10:p.AP.length<=1000:=by simp only[BC,A9,Cp]at hcB;omega
 have hmS:Bt p.AP<=Aa:=by have:=(Fm _ _ hsb).1;simp only[BC,A9,Cp]at hcB;omega
 have hL:=bV hh;clear hn hg;refine B1 p.nodes.length (fun j v=>[(5,v),(6,eI (A4 j))]) (fun j v=>[.own v 1 (iL (List.replicate j (-1)))]) (fun j v=>1<=j->(CC v).isSome=true) (.l [] true) rfl (fun h=>by omega) (D1 hs 1) ?_;clear hs;rintro j v Z hj hv hs
 conv=>whnf
 repeat'((first|apply st|(apply sq;intro K U)|(apply si;intro A B hA hB)|(refine hA _ _ ?_;clear hB B hA A)|(apply U;clear U K)|refine⟨rfl,?_⟩|refine⟨kZ,?_⟩|refine sn fun Z hs=>?_|refine aq fun v Z hs hsl=>?_|(refine fc (fun x hx hlt hc=>?_) (fun hk hc=>?_)<;>(try rw[hc])<;>clear hc)|refine Pure.use (Pn _ (by assumption) (by omega) (by assumption)) ?_|(intro nn hnn;generalize hg:B7 _ nn _=Z;refine al hg fun hs=>?_;clear hg)|clear U K)<;>conv=>whnf)
 .exact⟨hlt,_,rfl,fun _=>hsl,by rw[List.replicate_succ'];exact hs⟩
 have hsv:=hv (by omega);subst hk;refine B1 p.methods.length (fun k (s:List Int)=>[(8,eI (A4 k))]) (fun _ s=>[.own v 1 (iL s),.box nn (Az (AL p))]) (fun k s=>s.length=p.nodes.length/\BX p=LJ p (runM p (p.methods.drop k) s)) (List.replicate p.nodes.length (-1)) rfl ⟨by simp,hL⟩ hs ?_;clear hs;rintro k s Z hk ⟨hl,hn⟩ hs
 conv=>whnf
 repeat'((first|apply st|(apply sq;intro K U)|(apply si;intro A B hA hB)|(refine hA _ _ ?_;clear hB B hA A)|(apply U;clear U K)|apply dr|refine rk ?_ ?_|exact fun s e=>by cases e;rfl|refine⟨rfl,?_⟩|refine⟨kZ,?_⟩|refine ix ?_|refine iq fun x hx=>?_|refine ld ?_|refine sn fun Z hs=>?_|(refine fc (fun x hx hlt hc=>?_) (fun hk hc=>?_)<;>(try rw[hc])<;>clear hc)|refine Pure.use (mO _ _) ?_|(constructor<;>intro hc<;>(try rw[hc])<;>(replace hc:=bp hc)<;>(try simp(disch:=omega) only[B9,wrap64,Ag]at hc))|(intro nn hnn;generalize hg:B7 _ nn _=Z;refine al hg fun hs=>?_;clear hg)|clear U K)<;>conv=>whnf)
 rotate_left
 .exact MT (Di hx hn (by simp[QF, *]))
 .exact MT (Di hx hn (by simp[QF];intros;omega))
 .exact MT (Di hx hn (by simp[QF];intros;omega))
 .exact MT (Di hx hn (by simp[QF];intros;omega))
 .exact MT (Di hx hn (by simp[QF];intros;omega))
 .refine(ia p false 12 (Hz _) p.main 0 1 s v rfl (by omega) (by omega) hl hsv).use hs ?_
  clear hs;rintro r post Z ⟨s2,hl2,rfl,⟨ho,rfl⟩|⟨ho,rfl⟩⟩ hs
  .conv=>whnf
   repeat'((first|apply st|(apply sq;intro K U)|(apply si;intro A B hA hB)|(refine hA _ _ ?_;clear hB B hA A)|(apply U;clear U K)|(constructor<;>intro hc<;>(try rw[hc])<;>(replace hc:=bp hc)<;>(try simp(disch:=omega) only[B9,wrap64,Ag]at hc))|clear U K)<;>conv=>whnf)
   .cases hc
   have hz:BX p=if s2.all fun n=>decide (0<=n)then some s2 else none:=by rw[hn,Ai hk,runM,LJ,ho]
   refine B1 s2.length (fun j (_:Unit)=>[(10,eI (A4 j))]) (fun _ _=>[.own v 1 (iL s2),.box nn (Az (AL p))]) (fun j _=>BX p=if(s2.drop j).all fun n=>decide (0<=n)then some s2 else none) () rfl hz hs ?_;clear hs;rintro j - Z hj hz hs
   conv=>whnf
   repeat'((first|apply st|(apply sq;intro K U)|(apply si;intro A B hA hB)|(refine hA _ _ ?_;clear hB B hA A)|(apply U;clear U K)|refine⟨rfl,?_⟩|refine oc ?_|refine ol fun x hx=>?_|(refine fc (fun x hx hlt hc=>?_) (fun hk hc=>?_)<;>(try rw[hc])<;>clear hc)|refine lo ?_|(constructor<;>intro hc<;>(try rw[hc])<;>(replace hc:=bp hc))|clear U K)<;>conv=>whnf)
   .exact MT (by rw[hz,drop_cons hx,K5,if_neg];simp;intros;omega)
   .exact⟨hlt,(),rfl,by rw[hz,drop_cons hx,K5];simp[*],hs⟩
   .have hz2:BX p=some s2:=by rw[hz,Ai (by assumption)];rfl
    simp only[O1,hz2];exact A7 (.t (.cons (hs.GG 0 rfl) (.cons (.refl _) .nil)))
  .conv=>whnf
   repeat'((first|apply st|(apply sq;intro K U)|(apply si;intro A B hA hB)|(refine hA _ _ ?_;clear hB B hA A)|(apply U;clear U K)|(constructor<;>intro hc<;>(try rw[hc])<;>(replace hc:=bp hc)<;>(try simp(disch:=omega) only[B9,wrap64,Ag]at hc))|clear U K)<;>conv=>whnf)
   .exact MT (by rw[hn,Ai hk,runM,LJ,ho])
   .cases hc
 rename Nx=>m
 rename p.methods[k]? =some m=>hm
 refine(lH m.fact (Rq _ (by(have:DM (AL p) m.fact=true:=by assumption);simp only[DM,A9]at this;exact this.2.2))).use ?_
 conv=>whnf
 repeat'((first|apply st|(apply sq;intro K U)|(apply si;intro A B hA hB)|(refine hA _ _ ?_;clear hB B hA A)|(apply U;clear U K)|apply dr|refine rk ?_ ?_|exact fun s e=>by cases e;rfl|refine⟨rfl,?_⟩|refine⟨kZ,?_⟩|refine iq fun x hx=>?_|refine ld ?_|refine Pure.use (uY _) ?_|(constructor<;>intro hc<;>(try rw[hc])<;>(replace hc:=bp hc))|clear U K)<;>conv=>whnf)
 .exact MT (Di hm hn (by simp[QF,C6,hx];intros;omega))
 obtain⟨hx1,hx3⟩:=Tj hh hx;have hgd:p.Dx.getD m.gen.toNat 0=x:=by rw[C6,hx];rfl
 rename p.Dx[m.gen.toNat]? =some _=>hx2
 have hxe:=Option.some.inj (hx.symm.trans hx2);subst hxe;have hok:QF p m=true:=by simp only[QF,hgd,A9,Cp];exact⟨by assumption,by omega,by assumption,by assumption,by assumption,by assumption⟩
 refine(ia p (LI m.kind) 12 (Hz _) m.node x 1 s v rfl (by omega) (by omega) hl hsv).use (rest:=[_,_]) hs ?_;clear hs;rintro r post Z ⟨s2,hl2,rfl,⟨ho,rfl⟩|⟨ho,rfl⟩⟩ hs
 .conv=>whnf
  repeat'((first|apply st|(apply sq;intro K U)|(apply si;intro A B hA hB)|(refine hA _ _ ?_;clear hB B hA A)|(apply U;clear U K)|apply dr|refine⟨rfl,?_⟩|(constructor<;>intro hc<;>(try rw[hc])<;>(replace hc:=bp hc)<;>(try simp(disch:=omega) only[B9,wrap64,Ag]at hc))|clear U K)<;>conv=>whnf)
  .cases hc
  .exact⟨by assumption,s2,rfl,⟨by omega,az hm hn hok (by rw[hgd];exact ho)⟩,hs.less (.cons₂ _ (.cons₂ _ (Jf _)))⟩
 .conv=>whnf
  repeat'((first|apply st|(apply sq;intro K U)|(apply si;intro A B hA hB)|(refine hA _ _ ?_;clear hB B hA A)|(apply U;clear U K)|apply dr|refine⟨rfl,?_⟩|(constructor<;>intro hc<;>(try rw[hc])<;>(replace hc:=bp hc)<;>(try simp(disch:=omega) only[B9,wrap64,Ag]at hc))|clear U K)<;>conv=>whnf)
  .exact MT (TO hm hn hok (by rw[hgd];exact ho))
  .cases hc
def uC (p:Prog):Pure zP 36 [.a (BG p)] (.b (BX p).isSome):=by
 refine ABS kZ ?_;have h:=ue p;unfold O1 at h;cases hl:BX p with
 | none=>
   rw[hl]at h
   conv=>whnf
   repeat'((first|clear U K|apply st|(apply zk;intro K U)|refine zn ?_|refine zC ?_|fail)<;>conv=>whnf)
   all_goals exact AH (by first|rfl|simp)
 | some s=>
   rw[hl]at h
   conv=>whnf
   repeat'((first|clear U K|apply st|(apply zk;intro K U)|refine zn ?_|refine zC ?_|fail)<;>conv=>whnf)
   all_goals exact AH (by first|rfl|simp)
def I5 (xs ys:List Int) (f g:Bool):Pure zP 40 [.l (iL xs) f,.l (iL ys) g] (.b (xs==ys)):=by
 refine Pure.fit (by kernel_rfl) fun hf=>?_
 have hx:=MS hf.1;have hy:=MS hf.2.1;have hM:=Mx;refine ABR kZ ?_;have hs:=Sn
 conv=>whnf
 repeat'((first|clear U K|apply st|(apply zk;intro K U)|refine zn ?_|(refine zd (fun hc=>?_) (fun hc=>?_)<;>try exact⟨⟩)|fail)<;>conv=>whnf)
 .exact AH (by(have:(xs==ys)=false:=by(simp;intro e;subst e;simp at hc));rw[this])
 have hl:xs.length=ys.length:=by omega
 refine B1 xs.length (fun k (_:Unit)=>[(13,eI (A4 k))]) (fun _ _=>[]) (fun k _=>(xs==ys)=(xs.drop k==ys.drop k)) () rfl rfl Sat.nil ?_;clear hs;rintro k - Z hk hn hs;by_cases hlt:k<xs.length
 .obtain⟨y,hyk⟩: ∃y,ys[k]? =some y:=⟨_,Cs (by omega)⟩
  conv=>whnf
  repeat'((first|clear U K|apply st|(apply zk;intro K U)|refine zn ?_|(refine fc (fun x hx hlt hc=>?_) (fun hk hc=>?_)<;>(try rw[hc])<;>clear hc)|refine za (fun hc=>?_) fun hc=>?_|fail)<;>conv=>whnf)
  .exact AH (by rw[hn,drop_cons hx,drop_cons hyk];simp[hc])
  .exact⟨hlt,(),rfl,by rw[hn,drop_cons hx,drop_cons hyk,hc];simp,hs⟩
  .omega
 .conv=>whnf
  repeat'((first|clear U K|apply st|(apply zk;intro K U)|refine zn ?_|refine ze fun x hx=>?_|(refine fc (fun x hx hlt hc=>?_) (fun hk hc=>?_)<;>(try rw[hc])<;>clear hc)|(refine zb (fun hc=>?_) (fun hc=>?_)<;>try exact⟨⟩)|fail)<;>conv=>whnf)
  exact AH (by rw[hn,Ai hk,Ai (by omega)];rfl)
def Sm:List (Fact->Bool)->List Fact->Bool
 | h::r,k::s=>h k&&Sm r s
 | _,_=>true
def rl (f:Fact) (l:List (Fact->Bool)) (g:Fact):Bool:=f.op==g.op&&(f.arg==g.arg&&(f.cls==g.cls&&(f.n==g.n&&(f.path==g.path&&(f.kids.length==g.kids.length&&Sm l g.kids)))))
def F5 (f:Fact):Fact->Bool:=f.H6 rl
def M0 (f g:Fact):F5 f g=(f.op==g.op&&(f.arg==g.arg&&(f.cls==g.cls&&(f.n==g.n&&(f.path==g.path&&(f.kids.length==g.kids.length&&Sm (f.kids.map F5) g.kids)))))):=congrFun (Fact.Dw rl f) g
def Xp {xs ys:List Fact} (h: ∀x∈xs,∀y,F5 x y=true↔x=y) (hl:xs.length=ys.length):Sm (xs.map F5) ys=true↔xs=ys:=by
 induction xs generalizing ys with
 | nil=>cases ys with
   | nil=>simp[Sm]
   | cons _ _=>simp at hl
 | cons x r ih=>cases ys with
   | nil=>simp at hl
   | cons y s=>
     simp only[FA,Sm,A9,List.cons.injEq];rw[h x (.head _) y,ih (fun x hx=>h x (.tail _ hx)) (by simpa using hl)]
def OQ (f g:Fact):F5 f g=true↔f=g:=by
 induction f using Fact.ind generalizing g with
 | h f ih=>
   rw[M0];cases f with
   | mk o a p c n k=>cases g with
     | mk o' a' p' c' n' k'=>
       simp only[Fact.op,Fact.arg,Fact.cls,Fact.n,Fact.path,Fact.kids,A9,C0,Fact.mk.injEq]at *;constructor
       .rintro⟨rfl,rfl,rfl,rfl,rfl,hl,h⟩
        exact⟨rfl,rfl,rfl,rfl,rfl,(Xp (fun x hx y=>ih x hx y) hl).1 h⟩
       .rintro⟨rfl,rfl,rfl,rfl,rfl,rfl⟩
        exact⟨rfl,rfl,rfl,rfl,rfl,rfl,(Xp (fun x hx y=>ih x hx y) rfl).2 rfl⟩
def ou (f g:Fact):Pure zP 27 [.a (xF f),.a (xF g)] (.b (F5 f g)):=by
 induction f using Fact.ind generalizing g with
 | h f ih=>
   refine Pure.fit (by kernel_rfl) fun hf=>?_
   have⟨h2,h3,h4⟩:=LL hf.1;have⟨g2,g3,g4⟩:=LL hf.2.1;have hM:=Mx;refine ABW kZ ?_;have hs:=Sn
   conv=>whnf
   repeat'((first|clear U K|apply st|(apply zk;intro K U)|refine zn ?_|refine Pure.use (I5 _ _ _ _) ?_|(refine zd (fun hc=>?_) (fun hc=>?_)<;>try exact⟨⟩)|fail)<;>conv=>whnf)
   rotate_left
   all_goals try exact AH (by rw[M0];simp[*]<;>omega)
   rotate_left
   .have hkl:f.kids.length=g.kids.length:=by omega
    refine B1 f.kids.length (fun k (_:Unit)=>[(52,eI (A4 k))]) (fun _ _=>[]) (fun k _=>F5 f g=Sm ((f.kids.drop k).map F5) (g.kids.drop k)) () rfl (by rw[M0];simp[*]) Sat.nil ?_;clear hs;rintro k - Z hk hn hs;by_cases hlt:k<f.kids.length
    .obtain⟨y,hyk⟩: ∃y,g.kids[k]? =some y:=⟨_,Cs (by omega)⟩
     conv=>whnf
     repeat'((first|clear U K|apply st|(apply zk;intro K U)|refine zn ?_|(refine fc (fun x hx hlt hc=>?_) (fun hk hc=>?_)<;>(try rw[hc])<;>clear hc)|fail)<;>conv=>whnf)
     .refine(ih x (Bp hx) y).use ?_
      conv=>whnf
      repeat'((first|clear U K|apply st|(apply zk;intro K U)|refine zn ?_|refine za (fun hc=>?_) fun hc=>?_|fail)<;>conv=>whnf)
      .exact AH (by rw[hn,drop_cons hx,drop_cons hyk,FA,Sm,hc];rfl)
      .exact⟨hlt,(),rfl,by rw[hn,drop_cons hx,drop_cons hyk,FA,Sm,hc];rfl,hs⟩
     .omega
    .conv=>whnf
     repeat'((first|clear U K|apply st|(apply zk;intro K U)|refine zn ?_|refine ze fun x hx=>?_|(refine fc (fun x hx hlt hc=>?_) (fun hk hc=>?_)<;>(try rw[hc])<;>clear hc)|fail)<;>conv=>whnf)
     all_goals first|(exfalso;omega)|exact AH (by rw[hn,Ai hk];rfl)
def EZ (f:Fact):Fact:= .mk 5 0 [] 0 0 [f]
def Pb (f g:Fact):Fact:= .mk 6 0 [] 0 0 [f,g]
def jF (f:Fact):Pure zP 68 [.a (xF f)] (.a (xF (EZ f))):=by
 refine ABO kZ ?_;have hs:=Sn
 conv=>whnf
 repeat'((first|clear U K|apply st|(apply zk;intro K U)|refine zX ?_|refine zr fun Z hs=>?_|refine zp fun nn hnn Z hs=>?_|fail)<;>conv=>whnf)
 refine A7 (.a (.cons (.refl _) (.cons (.refl _) (.cons FK (.cons (.refl _) (.cons (.refl _) (.cons ?_ .nil)))))));refine .l (fun h=>by cases h) ?_;simp only[EZ,Fact.kids,List.map,Bh];exact E6 _
def zM (f g:Fact):Pure zP 70 [.a (xF f),.a (xF g)] (.a (xF (Pb f g))):=by
 refine ABN kZ ?_;have hs:=Sn
 conv=>whnf
 repeat'((first|clear U K|apply st|(apply zk;intro K U)|refine zX ?_|refine zr fun Z hs=>?_|refine zp fun nn hnn Z hs=>?_|fail)<;>conv=>whnf)
 refine A7 (.a (.cons (.refl _) (.cons (.refl _) (.cons FK (.cons (.refl _) (.cons (.refl _) (.cons ?_ .nil)))))));refine .l (fun h=>by cases h) ?_;simp only[Pb,Fact.kids,List.map,Bh];exact E6 _
def E3 (l:Fact):Prop:=l.op=5->l.kids≠[]
def Ad (l:Fact):Fact×Bool:=if l.op=5 then(l.kids.headD default,true)else(l,false)
def Gw (l:Fact) (h:E3 l):Pure zP 370 [.a (xF l)] (.t [.a (xF (Ad l).1),.b (Ad l).2]):=by
 refine Pure.fit (by kernel_rfl) fun hf=>?_
 have⟨h2,h3,h4⟩:=LL hf.1;refine vY kZ ?_;have hs:=Sn;by_cases h5:l.op=5
 .have hk:0<l.kids.length:=List.length_pos_iff.2 (h h5)
  conv=>whnf
  repeat'((first|clear U K|apply st|(apply zk;intro K U)|refine zX ?_|refine ze fun x hx=>?_|refine zr fun Z hs=>?_|(refine zb (fun hc=>?_) (fun hc=>?_)<;>try exact⟨⟩)|refine zp fun nn hnn Z hs=>?_|fail)<;>conv=>whnf)
  all_goals try(exfalso;omega)
  refine AH ?_
  have:l.kids.headD default=x:=by
   cases hl:l.kids with
   | nil=>rw[hl]at hk;simp at hk
   | cons y r=>rw[hl]at hx;simpa using hx
  simp only[Ad,if_pos h5,this];rfl
 .conv=>whnf
  repeat'((first|clear U K|apply st|(apply zk;intro K U)|refine zX ?_|refine zr fun Z hs=>?_|(refine zb (fun hc=>?_) (fun hc=>?_)<;>try exact⟨⟩)|refine zp fun nn hnn Z hs=>?_|fail)<;>conv=>whnf)
  all_goals try(exfalso;omega)
  refine AH ?_;simp only[Ad,if_neg h5];rfl
def Bd (path pre:List Int):Bool:=decide (pre.length<=path.length)&&path.take pre.length==pre
def T7 (xs ys:List Int) (f g:Bool):Pure zP 378 [.l (iL xs) f,.l (iL ys) g] (.b (Bd xs ys)):=by
 refine Pure.fit (by kernel_rfl) fun hf=>?_
 have hx:=MS hf.1;have hy:=MS hf.2.1;have hM:=Mx;refine vR kZ ?_;have hs:=Sn
 conv=>whnf
 repeat'((first|clear U K|apply st|(apply zk;intro K U)|refine zX ?_|refine Pure.use (I5 _ _ _ _) ?_|(refine zd (fun hc=>?_) (fun hc=>?_)<;>try exact⟨⟩)|fail)<;>conv=>whnf)
 .refine AH ?_
  have:ys.length<=xs.length:=by omega
  simp[Bd,this]
 .refine AH ?_
  have: ¬ys.length<=xs.length:=by omega
  simp[Bd,this]
def FH (w:AF) (ls:List Fact) (a:Int) (p:List Int) (c:Bool):List V:=[.l (EN w.parents) false,.l (iL w.owner) false,.l (facts ls) false,eI a,.l (iL p) false,.b c]
def Ix (w:AF) (ls:List Fact) (a:Int) (p:List Int) (c:Bool) (s:Int) (hp:p.length<100):Pure zP 373 [.a (FH w ls a p c),eI s] (.a (FH w ls a (p++[s]) c)):=by
 have hM:=Mx;refine vV kZ ?_;have hs:=Sn
 conv=>whnf
 repeat'((first|clear U K|apply st|(apply zk;intro K U)|refine zX ?_|refine zp fun nn hnn Z hs=>?_|fail)<;>conv=>whnf)
 replace hs:=D1 hs 1;refine Fe hs 1 (xs:=[]) (ys:=p) rfl (by simp;omega) Bo fun v Z hs=>?_
 conv=>whnf
 repeat'((first|apply st|refine zX ?_|refine rk ?_ ?_|exact fun s e=>by cases e;rfl|refine aq fun v Z hs hsl=>?_|fail)<;>conv=>whnf)
 obtain⟨n,l,cc,rfl⟩:=iC hsl
 conv=>whnf
 repeat'((first|clear U K|apply st|refine zX ?_|refine zr fun Z hs=>?_|fail)<;>conv=>whnf)
 exact A7 (.a (.cons (.refl _) (.cons (.refl _) (.cons (.refl _) (.cons (.refl _) (.cons (hs.GG 1 rfl) (.cons (.refl _) .nil)))))))
def Fv (a:Int) (p:List Int) (l:Fact):Bool:=(Ad l).1.arg==a&&(Ad l).1.path==p
def GB {w:AF} {ls:List Fact} {a:Int} {p:List Int} {c:Bool} (h:FX (.a (FH w ls a p c))):ls.length<=Aa/\p.length<=Aa/\w.owner.length<=Aa/\w.parents.length<=Aa:=by
 simp only[FH,Hn,Dk,Hm,B9]at h;exact⟨h.2.2.1.1,h.2.2.2.2.1.1,h.2.1.1,h.1.1⟩
def aL (w:AF) (ls:List Fact) (a:Int) (p:List Int) (c:Bool) (hok: ∀l∈ls,E3 l) (hln:ls.length<=1000000):Pure zP 369 [.a (FH w ls a p c)] (.l (facts (ls.filter (Fv a p))) false):=by
 refine Pure.fit (by kernel_rfl) fun hf=>?_
 have⟨h1,h2,h3,h4⟩:=GB hf.1;have hM:=Mx;refine vZ kZ ?_;have hs:=Sn;refine zv ?_;(repeat clear U K);repeat intro K U
 refine B1 ls.length (fun k v=>[(3,v),(11,eI (A4 k))]) (fun k v=>[.own v 6 (facts ((ls.take k).filter (Fv a p)))]) (fun _ _=>True) (.l [] true) rfl trivial (D1 hs 6) ?_;clear hs;rintro k v Z hk - hs;have hfl:=Ou (Fv a p) (ls.take k)
 conv=>whnf
 repeat'((first|clear U K|apply st|(apply zk;intro K U)|refine zX ?_|refine zr fun Z hs=>?_|refine apF fun v Z hs hsl=>?_|(refine fc (fun x hx hlt hc=>?_) (fun hk hc=>?_)<;>(try rw[hc])<;>clear hc)|refine Pure.use (Gw _ (hok _ (Bp (by assumption)))) ?_|refine Pure.use (I5 _ _ _ _) ?_|refine za (fun hc=>?_) fun hc=>?_|refine zp fun nn hnn Z hs=>?_|fail)<;>conv=>whnf)
 .exact⟨hlt,_,rfl,trivial,by rw[AN hx,List.filter_append];simpa[Fv, *]using hs.take 1⟩
 .exact⟨hlt,_,rfl,trivial,by rw[AN hx,List.filter_append];simpa[Fv, *]using hs.take 1⟩
 .exact⟨hlt,_,rfl,trivial,by rw[AN hx,List.filter_append];simpa[Fv, *]using hs.take 1⟩
 .exact Eg hs 0 rfl (by rw[Aq hk])
def DF (ls:List Fact) (a:Int) (p:List Int):Bool:=ls.all fun l=>(Ad l).2|| !((Ad l).1.arg==a&&Bd (Ad l).1.path p)
def VZ (w:AF) (ls:List Fact) (a:Int) (p:List Int) (c:Bool) (hok: ∀l∈ls,E3 l):Pure zP 374 [.a (FH w ls a p c)] (.b (DF ls a p)):=by
 refine Pure.fit (by kernel_rfl) fun hf=>?_
 have⟨h1,h2,h3,h4⟩:=GB hf.1;have hM:=Mx;refine vU kZ ?_;have hs:=Sn;refine zv ?_;(repeat clear U K);repeat intro K U
 refine B1 ls.length (fun k (_:Unit)=>[(10,eI (A4 k))]) (fun k _=>[]) (fun k _=>DF ls a p=(ls.drop k).all fun l=>(Ad l).2|| !((Ad l).1.arg==a&&Bd (Ad l).1.path p)) () rfl rfl hs ?_;clear hs;rintro k - Z hk hn hs
 conv=>whnf
 repeat'((first|clear U K|apply st|(apply zk;intro K U)|refine zX ?_|refine zr fun Z hs=>?_|(refine fc (fun x hx hlt hc=>?_) (fun hk hc=>?_)<;>(try rw[hc])<;>clear hc)|refine Pure.use (Gw _ (hok _ (Bp (by assumption)))) ?_|refine Pure.use (T7 _ _ _ _) ?_|refine za (fun hc=>?_) fun hc=>?_|refine zp fun nn hnn Z hs=>?_|fail)<;>conv=>whnf)
 .exact AH (by rw[hn,drop_cons hx,K5];simp[*])
 .exact⟨hlt,(),rfl,by rw[hn,drop_cons hx,K5];simp[*],hs.take 0⟩
 .exact⟨hlt,(),rfl,by rw[hn,drop_cons hx,K5];simp[*],hs.take 0⟩
 .exact⟨hlt,(),rfl,by rw[hn,drop_cons hx,K5];simp[*],hs.take 0⟩
 .exact AH (by rw[hn,Ai hk];rfl)
def BS (n:Nat):List Int:=(List.range n).map Int.ofNat
def KH (n:Nat):BS (n+1)=BS n++[(n:Int)]:=by simp[BS,List.range_succ]
def DQ (n:Nat):(BS n).length=n:=by simp[BS]
def Yd (a:Int) (p:List Int) (s:Int) (l:Fact):Bool:=(Ad l).1.arg==a&&Bd (Ad l).1.path (p++[s])
def BR (n:Nat) (ls:List Fact) (a:Int) (p:List Int):List Int:=(BS n).filter fun s=>ls.any (Yd a p s)
def Qw (w:AF) (ls:List Fact) (a:Int) (p:List Int) (c:Bool) (hok: ∀l∈ls,E3 l) (hp:p.length<100) :
    Pure zP 372 [.a (FH w ls a p c)] (.l (iL (BR w.owner.length ls a p)) false):=by
 refine Pure.fit (by kernel_rfl) fun hf=>?_
 have⟨h1,h2,h3,h4⟩:=GB hf.1;have hM:=Mx;refine vW kZ ?_;have hs:=Sn;refine zv ?_;(repeat clear U K);repeat intro K U
 refine B1 w.owner.length (fun k v=>[(3,v),(14,eI (A4 k))]) (fun k v=>[.own v 1 (iL (BR k ls a p))]) (fun _ _=>True) (.l [] true) rfl trivial (D1 hs 1) ?_;clear hs;rintro k v Z hk - hs;have hck:A4 k=k:=Ag (by omega);have hfl:=Ou (fun s=>ls.any (Yd a p s)) (BS k);rw[DQ]at hfl;have hfl2:(BR k ls a p).length<=k:=hfl
 conv=>whnf
 repeat'((first|clear U K|apply st|(apply zk;intro K U)|refine zX ?_|(refine fc (fun x hx hlt hc=>?_) (fun hk hc=>?_)<;>(try rw[hc])<;>clear hc)|fail)<;>conv=>whnf)
 .refine B1 ls.length (fun j b=>[(5,.b b),(20,eI (A4 j))]) (fun j _=>[.own v 1 (iL (BR k ls a p))]) (fun j b=>b=(ls.take j).any (Yd a p (A4 k))) false rfl (by simp) hs ?_
  clear hs;rintro j b Z hj hb hs;subst hb
  conv=>whnf
  repeat'((first|clear U K|apply st|(apply zk;intro K U)|refine zX ?_|refine rk ?_ ?_|exact fun s e=>by cases e;rfl|refine zr fun Z hs=>?_|refine aq fun v Z hs hsl=>?_|(refine fc (fun x hx hlt hc=>?_) (fun hk hc=>?_)<;>(try rw[hc])<;>clear hc)|refine Pure.use (Gw _ (hok _ (Bp (by assumption)))) ?_|refine Pure.use (T7 _ _ _ _) ?_|refine Pure.use (Ix _ _ _ _ _ _ (by omega)) ?_|(refine zd (fun hc=>?_) (fun hc=>?_)<;>try exact⟨⟩)|refine zp fun nn hnn Z hs=>?_|fail)<;>conv=>whnf)
  .exact⟨hlt,_,rfl,by rw[AN hx,List.any_append];simp[Yd, *],hs.take 1⟩
  .exact⟨hlt,_,rfl,by rw[AN hx,List.any_append];simp[Yd, *],hs.take 1⟩
  .exact⟨hlt,true,rfl,by rw[AN hx,List.any_append];simp[*],hs.take 1⟩
  .refine⟨by assumption,_,rfl,trivial,?_⟩
   rw[Aq hk]at hc;rw[BR,KH,List.filter_append];simp only[BR]at hs;simpa[hc,hck]using hs
  .refine⟨by assumption,_,rfl,trivial,?_⟩
   rw[Aq hk]at hc;rw[BR,KH,List.filter_append];simp only[BR]at hs;simpa[hc,hck]using hs
 .exact Eg hs 0 rfl (by rw[hk])
def Da (n:Nat) (ls:List Fact) (a:Int) (p:List Int):Bool:=(BR n ls a p).all fun s=>DF ls a (p++[s])
def cG (w:AF) (ls:List Fact) (a:Int) (p:List Int) (c:Bool) (hok: ∀l∈ls,E3 l) (hp:p.length<50):Pure zP 371 [.a (FH w ls a p c)] (.b (Da w.owner.length ls a p)):=by
 refine Pure.fit (by kernel_rfl) fun hf=>?_
 have⟨h1,h2,h3,h4⟩:=GB hf.1;have hM:=Mx;refine vX kZ ?_;have hs:=Sn;have hfl:=Ou (fun s=>ls.any (Yd a p s)) (BS w.owner.length);rw[DQ]at hfl;have hfl2:(BR w.owner.length ls a p).length<=w.owner.length:=hfl
 conv=>whnf
 repeat'((first|clear U K|apply st|(apply zk;intro K U)|refine zX ?_|refine Pure.use (Qw _ _ _ _ _ hok (by omega)) ?_|fail)<;>conv=>whnf)
 refine B1 (BR w.owner.length ls a p).length (fun k (_:Unit)=>[(8,eI (A4 k))]) (fun k _=>[]) (fun k _=>Da w.owner.length ls a p=((BR w.owner.length ls a p).drop k).all fun s=>DF ls a (p++[s])) () rfl rfl hs ?_;clear hs;rintro k - Z hk hn hs
 conv=>whnf
 repeat'((first|clear U K|apply st|(apply zk;intro K U)|refine zX ?_|(refine fc (fun x hx hlt hc=>?_) (fun hk hc=>?_)<;>(try rw[hc])<;>clear hc)|refine Pure.use (Ix _ _ _ _ _ _ (by omega)) ?_|refine Pure.use (VZ _ _ _ _ _ hok) ?_|refine za (fun hc=>?_) fun hc=>?_|fail)<;>conv=>whnf)
 .exact AH (by rw[hn,drop_cons hx,K5];simp[*])
 .exact⟨hlt,(),rfl,by rw[hn,drop_cons hx,K5];simp[*],hs⟩
 .exact AH (by rw[hn,Ai hk];rfl)
def Hf (ls:List Fact):Prop:= ∀l∈ls,-1000000000<=(Ad l).1.n/\(Ad l).1.n<=1000000000
def H8 (x:Fact×Bool) (t:Int×Int×List Int):Option (Int×Int×List Int):=
 if x.1.op=2 then if decide (x.1.cls > 1) != x.2 then none else some t
 else if x.1.op=3 then(if x.2 then some (if x.1.n > t.1 then x.1.n else t.1,t.2.1,t.2.2)else some (t.1,if x.1.n - 1<t.2.1 then x.1.n - 1 else t.2.1,t.2.2))
 else if x.2 then some (t.1,t.2.1,t.2.2++[x.1.n])else some (if x.1.n > t.1 then x.1.n else t.1,if x.1.n<t.2.1 then x.1.n else t.2.1,t.2.2)
def foldI:List Fact->Int×Int×List Int->Option (Int×Int×List Int)
 | [],t=>some t
 | x::r,t=>(H8 (Ad x) t).bind (foldI r)
def Of: ∀(xs ys:List Fact) (t:Int×Int×List Int),foldI (xs++ys) t=(foldI xs t).bind (foldI ys)
 | [],_,_=>rfl
 | x::r,ys,t=>by
   simp only[List.cons_append,foldI];cases H8 (Ad x) t with
   | none=>rfl
   | some u=>exact Of r ys u
def G2 {os:List Fact} {k:Nat} {x:Fact} (hx:os[k]? =some x) (t:Int×Int×List Int):foldI (os.take (k+1)) t=(foldI (os.take k) t).bind (H8 (Ad x)):=by
 rw[AN hx,Of];congr 1;funext u;simp only[foldI];cases H8 (Ad x) u<;>rfl
def Zt {os:List Fact} (k:Nat) {t:Int×Int×List Int} (h:foldI (os.take k) t=none):foldI os t=none:=by
 rw[<-List.take_append_drop k os,Of,h];rfl
def UP (no:List Int):Nat->Int->Option Int
 | 0,_=>none
 | k+1,n=>if no.all (· != n)then some n else UP no k (n+1)
def QU (t:Int×Int×List Int):Option Int:=UP t.2.2 (t.2.1+1 - t.1).toNat t.1
def t0:Int×Int×List Int:=(-1000000000,1000000000,[])
def GI (ls:List Fact) (a:Int) (p:List Int):Option Int:=(foldI (ls.filter (Fv a p)) t0).bind QU
def dN (n:Nat) (ls:List Fact) (a:Int) (p:List Int):V:=match GI ls a p with
 | some x=> .t [eI x,.b (Da n ls a p)]
 | none=> .t [eI 0,.b false]
def JB (w : AF) (ls:List Fact) (a:Int) (p:List Int) (c:Bool) (hokL: ∀l∈ls,E3 l) (hln:ls.length<=1000000) (hp:p.length<50) (hsm:Hf ls):Pure zP 357 [.a (FH w ls a p c)] (dN w.owner.length ls a p):=by
 refine Pure.fit (by kernel_rfl) fun hf=>?_
 have⟨h1,h2,h3,h4⟩:=GB hf.1;have hM:=Mx;refine vr kZ ?_;have hs:=Sn;have hfl:=Ou (Fv a p) ls;have hok2: ∀l∈ls.filter (Fv a p),E3 l:=fun l hl=>hokL l ((Ik.1 hl).1)
 have hsm2:Hf (ls.filter (Fv a p)):=fun l hl=>hsm l ((Ik.1 hl).1)
 conv=>whnf
 repeat'((first|clear U K|apply st|(apply zk;intro K U)|refine zX ?_|refine Pure.use (aL _ _ _ _ _ hokL hln) ?_|fail)<;>conv=>whnf)
 generalize hos:ls.filter (Fv a p)=os at *;have hV:GI ls a p=(foldI os t0).bind QU:=by rw[GI,hos]
 refine B1 os.length (fun k (x:Int×Int×List Int×V)=>[(4,eI x.1),(5,eI x.2.1),(6,x.2.2.2),(18,eI (A4 k))]) (fun k x=>[.own x.2.2.2 1 (iL x.2.2.1)]) (fun k x=>foldI (os.take k) t0=some (x.1,x.2.1,x.2.2.1)/\ -1000000000<=x.1/\x.1<=1000000000/\ -1000000001<=x.2.1/\x.2.1<=1000000000/\x.2.2.1.length<=k) (-1000000000,1000000000,[],.l [] true) rfl ⟨rfl,by simp⟩ (D1 hs 1) ?_;clear hs;rintro k ⟨low,high,no,v⟩ Z hk ⟨hno,hb1,hb2,hb3,hb4,hb5⟩ hs;simp only at hb1 hb2 hb3 hb4 hb5 hno;have hok:=hok2
 conv=>whnf
 repeat'((first|clear U K|apply st|(apply zk;intro K U)|refine zX ?_|refine zr fun Z hs=>?_|refine aq fun v Z hs hsl=>?_|(refine fc (fun x hx hlt hc=>?_) (fun hk hc=>?_)<;>(try rw[hc])<;>clear hc)|refine Pure.use (Gw _ (hok _ (Bp (by assumption)))) ?_|(refine zb (fun hc=>?_) (fun hc=>?_)<;>try exact⟨⟩)|refine zp fun nn hnn Z hs=>?_|fail)<;>conv=>whnf)
 all_goals first
  | (have hb:=hsm2 _ (Bp hx)
     first
      | (refine⟨hlt,(_,_,_,_),rfl,⟨?_,?_⟩,hs.take 1⟩
         .rw[G2 hx,hno]
          have hw:IntKind.i64.wrap ((Ad ‹Fact›).1.n - 1)=(Ad ‹Fact›).1.n - 1:=wrap64 (by omega) (by omega);simp[H8, *]
          done
         .have hw:IntKind.i64.wrap ((Ad ‹Fact›).1.n - 1)=(Ad ‹Fact›).1.n - 1:=wrap64 (by omega) (by omega)
          simp only[Nl,List.length_singleton,hw]
          refine⟨?_,?_,?_,?_,?_⟩<;>(try split)<;>omega)
      | (refine AH ?_
         have:foldI os t0=none:=Zt (k+1) (by rw[G2 hx,hno];simp[H8, *]);rw[this]at hV;simp only[dN,hV]
         rfl))
  | skip
 .have hb:=hsm2 _ (Bp hx)
  refine⟨hlt,(if(Ad x).1.n > low then(Ad x).1.n else low,high,no,v),rfl,⟨?_,?_⟩,hs.take 1⟩
  .rw[G2 hx,hno]
   simp[H8, *]
  .dsimp only
   refine⟨?_,?_,?_,?_,?_⟩<;>(try split)<;>omega
 .have hb:=hsm2 _ (Bp hx)
  have hw:IntKind.i64.wrap ((Ad x).1.n - 1)=(Ad x).1.n - 1:=wrap64 (by omega) (by omega);rw[hw];refine⟨hlt,(low,if(Ad x).1.n - 1<high then(Ad x).1.n - 1 else high,no,v),rfl,⟨?_,?_⟩,hs.take 1⟩
  .rw[G2 hx,hno]
   simp[H8, *]
  .dsimp only
   refine⟨?_,?_,?_,?_,?_⟩<;>(try split)<;>omega
 .have hb:=hsm2 _ (Bp hx)
  refine⟨hlt,(if(Ad x).1.n > low then(Ad x).1.n else low,if(Ad x).1.n<high then(Ad x).1.n else high,no,v),rfl,⟨?_,?_⟩,hs.take 1⟩
  .rw[G2 hx,hno]
   simp[H8, *]
  .dsimp only
   refine⟨?_,?_,?_,?_,?_⟩<;>(try split)<;>omega
 rw[Aq (by assumption)]at hno;have hV2:GI ls a p=QU (low,high,no):=by rw[hV,hno];rfl
 dsimp only;refine D7 (fun n:Int=>(high+1 - n).toNat) (fun n=>[(11,eI n)]) (fun _=>[.own v 1 (iL no)]) (fun n=>low<=n/\n<=1000000001/\GI ls a p=UP no (high+1 - n).toNat n) low rfl ⟨by omega,by omega,hV2⟩ hs ?_;clear hs;rintro n Z ⟨hn1,hn2,hn⟩ hs;have hnl:no.length<=Aa:=by omega
 conv=>whnf
 repeat'((first|clear U K|apply st|(apply zk;intro K U)|refine zX ?_|refine za (fun hc=>?_) fun hc=>?_|fail)<;>conv=>whnf)
 .refine B1 no.length (fun j b=>[(12,.b b),(80,eI (A4 j))]) (fun j _=>[.own v 1 (iL no)]) (fun j b=>b=(no.take j).all (· != n)) true rfl (by simp) hs ?_
  clear hs;rintro j b Z hj hb hs;subst hb
  conv=>whnf
  repeat'((first|clear U K|apply st|(apply zk;intro K U)|refine zX ?_|(refine fc (fun x hx hlt hc=>?_) (fun hk hc=>?_)<;>(try rw[hc])<;>clear hc)|refine Pure.use (cG _ _ _ _ _ hokL (by omega)) ?_|refine za (fun hc=>?_) fun hc=>?_|fail)<;>conv=>whnf)
  .exact⟨hlt,_,rfl,by rw[AN hx,List.all_append,hc];simp,hs⟩
  .exact⟨hlt,false,rfl,by rw[AN hx,List.all_append,hc];simp,hs⟩
  .refine AH ?_
   rw[Aq hk]at hc;rw[show(high+1 - n).toNat=(high - n).toNat+1 by omega,UP,if_pos hc]at hn;simp only[dN,hn]
  .rw[Aq hk]at hc
   rw[show(high+1 - n).toNat=(high+1 - (n+1)).toNat+1 by omega,UP,if_neg (by simp[hc])]at hn;rw[wrap64 (by omega) (by omega)];exact⟨n+1,by omega,rfl,⟨by omega,by omega,hn⟩,hs⟩
 .refine AH ?_
  have:(high+1 - n).toNat=0:=by omega
  rw[this,UP]at hn;simp only[dN,hn]
def JQ (x:Fact×Bool):Bool:=((x.1.op==2&&(x.1.cls==0||x.1.cls==2))==x.2)
def E0 (n:Nat) (ls:List Fact) (a:Int) (p:List Int):Bool:=(ls.filter (Fv a p)).all (fun l=> !JQ (Ad l))&&Da n ls a p
def Px (w:AF) (ls:List Fact) (a:Int) (p:List Int) (c:Bool) (hokL: ∀l∈ls,E3 l) (hln:ls.length<=1000000) (hp:p.length<50):Pure zP 358 [.a (FH w ls a p c)] (.b (E0 w.owner.length ls a p)):=by
 refine Pure.fit (by kernel_rfl) fun hf=>?_
 have⟨h1,h2,h3,h4⟩:=GB hf.1;have hM:=Mx;refine vq kZ ?_;have hs:=Sn;have hfl:=Ou (Fv a p) ls;have hok: ∀l∈ls.filter (Fv a p),E3 l:=fun l hl=>hokL l (Ik.1 hl).1
 conv=>whnf
 repeat'((first|clear U K|apply st|(apply zk;intro K U)|refine zX ?_|refine Pure.use (aL _ _ _ _ _ hokL hln) ?_|fail)<;>conv=>whnf)
 generalize hos:ls.filter (Fv a p)=os at *;have hV:E0 w.owner.length ls a p=(os.all (fun l=> !JQ (Ad l))&&Da w.owner.length ls a p):=by rw[E0,hos]
 refine B1 os.length (fun k (_:Unit)=>[(11,eI (A4 k))]) (fun k _=>[]) (fun k _=>E0 w.owner.length ls a p=((os.drop k).all (fun l=> !JQ (Ad l))&&Da w.owner.length ls a p)) () rfl hV hs ?_;clear hs;rintro k - Z hk hn hs
 conv=>whnf
 repeat'((first|clear U K|apply st|(apply zk;intro K U)|refine zX ?_|refine zr fun Z hs=>?_|(refine fc (fun x hx hlt hc=>?_) (fun hk hc=>?_)<;>(try rw[hc])<;>clear hc)|refine Pure.use (Gw _ (hok _ (Bp (by assumption)))) ?_|refine Pure.use (cG _ _ _ _ _ hokL (by omega)) ?_|refine za (fun hc=>?_) fun hc=>?_|refine zp fun nn hnn Z hs=>?_|fail)<;>conv=>whnf)
 all_goals first
  | (have hst:JQ (Ad x)=true:=by clear hV hn;cases hz:(Ad x).2<;>cases hy:((Ad x).1.cls==2)<;>simp_all [JQ]
     exact AH (by rw[hn,drop_cons hx,K5,hst];simp))
  | (have hst:JQ (Ad x)=false:=by clear hV hn;cases hz:(Ad x).2<;>cases hy:((Ad x).1.cls==2)<;>simp_all [JQ]
     exact⟨hlt,(),rfl,by rw[hn,drop_cons hx,K5,hst];simp,hs.take 0⟩)
  | exact AH (by rw[hn,Ai (by assumption)];simp)
abbrev BB:=List Bool×List Bool
def Gm (x:Fact×Bool) (t:BB):Option BB:=
 if x.1.op≠2\/x.1.cls=1\/x.1.cls=2 then(if x.2 then some t else none)else
 if x.2 then some (t.1,t.2.set x.1.cls.toNat true)else some (t.1.set x.1.cls.toNat true,t.2)
def EP:List Fact->BB->Option BB
 | [],t=>some t
 | x::r,t=>(Gm (Ad x) t).bind (EP r)
def JP (w:AF) (ls:List Fact) (a:Int) (p:List Int) (can:Int->Bool) (s:Int) (t:BB):Option BB:=
 if !DF ls a (p++[s])&& !can s then none else some (if DF ls a (p++[s])then t.1 else t.1.set (Bl w s).toNat true,if can s then t.2 else t.2.set (Bl w s).toNat true)
def D5 (w:AF) (ls:List Fact) (a:Int) (p:List Int) (can:Int->Bool):List Int->BB->Option BB
 | [],t=>some t
 | s::r,t=>(JP w ls a p can s t).bind (D5 w ls a p can r)
def Ie (ps:List (List Int)) (c:Nat) (bs:List Bool):List Bool:=if bs.getD c false then(par ps c).foldl (fun b q=>b.set q.toNat true) bs else bs
def CE (ps:List (List Int)) (n:Nat):Nat->List Bool->List Bool
 | 0,bs=>bs
 | k+1,bs=>Ie ps (n - 1 - k) (CE ps n k bs)
def Hu: ∀(l:List Int) (bs:List Bool),(l.foldl (fun b q=>b.set q.toNat true) bs).length=bs.length
 | [],_=>rfl
 | q::r,bs=>by rw[List.foldl_cons,Hu r,List.length_set]
def Ey (ps:List (List Int)) (n:Nat): ∀(k:Nat) (bs:List Bool),(CE ps n k bs).length=bs.length
 | 0,_=>rfl
 | k+1,bs=>by
   rw[CE,Ie];split
   .rw[Hu,Ey ps n k bs]
   .exact Ey ps n k bs
def V9 (w:AF) (t:BB):Option (List Bool):=
 if t.2.getD 0 false then none else
 if(List.range (3+w.parents.length)).any (fun c=>(CE w.parents (3+w.parents.length) w.parents.length (t.1.set 0 false)).getD c false&&t.2.getD c false)then none else some (CE w.parents (3+w.parents.length) w.parents.length (t.1.set 0 false))
def tO (w:AF):BB:=(List.replicate (3+w.parents.length) false,List.replicate (3+w.parents.length) false)
def LY (w:AF) (ls:List Fact) (a:Int) (p:List Int) (can:Int->Bool):Option (List Bool):=
 ((EP (ls.filter (Fv a p)) (tO w)).bind (D5 w ls a p can (BR w.owner.length ls a p))).bind (V9 w)
def AAL (o:Option (List Bool)):V:=match o with
 | some m=> .t [.l (bL m) false,.b true]
 | none=> .t [.l [] true,.b false]
def Oe: ∀(xs ys:List Fact) (t:BB),EP (xs++ys) t=(EP xs t).bind (EP ys)
 | [],_,_=>rfl
 | x::r,ys,t=>by
   simp only[List.cons_append,EP];cases Gm (Ad x) t with
   | none=>rfl
   | some u=>exact Oe r ys u
def JD {os:List Fact} {k:Nat} {x:Fact} (hx:os[k]? =some x) (t:BB):EP (os.take (k+1)) t=(EP (os.take k) t).bind (Gm (Ad x)):=by
 rw[AN hx,Oe];congr 1;funext u;simp only[EP];cases Gm (Ad x) u<;>rfl
def Zs {os:List Fact} (k:Nat) {t:BB} (h:EP (os.take k) t=none):EP os t=none:=by
 rw[<-List.take_append_drop k os,Oe,h];rfl
def Od {w:AF} {ls:List Fact} {a:Int} {p:List Int} {can:Int->Bool}: ∀(xs ys:List Int) (t:BB),D5 w ls a p can (xs++ys) t=(D5 w ls a p can xs t).bind (D5 w ls a p can ys)
 | [],_,_=>rfl
 | x::r,ys,t=>by
   simp only[List.cons_append,D5];cases JP w ls a p can x t with
   | none=>rfl
   | some u=>exact Od r ys u
def JC {w:AF} {ls:List Fact} {a:Int} {p:List Int} {can:Int->Bool} {os:List Int} {k:Nat} {x:Int} (hx:os[k]? =some x) (t:BB):D5 w ls a p can (os.take (k+1)) t=(D5 w ls a p can (os.take k) t).bind (JP w ls a p can x):=by
 rw[AN hx,Od];congr 1;funext u;simp only[D5];cases JP w ls a p can x u<;>rfl
def Zr {w:AF} {ls:List Fact} {a:Int} {p:List Int} {can:Int->Bool} {os:List Int} (k:Nat) {t:BB} (h:D5 w ls a p can (os.take k) t=none):D5 w ls a p can os t=none:=by
 rw[<-List.take_append_drop k os,Od,h];rfl
def Fl {n:Nat} {ls:List Fact} {a:Int} {p:List Int} {s:Int} (h:s∈BR n ls a p):0<=s/\s<n:=by
 have:=(Ik.1 h).1;simp only[BS,Il,List.mem_range]at this;obtain⟨m,hm,rfl⟩:=this;exact⟨Int.natCast_nonneg m,by simpa using hm⟩
def MV (w:AF) (ls:List Fact):Prop:= ∀l∈ls,(Ad l).1.op=2->0<=(Ad l).1.cls/\(Ad l).1.cls<3+w.parents.length
def TY (w : AF) (ls:List Fact) (a:Int) (p:List Int) (c:Bool) (can:Int->Bool) (hokL: ∀l∈ls,E3 l) (hln:ls.length<=1000000) (hp:p.length<50) (hw:JN w) (hcl:MV w ls) (hcan: ∀s∈BR w.owner.length ls a p,Pure zP 351 [.a (FH w ls a (p++[s]) c)] (.b (can s))) :
    Pure zP 365 [.a (FH w ls a p c)] (AAL (LY w ls a p can)):=by
 refine Pure.fit (by kernel_rfl) fun hf=>?_
 have⟨h1,h2,h3,h4⟩:=GB hf.1;have hM:=Mx;have hwl:=hw.len;have hwo:=hw.olen;refine vj kZ ?_;have hs:=Sn;have hfl:=Ou (Fv a p) ls;have hok: ∀l∈ls.filter (Fv a p),E3 l:=fun l hl=>hokL l (Ik.1 hl).1
 have hcl2:MV w (ls.filter (Fv a p)):=fun l hl=>hcl l (Ik.1 hl).1
 have hfl2:(BR w.owner.length ls a p).length<=w.owner.length:=by
  have:=Ou (fun s=>ls.any (Yd a p s)) (BS w.owner.length);rw[DQ]at this;exact this
 refine zv ?_;(repeat clear U K);repeat intro K U
 rw[show IntKind.i64.wrap (3+((EN w.parents).length:Nat))=((3+w.parents.length:Nat):Int) by rw[B9,wrap64 (by omega) (by omega)];omega];refine hMk hs (by omega) fun v1 Z hs hv=>?_
 obtain⟨id1,rfl⟩:=hv;refine zv ?_;(repeat clear U K);repeat intro K U
 rw[show IntKind.i64.wrap (3+((EN w.parents).length:Nat))=((3+w.parents.length:Nat):Int) by rw[B9,wrap64 (by omega) (by omega)];omega];refine hMk hs (by omega) fun v2 Z hs hv=>?_
 obtain⟨id2,rfl⟩:=hv
 conv=>whnf
 repeat'((first|clear U K|apply st|(apply zk;intro K U)|refine zX ?_|refine Pure.use (aL _ _ _ _ _ hokL hln) ?_|fail)<;>conv=>whnf)
 generalize hos:ls.filter (Fv a p)=os at *;have hV:LY w ls a p can=((EP os (tO w)).bind (D5 w ls a p can (BR w.owner.length ls a p))).bind (V9 w):=by rw[LY,hos]
 refine B1 os.length (fun k (_:BB)=>[(34,eI (A4 k))]) (fun k t=>[.own (.sl id1 (3+w.parents.length) (3+w.parents.length)) 1 (bL t.1),.own (.sl id2 (3+w.parents.length) (3+w.parents.length)) 1 (bL t.2)]) (fun k t=>EP (os.take k) (tO w)=some t/\t.1.length=3+w.parents.length/\t.2.length=3+w.parents.length) (tO w) rfl ⟨rfl,by simp[tO],by simp[tO]⟩ (by simpa[tO,bL]using hs) ?_;clear hs;rintro k ⟨BM,no⟩ Z hk ⟨hno,hl1,hl2⟩ hs;simp only at hl1 hl2;dsimp only at hs
 conv=>whnf
 repeat'((first|clear U K|apply st|(apply zk;intro K U)|refine zX ?_|refine zr fun Z hs=>?_|(refine fc (fun x hx hlt hc=>?_) (fun hk hc=>?_)<;>(try rw[hc])<;>clear hc)|refine Pure.use (Gw _ (hok _ (Bp (by assumption)))) ?_|refine Pure.use (Qw _ _ _ _ _ hokL (by omega)) ?_|refine za (fun hc=>?_) fun hc=>?_|refine zp fun nn hnn Z hs=>?_|fail)<;>conv=>whnf)
 all_goals try
  (have hcx:=hcl2 _ (Bp hx) (by assumption)
   conv=>whnf
   repeat'((first|clear U K|apply st|(apply zk;intro K U)|refine zX ?_|refine zr fun Z hs=>?_|fail)<;>conv=>whnf)
  )
 all_goals first
  | (refine AH ?_
     have:EP os (tO w)=none:=Zs (k+1) (by rw[JD hx,hno];simp[Gm, *]);rw[hV,this]
     rfl)
  | exact⟨hlt,(BM,no),rfl,⟨by rw[JD hx,hno];simp[Gm, *],hl1,hl2⟩,hs.take 2⟩
  | exact⟨hlt,(BM.set (Ad x).1.cls.toNat true,no),rfl,⟨by rw[JD hx,hno];simp[Gm, *],by simpa using hl1,hl2⟩,hs.take 2⟩
  | exact⟨hlt,(BM,no.set (Ad x).1.cls.toNat true),rfl,⟨by rw[JD hx,hno];simp[Gm, *],hl1,by simpa using hl2⟩,hs.take 2⟩
  | skip
 rw[Aq (by assumption)]at hno;have hV2:LY w ls a p can=(D5 w ls a p can (BR w.owner.length ls a p) (BM,no)).bind (V9 w):=by rw[hV,hno];rfl
 clear hno;generalize hsl:BR w.owner.length ls a p=sl at *;have hsi: ∀s∈sl,0<=s/\s<w.owner.length:=fun s h=>Fl (by rw[hsl];exact h)
 refine B1 sl.length (fun k (_:BB)=>[(73,eI (A4 k))]) (fun k t=>[.own (.sl id1 (3+w.parents.length) (3+w.parents.length)) 1 (bL t.1),.own (.sl id2 (3+w.parents.length) (3+w.parents.length)) 1 (bL t.2)]) (fun k t=>D5 w ls a p can (sl.take k) (BM,no)=some t/\t.1.length=3+w.parents.length/\t.2.length=3+w.parents.length) (BM,no) rfl ⟨rfl,hl1,hl2⟩ hs ?_;clear hs hl1 hl2;rintro k ⟨m1,n1⟩ Z hk ⟨hno,hl1,hl2⟩ hs;simp only at hl1 hl2;dsimp only at hs;rcases A8 sl hk with⟨x,hx,hlt⟩|hke
 .have hxm:=Bp hx
  obtain⟨hx0,hx1⟩:=hsi x hxm
  have hox:w.owner[x.toNat]? =some (Bl w x):=by
   rw[Bl,C6,Cs (by omega)];rfl
  have ho:=hw.own _ (Bp hox);have hcx:=hcan x hxm;have hbx:=VZ w ls a (p++[x]) c hokL;cases hB:DF ls a (p++[x])<;>cases hC:can x<;>rw[hB]at hbx<;>rw[hC]at hcx
  .conv=>whnf
   repeat'((first|clear U K|apply st|(apply zk;intro K U)|refine zX ?_|refine rk ?_ ?_|exact fun s e=>by cases e;rfl|refine zr fun Z hs=>?_|refine Pure.use (Ix _ _ _ _ _ _ (by omega)) ?_|refine Pure.use (by assumption) ?_|refine zp fun nn hnn Z hs=>?_|fail)<;>conv=>whnf)
   refine AH ?_;have:D5 w ls a p can sl (BM,no)=none:=Zr (k+1) (by rw[JC hx,hno];simp[JP, *]);rw[hV2,this];rfl
  .conv=>whnf
   repeat'((first|clear U K|apply st|(apply zk;intro K U)|refine zX ?_|refine rk ?_ ?_|exact fun s e=>by cases e;rfl|refine zr fun Z hs=>?_|refine Pure.use (Ix _ _ _ _ _ _ (by omega)) ?_|refine Pure.use (by assumption) ?_|refine zp fun nn hnn Z hs=>?_|fail)<;>conv=>whnf)
   exact⟨hlt,(m1.set (Bl w x).toNat true,n1),rfl,⟨by rw[JC hx,hno];simp[JP, *],by simpa using hl1,hl2⟩,hs.take 2⟩
  .conv=>whnf
   repeat'((first|clear U K|apply st|(apply zk;intro K U)|refine zX ?_|refine rk ?_ ?_|exact fun s e=>by cases e;rfl|refine zr fun Z hs=>?_|refine Pure.use (Ix _ _ _ _ _ _ (by omega)) ?_|refine Pure.use (by assumption) ?_|refine zp fun nn hnn Z hs=>?_|fail)<;>conv=>whnf)
   exact⟨hlt,(m1,n1.set (Bl w x).toNat true),rfl,⟨by rw[JC hx,hno];simp[JP, *],hl1,by simpa using hl2⟩,hs.take 2⟩
  .conv=>whnf
   repeat'((first|clear U K|apply st|(apply zk;intro K U)|refine zX ?_|refine rk ?_ ?_|exact fun s e=>by cases e;rfl|refine zr fun Z hs=>?_|refine Pure.use (Ix _ _ _ _ _ _ (by omega)) ?_|refine Pure.use (by assumption) ?_|refine zp fun nn hnn Z hs=>?_|fail)<;>conv=>whnf)
   exact⟨hlt,(m1,n1),rfl,⟨by rw[JC hx,hno];simp[JP, *],hl1,hl2⟩,hs.take 2⟩
 .rw [Aq hke]at hno
  have hV3:LY w ls a p can=V9 w (m1,n1):=by rw[hV2,hno];rfl
  have hrow: ∀l∈w.parents,l.length<=Aa:=(Up (g:=false) (by have:=hf.1;simp only[FH,Hn,Dk]at this;exact this.1)).2
  have hen:LY w ls a p can=if n1.getD 0 false then none else
   if(List.range (3+w.parents.length)).any (fun c=>(CE w.parents (3+w.parents.length) w.parents.length (m1.set 0 false)).getD c false&&n1.getD c false)then none else some (CE w.parents (3+w.parents.length) w.parents.length (m1.set 0 false)):=hV3.trans rfl
  clear hcan hcl hV hV2 hV3 hno hos hsl hcl2 hok;obtain⟨n0,hn0⟩: ∃b,n1[0]? =some b:=⟨_,Cs (by omega)⟩
  have hn0':n1[Int.toNat 0]? =some n0:=hn0;have hng:n1.getD 0 false=n0:=by rw[C6,hn0];rfl
  rw[hng]at hen;cases n0
  .generalize hms:m1.set 0 false=ms at *
   have hl3:ms.length=3+w.parents.length:=by rw[<-hms,List.length_set];exact hl1
   conv=>whnf
   repeat'((first|clear U K|apply st|(apply zk;intro K U)|refine zX ?_|refine zr fun Z hs=>?_|fail)<;>conv=>whnf)
   replace hs:Sat Z [.own (.sl id1 (3+w.parents.length) (3+w.parents.length)) 1 (bL ms),.own (.sl id2 (3+w.parents.length) (3+w.parents.length)) 1 (bL n1)]:=by rw[<-hms];exact hs
   rw[show IntKind.i64.wrap (((bL (m1.set (Int.toNat 0) false)).length:Nat) - 1)=((2+w.parents.length:Nat):Int) by rw[B9,List.length_set,hl1,wrap64 (by omega) (by omega)];omega];refine B1 w.parents.length (fun k (_:Unit)=>[(15,eI (PW ((2+w.parents.length:Nat):Int) k))]) (fun k _=>[.own (.sl id1 (3+w.parents.length) (3+w.parents.length)) 1 (bL (CE w.parents (3+w.parents.length) k ms)),.own (.sl id2 (3+w.parents.length) (3+w.parents.length)) 1 (bL n1)]) (fun k _=>True) () rfl trivial hs ?_;clear hs;rintro k - Z hk - hs;have hd:PW ((2+w.parents.length:Nat):Int) k=((2+w.parents.length:Nat):Int) - k:=VW (by omega) (by omega);have hcl:=Ey w.parents (3+w.parents.length) k ms;rcases Nat.lt_or_ge k w.parents.length with hlt|hge
   .have hpw:w.parents[(IntKind.i64.wrap (PW ((2+w.parents.length:Nat):Int) k - 3)).toNat]? =some (par w.parents (3+w.parents.length - 1 - k)):=by
     rw[hd,wrap64 (by omega) (by omega),show(((2+w.parents.length:Nat):Int) - k - 3).toNat=(3+w.parents.length - 1 - k) - 3 by omega];exact iy (by omega) (by omega)
    have hwi:0<=IntKind.i64.wrap (PW ((2+w.parents.length:Nat):Int) k - 3):=by rw[hd,wrap64 (by omega) (by omega)];omega
    have hpl:=hrow _ (Bp hpw);have hpr:=fun q=>hw.ord (3+w.parents.length - 1 - k) q
    generalize hpe:par w.parents (3+w.parents.length - 1 - k)=pr at *;generalize hce:CE w.parents (3+w.parents.length) k ms=ce at *;have hcs:CE w.parents (3+w.parents.length) (k+1) ms=if ce.getD (3+w.parents.length - 1 - k) false then pr.foldl (fun b q=>b.set q.toNat true) ce else ce:=by rw[CE,Ie,hce,hpe]
    conv=>whnf
    repeat'((first|clear U K|apply st|(apply zk;intro K U)|refine zX ?_|refine ze fun x hx=>?_|(refine zb (fun hc=>?_) (fun hc=>?_)<;>try exact⟨⟩)|fail)<;>conv=>whnf)
    .rw[show(PW ((2+w.parents.length:Nat):Int) k).toNat=3+w.parents.length - 1 - k by rw[hd];omega]at hx
     rw[C6,hx,hc]at hcs;simp only[Option.getD_some,if_true]at hcs;refine B1 pr.length (fun j (_:Unit)=>[(135,eI (A4 j))]) (fun j _=>[.own (.sl id1 (3+w.parents.length) (3+w.parents.length)) 1 (bL ((pr.take j).foldl (fun b q=>b.set q.toNat true) ce)),.own (.sl id2 (3+w.parents.length) (3+w.parents.length)) 1 (bL n1)]) (fun _ _=>True) () rfl trivial hs ?_;clear hs hx;rintro j - Z hj - hs;have hfl:=Hu (pr.take j) ce;rcases A8 pr hj with⟨q,hq,hjlt⟩|hje
     .have hqr:=hpr q (Bp hq)
      conv=>whnf
      repeat'((first|clear U K|apply st|(apply zk;intro K U)|refine zX ?_|refine zr fun Z hs=>?_|fail)<;>conv=>whnf)
      exact⟨hjlt,(),rfl,trivial,by rw[AN hq,List.foldl_append];exact hs⟩
     .refine zv ?_;(repeat clear U K);repeat intro K U
      rw[Aq hje]at hs;exact⟨hlt,(),rfl,trivial,by rw[hcs];exact hs⟩
    .rw[show(PW ((2+w.parents.length:Nat):Int) k).toNat=3+w.parents.length - 1 - k by rw[hd];omega]at hx
     rw[C6,hx,hc]at hcs;simp only[Option.getD_some,ME,if_false]at hcs;exact⟨hlt,(),rfl,trivial,by rw[hcs];exact hs⟩
   .have hke2:k=w.parents.length:=by omega
    rw[hke2]at hs hcl;generalize hme:CE w.parents (3+w.parents.length) w.parents.length ms=me at *
    conv=>whnf
    repeat'((first|clear U K|apply st|(apply zk;intro K U)|refine zX ?_|(refine zb (fun hc=>?_) (fun hc=>?_)<;>try exact⟨⟩)|fail)<;>conv=>whnf)
    refine B1 me.length (fun j (_:Unit)=>[(145,eI (A4 j))]) (fun _ _=>[.own (.sl id1 (3+w.parents.length) (3+w.parents.length)) 1 (bL me),.own (.sl id2 (3+w.parents.length) (3+w.parents.length)) 1 (bL n1)]) (fun j _=>LY w ls a p can=if((List.range (3+w.parents.length)).drop j).any (fun c=>me.getD c false&&n1.getD c false)then none else some me) () rfl hen hs ?_;clear hs hen;rintro j - Z hj hn hs;rcases A8 me hj with⟨x,hx,hjlt⟩|hje
    .obtain⟨y,hy⟩: ∃y,n1[j]? =some y:=⟨_,Cs (by omega)⟩
     have hrg:(List.range (3+w.parents.length))[j]? =some j:=by rw[List.getElem?_range (by omega)]
     rw[drop_cons hrg,Pj,C6,C6,hx,hy]at hn;cases x<;>cases y<;>simp only[Option.getD_some,Bool.and_true,Bool.and_false,Bool.false_or,Bool.true_or,if_true]at hn
     .refine zv ?_;(repeat clear U K);repeat intro K U
      exact⟨hjlt,(),rfl,hn,hs⟩
     .refine zv ?_;(repeat clear U K);repeat intro K U
      exact⟨hjlt,(),rfl,hn,hs⟩
     .refine zv ?_;(repeat clear U K);repeat intro K U
      exact⟨hjlt,(),rfl,hn,hs⟩
     .refine zv ?_;(repeat clear U K);repeat intro K U
      exact AH (by rw[hn];rfl)
    .rw[List.drop_of_length_le (by rw[List.length_range];omega)]at hn
     simp only[List.any_nil,ME,if_false]at hn;refine zv ?_;(repeat clear U K);repeat intro K U
     rw[hn];exact A7 (.t (.cons (hs.GG 0 rfl) (.cons (.refl _) .nil)))
  .conv=>whnf
   repeat'((first|clear U K|apply st|(apply zk;intro K U)|refine zX ?_|refine zr fun Z hs=>?_|fail)<;>conv=>whnf)
   exact AH (by rw[hen];rfl)
def MO (w:AF) (ls:List Fact) (a:Int):Nat->List Int->Bool
 | 0,p=>((GI ls a p).isSome&&Da w.owner.length ls a p)||(E0 w.owner.length ls a p||(LY w ls a p fun _=>false).isSome)
 | d+1,p=>((GI ls a p).isSome&&Da w.owner.length ls a p)||(E0 w.owner.length ls a p||(LY w ls a p fun s=>MO w ls a d (p++[s])).isSome)
def N1 (ls:List Fact) (n:Nat):Prop:= ∀l∈ls,(Ad l).1.path.length<=n
def IV {n m:Nat} {ls:List Fact} {a:Int} {p:List Int} (h:N1 ls m) (hp:m<=p.length):BR n ls a p= []:=by
 rw[BR,List.filter_eq_nil_iff];intro s _ hs;rw[Ij]at hs;obtain⟨l,hl,hg⟩:=hs;have:=h l hl;simp only[Yd,Bd,A9,Cp,Nl,List.length_singleton]at hg;omega
def P1 {n:Nat} {ls:List Fact} {a:Int} {p:List Int}:dN n ls a p= .t [eI ((GI ls a p).getD 0),.b ((GI ls a p).isSome&&Da n ls a p)]:=by
 unfold dN;cases GI ls a p<;>rfl
def bR (o:Option (List Bool)):AAL o= .t [.l (bL (o.getD [])) o.isNone,.b o.isSome]:=by
 cases o<;>rfl
def zG (w:AF) (ls:List Fact) (a:Int) (hokL: ∀l∈ls,E3 l) (hln:ls.length<=1000000) (hw:JN w) (hcl:MV w ls) (hsm:Hf ls) (hsh:N1 ls 2): ∀(d:Nat) (p:List Int),p.length+d=2->Pure zP 351 [.a (FH w ls a p false)] (.b (MO w ls a d p)):=by
 intro d
 induction d with
 | zero=>
   intro p hp;have hI:=JB w ls a p false hokL hln (by omega) hsm;rw[P1]at hI;have hN:=Px w ls a p false hokL hln (by omega);have hO:=TY w ls a p false (fun _=>false) hokL hln (by omega) hw hcl (by rw[IV hsh (by omega)];intro s hs;cases hs);rw[bR]at hO;refine OD kZ ?_;have hs:=Sn;rw[MO];cases hA:(GI ls a p).isSome&&Da w.owner.length ls a p<;>cases hB:E0 w.owner.length ls a p<;>rw[hA]at hI<;>rw[hB]at hN
   all_goals
    conv=>whnf
    repeat'((first|clear U K|apply st|(apply zk;intro K U)|refine zX ?_|refine hI.use ?_|refine hN.use ?_|refine hO.use ?_|fail)<;>conv=>whnf)
   all_goals exact AH (by simp)
 | succ d ih=>
   intro p hp;have hI:=JB w ls a p false hokL hln (by omega) hsm;rw[P1]at hI;have hN:=Px w ls a p false hokL hln (by omega);have hO:=TY w ls a p false (fun s=>MO w ls a d (p++[s])) hokL hln (by omega) hw hcl (fun s hs=>ih (p++[s]) (by simp;omega));rw[bR]at hO;refine OD kZ ?_;have hs:=Sn;rw[MO];cases hA:(GI ls a p).isSome&&Da w.owner.length ls a p<;>cases hB:E0 w.owner.length ls a p<;>rw[hA]at hI<;>rw[hB]at hN
   all_goals
    conv=>whnf
    repeat'((first|clear U K|apply st|(apply zk;intro K U)|refine zX ?_|refine hI.use ?_|refine hN.use ?_|refine hO.use ?_|fail)<;>conv=>whnf)
   all_goals exact AH (by simp)
def FW (w:AF) (ls:List Fact):Bool:=(BS 3).all fun a=>MO w ls a 2 []
def O9 (w:AF) (ls:List Fact) (hokL: ∀l∈ls,E3 l) (hln:ls.length<=1000000) (hw:JN w) (hcl:MV w ls) (hsm:Hf ls) (hsh:N1 ls 2):Pure zP 321 [.a (Az w),.l (facts ls) false] (.b (FW w ls)):=by
 have hM:=Mx;refine wV kZ ?_;have hs:=Sn;refine zv ?_;(repeat clear U K);repeat intro K U
 refine B1 3 (fun k (_:Unit)=>[(5,eI (A4 k))]) (fun _ _=>[]) (fun k _=>FW w ls=((BS 3).drop k).all fun a=>MO w ls a 2 []) () rfl rfl hs ?_;clear hs;rintro k - Z hk hn hs;have hck:A4 k=k:=Ag (by omega);rcases Nat.lt_or_ge k 3 with hlt|hge
 .have hrk:(BS 3)[k]? =some (A4 k):=by
   rw[hck];rcases k with _|_|_|k
   .rfl
   .rfl
   .rfl
   .omega
  rw[drop_cons hrk,K5]at hn
  conv=>whnf
  repeat'((first|clear U K|apply st|(apply zk;intro K U)|refine zX ?_|refine zr fun Z hs=>?_|refine Pure.MI (zG w ls (A4 k) hokL hln hw hcl hsm hsh 2 [] rfl) (.cons (.a (.cons (.refl _) (.cons (.refl _) (.cons (.refl _) (.cons (.refl _) (.cons FK (.cons (.refl _) .nil))))))) .nil) rfl ?_|(refine zb (fun hc=>?_) (fun hc=>?_)<;>try exact⟨⟩)|refine zp fun nn hnn Z hs=>?_|fail)<;>conv=>whnf)
  .exact AH (by rw[hn,hck,hc];rfl)
  .exact⟨hlt,(),rfl,by rw[hn,hck,hc];rfl,hs.take 0⟩
 .rw[List.drop_of_length_le (by rw[DQ];omega)]at hn
  conv=>whnf
  repeat'((first|clear U K|apply st|(apply zk;intro K U)|refine zX ?_|(refine zb (fun hc=>?_) (fun hc=>?_)<;>try exact⟨⟩)|fail)<;>conv=>whnf)
  exact AH (by rw[hn];rfl)
def P3 {b:Nat} {Z:AE} {l:List At} (h:Sat Z l) (i j:Nat) {v u:V} {sz:Nat} {es ys:List (List V)} {K:V->AE->Prop} (hi:l[i]? =some (.own v sz es)) (hj:l[j]? =some (.own u sz ys)) (hl:es.length+ys.length<=Aa/\(es.length+ys.length)*b<=140737488355328) (hys: ∀e∈ys,e.length=sz) (ho: ∀e∈ys,∀v∈e,CR v=true)
    (hk: ∀v' Z',Sat Z' (l.set i (.own v' sz (es++ys)))->K v' Z'):AK b Z sz v u K:=by
 have hA:AK b Z sz v (.l ys true) K:=hAppend h i hi hl hys ho hk;rcases h.get hj with⟨rfl,hel⟩|⟨n,cap,rfl,hn⟩
 .exact hA
 .unfold AK at hA ⊢
  simp only[rowsOf]at hA ⊢;rw[hn];refine⟨rfl,Hz _,?_⟩;rw[List.take_length];exact hA.2
def Ca (a:List Fact):List Fact->List Fact
 | []=>a
 | x::r=>Ca (if a.any (F5 x)then a else a++[x]) r
def R0 (a:List Fact): ∀(b:List Fact) (x:Fact),Ca a (b++[x])=if(Ca a b).any (F5 x)then Ca a b else Ca a b++[x]:=by
 intro b
 induction b generalizing a with
 | nil=>intro x;rfl
 | cons y r ih=>intro x;simp only[List.cons_append,Ca];exact ih _ x
def Oa (a:List Fact): ∀(b:List Fact),(Ca a b).length<=a.length+b.length:=by
 intro b
 induction b generalizing a with
 | nil=>simp[Ca]
 | cons y r ih=>
   simp only[Ca,LF];refine Nat.le_trans (ih _) ?_;split
   .omega
   .simp;omega
def Th (a:List Fact): ∀(b:List Fact) (x:Fact),x∈Ca a b->x∈a\/x∈b:=by
 intro b
 induction b generalizing a with
 | nil=>intro x hx;exact .inl hx
 | cons y r ih=>
   intro x hx;simp only[Ca]at hx;rcases ih _ x hx with h|h
   .split at h
    .exact .inl h
    .rcases Dy.1 h with h|h
     .exact .inl h
     .rw[KV.1 h];exact .inr (.head _)
   .exact .inr (.tail _ h)
def eR (a b:List Fact) (f g:Bool) (hl:a.length+b.length<1000000):Pure zP 335 [.l (facts a) f,.l (facts b) g] (.l (facts (Ca a b)) false):=by
 have hM:=Mx;refine wJ kZ ?_;have hs:=Sn
 conv=>whnf
 repeat'((first|clear U K|apply st|(apply zk;intro K U)|fail)<;>conv=>whnf)
 replace hs:=D1 hs 6;refine Fe hs 0 (xs:=[]) (ys:=a) rfl (by simp;omega) Is fun v Z hs=>?_
 refine zv ?_;(repeat clear U K);repeat intro K U
 refine B1 b.length (fun k v=>[(5,v),(15,eI (A4 k))]) (fun k v=>[.own v 6 (facts (Ca a (b.take k)))]) (fun _ _=>True) v rfl trivial hs ?_;clear hs;rintro k v Z hk - hs;have hml:=Oa a (b.take k);rw[Jl]at hml;rcases A8 b hk with⟨x,hx,hlt⟩|hke
 .have hsn:=R0 a (b.take k) x
  rw[<-AN hx]at hsn;generalize Ca a (b.take k)=m at *
  conv=>whnf
  repeat'((first|clear U K|apply st|(apply zk;intro K U)|refine zX ?_|refine zr fun Z hs=>?_|refine zp fun nn hnn Z hs=>?_|fail)<;>conv=>whnf)
  refine B1 m.length (fun j t=>[(8,.b t),(21,eI (A4 j))]) (fun j t=>[.own v 6 (facts m),.obj nn (.cs (xF x))]) (fun j t=>t=(m.take j).any (F5 x)) false rfl (by simp) hs ?_;clear hs;rintro j t Z hj ht hs;rcases A8 m hj with⟨y,hy,hjlt⟩|hje
  .cases t
   .conv=>whnf
    repeat'((first|clear U K|apply st|(apply zk;intro K U)|refine zX ?_|refine zr fun Z hs=>?_|refine Pure.use (ou _ _) ?_|refine zp fun nn hnn Z hs=>?_|fail)<;>conv=>whnf)
    exact⟨hjlt,_,rfl,by rw[AN hy,List.any_append,<-ht];simp,hs.take 2⟩
   .conv=>whnf
    repeat'((first|clear U K|apply st|(apply zk;intro K U)|refine zX ?_|refine zr fun Z hs=>?_|refine zp fun nn hnn Z hs=>?_|fail)<;>conv=>whnf)
    exact⟨hjlt,true,rfl,by rw[AN hy,List.any_append,<-ht];simp,hs.take 2⟩
  .rw[Aq hje]at ht
   subst ht
   conv=>whnf
   repeat'((first|clear U K|apply st|(apply zk;intro K U)|refine zX ?_|refine apF fun v Z hs hsl=>?_|refine za (fun hc=>?_) fun hc=>?_|fail)<;>conv=>whnf)
   .rw[hc]at hsn
    exact⟨hlt,_,rfl,trivial,by rw[hsn];exact hs.take 1⟩
   .rw[hc]at hsn
    exact⟨hlt,_,rfl,trivial,by rw[hsn];exact hs.take 1⟩
 .refine zv ?_;(repeat clear U K);repeat intro K U
  exact Eg hs 0 rfl (by rw[Aq hke])
abbrev nU (ls:List (List Fact)):List (List V):=ls.map fun l=>[.l (facts l) false]
def DX (A B:List (List Fact)):List (List Fact):=A.flatMap fun x=>B.map fun y=>Ca x y
def Es (f:Fact) (l:List (Bool->List (List Fact))) (c:Bool):List (List Fact):=
 if f.op=1 then(if c then []else [[]])else
 if f.op=5 then(l.getD 0 (fun _=>[])) (!c)else
 if f.op=6\/f.op=7 then(if c != (f.op==7)then l.getD 0 (fun _=>[]) c++l.getD 1 (fun _=>[]) c else DX (l.getD 0 (fun _=>[]) c) (l.getD 1 (fun _=>[]) c))else
 if c then [[EZ f]]else [[f]]
def BE (f:Fact):Bool->List (List Fact):=f.H6 Es
def E5 (f:Fact) (c:Bool):BE f c=Es f (f.kids.map BE) c:=congrFun (Fact.Dw Es f) c
def Yc (f:Fact) (l:List Nat):Nat:=if f.op=5 then l.getD 0 0 else if f.op=6\/f.op=7 then l.getD 0 0+l.getD 1 0 else 1
def lv (f:Fact):Nat:=f.H6 Yc
def J0 (f:Fact):lv f=Yc f (f.kids.map lv):=Fact.Dw Yc f
def arity (f:Fact):Bool:=f.H6 fun f l=>f.kids.length==Ch f.op&&l.all id
def NL (f:Fact):arity f=(f.kids.length==Ch f.op&&f.kids.all arity):=by
 rw[arity,Fact.Dw,List.all_map];rfl
def Bn {w:AF} (f:Fact):Bb w f=true->arity f=true:=by
 induction f using Fact.ind with
 | h f ih=>
   intro h;rw[CO]at h;simp only[DE,A9,EG]at h;rw[NL,A9,EG];exact⟨h.1.2.1,fun k hk=>ih k hk (h.2 k hk)⟩
def FN {f:Fact} (h:arity f=true) (h5:f.op=5): ∃a,f.kids= [a]/\arity a=true:=by
 rw[NL,A9,EG,h5]at h;have hl:f.kids.length=1:=by simpa[Ch]using h.1
 obtain⟨a,ha⟩:=List.length_eq_one_iff.1 hl;exact⟨a,ha,h.2 a (by rw[ha];exact .head _)⟩
def FM {f:Fact} (h:arity f=true) (h6:f.op=6\/f.op=7): ∃a b,f.kids= [a,b]/\arity a=true/\arity b=true:=by
 rw[NL,A9,EG]at h
 have hl:f.kids.length=2:=by
  have h5:f.op≠5:=by omega
  simpa[Ch,h5,h6]using h.1
 match hk:f.kids,hl with
 | [a,b],_=>exact⟨a,b,rfl,h.2 a (by rw[hk];exact .head _),h.2 b (by rw[hk];exact .tail _ (.head _))⟩
def jK (f:Fact):arity f=true->1<=lv f:=by
 induction f using Fact.ind with
 | h f ih=>
   intro h;rw[J0,Yc];split
   .rename_i h5
    obtain⟨a,ha,hb⟩:=FN h h5;rw[ha];exact ih a (by rw[ha];exact .head _) hb
   .split
    .rename_i h6
     obtain⟨a,b,ha,hb,_⟩:=FM h h6;rw[ha];have:=ih a (by rw[ha];exact .head _) hb;simp only[FA,List.getD_cons_zero];omega
    .omega
def pB {a b:Nat} (ha:1<=a) (hb:1<=b):2 ^ a+2 ^ b<=2 ^ (a+b):=by
 rw[Nat.pow_add];have h1:2<=2 ^ a:=by simpa using Nat.pow_le_pow_right (show 0<2 by omega) ha
 have h2:2<=2 ^ b:=by simpa using Nat.pow_le_pow_right (show 0<2 by omega) hb
 generalize 2 ^ a=x at *;generalize 2 ^ b=y at *;have:=Nat.mul_le_mul_left (x - 1) (show 1<=y - 1 by omega);obtain⟨x,rfl⟩: ∃u,x=u+1:=⟨x - 1,by omega⟩
 obtain⟨y,rfl⟩: ∃u,y=u+1:=⟨y - 1,by omega⟩
 simp only[Nat.add_sub_cancel,Nat.mul_one]at this;rw[Nat.add_mul,Nat.mul_add];omega
def TV (A B:List (List Fact)):(DX A B).length=A.length*B.length:=by
 induction A with
 | nil=>simp[DX]
 | cons x r ih=>
   simp only[DX,List.flatMap_cons,Nl,B9,LF]at *;rw[ih,Nat.add_mul];omega
def EE (f : Fact):arity f=true-> ∀c,(BE f c).length<=2 ^ lv f/\ ∀l∈BE f c,l.length<=lv f:=by
 induction f using Fact.ind with
 | h f ih=>
   intro h c;rw[E5,J0,Es,Yc];by_cases h1:f.op=1
   .have e5: ¬f.op=5:=by omega
    have e6: ¬(f.op=6\/f.op=7):=by omega
    rw[if_pos h1,if_neg e5,if_neg e6];cases c
    .rw[if_neg (by decide)]
     exact⟨by simp,fun l hl=>by simp at hl;subst hl;simp⟩
    .rw[if_pos rfl]
     exact⟨by simp,fun l hl=>by cases hl⟩
   rw[if_neg h1];by_cases h5:f.op=5
   .obtain⟨a,ha,hb⟩:=FN h h5
    rw[if_pos h5,if_pos h5,ha];exact ih a (by rw[ha];exact .head _) hb (!c)
   rw[if_neg h5,if_neg h5];by_cases h6:f.op=6\/f.op=7
   .obtain⟨a,b,ha,hb1,hb2⟩:=FM h h6
    rw[if_pos h6,if_pos h6,ha];simp only[FA,List.map_nil,List.getD_cons_zero,List.getD_cons_succ];obtain⟨i1,i2⟩:=ih a (by rw[ha];exact .head _) hb1 c;obtain⟨j1,j2⟩:=ih b (by rw[ha];exact .tail _ (.head _)) hb2 c;have p1:=jK a hb1;have p2:=jK b hb2;split
    .refine⟨?_,fun l hl=>?_⟩
     .rw[Nl]
      have:=pB p1 p2;omega
     .rcases Dy.1 hl with hl|hl
      .have:=i2 l hl;omega
      .have:=j2 l hl;omega
    .refine⟨?_,fun l hl=>?_⟩
     .rw[TV,Nat.pow_add]
      exact Nat.mul_le_mul i1 j1
     .simp only[DX,List.mem_flatMap,Il]at hl
      obtain⟨x,hx,y,hy,rfl⟩:=hl;have:=Oa x y;have:=i2 x hx;have:=j2 y hy;omega
   .rw[if_neg h6,if_neg h6]
    cases c
    .exact⟨by simp,fun l hl=>by simp at hl;subst hl;simp⟩
    .exact⟨by simp,fun l hl=>by simp at hl;subst hl;simp⟩
def ud (f:Fact):arity f=true->2*lv f<=Nj f+1:=by
 induction f using Fact.ind with
 | h f ih=>
   intro h;rw[J0,Yc,Ll];by_cases h5:f.op=5
   .obtain⟨a,ha,hb⟩:=FN h h5
    rw[if_pos h5,ha];have:=ih a (by rw[ha];exact .head _) hb;simp only[FA,List.map_nil,List.getD_cons_zero,List.sum_cons,List.sum_nil];omega
   rw[if_neg h5];by_cases h6:f.op=6\/f.op=7
   .obtain⟨a,b,ha,hb1,hb2⟩:=FM h h6
    rw[if_pos h6,ha];have:=ih a (by rw[ha];exact .head _) hb1;have:=ih b (by rw[ha];exact .tail _ (.head _)) hb2;simp only[FA,List.map_nil,List.getD_cons_zero,List.getD_cons_succ,List.sum_cons,List.sum_nil];omega
   .rw[if_neg h6]
    omega
def Mo {Z:AE} {es es':List (List V)} (hs:Sat Z []) (h:Fa Z Z es es') (he: ∀e∈es',e.length=1):Am Z (.l es true) fun r Z'=> ∃post,(∃v,r= .ret v/\post= [.own v 1 es'])/\Sat Z' post:=
 HW (fun _ _ h=>h) (.l (fun _=>rfl) h) ⟨_,⟨_,rfl,rfl⟩,oE hs he⟩
def kH (f : Fact):arity f=true->lv f<=28-> ∀c,BQ zP 300 [.a (xF f),.b c] [] fun r post=> ∃v,r= .ret v/\post= [.own v 1 (nU (BE f c))]:=by
 induction f using Fact.ind with
 | h f ih =>
   intro h hlv c Z hs;refine Au.fit (by kernel_rfl) fun hf=>?_
   have⟨h2,h3,h4⟩:=LL hf.1;have hM:=Mx;refine wx kZ ?_;rw[E5];rw[J0]at hlv;by_cases h5:f.op=5
   .obtain⟨a,ha,hb⟩:=FN h h5
    have ha0:f.kids[Int.toNat 0]? =some a:=by rw[ha];rfl
    have hrec:=ih a (by rw[ha];exact .head _) hb (by simpa[Yc,h5,ha]using hlv) (!c)
    conv=>whnf
    repeat'((first|clear U K|apply st|(apply zk;intro K U)|refine zX ?_|(refine zb (fun hc=>?_) (fun hc=>?_)<;>try exact⟨⟩)|fail)<;>conv=>whnf)
    all_goals try(exfalso;omega)
    refine hrec.use (rest:=[]) hs ?_;clear hs;rintro r post Z ⟨v,rfl,rfl⟩ hs;refine zv ?_;(repeat clear U K);repeat intro K U
    refine As hs (List.Sublist.refl _) (.refl _) fun Z' hs'=>⟨_,⟨_,rfl,?_⟩,hs'⟩
    simp only[Es,h5,ha];rfl
   by_cases h6:f.op=6\/f.op=7
   .obtain ⟨a,b,ha,hb1,hb2⟩:=FM h h6
    have ha0:f.kids[Int.toNat 0]? =some a:=by rw[ha];rfl
    have ha1:f.kids[Int.toNat 1]? =some b:=by rw[ha];rfl
    have hlv2:lv a+lv b<=28:=by simpa[Yc,h5,h6,ha]using hlv
    have hrec:=ih a (by rw[ha];exact .head _) hb1 (by omega) c;have hrec2:=ih b (by rw[ha];exact .tail _ (.head _)) hb2 (by omega) c
    have hcg:Es f (f.kids.map BE) c=if c != (f.op==7)then BE a c++BE b c else DX (BE a c) (BE b c):=by
     have h1: ¬f.op=1:=by omega
     simp only[Es,if_neg h1,if_neg h5,if_pos h6,ha];rfl
    rw[hcg];obtain⟨i1,i2⟩:=EE a hb1 c;obtain⟨j1,j2⟩:=EE b hb2 c
    have hpw:2 ^ lv a*2 ^ lv b<=268435456:=by
     rw[<-Nat.pow_add];exact Nat.pow_le_pow_right (by omega) (show lv a+lv b<=28 from hlv2)
    have hAB:=Nat.le_trans (Nat.mul_le_mul i1 j1) hpw;have q1:1<=2 ^ lv a:=Nat.one_le_two_pow;have q2:1<=2 ^ lv b:=Nat.one_le_two_pow;have q3:2 ^ lv a<=268435456:=Nat.le_trans (Nat.le_mul_of_pos_right _ q2) hpw;have q4:2 ^ lv b<=268435456:=Nat.le_trans (Nat.le_mul_of_pos_left _ q1) hpw;generalize BE a c=LA at *;generalize BE b c=LB at *;have hgB:=DL Mh LB;clear hcg;generalize hres:(if c != (f.op==7)then LA++LB else DX LA LB)=RES;clear ih
    conv=>whnf
    repeat'((first|clear U K|apply st|(apply zk;intro K U)|refine zX ?_|(refine zb (fun hc=>?_) (fun hc=>?_)<;>try exact⟨⟩)|fail)<;>conv=>whnf)
    all_goals try(exfalso;omega)
    all_goals
     refine hrec.use (rest:=[]) hs ?_;clear hs;rintro r post Z ⟨v1,rfl,rfl⟩ hs
     conv=>whnf
     repeat'((first|apply st|refine zX ?_|refine rk ?_ ?_|exact fun s e=>by cases e;rfl|fail)<;>conv=>whnf)
     refine hrec2.use (pre:=[]) (rest:=[_]) hs ?_;clear hs;rintro r post Z ⟨v2,rfl,rfl⟩ hs
     conv=>whnf
     repeat'((first|clear U K|apply st|(apply zk;intro K U)|refine zX ?_|refine za (fun hc=>?_) fun hc=>?_|fail)<;>conv=>whnf)
    all_goals have hct:=hc
    all_goals clear hc
    all_goals first
     | (refine P3 hs 1 0 rfl rfl (by simp only[B9];omega) hgB.1 hgB.2 fun v Z hs=>?_
        refine zv ?_;(repeat clear U K);repeat intro K U
        rw[hct,if_pos rfl]at hres;refine As (hs.less (K6 _ _)) (List.Sublist.refl _) (.refl _) fun Z' hs'=>⟨_,⟨_,rfl,?_⟩,hs'⟩
        rw[<-hres];simp only[nU,SU]
        rfl)
     | (refine B1 LA.length (fun k v=>[(7,v),(52,eI (A4 k))]) (fun k v=>[.own v2 1 (nU LB),.own v1 1 (nU LA),.own v 1 (nU (DX (LA.take k) LB))]) (fun _ _=>True) (.l [] true) rfl trivial (D1 hs 1) ?_
        clear hs;rintro k v Z hk - hs;rcases A8 LA hk with⟨x,hx,hlt⟩|hke
        .have hxl:=i2 x (Bp hx)
         have hpk:DX (LA.take (k+1)) LB=DX (LA.take k) LB++LB.map fun y=>Ca x y:=by
          rw[AN hx];simp[DX]
         have hpl:(DX (LA.take k) LB).length+LB.length<=LA.length*LB.length:=by
          rw[TV,Jl,Nat.min_eq_left hk];have:=Vr LB.length (show k+1<=LA.length from hlt);rw[Nat.add_mul]at this;omega
         generalize DX (LA.take k) LB=pk0 at *;refine zv ?_;(repeat clear U K);repeat intro K U
         refine B1 LB.length (fun j v=>[(7,v),(58,eI (A4 j))]) (fun j v=>[.own v2 1 (nU LB),.own v1 1 (nU LA),.own v 1 (nU (pk0++(LB.take j).map fun y=>Ca x y))]) (fun _ _=>True) v rfl trivial (by simpa using hs) ?_;clear hs;rintro j v Z hj - hs;rcases A8 LB hj with⟨y,hy,hjlt⟩|hje
         .have hyl:=j2 y (Bp hy)
          conv=>whnf
          repeat'((first|clear U K|apply st|(apply zk;intro K U)|refine zX ?_|refine aq fun v Z hs hsl=>?_|refine Pure.use (eR _ _ _ _ (by omega)) ?_|fail)<;>conv=>whnf)
          refine⟨hjlt,_,rfl,trivial,?_⟩;rw[AN hy,SU,<-PR];exact hs
         .refine zv ?_;(repeat clear U K);repeat intro K U
          rw[Aq hje]at hs;exact⟨hlt,_,rfl,trivial,by rw[hpk];exact hs⟩
        .refine zv ?_;(repeat clear U K);repeat intro K U
         rw[Aq hke]at hs;rw[hct,if_neg (by decide)]at hres;rw[<-hres]
         refine As (hs.less ((K6 _ _).trans (K6 _ _))) (List.Sublist.refl _) (.refl _) fun Z' hs'=>⟨_,⟨_,rfl,rfl⟩,hs'⟩)
   .have e1:Es f (f.kids.map BE) c=if f.op=1 then(if c then []else [[]])else if c then [[EZ f]]else [[f]]:=by
     simp only[Es,if_neg h5,if_neg h6]
    rw[e1];clear e1
    conv=>whnf
    repeat'((first|clear U K|apply st|(apply zk;intro K U)|refine zX ?_|refine Pure.use (jF _) ?_|(refine zb (fun hc=>?_) (fun hc=>?_)<;>try exact⟨⟩)|fail)<;>conv=>whnf)
    all_goals try(exfalso;omega)
    .subst hc
     rw[if_pos (by assumption),if_pos rfl];exact Mo hs .nil (fun e h=>by cases h)
    .subst hc
     rw[if_pos (by assumption),if_neg (by decide)];refine Mo hs (.cons (.cons FK .nil) .nil) ?_;intro e he;simp at he;subst he;rfl
    .subst hc
     rw[if_neg (by assumption),if_pos rfl];refine Mo hs (.cons (.cons (.l (fun h=>by cases h) ?_) .nil) .nil) ?_
     .simp only[facts,List.map,Bh]
      exact E6 _
     .intro e he
      simp at he;subst he;rfl
    .subst hc
     rw[if_neg (by assumption),if_neg (by decide)];refine Mo hs (.cons (.cons (.l (fun h=>by cases h) ?_) .nil) .nil) ?_
     .simp only[facts,List.map,Bh]
      exact E6 _
     .intro e he
      simp at he;subst he;rfl
def DV (w:AF) (x:Fact):Prop:= ∃g,Bb w g=true/\CK g=true/\(x=g\/x=EZ g)
def Fy {g:Fact} (h:CK g=true):g.op=2\/g.op=3\/g.op=4:=by
 simp only[CK,E9,C0]at h;omega
def C5 {w : AF} (f:Fact):Bb w f=true-> ∀c,∀l∈BE f c,∀x∈l,DV w x:=by
 induction f using Fact.ind with
 | h f ih=>
   intro h c;have har:=Bn f h;have h':=h;rw[CO,A9,EG]at h';rw[E5,Es];by_cases h1:f.op=1
   .rw[if_pos h1]
    cases c
    .rw[if_neg (by decide)]
     intro l hl x hx;simp at hl;subst hl;cases hx
    .rw[if_pos rfl]
     intro l hl;cases hl
   rw[if_neg h1];by_cases h5:f.op=5
   .obtain⟨a,ha,hb⟩:=FN har h5
    rw[if_pos h5,ha];exact ih a (by rw[ha];exact .head _) (h'.2 a (by rw[ha];exact .head _)) (!c)
   rw[if_neg h5];by_cases h6:f.op=6\/f.op=7
   .obtain⟨a,b,ha,hb1,hb2⟩:=FM har h6
    rw[if_pos h6,ha];have i1:=ih a (by rw[ha];exact .head _) (h'.2 a (by rw[ha];exact .head _)) c;have j1:=ih b (by rw[ha];exact .tail _ (.head _)) (h'.2 b (by rw[ha];exact .tail _ (.head _))) c;simp only[FA,List.map_nil,List.getD_cons_zero,List.getD_cons_succ];split
    .intro l hl
     rcases Dy.1 hl with hl|hl
     .exact i1 l hl
     .exact j1 l hl
    .intro l hl x hx
     simp only[DX,List.mem_flatMap,Il]at hl;obtain⟨y,hy,z,hz,rfl⟩:=hl;rcases Th _ _ _ hx with h|h
     .exact i1 y hy x h
     .exact j1 z hz x h
   .rw [if_neg h6]
    have hlf:CK f=true:=by
     have ho:YX w f=true:=by
      have:=h'.1;simp only[DE,A9]at this;exact this.1
     simp only[CK,E9,C0];unfold YX at ho;split at ho
     .omega
     .split at ho
      .omega
      .simp only[E9,C0]at ho
       omega
    cases c
    .rw[if_neg (by decide)]
     intro l hl x hx;simp at hl;subst hl;simp at hx;subst hx;exact⟨x,h,hlf,.inl rfl⟩
    .rw[if_pos rfl]
     intro l hl x hx;simp at hl;subst hl;simp at hx;subst hx;exact⟨f,h,hlf,.inr rfl⟩
def IN {w:AF} {x:Fact} (h:DV w x):E3 x/\Bb w (Ad x).1=true/\CK (Ad x).1=true:=by
 obtain⟨g,hn,hl,rfl|rfl⟩:=h
 .have:=Fy hl
  have h5: ¬x.op=5:=by omega
  exact⟨fun e=>absurd e h5,by simp only[Ad,if_neg h5];exact⟨hn,hl⟩⟩
 .exact⟨fun _ e=>(by cases e),hn,hl⟩
def IM {w:AF} {l:List Fact} (h: ∀x∈l,DV w x):(∀x∈l,E3 x)/\MV w l/\Hf l/\N1 l 2:=by
 refine⟨fun x hx=>(IN (h x hx)).1,fun x hx h2=>?_,fun x hx=>?_,fun x hx=>?_⟩
 all_goals
  obtain⟨-,hn,hl⟩:=IN (h x hx);have hlo:=Fy hl;generalize (Ad x).1=g at *;rw[CO,A9]at hn;have hn:=hn.1;simp only[DE,A9]at hn;obtain⟨ho,-,-,-,hp,-⟩:=hn
 .unfold YX at ho
  rw[if_pos h2]at ho;simp only[Si,A9,Cp]at ho;exact ho.2
 .unfold YX at ho
  split at ho
  .simp only[A9,C0]at ho
   omega
  .split at ho
   .simp only[A9,Cp]at ho
    omega
   .omega
 .simp only[Fb,A9,Cp]at hp
  omega
def Sg (w:AF) (f:Fact):Bool:=(BE f false).any (FW w)
def zI (w:AF) (f:Fact) (hw:JN w) (hn:Bb w f=true) (hlv:lv f<=28):Pure zP 277 [.a (Az w),.a (xF f)] (.b (Sg w f)):=by
 have hM:=Mx;have har:=Bn f hn;have hcl:=(EE f har false).1;have hp:2 ^ lv f<=2 ^ 28:=Nat.pow_le_pow_right (by omega) hlv;have hlits:=C5 f hn false;refine xO kZ ?_;have hs:=Sn;refine zv ?_;(repeat clear U K);repeat intro K U
 refine(kH f har hlv false).use (rest:=[]) hs ?_;clear hs;rintro r post Z ⟨v,rfl,rfl⟩ hs;have hP:Sg w f=(BE f false).any (FW w):=rfl
 have hlen: ∀x∈BE f false,x.length<=1000000:=fun x hx=>by
  have:=(EE f har false).2 x hx;omega
 generalize BE f false=cs at *;refine zv ?_;(repeat clear U K);repeat intro K U
 refine B1 cs.length (fun k (_:Unit)=>[(10,eI (A4 k))]) (fun _ _=>[.own v 1 (nU cs)]) (fun k _=>Sg w f=(cs.drop k).any (FW w)) () rfl hP hs ?_;clear hs hP;rintro k - Z hk hP hs;rcases A8 cs hk with⟨x,hx,hlt⟩|hke
 .obtain⟨q1,q2,q3,q4⟩:=IM (hlits x (Bp hx))
  have htog:=O9 w x q1 (hlen x (Bp hx)) hw q2 q3 q4;rw[drop_cons hx,Pj]at hP;cases ht:FW w x<;>rw[ht]at htog hP
  .conv=>whnf
   repeat'((first|clear U K|apply st|(apply zk;intro K U)|refine zX ?_|refine zC ?_|fail)<;>conv=>whnf)
   exact⟨hlt,(),rfl,hP,hs⟩
  .conv=>whnf
   repeat'((first|clear U K|apply st|(apply zk;intro K U)|refine zX ?_|refine zC ?_|fail)<;>conv=>whnf)
   exact AH (by rw[hP];rfl)
 .refine zv ?_;(repeat clear U K);repeat intro K U
  exact AH (by rw[hP,Ai hke];rfl)
def UW (w:AF) (a b:Fact):Bool:= !Sg w (Pb a (EZ b))
def jM (a b:Fact):lv (Pb a (EZ b))=lv a+lv b:=by
 rw[J0];simp only[Yc,Pb,Fact.op,Fact.kids,FA,List.map_nil,List.getD_cons_zero,List.getD_cons_succ];rw[J0 (EZ b)];simp[Yc,EZ,Fact.op,Fact.kids]
def Q2 {w:AF} {a b:Fact} (ha:Bb w a=true) (hb:Bb w b=true):Bb w (Pb a (EZ b))=true:=by
 have hnb:Bb w (EZ b)=true:=by
  rw[CO];simp[EZ,DE,YX,Fact.op,Fact.kids,Fact.arg,Fact.path,Fact.cls,Fact.n,Ch,Fb,CK,hb]
 rw[CO];simp[Pb,DE,YX,Fact.op,Fact.kids,Fact.arg,Fact.path,Fact.cls,Fact.n,Ch,Fb,CK,ha,hnb]
def eo (w:AF) (a b:Fact) (hw:JN w) (ha:Bb w a=true) (hb:Bb w b=true) (la:lv a<=12) (lb:lv b<=12):Pure zP 204 [.a (Az w),.a (xF a),.a (xF b)] (.b (UW w a b)):=by
 refine yG kZ ?_;have hs:=Sn
 conv=>whnf
 repeat'((first|clear U K|apply st|(apply zk;intro K U)|refine zX ?_|refine rk ?_ ?_|exact fun s e=>by cases e;rfl|refine Pure.use (jF _) ?_|refine Pure.use (zM _ _) ?_|refine Pure.use (zI _ _ hw (Q2 ha hb) (by rw[jM];omega)) ?_|fail)<;>conv=>whnf)
 all_goals exact AH rfl
def W9 {p:Prog}: ∀ {ms:List Nx} {s:List Int},(runM p ms s).isSome=true-> ∀m∈ms,QF p m=true
 | [],_,_,_,h=>by cases h
 | m ::r,s,h,x,hx=>by
   rw[runM]at h;split at h
   .rename_i hok
    split at h
    .cases h
    .rcases GM.1 hx with rfl|hx
     .exact hok
     .exact W9 h x hx
   .cases h
def Gg {p:Prog} (h:(BX p).isSome=true):DD p=true/\ ∀m∈p.methods,QF p m=true:=by
 unfold BX at h;split at h
 .rename_i hh
  refine⟨hh,?_⟩;split at h
  .cases h
  .rename_i s hs
   exact W9 (by rw[hs];rfl)
 .cases h
structure ES (p:Prog):Prop where
 zj:JN (AL p)
 AG:Bt p.AP<=Aa
 sD:p.AP.length<=1000
 facts: ∀m∈p.methods,Bb (AL p) m.fact=true/\lv m.fact<=12
 many:p.methods.length<=16
def look_ok {p:Prog} (h:(BX p).isSome=true):ES p:=by
 obtain⟨hh,hm⟩:=Gg h;simp only[DD,A9,Cp]at hh;have hc:=hh.1;simp only[BC,A9,Cp]at hc;have hM:=Mx;refine⟨RZ hc.1 hc.2.1 hc.2.2.2.1,by have:=(Fm _ _ hc.2.1).1;omega,by have:=hc.1;omega,fun m h=>?_,hh.2.2.1⟩;have:=hm m h;simp only[QF,DM,A9,Cp]at this;have hn:=this.2.2.2.2.1.2.2;refine⟨hn,?_⟩;have hcn:=Ly m.fact 24 (by omega) this.2.2.2.2.1.1;have:=ud m.fact (Bn _ hn);omega
def BN (p:Prog) (m:Int):Bool:=decide (0<=m)&&decide (m<(p.methods.length:Int))
def Be (p:Prog) (m:Int):Nx:=p.methods.getD m.toNat default
def CH {p:Prog} {m:Int} (h:BN p m=true):p.methods[m.toNat]? =some (Be p m):=by
 simp only[BN,A9,Cp]at h;rw[Be,C6,Cs (by omega)];rfl
def Dr (p:Prog) (m n:Int):Bool:=(Be p m).gen==(Be p n).gen&&(Be p m).kind==(Be p n).kind
def Gk (p:Prog) (m n:Int):Bool:=UW (AL p) (Be p m).fact (Be p n).fact
def Ax (p:Prog) (m n:Int):Bool:=Gk p m n&& !Gk p n m
def rN (p:Prog) (m n:Int) (hm:BN p m=true) (hn:BN p n=true):Pure zP 203 [.a (BG p),eI m,eI n] (.b (Dr p m n)):=by
 refine Pure.fit (by kernel_rfl) fun hf=>?_
 have⟨p1,p2,p3,p4⟩:=Gn hf.1;have hxm:=CH hm;have hxn:=CH hn;simp only[BN,A9,Cp]at hm hn;refine yH kZ ?_;have hs:=Sn
 conv=>whnf
 repeat'((first|clear U K|apply st|(apply zk;intro K U)|refine zX ?_|refine za (fun hc=>?_) fun hc=>?_|fail)<;>conv=>whnf)
 all_goals exact AH (by simp[Dr, *])
def Uq {xs:List Int} {f:Bool} (h:FX (.l (iL xs) f)):xs.length<=Aa:=MS h
def lr:Pure zP 283 [.b true] (.t []):=by
 refine jj kZ ?_;have hs:=Sn;exact zW
abbrev EA:V:= .FV 377 (.a [])
def tS (xs:List Int) (x:Int):Int:=(Bv (fun y (_:Unit)=>(x==y,())) xs 0 ()).1
def NI {α:Type} (f:α->Bool): ∀(xs:List α) (k:Nat),(decide ((Bv (fun y (_:Unit)=>(f y,())) xs k ()).1≥0))=xs.any f
 | [],_=>rfl
 | y::r,k=>by
   simp only[Bv,Pj];cases f y
   .simpa using NI f r (k+1)
   .simp
def Vo (xs:List Int) (x:Int):xs.any (x== ·)=xs.contains x:=by
 induction xs with
 | nil=>rfl
 | cons y r ih=>rw[Pj,List.contains_cons,ih]
def qB (xs:List Int) (x:Int):decide (tS xs x≥0)=xs.contains x:=by
 rw[<-Vo];exact NI (x== ·) xs 0
def mG (xs:List Int) (f:Bool) (x:Int):Pure zP 96 [.l (iL xs) f,eI x] (eI (tS xs x)):=by
 refine Pure.fit (by kernel_rfl) fun hf=>?_
 have hxl:=Uq hf.1;have hM:=Mx;refine ABB kZ ?_;have hs:=Sn;refine zv ?_;(repeat clear U K);repeat intro K U
 refine B1 xs.length (fun k (_:Unit)=>[(8,eI (A4 k))]) (fun _ _=>[]) (fun k _=>tS xs x=(Bv (fun y (_:Unit)=>(x==y,())) (xs.drop k) k ()).1) () rfl rfl hs ?_;clear hs;rintro k - Z hk hn hs;have hck:A4 k=k:=Ag (by omega);rcases A8 xs hk with⟨y,hy,hlt⟩|hke
 .rw[drop_cons hy,Bv]at hn
  conv=>whnf
  repeat'((first|clear U K|apply st|(apply zk;intro K U)|refine zX ?_|refine za (fun hc=>?_) fun hc=>?_|fail)<;>conv=>whnf)
  .exact AH (by rw[hn,hc,hck];simp)
  .exact⟨hlt,(),rfl,by rw[hn];simp[hc],hs⟩
 .rw[Ai hke,Bv]at hn
  refine zv ?_;(repeat clear U K);repeat intro K U
  exact AH (by rw[hn])
def C3 (xs:List Int) (f:Bool) (x:Int):Pure zP 34 [.l (iL xs) f,eI x] (.b (xs.contains x)):=by
 refine ABT kZ ?_;have hs:=Sn
 conv=>whnf
 repeat'((first|clear U K|apply st|(apply zk;intro K U)|refine zX ?_|refine Pure.use (mG _ _ _) ?_|fail)<;>conv=>whnf)
 all_goals exact AH (by rw[<-qB])
def SL (n:Int):Pure zP 326 [eI n] (.b (UY n)):=by
 refine wR kZ ?_;have hs:=Sn
 conv=>whnf
 repeat'((first|clear U K|apply st|(apply zk;intro K U)|refine zX ?_|refine za (fun hc=>?_) fun hc=>?_|fail)<;>conv=>whnf)
 all_goals exact AH (by simp[UY, *]<;>omega)
def M9 (f:Fact):CK f=(decide (2<=f.op)&&decide (f.op<=4)):=by
 rw[JK];simp only[CK,E9,A9,C0,Cp];omega
def VH (f:Fact):Pure zP 180 [.a (xF f)] (.b (CK f)):=by
 refine yX kZ ?_;have hs:=Sn
 conv=>whnf
 repeat'((first|clear U K|apply st|(apply zk;intro K U)|refine zX ?_|refine za (fun hc=>?_) fun hc=>?_|fail)<;>conv=>whnf)
 all_goals exact AH (by rw[M9];simp[*]<;>omega)
def ae (s c:Nat) (hs0:s<18446744073709551616) (hc:c<64):Pure zP 245 [eU s,eI c] (eU (s|||2 ^ c)):=by
 refine xj kZ ?_;have hs:=Sn
 conv=>whnf
 repeat'((first|clear U K|apply st|(apply zk;intro K U)|fail)<;>conv=>whnf)
 refine⟨Int.natCast_nonneg _,?_⟩;refine zv ?_;(repeat clear U K);repeat intro K U
 exact AH (by rw[Fi,U7 hc,HT hs0 (Gr hc)])
def Ul (s c:Nat) (hs0:s<18446744073709551616) (hc:c<64):Pure zP 182 [eU s,eI c] (.b (s.testBit c)):=by
 refine yW kZ ?_;have hs:=Sn
 conv=>whnf
 repeat'((first|clear U K|apply st|(apply zk;intro K U)|fail)<;>conv=>whnf)
 refine⟨Int.natCast_nonneg _,?_⟩;refine zv ?_;(repeat clear U K);repeat intro K U
 refine AH ?_;rw[Fi,U6 hc];have h1:s >>> c<18446744073709551616:=by rw[Nat.shiftRight_eq_div_pow];exact Nat.lt_of_le_of_lt (Nat.div_le_self _ _) hs0
 have h2:bits .and .u64 ((s >>> c:Nat):Int) 1=((s >>> c&&&1:Nat):Int):=GD h1 (show 1<_ by decide);rw[h2];simp only[Nat.testBit,Nat.and_comm 1];congr 1;rcases Nat.mod_two_eq_zero_or_one (s >>> c)with h|h<;>simp[Nat.and_one_is_mod,h]
def pw (op:Int):Pure zP 303 [eI op] (eI (Ch op)):=by
 refine wq kZ ?_;have hs:=Sn
 conv=>whnf
 repeat'((first|clear U K|apply st|(apply zk;intro K U)|refine zX ?_|refine za (fun hc=>?_) fun hc=>?_|fail)<;>conv=>whnf)
 all_goals exact AH (by simp[Ch, *])
def ZT (b:Bool):Pure zP 218 [.b b] (eI (if b then 0 else 2)):=by
 refine x6 kZ ?_;have hs:=Sn
 conv=>whnf
 repeat'((first|clear U K|apply st|(apply zk;intro K U)|refine za (fun hc=>?_) fun hc=>?_|fail)<;>conv=>whnf)
 all_goals exact AH (by simp[*])
def JJ {S:Type} (g:FuncId) (fi ca:List V) (H:S->List At) (stp:Int->S->Bool×S) (D:Int->S->Prop) (hx:DG zP (.f (.func g) fi ca) eI H stp D) (xs:List Int) (f:Bool) (s0:S) (hd:Yb stp D xs s0) :
    BQ zP 117 [.l (iL xs) f,.f (.func g) fi ca] (H s0) fun r post=>r= .ret (eI (Bv stp xs 0 s0).1)/\post=H (Bv stp xs 0 s0).2:=by
 intro Z hs;refine Au.fit (by kernel_rfl) fun hf=>?_
 have hxl:=Uq hf.1;have hM:=Mx;refine ju kZ ?_;refine zv ?_;(repeat clear U K);repeat intro K U
 refine B1 xs.length (fun k (_:S)=>[(8,eI (A4 k))]) (fun _ s=>H s) (fun k s=>Yb stp D (xs.drop k) s/\Bv stp xs 0 s0=Bv stp (xs.drop k) k s) s0 rfl ⟨hd,rfl⟩ hs ?_;clear hs;rintro k s Z hk ⟨hd,hn⟩ hs;have hck:A4 k=k:=Ag (by omega);rcases A8 xs hk with⟨y,hy,hlt⟩|hke
 .rw[drop_cons hy]at hn hd
  obtain⟨hd1,hd2⟩:=hd;rw[Bv]at hn;refine zv ?_;(repeat clear U K);repeat intro K U
  refine hx.use hd1 hs ?_;clear hs;intro Z hs
  conv=>whnf
  repeat'((first|clear U K|apply st|(apply zk;intro K U)|refine zX ?_|refine za (fun hc=>?_) fun hc=>?_|fail)<;>conv=>whnf)
  .rw[hc,if_pos rfl]at hn
   rw[hn];exact As hs (List.Sublist.refl _) (by rw[hck];exact .refl _) fun Z' hs'=>⟨_,⟨rfl,rfl⟩,hs'⟩
  .rw[hc,if_neg (by decide)]at hn
   exact⟨hlt,_,rfl,⟨hd2,hn⟩,hs⟩
 .rw[Ai hke,Bv]at hn
  refine zv ?_;(repeat clear U K);repeat intro K U
  rw[hn];exact As hs (List.Sublist.refl _) (.refl _) fun Z' hs'=>⟨_,⟨rfl,rfl⟩,hs'⟩
section
variable {S:Type} (g:FuncId) (fi ca:List V) (H:S->List At)
def G7 (stp:Int->S->Bool×S) (D:Int->S->Prop) (hx:DG zP (.f (.func g) fi ca) eI H stp D) (xs:List Int) (f:Bool) (s0:S) (hd:Yb stp D xs s0) :
    BQ zP 49 [.l (iL xs) f,.f (.func g) fi ca] (H s0) fun r post=>r= .ret (.b (decide ((Bv stp xs 0 s0).1≥0)))/\post=H (Bv stp xs 0 s0).2:=by
 intro Z hs;refine sS kZ ?_
 conv=>whnf
 repeat'((first|clear U K|apply st|(apply zk;intro K U)|fail)<;>conv=>whnf)
 refine(JJ g fi ca H stp D hx xs f s0 hd).use (rest:=[]) (by simpa using hs) ?_;rintro r post Z ⟨rfl,rfl⟩ hs;refine zv ?_;(repeat clear U K);repeat intro K U
 exact As hs (by simp) (.refl _) fun Z' hs'=>⟨_,⟨rfl,rfl⟩,hs'⟩
def ua (stp:Int->S->Bool×S) (D:Int->S->Prop) (hx:DG zP (.f (.func g) fi ca) eI H stp D):DG zP (.f (.func 301) [] [.rp [.f (.func g) fi ca]]) eI H (fun y s=>(!(stp y s).1,(stp y s).2)) D:=by
 intro y s hd Z hs;refine BO ?_;show Au zP 301 ([]++[eI y]++[.rp [.f (.func g) fi ca]]) Z _;refine jh kZ ?_;refine zv ?_;(repeat clear U K);repeat intro K U
 refine hx.use hd hs ?_;clear hs;intro Z hs;refine zv ?_;(repeat clear U K);repeat intro K U
 exact As hs (List.Sublist.refl _) (.refl _) fun Z' hs'=>⟨rfl,hs'⟩
def kG (stp:Int->S->Bool×S) (D:Int->S->Prop) (hx:DG zP (.f (.func g) fi ca) eI H stp D) (xs:List Int) (f:Bool) (s0:S) (hd:Yb stp D xs s0) :
    BQ zP 246 [.l (iL xs) f,.f (.func g) fi ca] (H s0) fun r post=>r= .ret (.b (CS stp xs s0).1)/\post=H (CS stp xs s0).2:=by
 intro Z hs;obtain⟨e1,e2⟩:=Og (stp:=stp) xs 0 s0;refine jm kZ ?_
 conv=>whnf
 repeat'((first|clear U K|apply st|(apply zk;intro K U)|fail)<;>conv=>whnf)
 refine(G7 301 [] [.rp [.f (.func g) fi ca]] H _ D (ua g fi ca H stp D hx) xs f s0 (VB xs s0 hd)).use (rest:=[]) (by simpa using hs) ?_;rintro r post Z ⟨rfl,rfl⟩ hs;rw[e2];rw[e1]at hs;refine zv ?_;(repeat clear U K);repeat intro K U
 exact As hs (by simp) (by rw[Bool.not_not];exact .refl _) fun Z' hs'=>⟨_,⟨rfl,rfl⟩,hs'⟩
def Vi (stp:Fact->S->Bool×S) (D:Fact->S->Prop) (hx:DG zP (.f (.func g) fi ca) (fun y=> .a (xF y)) H stp D) (xs:List Fact) (f:Bool) (s0:S) (hxl:xs.length<=Aa) (hd:Yb stp D xs s0) :
    BQ zP 330 [.l (facts xs) f,.f (.func g) fi ca] (H s0) fun r post=>r= .ret (eI (Bv stp xs 0 s0).1)/\post=H (Bv stp xs 0 s0).2:=by
 intro Z hs;have hM:=Mx;refine wO kZ ?_;refine zv ?_;(repeat clear U K);repeat intro K U
 refine B1 xs.length (fun k (_:S)=>[(8,eI (A4 k))]) (fun _ s=>H s) (fun k s=>Yb stp D (xs.drop k) s/\Bv stp xs 0 s0=Bv stp (xs.drop k) k s) s0 rfl ⟨hd,rfl⟩ hs ?_;clear hs;rintro k s Z hk ⟨hd,hn⟩ hs;have hck:A4 k=k:=Ag (by omega);rcases A8 xs hk with⟨y,hy,hlt⟩|hke
 .rw[drop_cons hy]at hn hd
  obtain⟨hd1,hd2⟩:=hd;rw[Bv]at hn;refine zv ?_;(repeat clear U K);repeat intro K U
  refine hx.use hd1 hs ?_;clear hs;intro Z hs
  conv=>whnf
  repeat'((first|clear U K|apply st|(apply zk;intro K U)|refine zX ?_|refine za (fun hc=>?_) fun hc=>?_|fail)<;>conv=>whnf)
  .rw[hc,if_pos rfl]at hn
   rw[hn];exact As hs (List.Sublist.refl _) (by rw[hck];exact .refl _) fun Z' hs'=>⟨_,⟨rfl,rfl⟩,hs'⟩
  .rw[hc,if_neg (by decide)]at hn
   exact⟨hlt,_,rfl,⟨hd2,hn⟩,hs⟩
 .rw[Ai hke,Bv]at hn
  refine zv ?_;(repeat clear U K);repeat intro K U
  rw[hn];exact As hs (List.Sublist.refl _) (.refl _) fun Z' hs'=>⟨_,⟨rfl,rfl⟩,hs'⟩
def Ph (stp:Fact->S->Bool×S) (D:Fact->S->Prop) (hx:DG zP (.f (.func g) fi ca) (fun y=> .a (xF y)) H stp D) (xs:List Fact) (f:Bool) (s0:S) (hxl:xs.length<=Aa) (hd:Yb stp D xs s0) :
    BQ zP 291 [.l (facts xs) f,.f (.func g) fi ca] (H s0) fun r post=>r= .ret (.b (decide ((Bv stp xs 0 s0).1≥0)))/\post=H (Bv stp xs 0 s0).2:=by
 intro Z hs;refine xA kZ ?_
 conv=>whnf
 repeat'((first|clear U K|apply st|(apply zk;intro K U)|fail)<;>conv=>whnf)
 refine(Vi g fi ca H stp D hx xs f s0 hxl hd).use (rest:=[]) (by simpa using hs) ?_;rintro r post Z ⟨rfl,rfl⟩ hs;refine zv ?_;(repeat clear U K);repeat intro K U
 exact As hs (by simp) (.refl _) fun Z' hs'=>⟨_,⟨rfl,rfl⟩,hs'⟩
def uZ (stp:Fact->S->Bool×S) (D:Fact->S->Prop) (hx:DG zP (.f (.func g) fi ca) (fun y=> .a (xF y)) H stp D):DG zP (.f (.func 302) [] [.rp [.f (.func g) fi ca]]) (fun y=> .a (xF y)) H (fun y s=>(!(stp y s).1,(stp y s).2)) D:=by
 intro y s hd Z hs;refine BO ?_;show Au zP 302 ([]++[.a (xF y)]++[.rp [.f (.func g) fi ca]]) Z _;refine wu kZ ?_;refine zv ?_;(repeat clear U K);repeat intro K U
 refine hx.use hd hs ?_;clear hs;intro Z hs;refine zv ?_;(repeat clear U K);repeat intro K U
 exact As hs (List.Sublist.refl _) (.refl _) fun Z' hs'=>⟨rfl,hs'⟩
def kF (stp:Fact->S->Bool×S) (D:Fact->S->Prop) (hx:DG zP (.f (.func g) fi ca) (fun y=> .a (xF y)) H stp D) (xs:List Fact) (f:Bool) (s0:S) (hxl:xs.length<=Aa) (hd:Yb stp D xs s0) :
    BQ zP 248 [.l (facts xs) f,.f (.func g) fi ca] (H s0) fun r post=>r= .ret (.b (CS stp xs s0).1)/\post=H (CS stp xs s0).2:=by
 intro Z hs;obtain⟨e1,e2⟩:=Og (stp:=stp) xs 0 s0;refine xh kZ ?_
 conv=>whnf
 repeat'((first|clear U K|apply st|(apply zk;intro K U)|fail)<;>conv=>whnf)
 refine(Ph 302 [] [.rp [.f (.func g) fi ca]] H _ D (uZ g fi ca H stp D hx) xs f s0 hxl (VB xs s0 hd)).use (rest:=[]) (by simpa using hs) ?_;rintro r post Z ⟨rfl,rfl⟩ hs;rw[e2];rw[e1]at hs;refine zv ?_;(repeat clear U K);repeat intro K U
 exact As hs (by simp) (by rw[Bool.not_not];exact .refl _) fun Z' hs'=>⟨_,⟨rfl,rfl⟩,hs'⟩
end
abbrev WS (f:Int->Bool):Int->Unit->Bool×Unit:=fun y _=>(f y,())
def Rf {g:FuncId} {fi ca:List V} {f:Int->Bool} {D:Int->Unit->Prop} (h: ∀y,D y ()->Pure zP g (fi++[eI y]++ca) (.b (f y))):DG zP (.f (.func g) fi ca) eI (fun _=>[]) (WS f) D:=by
 intro y s hd Z hs;refine BO ?_;show Au zP g (fi++[eI y]++ca) Z _;refine Au.mono ((h y hd).use (k:=fun v Z'=>v= .b (f y)/\Sat Z' []) (kp:=fun _ _=>False) ⟨rfl,Sat.nil⟩) ?_;rintro(v|v) Z' hq
 .obtain⟨rfl,h⟩:=hq
  exact⟨rfl,h⟩
 .exact hq.elim
def rM {g:FuncId} {fi ca:List V} {f:Int->Bool} {xs:List Int} (b:Bool) (h: ∀y∈xs,Pure zP g (fi++[eI y]++ca) (.b (f y))):Pure zP 246 [.l (iL xs) b,.f (.func g) fi ca] (.b (xs.all f)):=by
 have:=kG g fi ca (fun _=>[]) (WS f) (fun y _=>y∈xs) (Rf fun y hy=>h y hy) xs b () (Hl fun y hy _=>hy);rw[K3]at this;exact Pure.of (Au.mono (this emp Sat.nil) fun r Z' ⟨post,⟨h1,h2⟩,h3⟩=>h1)
def Wk (g:FuncId) (fi ca:List V) (f:Int->Bool):Prop:= ∀y:Int,Pure zP g (fi++[eI y]++ca) (.b (f y))
def Wk.use {g:FuncId} {fi ca:List V} {f:Int->Bool} (h:Wk g fi ca f) {y:Int} {Z:AE} {k kp:V->AE->Prop} (hk:k (.b (f y)) Z):Ao zP (.f (.func g) fi ca) [eI y] Z (qk k kp):=BO ((h y).use hk)
def qA (g:FuncId) (fi ca:List V) (L:List At) (p:Int->Bool) (hx:DG zP (.f (.func g) fi ca) eI (fun _:Unit=>L) (WS p) (fun _ _=>True)) (xs:List Int) (f:Bool):BQ zP 380 [.l (iL xs) f,.f (.func g) fi ca] L fun r post=>r= .ret (.l (iL (xs.filter p)) false)/\post=L:=by
 intro Z hs;refine Au.fit (by kernel_rfl) fun hf=>?_
 have hxl:=Uq hf.1;have hM:=Mx;refine jf kZ ?_;refine zv ?_;(repeat clear U K);repeat intro K U
 refine B1 xs.length (fun k v=>[(5,v),(10,eI (A4 k))]) (fun k v=>L++[.own v 1 (iL ((xs.take k).filter p))]) (fun _ _=>True) (.l [] true) rfl trivial (D1 hs 1) ?_;clear hs;rintro k v Z hk - hs;have hfl:=Ou p (xs.take k);rw[Jl]at hfl;rcases A8 xs hk with⟨y,hy,hlt⟩|hke
 .have hst:(xs.take (k+1)).filter p=if p y then(xs.take k).filter p++[y]else(xs.take k).filter p:=by
   rw[AN hy,List.filter_append];cases hp:p y<;>simp[hp]
  generalize (xs.take k).filter p=zs at *
  conv=>whnf
  repeat'((first|clear U K|apply st|(apply zk;intro K U)|refine zX ?_|refine hx.useF (s:=()) (rest:=[_]) trivial hs (fun Z hs=>?_)|(refine zd (fun hc=>?_) (fun hc=>?_)<;>try exact⟨⟩)|fail)<;>conv=>whnf)
  .refine G0 (GR hs L.length (xs:=zs) (x:=y) List.getElem?_concat_length (by omega) Bo fun v' Z' hs' hsl=>?_)
   rw[List.set_append_right _ _ (Hz _),Nat.sub_self]at hs';replace hs:=hs';refine zv ?_;(repeat clear U K);repeat intro K U
   rw[if_pos (by assumption)]at hst;exact⟨hlt,_,rfl,trivial,by rw[hst];exact hs⟩
  .rw[if_neg (by simp[*])]at hst
   exact⟨hlt,_,rfl,trivial,by rw[hst];exact hs⟩
 .refine zv ?_;(repeat clear U K);repeat intro K U
  rw[Aq hke]at hs;obtain⟨Z2,h1,h2,h3⟩:=HI hs L.length List.getElem?_concat_length;refine HW h1 h2 ⟨_,⟨rfl,rfl⟩,?_⟩;rw[List.eraseIdx_append_of_length_le (Hz _),Nat.sub_self]at h3;simpa using h3
def mC (g:FuncId) (fi ca:List V) (p:Int->Bool) (hpf:Wk g fi ca p) (xs:List Int) (u:V) (hxl:xs.length<=Aa):BQ zP 380 [u,.f (.func g) fi ca] [.own u 1 (iL xs)] fun r post=>r= .ret (.l (iL (xs.filter p)) false)/\post= [.own u 1 (iL xs)]:=by
 intro Z hs;have hM:=Mx;refine jf kZ ?_;refine zv ?_;(repeat clear U K);repeat intro K U
 refine B1 xs.length (fun k v=>[(5,v),(10,eI (A4 k))]) (fun k v=>[.own u 1 (iL xs),.own v 1 (iL ((xs.take k).filter p))]) (fun _ _=>True) (.l [] true) rfl trivial (D1 hs 1) ?_;clear hs;rintro k v Z hk - hs;have hfl:=Ou p (xs.take k);rw[Jl]at hfl;rcases A8 xs hk with⟨y,hy,hlt⟩|hke
 .have hst:(xs.take (k+1)).filter p=if p y then(xs.take k).filter p++[y]else(xs.take k).filter p:=by
   rw[AN hy,List.filter_append];cases hp:p y<;>simp[hp]
  generalize (xs.take k).filter p=zs at *
  conv=>whnf
  repeat'((first|clear U K|apply st|(apply zk;intro K U)|refine zX ?_|refine aq fun v Z hs hsl=>?_|refine Wk.use hpf ?_|refine za (fun hc=>?_) fun hc=>?_|fail)<;>conv=>whnf)
  .rw[if_pos (by assumption)]at hst
   exact⟨hlt,_,rfl,trivial,by rw[hst];exact hs.take 2⟩
  .rw[if_neg (by simp[*])]at hst
   exact⟨hlt,_,rfl,trivial,by rw[hst];exact hs.take 2⟩
 .refine zv ?_;(repeat clear U K);repeat intro K U
  rw[Aq hke]at hs;obtain⟨Z2,h1,h2,h3⟩:=HI hs 1 rfl;exact HW h1 h2 ⟨_,⟨rfl,rfl⟩,h3⟩
def AAl:Wk 382 [] [] (· != 0):=by
 intro y;refine vO kZ ?_;have hs:=Sn;exact zW
def m9 (xs:List Int) (u:V) (hxl:xs.length<=Aa):BQ zP 379 [u] [.own u 1 (iL xs)] fun r post=>r= .ret (.l (iL (xs.filter (· != 0))) false)/\post= [.own u 1 (iL xs)]:=by
 intro Z hs;refine vQ kZ ?_
 conv=>whnf
 repeat'((first|clear U K|apply st|(apply zk;intro K U)|fail)<;>conv=>whnf)
 refine(mC 382 [] [] (· != 0) AAl xs u hxl).use (rest:=[]) hs ?_;clear hs;rintro r post Z ⟨rfl,rfl⟩ hs;refine zv ?_;(repeat clear U K);repeat intro K U
 exact As hs (by simp) (.refl _) fun Z' hs'=>⟨_,⟨rfl,rfl⟩,hs'⟩
def cB (g : List (List Int)) (f:Bool):Pure zP 352 [.l (EN g) f] (.b (D4 g)):=by
 refine Pure.fit (by kernel_rfl) fun hf=>?_
 have⟨g1,g2⟩:=Up hf.1;have hM:=Mx;refine wD kZ ?_;have hs:=Sn;by_cases h16:g.length<=16
 .conv=>whnf
  repeat'((first|clear U K|apply st|(apply zk;intro K U)|refine zX ?_|(refine zb (fun hc=>?_) (fun hc=>?_)<;>try exact⟨⟩)|fail)<;>conv=>whnf)
  all_goals try(exfalso;omega)
  refine B1 g.length (fun k (_:Unit)=>[(12,eI (A4 k))]) (fun _ _=>[]) (fun k _=>D4 g=JS k (g.drop k)) () rfl (by simp[D4,h16]) hs ?_;clear hs;rintro k - Z hk hn hs;have hck:A4 k=k:=Ag (by omega);rcases A8 g hk with⟨l,hl,hlt⟩|hke
  .have hll:=g2 l (Bp hl)
   rw[drop_cons hl,JS]at hn;by_cases h3:l.length<=3
   .rw[decide_eq_true h3,Ds]at hn
    conv=>whnf
    repeat'((first|clear U K|apply st|(apply zk;intro K U)|refine zX ?_|(refine zb (fun hc=>?_) (fun hc=>?_)<;>try exact⟨⟩)|fail)<;>conv=>whnf)
    all_goals try(exfalso;omega)
    refine B1 l.length (fun j (_:Unit)=>[(22,eI (A4 j))]) (fun _ _=>[]) (fun j _=>D4 g=(Nv k (l.take j) (l.drop j)&&JS (k+1) (g.drop (k+1)))) () rfl hn hs ?_;clear hs hn;rintro j - Z hj hn hs;rcases A8 l hj with⟨c,hc0,hjlt⟩|hje
    .rw[drop_cons hc0,Nv,s8]at hn
     have hw:IntKind.i64.wrap (3+A4 k)=3+(k:Int):=by rw[hck,wrap64 (by omega) (by omega)]
     conv=>whnf
     repeat'((first|clear U K|apply st|(apply zk;intro K U)|refine zX ?_|refine Pure.use (C3 _ _ _) ?_|(refine zd (fun hc=>?_) (fun hc=>?_)<;>try exact⟨⟩)|fail)<;>conv=>whnf)
     .exact AH (by rw[hn,hc];simp)
     .exact⟨hjlt,(),rfl,by rw[hn,hc,AN hc0];simp[*],hs⟩
     .exact AH (by(rw[hn];have: ¬c<3+(k:Int):=by omega);simp[this])
     .exact AH (by(rw[hn];have: ¬3<=c:=by omega);simp[this])
    .refine zv ?_;(repeat clear U K);repeat intro K U
     exact⟨hlt,(),rfl,by rw[hn,Ai hje];rfl,hs⟩
   .conv=>whnf
    repeat'((first|clear U K|apply st|(apply zk;intro K U)|refine zX ?_|(refine zb (fun hc=>?_) (fun hc=>?_)<;>try exact⟨⟩)|fail)<;>conv=>whnf)
    all_goals try(exfalso;omega)
    exact AH (by rw[hn];simp[h3])
  .refine zv ?_;(repeat clear U K);repeat intro K U
   exact AH (by rw[hn,Ai hke];rfl)
 .conv=>whnf
  repeat'((first|clear U K|apply st|(apply zk;intro K U)|refine zX ?_|(refine zb (fun hc=>?_) (fun hc=>?_)<;>try exact⟨⟩)|fail)<;>conv=>whnf)
  all_goals try(exfalso;omega)
  exact AH (by simp[D4,h16])
def Xf (g:List (List Int)) (f:Bool):Pure zP 323 [.l (EN g) f] (eI (if D4 g then 0 else 2)):=by
 refine wU kZ ?_;have hs:=Sn
 conv=>whnf
 repeat'((first|clear U K|apply st|(apply zk;intro K U)|refine Pure.use (cB _ _) ?_|refine za (fun hc=>?_) fun hc=>?_|fail)<;>conv=>whnf)
 all_goals exact AH (by simp[*])
def AAm (n:Nat) (h:Int):DG zP (.f (.func 381) [] [.p n 0]) eI (fun _:Unit=>[.box n [eI h]]) (WS (· != h)) (fun _ _=>True):=by
 intro y s _ Z hs;refine BO ?_;show Au zP 381 ([]++[eI y]++[.p n 0]) Z _;refine vP kZ ?_;refine zv ?_;(repeat clear U K);repeat intro K U
 exact As hs (List.Sublist.refl _) (.refl _) fun Z' hs'=>⟨rfl,hs'⟩
def fF (ls:List (List Int)):Ff ls []=false:=rfl
def Zn (ls:List (List Int)) (x:Int) (r:List Int):Ff ls (x::r)=free ls x:=rfl
def fO {α:Type} {p:α->Bool} {xs:List α} {k:Nat} {x:α} (hx:xs[k]? =some x) (h:(xs.take k).find? p=none):(xs.take (k+1)).find? p=if p x then some x else none:=by
 rw[AN hx,List.find?_append,h];simp only[List.find?_cons,List.find?_nil,Option.none_or];cases p x<;>rfl
def fN {α:Type} {p:α->Bool} {xs:List α} {k:Nat} {x:α} (h:(xs.take k).find? p=some x):xs.find? p=some x:=by
 conv=>lhs;rw[<-List.take_append_drop k xs]
 rw[List.find?_append,h];rfl
def bI (ls:List (List Int)):pick ls=(ls.find? (Ff ls)).bind List.head? :=rfl
def lz (ls:List (List Int)) (f:Bool) (hok:Nq ls) (ht:total ls<Aa):Pure zP 377 [.l (EN ls) f] (.t [.l (iL (CT ls).1) false,.b (CT ls).2]):=by
 have hM:=Mx;refine vS kZ ?_;have hs:=Sn;refine zv ?_;(repeat clear U K);repeat intro K U
 refine D7 (fun(x:List (List Int)×Bool×V×List Int)=>total x.1) (fun x=>[(0,.l (EN x.1) x.2.1),(4,x.2.2.1)]) (fun x=>[.own x.2.2.1 1 (iL x.2.2.2)])
  (fun x=>Nq x.1/\x.2.2.2.length+total x.1<=total ls/\DO (total x.1) x.1 x.2.2.2=CT ls) (ls,f,.l [] true,[]) rfl ⟨hok,by simp,rfl⟩ (D1 hs 1) ?_
 clear hs;rintro⟨ls',f',v,out⟩ Z ⟨hok',hlen,hm⟩ hs;dsimp only at hok' hlen hm hs;dsimp only;have hol:=hok'.1;refine zv ?_;(repeat clear U K);repeat intro K U
 refine B1 ls'.length (fun k (t:Bool)=>[(5,.b t),(16,eI (A4 k))]) (fun _ _=>[.own v 1 (iL out)]) (fun k t=>(ls'.take k).find? (Ff ls')=none/\t=(ls'.take k).any fun l=> !l.isEmpty) false rfl ⟨rfl,rfl⟩ hs ?_;clear hs;rintro k t Z hk ⟨hfd,hta⟩ hs;rcases A8 ls' hk with⟨l,hl,hlt⟩|hke
 .have hfs:=fO (p:=Ff ls') hl hfd
  have has:((ls'.take (k+1)).any fun l=> !l.isEmpty)=(t|| !l.isEmpty):=by rw[AN hl,List.any_append,<-hta];simp
  have hb:=hok'.2 _ (Bp hl);cases l with
  | nil=>
    have hnl:([]:List Int).length=0:=rfl;rw[fF,if_neg (by decide)]at hfs
    conv=>whnf
    repeat'((first|clear U K|apply st|(apply zk;intro K U)|refine zX ?_|(refine zb (fun hc=>?_) (fun hc=>?_)<;>try exact⟨⟩)|fail)<;>conv=>whnf)
    exact⟨hlt,_,rfl,⟨hfs,by rw[has];simp⟩,hs⟩
  | cons x r=>
    have hx0:(x::r)[Int.toNat 0]? =some x:=rfl;have hnl:(x::r).length=r.length+1:=rfl;rw[Zn]at hfs;simp only[List.isEmpty_cons,Bool.not_false,Bool.or_true]at has
    conv=>whnf
    repeat'((first|clear U K|apply st|(apply zk;intro K U)|refine zX ?_|(refine zb (fun hc=>?_) (fun hc=>?_)<;>try exact⟨⟩)|fail)<;>conv=>whnf)
    refine B1 ls'.length (fun j (_:Unit)=>[(25,eI (A4 j))]) (fun _ _=>[.own v 1 (iL out)]) (fun j _=>free ls' x=(ls'.drop j).all fun m=> !(m.drop 1).contains x) () rfl rfl hs ?_;clear hs;rintro j - Z hj hfr hs;rcases A8 ls' hj with⟨m,hm0,hjlt⟩|hje
    .have hmb:=(hok'.2 _ (Bp hm0)).1
     rw[drop_cons hm0,K5]at hfr;cases m with
     | nil=>
       have hml:([]:List Int).length=0:=rfl
       conv=>whnf
       repeat'((first|clear U K|apply st|(apply zk;intro K U)|refine zX ?_|(refine zb (fun hc=>?_) (fun hc=>?_)<;>try exact⟨⟩)|fail)<;>conv=>whnf)
       exact⟨hjlt,(),rfl,by rw[hfr];rfl,hs⟩
     | cons y s=>
       have hml:(y::s).length=s.length+1:=rfl
       conv=>whnf
       repeat'((first|clear U K|apply st|(apply zk;intro K U)|refine zX ?_|(refine zb (fun hc=>?_) (fun hc=>?_)<;>try exact⟨⟩)|fail)<;>conv=>whnf)
       refine W5 1 rfl (by omega) (fun _=>rfl) ?_
       conv=>whnf
       repeat'((first|clear U K|apply st|(apply zk;intro K U)|refine zX ?_|refine Pure.use (C3 _ _ _) ?_|refine za (fun hc=>?_) fun hc=>?_|fail)<;>conv=>whnf)
       .rw[hc]at hfr
        have hfr2:free ls' x=false:=by rw[hfr];rfl
        rw[hfr2,if_neg (by decide)]at hfs;exact⟨hlt,true,rfl,⟨hfs,by rw[has]⟩,hs⟩
       .exact⟨hjlt,(),rfl,by rw[hfr,hc];rfl,hs⟩
    .rw[Ai hje]at hfr
     have hgood:free ls' x=true:=hfr;rw[hgood,if_pos rfl]at hfs;have hp:pick ls'=some x:=by rw[bI,fN hfs];rfl
     have htp:=I4 hp
     conv=>whnf
     repeat'((first|clear U K|apply st|(apply zk;intro K U)|refine zX ?_|refine zr fun Z hs=>?_|refine aq fun v Z hs hsl=>?_|refine zp fun nn hnn Z hs=>?_|fail)<;>conv=>whnf)
     have hs2:Sat Z [.own v 1 (iL (out++[x])),.box nn [eI x]]:=hs;refine B1 ls'.length (fun k u=>[(11,u),(50,eI (A4 k))]) (fun k u=>[.own v 1 (iL (out++[x])),.box nn [eI x],.own u 1 (EN ((ls'.take k).map fun l=>l.filter (· != x)))]) (fun _ _=>True) (.l [] true) rfl trivial (D1 hs2 1) ?_;clear hs hs2;rintro q u Z hq - hs;rcases A8 ls' hq with⟨w,hw,hqlt⟩|hqe
     .refine zv ?_;(repeat clear U K);repeat intro K U
      refine(qA 381 [] [.p nn 0] [.box nn [eI x]] (· != x) (AAm nn x) w false).use (rest:=[_,_]) (hs.perm (.swap _ _ _)) ?_;clear hs;rintro rr post Z ⟨rfl,rfl⟩ hs
      conv=>whnf
      repeat'((first|clear U K|apply st|(apply zk;intro K U)|refine zX ?_|refine aq fun v Z hs hsl=>?_|fail)<;>conv=>whnf)
      refine⟨hqlt,_,rfl,trivial,?_⟩;rw[AN hw,SU];exact hs.perm (.swap _ _ _)
     .refine zv ?_;(repeat clear U K);repeat intro K U
      rw[Aq hqe]at hs;refine tV hs 2 rfl fun Z' hs'=>?_
      refine zv ?_;(repeat clear U K);repeat intro K U
      refine⟨(ls'.map fun l=>l.filter (· != x),false,v,out++[x]),htp,rfl,⟨hok'.filter x,by simp;omega,?_⟩,hs'.take 1⟩;rw[<-PF hp];exact hm
 .rw[Aq hke]at hfd hta
  have hp:pick ls'=none:=by rw[bI,hfd];rfl
  rw[Rt hp]at hm;refine zv ?_;(repeat clear U K);repeat intro K U
  refine A7 ?_;rw[<-hm];refine .t (.cons (hs.GG 0 rfl) (.cons ?_ .nil));have:(!t)=ls'.all List.isEmpty:=by rw[hta];simp[List.all_eq_not_any_not]
  rw[<-this];exact .refl _
abbrev Ord:=Int×V×List Int
def nh (e:Ord):V×V:=(eI e.1,e.2.1)
def gL (e:Ord):At:= .own e.2.1 1 (iL e.2.2)
abbrev pL (ps:List (List Int×Bool)):List (List V):=ps.map fun p=>[.l (iL p.1) p.2]
abbrev gH (n mm:Nat) (vp vu:V) (ps:List (List Int×Bool)) (us:List Nat) (M:List Ord):List At:=
 .box n [vp,vu,.m mm]:: .own vp 1 (pL ps):: .own vu 1 (us.map fun u=>[eU u]):: .map mm (M.map nh)::M.map gL
def CJ (M:List Ord) (c:Int):List Int:=((M.find? fun e=>c==e.1).map fun e=>e.2.2).getD []
def Jo (M:List Ord) (c:Int):V:=((M.find? fun e=>c==e.1).map fun e=>e.2.1).getD (.l [] true)
def mA (M:List Ord) (c:Int):found (.l [] true) false (Cn (eI c) (M.map nh))=Jo M c:=by
 induction M with
 | nil=>rfl
 | cons e r ih=>
   simp only[FA,nh,Cn,Jo,List.find?_cons]at *;have he:D6 (eI c) (eI e.1)=(c==e.1):=rfl;rw[he];cases c==e.1
   .exact ih
   .rfl
def Yy (M:List Ord): ∀kv∈M.map nh,BW (.i .i64) kv.1=true:=by
 intro kv h;obtain⟨e,_,rfl⟩:=Il.1 h;rfl
def pg {M:List Ord} {c:Int} (v:V) (l:List Int) (h: ∀e∈M,e.1≠c):DZ (eI c) v (M.map nh)=(M++[(c,v,l)]).map nh:=by
 induction M with
 | nil=>rfl
 | cons e r ih=>
   simp only[FA,List.cons_append,nh,DZ];have he:D6 (eI c) (eI e.1)=(c==e.1):=rfl;rw[he,beq_false_of_ne (fun e'=>h e (.head _) e'.symm)];simp only[cond_false];rw[ih fun e he=>h e (.tail _ he)]
def Qr (M:List Ord) (c:Int):(CJ M c= []/\Jo M c= .l [] true)\/ ∃j:Nat,(M.map gL)[j]? =some (At.own (Jo M c) 1 (iL (CJ M c))):=by
 unfold CJ Jo;cases h:M.find? fun e=>c==e.1 with
 | none=>exact .inl ⟨rfl,rfl⟩
 | some e=>
   refine .inr ?_;obtain⟨j,hj⟩:=List.getElem?_of_mem (List.mem_of_find?_eq_some h);refine⟨j,?_⟩;rw[Jm,hj];rfl
def Qs {M:List Ord} {c:Int} {Z:AE} {fx:List At} (hs:Sat Z (fx++M.map gL)) (hl:(CJ M c).length<=Aa) {K:V->Prop} (hk:K (.i .i64 (CJ M c).length)):Ay (Jo M c) K:=by
 rcases Qr M c with⟨h1,h2⟩|⟨j,hj⟩
 .rw[h2]
  rw[h1]at hk;exact WV hk
 .have hj':(fx++M.map gL)[fx.length+j]? =some (At.own (Jo M c) 1 (iL (CJ M c))):=by
   rw[List.getElem?_append_right (by omega),Nat.add_sub_cancel_left,hj]
  exact AAO hs _ hj' (by simpa using hl) (by simpa using hk)
def lkO {Z:AE} {l:List At} {i mm:Nat} {M:List Ord} {c:Int} {K:V->Prop} (hk:K (Jo M c)) (h:Sat Z l:=by assumption)
    (hi:l[i]? =some (.map mm (M.map nh)):=by first|exact Sa|exact SZ|exact SY|exact SX|exact SW|exact SV):AM Z (.i .i64) (.l [] true) false (.m mm) (eI c) K:=
 Kb h i hi rfl (Yy M) (by rw[mA];exact hk)
def ABb {M:List Ord} {c:Int} {Z:AE} {fx:List At} (hs:Sat Z (fx++M.map gL)) (hl:(CJ M c).length<=Aa) (hne:CJ M c≠[]) {k kp:V->AE->Prop} (hk: ∀Z',Sat Z' (fx++M.map gL)->k (.l (iL ((CJ M c).filter (· != 0))) false) Z'):Au zP 379 [Jo M c] Z (qk k kp):=by
 rcases Qr M c with⟨h1,h2⟩|⟨j,hj⟩
 .exact absurd h1 hne
 .have hj':(fx++M.map gL)[fx.length+j]? =some (At.own (Jo M c) 1 (iL (CJ M c))):=by
   rw[List.getElem?_append_right (by omega),Nat.add_sub_cancel_left,hj]
  refine(m9 (CJ M c) (Jo M c) hl).rf hs hj' ?_;rintro r Z' rfl hs';exact hk Z' hs'
def Xx {Z Z2:AE}: ∀ {a a' b b':List (List V)},Fa Z Z2 a a'->Fa Z Z2 b b'->Fa Z Z2 (a++b) (a'++b')
 | [],[],_,_,.nil,h=>h
 | _::_,_::_,_,_,.cons h1 h2,h=> .cons h1 (Xx h2 h)
def l8 (n mm:Nat) (vp vu:V) (ps:List (List Int×Bool)) (us:List Nat) (M:List Ord) (c:Int) (l:List Int) (b:Bool) (hc0:0<=c) (hl:ps[c.toNat]? =some (l,b)) (hll:l.length<=3) (hol: ∀c,(CJ M c).length<=Aa) :
    BQ zP 376 [.p n 0,eI c] (gH n mm vp vu ps us M) fun r post=>r= .ret (if l.any fun p=>(CJ M p).isEmpty then .t [.l [] true,.b false]else .t [.l (EN (l.map (fun p=>(CJ M p).filter (· != 0))++[l])) false,.b true])/\post=gH n mm vp vu ps us M:=by
 intro Z hs;have hM:=Mx;have hci:c<ps.length:=by have:=(JL.1 hl).1;omega
 refine vT kZ ?_;refine zz ?_;(repeat clear U K);repeat intro K U
 refine B1 l.length (fun k v=>[(6,v),(17,eI (A4 k))]) (fun k v=> .own v 1 (EN ((l.take k).map fun p=>(CJ M p).filter (· != 0)))::gH n mm vp vu ps us M) (fun k _=>((l.take k).any fun p=>(CJ M p).isEmpty)=false) (.l [] true) rfl rfl (Cq hs 1) ?_;clear hs;rintro k v Z hk hne hs;rcases A8 l hk with⟨p,hp,hlt⟩|hke
 .have han:((l.take (k+1)).any fun p=>(CJ M p).isEmpty)=(CJ M p).isEmpty:=by rw[AN hp,List.any_append,hne];simp
  have hap:(l.take k).length<=3:=by rw[Jl];omega
  conv=>whnf
  repeat'((first|clear U K|apply st|(apply zk;intro K U)|refine zY ?_|refine lkO ?_|refine Qs (fx:=_::_::_::_::_:: []) hs (hol _) ?_|refine za (fun hc=>?_) fun hc=>?_|fail)<;>conv=>whnf)
  .have h0:(CJ M p).isEmpty=true:=by rw[List.isEmpty_iff_length_eq_zero];omega
   have hany:(l.any fun p=>(CJ M p).isEmpty)=true:=Ij.2 ⟨p,Bp hp,h0⟩;refine As (l':=gH n mm vp vu ps us M) hs (K6 _ _) (.refl _) fun Z' hs'=>⟨_,⟨?_,rfl⟩,hs'⟩
   rw[if_pos hany]
  .have h0:(CJ M p).isEmpty=false:=by
    cases h:(CJ M p).isEmpty
    .rfl
    .rw[List.isEmpty_iff_length_eq_zero]at h;omega
   refine ABb (fx:=_::_::_::_::_:: []) hs (hol _) (fun e=>by rw[e]at h0;cases h0) fun Z hs=>?_
   conv=>whnf
   repeat'((first|clear U K|apply st|(apply zk;intro K U)|refine zY ?_|refine aq fun v Z hs hsl=>?_|fail)<;>conv=>whnf)
   refine⟨hlt,_,rfl,by rw[han];exact h0,?_⟩;rw[AN hp,SU];exact hs
 .rw[Aq hke]at hne hs
  refine zz ?_;(repeat clear U K);repeat intro K U
  refine hAppend hs 0 rfl (by simp;omega) (fun e he=>by simp at he;subst he;rfl) (fun e he v hv=>by simp at he;subst he;simp at hv;subst hv;rfl) fun v Z hs=>?_
  refine zz ?_;(repeat clear U K);repeat intro K U
  obtain⟨Z2,h1,h2,h3⟩:=ui (es':=EN (l.map (fun p=>(CJ M p).filter (· != 0))++[l])) hs 0 rfl fun Z2=>by
   have e:EN (l.map (fun p=>(CJ M p).filter (· != 0))++[l])=EN (l.map fun p=>(CJ M p).filter (· != 0))++[[.l (iL l) false]]:=by simp only[EN,SU,FA,List.map_nil]
   rw[e];exact Xx (E6 _) (.cons (.cons iP .nil) .nil)
  refine HW h1 (.t (.cons h2 (.cons (.refl _) .nil))) ⟨_,⟨?_,rfl⟩,h3⟩;rw[hne,if_neg (by decide)]
def Sat.rot2 {Z:AE} {l:List At} {a:At} (h:Sat Z (a::l)):Sat Z (l++[a]):=h.perm (by
 have:=Nk (l₁:=[a]) (l₂:=l)
 simpa using this)
def DI (M:List Ord) (l:List Int):List (List Int):=l.map (fun p=>(CJ M p).filter (· != 0))++[l]
def Hb (M:List Ord) (l:List Int) (c:Int):List Int:=
 if c=0 then [0]else if l.any (fun p=>(CJ M p).isEmpty)then []else if(CT (DI M l)).2 then [c]++(CT (DI M l)).1++[0]else []
def br (n mm:Nat) (vp vu:V) (ps:List (List Int×Bool)) (us:List Nat) (M:List Ord) {c:Int} {v:V} {l:List Int} (hk: ∀e∈M,e.1≠c) {Z:AE}
    (hs:Sat Z (.own v 1 (iL l):: .box n [vp,vu,.m mm]:: .own vp 1 (pL ps):: .own vu 1 (us.map fun u=>[eU u]):: .map mm (DZ (eI c) v (M.map nh))::M.map gL)):Sat Z (gH n mm vp vu ps us (M++[(c,v,l)])):=by
 rw[pg v l hk]at hs;have:=hs.rot2;unfold gH;rw[SU (f:=gL)];exact this
def lV (n mm:Nat) (vp vu:V) (ps:List (List Int×Bool)) (us:List Nat) (M:List Ord) (c:Int) (l:List Int) (b:Bool) (hc0:0<=c) (hl:ps[c.toNat]? =some (l,b)) (hll:l.length<=3) (hol: ∀c,(CJ M c).length<=Aa) (hk: ∀e∈M,e.1≠c)
    (hok:Nq (DI M l)) (ht:total (DI M l)<1000000000) :
    BQ zP 368 [.p n 0,eI c] (gH n mm vp vu ps us M) fun r post=>r= .ret (.t [])/\ ∃M',post=gH n mm vp vu ps us M'/\((M'=M/\Hb M l c= [])\/ ∃v,M'=M++[(c,v,Hb M l c)]/\Hb M l c≠[]):=by
 intro Z hs;have hM:=Mx;refine vd kZ ?_;by_cases hc:c=0
 .subst hc
  conv=>whnf
  repeat'((first|clear U K|apply st|(apply zk;intro K U)|refine zY ?_|(refine zb (fun hc=>?_) (fun hc=>?_)<;>try exact⟨⟩)|fail)<;>conv=>whnf)
  refine Iz hs 3 rfl rfl (Yy M) fun Z hs=>?_
  refine zz ?_;(repeat clear U K);repeat intro K U
  refine As (l':=gH n mm vp vu ps us (M++[(0,.l [[eI 0]] true,[0])])) ?_ (List.Sublist.refl _) (.refl _) fun Z' hs'=>⟨_,⟨rfl,_,rfl,.inr ⟨.l [[eI 0]] true,?_,?_⟩⟩,hs'⟩
  .refine br n mm vp vu ps us M hk ?_
   exact iO hs (fun e he=>by simp at he;subst he;rfl)
  .rw[Hb,if_pos rfl]
  .rw[Hb,if_pos rfl];exact fun e=>by cases e
 .have hoc:Hb M l c=if l.any (fun p=>(CJ M p).isEmpty)then []else if(CT (DI M l)).2 then [c]++(CT (DI M l)).1++[0]else []:=by rw[Hb,if_neg hc]
  have hli:=l8 n mm vp vu ps us M c l b hc0 hl hll hol;have hmg:=lz (DI M l) false hok (by omega);have hml:=I9 (total (DI M l)) (DI M l) [];have hml2:(CT (DI M l)).1.length<=total (DI M l):=by simpa[CT]using hml
  cases hany:l.any fun p=>(CJ M p).isEmpty
  .rw[hany,if_neg (by decide)]at hoc
   simp only[hany,ME,if_false]at hli;have hdn: ∀ {Z:AE} {M':List Ord},Sat Z (gH n mm vp vu ps us M')->((M'=M/\Hb M l c= [])\/ ∃v,M'=M++[(c,v,Hb M l c)]/\Hb M l c≠[])->Am Z (.t []) fun r Z'=> ∃post,(r= .ret (.t [])/\ ∃M',post=gH n mm vp vu ps us M'/\((M'=M/\Hb M l c= [])\/ ∃v,M'=M++[(c,v,Hb M l c)]/\Hb M l c≠[]))/\Sat Z' post:=fun hs h=>As hs (List.Sublist.refl _) (.refl _) fun Z' hs'=>⟨_,⟨rfl,_,rfl,h⟩,hs'⟩
   conv=>whnf
   repeat'((first|clear U K|apply st|(apply zk;intro K U)|refine zY ?_|(refine zb (fun hc=>?_) (fun hc=>?_)<;>try exact⟨⟩)|fail)<;>conv=>whnf)
   refine hli.use (rest:=[]) (by simpa using hs) ?_;clear hs;rintro r post Z ⟨rfl,rfl⟩ hs;rw[Ez]at hs;have hml3:(DI M l)=l.map (fun p=>(CJ M p).filter (· != 0))++[l]:=rfl;rw[<-hml3];generalize DI M l=ll at *;cases hb:(CT ll).2<;>rw[hb]at hmg hoc
   .conv=>whnf
    repeat'((first|clear U K|apply st|(apply zk;intro K U)|refine zY ?_|refine zC ?_|fail)<;>conv=>whnf)
    exact hdn hs (.inl ⟨rfl,by rw[hoc];rfl⟩)
   .rw[if_pos rfl]at hoc
    conv=>whnf
    repeat'((first|clear U K|apply st|(apply zk;intro K U)|refine zY ?_|refine zC ?_|fail)<;>conv=>whnf)
    replace hs:=iO hs (sz:=1) (es:=[[eI c]]) (fun e he=>by simp at he;subst he;rfl);refine Fe hs 0 (xs:=[c]) (ys:=(CT ll).1) rfl (by simp;omega) Bo fun v Z hs=>?_
    conv=>whnf
    repeat'((first|apply st|refine zY ?_|refine rk ?_ ?_|exact fun s e=>by cases e;rfl|refine aq fun v Z hs hsl=>?_|fail)<;>conv=>whnf)
    refine Iz hs 4 rfl rfl (Yy M) fun Z hs=>?_
    refine zz ?_;(repeat clear U K);repeat intro K U
    refine hdn (br n mm vp vu ps us M hk (l:=Hb M l c) ?_) (.inr ⟨v,rfl,by rw[hoc];simp⟩);rw[hoc];exact hs
  .rw[hany,if_pos rfl]at hoc
   simp only[hany,if_true]at hli
   conv=>whnf
   repeat'((first|clear U K|apply st|(apply zk;intro K U)|refine zY ?_|(refine zb (fun hc=>?_) (fun hc=>?_)<;>try exact⟨⟩)|fail)<;>conv=>whnf)
   refine hli.use (rest:=[]) (by simpa using hs) ?_;clear hs;rintro r post Z ⟨rfl,rfl⟩ hs;rw[Ez]at hs;refine zz ?_;(repeat clear U K);repeat intro K U
   exact As hs (List.Sublist.refl _) (.refl _) fun Z' hs'=>⟨_,⟨rfl,_,rfl,.inl ⟨rfl,hoc⟩⟩,hs'⟩
end Go.Gl
namespace Go.Gl
def eH {M:List Ord} {k:Int} {v:V} {o:List Int} (h: ∀e∈M,e.1<k) (d:Int):CJ (M++[(k,v,o)]) d=if d=k then o else CJ M d:=by
 unfold CJ;rw[List.find?_append];split
 .rename_i e
  have:M.find? (fun e=>d==e.1)=none:=by
   rw[List.find?_eq_none];intro x hx;have:=h x hx;simp;omega
  rw[this];simp[e]
 .rename_i e
  cases hf:M.find? fun e=>d==e.1 with
  | some x=>simp
  | none=>simp[List.find?_cons,e]
structure Jc (g:List (List Int)) (k:Nat) (M:List Ord):Prop where
 keys: ∀e∈M,0<=e.1/\e.1<(k:Int)
 gh: ∀d:Int,0<=d->d<k->CJ M d=(CG g).getD d.toNat []
def XF {g:List (List Int)} {k:Nat} {M:List Ord} (h:Jc g k M) {d:Int} (hd:d<0\/(k:Int)<=d):CJ M d= []:=by
 unfold CJ
 have:M.find? (fun e=>d==e.1)=none:=by
  rw[List.find?_eq_none];intro x hx;have:=h.keys x hx;simp;omega
 rw[this];rfl
def M7 {g:List (List Int)} (hg:JW g) {k:Nat} {M:List Ord} (h:Jc g k M) (d:Int):(CJ M d).length<=71744535/\ ∀x∈CJ M d,(0:Int)<=x:=by
 by_cases hd:d<0\/(k:Int)<=d
 .rw[XF h hd]
  exact⟨by simp,fun x hx=>by cases hx⟩
 .rw[h.gh d (by omega) (by omega)]
  have hb:=JH hg (2+g.length);have hl:=cU (k:=2+g.length) (by have:=hg.1;omega);unfold CG;exact⟨XR (fun o ho=>Nat.le_trans (hb o ho).1 hl) _,RA (fun o ho=>(hb o ho).2) _⟩
def eT {g:List (List Int)} (hg:JW g) {k:Nat} {M:List Ord} (h:Jc g k M) {l:List Int} (hl:l.length<=3) (h0: ∀x∈l,(0:Int)<=x):Nq (DI M l)/\total (DI M l)<1000000000:=by
 have hM:Aa=17592186044416:=rfl;have hf: ∀p,((CJ M p).filter (· != 0)).length<=71744535:=fun p=>Nat.le_trans (Ou _ _) (M7 hg h p).1
 have ht: ∀l:List Int,total (l.map fun p=>(CJ M p).filter (· != 0))<=l.length*71744535:=by
  intro l
  induction l with
  | nil=>simp[total]
  | cons p r ih=>
    simp only[total,FA,List.sum_cons,LF]at *;have:=hf p;rw[Nat.add_mul];omega
 refine⟨⟨by simp[DI];omega,fun m hm=>?_⟩,?_⟩
 .rcases Dy.1 hm with hm|hm
  .obtain⟨p,_,rfl⟩:=Il.1 hm
   refine⟨by have:=hf p;omega,fun x hx=>(M7 hg h p).2 x (Ik.1 hx).1⟩
  .rw[KV.1 hm]
   exact⟨by omega,h0⟩
 .have h1:=ht l
  have h2:total (DI M l)=total (l.map fun p=>(CJ M p).filter (· != 0))+l.length:=by simp[DI,total]
  have h3:=Vr 71744535 hl;omega
def pJ {g:List (List Int)} {k:Nat} {M:List Ord} (h:Jc g (k+1) M) {l:List Int} (hl:l=A3 g ((k:Int)+1)) (hp: ∀p∈l,(0:Int)<=p/\p<(k:Int)+1) (hk:k+1<3+g.length) :
    Hb M l ((k:Int)+1)=EK g (Bg g k) ((k:Int)+1):=by
 have ho: ∀p∈l,CJ M p=(Bg g k).getD p.toNat []:=fun p hpl=>by
  obtain⟨h0,h1⟩:=hp p hpl;rw[h.gh p h0 (by omega)];unfold CG;rw[C6,C6,FT (k:=2+g.length) (j:=p.toNat) (by omega),FT (k:=k) (j:=p.toNat) (by omega)]
 have e1:(l.any fun p=>(CJ M p).isEmpty)=(l.any fun p=>((Bg g k).getD p.toNat []).isEmpty):=by
  rw[JK,Ij,Ij];constructor
  .rintro⟨p,h1,h2⟩;exact⟨p,h1,by rw[<-ho p h1];exact h2⟩
  .rintro⟨p,h1,h2⟩;exact⟨p,h1,by rw[ho p h1];exact h2⟩
 have e2:DI M l=l.map (fun p=>((Bg g k).getD p.toNat []).filter (· != 0))++[l]:=by
  unfold DI;congr 1;exact List.map_congr_left fun p hpl=>by rw[ho p hpl]
 unfold Hb EK Ei;rw[if_neg (by omega),e1,e2,<-hl];split<;>rfl
def Jc.nil {g:List (List Int)}:Jc g 0 []:=⟨fun e h=>(by cases h),fun d h0 h1=>by omega⟩
def Jc.step {g:List (List Int)} {k:Nat} {M M':List Ord} (h:Jc g k M) {l:List Int} (hl:l=A3 g (k:Int)) (hp: ∀p∈l,(0:Int)<=p/\p<(k:Int)) (hk:k<3+g.length)
    (hM:(M'=M/\Hb M l k= [])\/ ∃v,M'=M++[((k:Int),v,Hb M l k)]/\Hb M l k≠[]):Jc g (k+1) M':=by
 have hc:Hb M l k=(CG g).getD k []:=by
  cases k with
  | zero=>
    unfold Hb CG;rw[if_pos (by simp),C6,FT (j:=0) (by omega)];rfl
  | succ k=>
    have:=pJ h (by simpa using hl) (fun p hpl=>by have:=hp p hpl;simpa using this) hk;have e:((k+1:Nat):Int)=(k:Int)+1:=by omega
    rw[e,this];unfold CG;rw[C6,FT (k:=2+g.length) (j:=k+1) (by omega),Bg,List.getElem?_append_right (by rw[Co];omega),Co,Nat.sub_self];rfl
 rcases hM with⟨rfl,he⟩|⟨v,rfl,_⟩
 .refine⟨fun e he=>by have:=h.keys e he;omega,fun d h0 h1=>?_⟩
  by_cases hd:d=k
  .subst hd
   rw[XF h (by omega)];rw[Fi,<-hc,he]
  .exact h.gh d h0 (by omega)
 .refine⟨fun e he=>?_,fun d h0 h1=>?_⟩
  .rcases Dy.1 he with he|he
   .have:=h.keys e he;omega
   .rw[KV.1 he]
    exact⟨by simp,by simp;omega⟩
  .rw[eH (fun e he=>(h.keys e he).2)]
   split
   .rename_i hd
    rw[hd,Fi];exact hc
   .exact h.gh d h0 (by omega)
end Go.Gl
namespace Go.Gl
open Go.Proofs
attribute [local irreducible] Au Am Ae AR AK AY AQ AS AJ AX AM AO Ao A0 Sat AU Ay Af W
def oP (s c:Nat) (hs0:s<18446744073709551616) (hc:c<64):Pure zP 366 [.a [eU s],eI c] (.a [eU (s|||2 ^ c)]):=by
 refine vg kZ ?_;have hs:=Sn
 conv=>whnf
 repeat'((first|clear U K|apply st|(apply zk;intro K U)|refine zY ?_|refine zs fun Z hs=>?_|refine⟨Int.natCast_nonneg _,?_⟩|refine zo fun nn hnn Z hs=>?_|fail)<;>conv=>whnf)
 refine AH ?_;simp only[Fi,U7 hc,HT hs0 (Gr hc)];rfl
def AAh (s t:Nat) (hs0:s<18446744073709551616) (ht0:t<18446744073709551616):Pure zP 367 [.a [eU s],.a [eU t]] (.a [eU (s|||t)]):=by
 refine ve kZ ?_;have hs:=Sn
 conv=>whnf
 repeat'((first|clear U K|apply st|(apply zk;intro K U)|refine zY ?_|refine zs fun Z hs=>?_|refine zo fun nn hnn Z hs=>?_|fail)<;>conv=>whnf)
 refine AH ?_;simp only[HT hs0 ht0];rfl
def Wn (s:Nat) (c:Int) (hs0:s<18446744073709551616) (h0:0<=c) (hc:c<64):Pure zP 366 [.a [eU s],eI c] (.a [eU (s|||2 ^ c.toNat)]):=by
 have:=oP s c.toNat hs0 (by omega);rw[Int.toNat_of_nonneg h0]at this;exact this
def IA {a b:Nat} (ha:a<18446744073709551616) (hb:b<18446744073709551616):a|||b<18446744073709551616:=by
 have:=Nat.or_lt_two_pow (n:=64) (x:=a) (y:=b) (by simpa using ha) (by simpa using hb);simpa using this
def Ji (g:List (List Int)):List (List Int×Bool):=[([],true),([],true),([],true)]++g.map fun l=>(l,false)
def lR (g:List (List Int)):(Ji g).length=3+g.length:=by simp[Ji];omega
def bH (g:List (List Int)) {k:Nat} (hk:k<3+g.length): ∃b,(Ji g)[k]? =some (A3 g (k:Int),b):=by
 unfold Ji A3;by_cases h3:k<3
 .rw[if_pos (by omega),cz (by simpa using h3)]
  refine⟨true,?_⟩;rcases k with _|_|_|k
  .rfl
  .rfl
  .rfl
  .omega
 .rw[if_neg (by omega),List.getElem?_append_right (by simp;omega)]
  refine⟨false,?_⟩;simp only[LF,List.length_nil,Jm];have e:((k:Int) - 3).toNat=k - (0+1+1+1):=by omega
  rw[e,C6,Cs (by omega)];rfl
def qI:Ec (fun u:Nat=>[eU u]) 1:=fun x=>⟨rfl,fun v hv=>by simp at hv;subst hv;rfl⟩
def AAg {α:Type} {a b c d:α}: [a,b,c,d].Perm [b,d,a,c]:=by
 have h1: [a,b,c,d].Perm [b,a,c,d]:= .swap _ _ _;have h2: [a,c,d].Perm [d,a,c]:=Nk (l₁:=[a,c]) (l₂:=[d]);exact h1.trans (h2.cons b)
def pK (g:List (List Int)) (f f2:Bool) (c:Int) (hg:D4 g=true) (hc0:0<=c) (hc1:c<3+g.length) :
    BQ zP 353 [.l (EN g) f,.l (iL [c]) f2] [] fun r post=> ∃n mm vp vu us M,r= .ret (.t [.p n 0,.b true])/\post=gH n mm vp vu (Ji g) us M/\Jc g (3+g.length) M:=by
 intro Z hs;refine Au.fit (by kernel_rfl) fun hf=>?_
 have⟨g1,g2⟩:=Up hf.1;have hM:=Mx;have hG:=ED hg;have hgl:=hG.1;have hfn:=cB g f;rw[hg]at hfn;have hc2: [c][0]? =some c:=rfl;have hpl:=lR g;refine wB kZ ?_
 conv=>whnf
 repeat'((first|clear U K|apply st|(apply zk;intro K U)|refine zY ?_|refine hfn.use ?_|fail)<;>conv=>whnf)
 refine B1 1 (fun k (_:Unit)=>[(20,eI (A4 k))]) (fun _ _=>[]) (fun _ _=>True) () rfl trivial hs ?_;clear hs;rintro k - Z hk - hs;have hkk:k=0\/k=1:=by omega
 rcases hkk with rfl|rfl
 .conv=>whnf
  repeat'((first|clear U K|apply st|(apply zk;intro K U)|refine zY ?_|(refine zb (fun hc=>?_) (fun hc=>?_)<;>try exact⟨⟩)|fail)<;>conv=>whnf)
  all_goals try(exfalso;omega)
  exact⟨(),rfl,trivial,hs⟩
 .have hke:1= [c].length:=rfl
  refine zz ?_;(repeat clear U K);repeat intro K U
  rw[show IntKind.i64.wrap (3+((EN g).length:Nat))=((3+g.length:Nat):Int) by rw[B9,wrap64 (by omega) (by omega)];omega];refine oD (n:=3) hs (by omega) (by omega) fun vp Z hs hv=>?_
  obtain⟨idp,rfl⟩:=hv
  conv=>whnf
  repeat'((first|clear U K|apply st|(apply zk;intro K U)|refine zY ?_|refine zo fun nn hnn Z hs=>?_|fail)<;>conv=>whnf)
  obtain⟨mm,hs⟩: ∃mm,Sat Z [.box nn [.sl idp 3 (3+g.length),.l [] true,.m mm],.map mm [],.own (.sl idp 3 (3+g.length)) 1 (List.replicate 3 [.l [] true])]:=⟨_,hs⟩
  generalize nn=n0 at *;have hgr:=DL DK g;refine hAppend hs 2 rfl (by simp;omega) hgr.1 hgr.2 fun vp Z hs=>?_
  have hps:List.replicate 3 [.l [] true]++EN g=pL (Ji g):=by simp[pL,Ji,List.replicate,EN]
  rw[hps]at hs;clear hps;have hs1p:=H4 hs 2 rfl
  conv=>whnf
  repeat'((first|clear U K|apply st|(apply zk;intro K U)|refine zY ?_|refine zs fun Z hs=>?_|fail)<;>conv=>whnf)
  replace hs:Sat Z [.box n0 [vp,.l [] true,.m mm],.map mm [],.own vp 1 (pL (Ji g))]:=hs;refine B1 (Ji g).length (fun k (_:V×List Nat)=>[(55,eI (A4 k))]) (fun _ x=>[.own x.1 1 (x.2.map fun u=>[eU u]),.box n0 [vp,x.1,.m mm],.map mm [],.own vp 1 (pL (Ji g))]) (fun k x=>x.2.length=k/\ ∀u∈x.2,u<18446744073709551616) (.l [] true,[]) rfl ⟨rfl,fun u hu=>by cases hu⟩ (Cq hs 1) ?_;clear hs;rintro k ⟨vu,us⟩ Z hk ⟨hul,hus⟩ hs;dsimp only at hul hus hs;rcases A8 (Ji g) hk with⟨⟨l,lb⟩,hl,hlt⟩|hke2
  .have hck:A4 k=k:=Ag (by omega)
   obtain⟨b',hpa⟩:=bH g (k:=k) (by omega);have hle:l=A3 g (k:Int):=by rw[hl]at hpa;exact(Prod.mk.inj (Option.some.inj hpa)).1
   have hll:=DA hG (k:Int);rw[<-hle]at hll;have hlm: ∀p∈l,3<=p/\p<(k:Int):=fun p hp=>Dl hG (by rw[<-hle];exact hp)
   have hs1:(0|||2 ^ (A4 k).toNat)<18446744073709551616:=by
    rw[Nat.zero_or,hck,Fi];exact Gr (by omega)
   have hs1u:=H4 hs 0 rfl;have hl':(Ji g)[(A4 k).toNat]? =some (l,lb):=by rw[hck,Fi];exact hl
   conv=>whnf
   repeat'((first|clear U K|apply st|(apply zk;intro K U)|refine zY ?_|refine zs fun Z hs=>?_|refine Pure.use (Wn 0 (A4 k) (by decide) (by omega) (by omega)) ?_|refine Pure.use (Wn _ _ (by first|omega|exact hs1) (by omega) (by omega)) ?_|refine zo fun nn hnn Z hs=>?_|fail)<;>conv=>whnf)
   have hs0:(0|||2 ^ (A4 k).toNat|||2 ^ Int.toNat 0)<18446744073709551616:=IA hs1 (by decide);generalize (0|||2 ^ (A4 k).toNat|||2 ^ Int.toNat 0)=s0 at *;refine B1 l.length (fun j (_:Nat)=>[(66,eI (A4 j))]) (fun _ s=>[.box nn [eU s],.own vu 1 (us.map fun u=>[eU u]),.box n0 [vp,vu,.m mm],.map mm [],.own vp 1 (pL (Ji g))]) (fun _ s=>s<18446744073709551616) s0 rfl hs0 hs ?_;clear hs hs0;rintro j s Z hj hsb hs;rcases A8 l hj with⟨p,hp,hjlt⟩|hje
   .obtain⟨hp3,hpk⟩:=hlm p (Bp hp)
    obtain⟨u,hu⟩: ∃u,us[p.toNat]? =some u:=⟨_,Cs (by omega)⟩
    have hub:=hus u (Bp hu)
    conv=>whnf
    repeat'((first|clear U K|apply st|(apply zk;intro K U)|refine zY ?_|refine zs fun Z hs=>?_|refine Pure.use (AAh _ _ hsb hub) ?_|fail)<;>conv=>whnf)
    exact⟨hjlt,s|||u,rfl,IA hsb hub,hs⟩
   .refine zz ?_;(repeat clear U K);repeat intro K U
    refine G0 (GR hs 1 (enc:=fun u:Nat=>[eU u]) (xs:=us) (x:=s) rfl (by omega) qI fun vu' Z hs hsl=>?_);have hs2u:=H4 hs 1 rfl
    conv=>whnf
    repeat'((first|clear U K|apply st|(apply zk;intro K U)|refine zY ?_|refine zs fun Z hs=>?_|fail)<;>conv=>whnf)
    refine⟨hlt,(vu',us++[s]),rfl,⟨by simp[hul],fun u hu=>?_⟩,hs.less (K6 _ _)⟩;rcases Dy.1 hu with hu|hu
    .exact hus u hu
    .rw[KV.1 hu];exact hsb
  .have hs1u:=H4 hs 0 rfl
   refine zz ?_;(repeat clear U K);repeat intro K U
   replace hs:Sat Z (gH n0 mm vp vu (Ji g) us []):=hs.perm AAg;refine B1 (Ji g).length (fun k (_:List Ord)=>[(96,eI (A4 k))]) (fun _ M=>gH n0 mm vp vu (Ji g) us M) (fun k M=>Jc g k M) [] rfl Jc.nil hs ?_;clear hs;rintro k M Z hk hkn hs;rcases A8 (Ji g) hk with⟨⟨l,lb⟩,hl,hlt⟩|hke3
   .have hck:A4 k=k:=Ag (by omega)
    obtain⟨b',hpa⟩:=bH g (k:=k) (by omega);have hle:l=A3 g (k:Int):=by rw[hl]at hpa;exact(Prod.mk.inj (Option.some.inj hpa)).1
    have hll:=DA hG (k:Int);rw[<-hle]at hll;have hlm: ∀p∈l,3<=p/\p<(k:Int):=fun p hp=>Dl hG (by rw[<-hle];exact hp)
    have hlo:=eT hG hkn hll (fun x hx=>by have:=hlm x hx;omega);have hord:=lV n0 mm vp vu (Ji g) us M (A4 k) l lb (by omega) (by rw[hck,Fi];exact hl) hll (fun c=>by have:=(M7 hG hkn c).1;omega) (fun e he=>by have:=hkn.keys e he;omega) hlo.1 hlo.2;refine zz ?_;(repeat clear U K);repeat intro K U
    refine hord.use (rest:=[]) (by simpa using hs) ?_;clear hs;rintro r post Z ⟨rfl,M',rfl,hM'⟩ hs;rw[Ez]at hs;rw[hck]at hM';refine zz ?_;(repeat clear U K);repeat intro K U
    exact⟨hlt,M',rfl,hkn.step hle (fun p hp=>by have:=hlm p hp;omega) (by omega) hM',hs⟩
   .refine zz ?_;(repeat clear U K);repeat intro K U
    exact As hs (List.Sublist.refl _) (.refl _) fun Z' hs'=>⟨_,⟨_,_,_,_,_,_,rfl,rfl,by rw[<-hpl,<-hke3];exact hkn⟩,hs'⟩
def zB {M:List Ord} {c:Int} {Z:AE} {fx:List At} (hs:Sat Z (fx++M.map gL)) (hl:(CJ M c).length<=Aa) (hne:CJ M c≠[]) {k kp:V->AE->Prop} (hk: ∀Z',Sat Z' (fx++M.map gL)->k (.l (iL (CJ M c)) false) Z'):Au zP 200 [Jo M c] Z (qk k kp):=by
 rcases Qr M c with⟨h1,h2⟩|⟨j,hj⟩
 .exact absurd h1 hne
 .have hj':(fx++M.map gL)[fx.length+j]? =some (At.own (Jo M c) 1 (iL (CJ M c))):=by
   rw[List.getElem?_append_right (by omega),Nat.add_sub_cancel_left,hj]
  have hcl:BQ zP 200 [Jo M c] [.own (Jo M c) 1 (iL (CJ M c))] fun r post=>r= .ret (.l (iL (CJ M c)) false)/\post= [.own (Jo M c) 1 (iL (CJ M c))]:=by
   clear hk hj' hj;generalize Jo M c=v at *;generalize CJ M c=l at *;intro Z hs;refine jq kZ ?_;have hgr:=DL Bo l
   have hend: ∀ {Z:AE} {w u:V},Sat Z [.own w 1 (iL l),.own u 1 (iL l)]->Am Z w fun r Z'=> ∃post,(r= .ret (.l (iL l) false)/\post= [.own u 1 (iL l)])/\Sat Z' post:=fun hs=>by
    obtain⟨Z2,h1,h2,h3⟩:=HI hs 0 rfl;exact HW h1 h2 ⟨_,⟨rfl,rfl⟩,h3⟩
   have hM:=Mx;rcases hs.get (i:=0) rfl with⟨rfl,_⟩|⟨n,cap,rfl,hn⟩
   .conv=>whnf
    repeat'((first|clear U K|apply st|(apply zk;intro K U)|fail)<;>conv=>whnf)
    refine⟨fun e=>absurd (List.map_eq_nil_iff.1 e) hne,fun _=>?_⟩;refine zz ?_;(repeat clear U K);repeat intro K U
    replace hs:=Cq hs 1;refine P3 hs 0 1 rfl rfl (by simp;omega) hgr.1 hgr.2 fun w Z hs=>?_
    refine zz ?_;(repeat clear U K);repeat intro K U
    exact hend hs
   .refine zz ?_;(repeat clear U K);repeat intro K U
    replace hs:=Cq hs 1;refine P3 hs 0 1 rfl rfl (by simp;omega) hgr.1 hgr.2 fun w Z hs=>?_
    refine zz ?_;(repeat clear U K);repeat intro K U
    exact hend hs
  refine hcl.rf (Φ:=fun r=>r= .ret (.l (iL (CJ M c)) false)) hs hj' ?_;rintro r Z' rfl hs';exact hk Z' hs'
def ug (g:List (List Int)) (f:Bool) (c:Int) (hg:D4 g=true) (hc0:0<=c) (hc1:c<3+g.length) :
    Pure zP 324 [.l (EN g) f,eI c] (if((CG g).getD c.toNat []).isEmpty then .t [.l [] true,eI 7]else .t [.l (iL ((CG g).getD c.toNat [])) false,eI 0]):=by
 have hop:=pK g f true c hg hc0 hc1;refine wT kZ ?_;have hs:=Sn;have hM:=Mx;have hG:=ED hg
 conv=>whnf
 repeat'((first|clear U K|apply st|(apply zk;intro K U)|fail)<;>conv=>whnf)
 refine hop.use (rest:=[]) hs ?_;clear hs;rintro r post Z ⟨n,mm,vp,vu,us,M,rfl,rfl,hkn⟩ hs;rw[Ez]at hs;have hol:=(M7 hG hkn c).1;have hor:=hkn.gh c hc0 (by omega);by_cases hne:CJ M c= []
 .have hl0:(CJ M c).length=0:=by rw[hne];rfl
  conv=>whnf
  repeat'((first|clear U K|apply st|(apply zk;intro K U)|refine zY ?_|refine lkO ?_|refine Qs (fx:=_::_::_::_:: []) hs (by omega) ?_|(refine zb (fun hc=>?_) (fun hc=>?_)<;>try exact⟨⟩)|fail)<;>conv=>whnf)
  all_goals try(exfalso;omega)
  rw[<-hor,hne];exact AH rfl
 .have hl0:0<(CJ M c).length:=List.length_pos_iff.2 hne
  conv=>whnf
  repeat'((first|clear U K|apply st|(apply zk;intro K U)|refine zY ?_|refine lkO ?_|refine Qs (fx:=_::_::_::_:: []) hs (by omega) ?_|(refine zb (fun hc=>?_) (fun hc=>?_)<;>try exact⟨⟩)|fail)<;>conv=>whnf)
  all_goals try(exfalso;omega)
  refine zB (fx:=_::_::_::_:: []) hs (by omega) hne fun Z hs=>?_
  refine zz ?_;(repeat clear U K);repeat intro K U
  rw[<-hor]
  have:(CJ M c).isEmpty=false:=by
   cases h:(CJ M c).isEmpty
   .rfl
   .exact absurd (List.isEmpty_iff.1 h) hne
  rw[this];exact AH rfl
def mj (xs:List Int) (f:Bool):Pure zP 200 [.l (iL xs) f] (.l (iL xs) false):=by
 refine Pure.fit (by kernel_rfl) fun hf=>?_
 have hxl:=Uq hf.1;have hM:=Mx;refine jq kZ ?_;have hs:=Sn
 conv=>whnf
 repeat'((first|clear U K|apply st|(apply zk;intro K U)|fail)<;>conv=>whnf)
 refine⟨fun e t=>?_,fun _=>?_⟩
 .have hx:xs= []:=List.map_eq_nil_iff.1 e
  subst hx
  conv=>whnf
  repeat'((first|clear U K|apply st|(apply zk;intro K U)|refine za (fun hc=>?_) fun hc=>?_|fail)<;>conv=>whnf)
  .exact A7 FK
  .replace hs:=Cq hs 1
   refine Fe hs 0 (xs:=[]) (ys:=[]) rfl (by simp) Bo fun v Z hs=>?_
   refine zz ?_;(repeat clear U K);repeat intro K U
   exact Eg hs 0 rfl rfl
 .refine zz ?_;(repeat clear U K);repeat intro K U
  replace hs:=Cq hs 1;refine Fe hs 0 (xs:=[]) (ys:=xs) rfl (by simp;omega) Bo fun v Z hs=>?_
  refine zz ?_;(repeat clear U K);repeat intro K U
  exact Eg hs 0 rfl rfl
def uH (c:Sb):Pure zP 290 [.a (WC c)] (.l (iL c.parents) false):=by
 refine xB kZ ?_;have hs:=Sn
 conv=>whnf
 repeat'((first|clear U K|apply st|(apply zk;intro K U)|refine Pure.use (mj _ _) ?_|fail)<;>conv=>whnf)
 exact AH rfl
def qz (xs:List (List Int)) (v:V) (hl:xs.length<=Aa):BQ zP 329 [v] [.own v 1 (EN xs)] fun r post=>r= .ret (.l (EN xs) true)/\post= []:=by
 intro Z hs;have hg:=DL DK xs;refine wP kZ ?_;refine zz ?_;(repeat clear U K);repeat intro K U
 refine sV (i:=0) hs rfl hg.1 (by simpa using hl) fun Z hs=>?_
 refine zz ?_;(repeat clear U K);repeat intro K U
 exact As hs (List.Sublist.refl _) (.refl _) fun Z' hs'=>⟨_,⟨rfl,rfl⟩,hs'⟩
def Qo (xs:List Int) (v:V) (hl:xs.length<=Aa):BQ zP 242 [v] [.own v 1 (iL xs)] fun r post=>r= .ret (.l (iL xs) true)/\post= []:=by
 intro Z hs;have hg:=DL Bo xs;refine jn kZ ?_;refine zz ?_;(repeat clear U K);repeat intro K U
 refine sV (i:=0) hs rfl hg.1 (by simpa using hl) fun Z hs=>?_
 refine zz ?_;(repeat clear U K);repeat intro K U
 exact As hs (List.Sublist.refl _) (.refl _) fun Z' hs'=>⟨_,⟨rfl,rfl⟩,hs'⟩
def qf (cs:List Sb) (hl:cs.length<=1000000):Pure zP 289 [.l (cs.map WC) false,.f (.func 290) [] []] (.l (EN (cs.map (·.parents))) false):=by
 have hM:=Mx;refine xC kZ ?_;have hs:=Sn;refine zz ?_;(repeat clear U K);repeat intro K U
 refine B1 cs.length (fun k v=>[(5,v),(10,eI (A4 k))]) (fun k v=>[.own v 1 (EN ((cs.take k).map (·.parents)))]) (fun _ _=>True) (.l [] true) rfl trivial (Cq hs 1) ?_;clear hs;rintro k v Z hk - hs;rcases A8 cs hk with⟨c,hc,hlt⟩|hke
 .conv=>whnf
  repeat'((first|clear U K|apply st|(apply zk;intro K U)|refine zY ?_|refine zs fun Z hs=>?_|refine zo fun nn hnn Z hs=>?_|fail)<;>conv=>whnf)
  refine BO ((uH c).use ?_)
  conv=>whnf
  repeat'((first|clear U K|apply st|(apply zk;intro K U)|refine zY ?_|refine aq fun v Z hs hsl=>?_|fail)<;>conv=>whnf)
  exact⟨hlt,_,rfl,trivial,by rw[AN hc,SU];exact hs.less (K6 _ _)⟩
 .rw[Aq hke]at hs
  refine zz ?_;(repeat clear U K);repeat intro K U
  refine(qz (cs.map (·.parents)) v (by simp;omega)).use (rest:=[]) hs ?_;clear hs;rintro r post Z ⟨rfl,rfl⟩ hs;refine zz ?_;(repeat clear U K);repeat intro K U
  exact A7 iP
def NG (p:Prog) (hk0:p.AP.length<=1000):Pure zP 223 [.a (BG p)] (.l (EN (A5 p)) false):=by
 refine Pure.fit (by kernel_rfl) fun hf=>?_
 have hP:=J3 hf.1;refine xy kZ ?_;have hs:=Sn;refine zz ?_;(repeat clear U K);repeat intro K U
 refine(qf p.AP (by omega)).use ?_;exact zW
def Wm (p:Prog) (hk0:p.AP.length<=1000) (hm:Bt p.AP<=Aa):Pure zP 151 [.a (BG p)] (.a (Az (AL p))):=by
 refine Pure.fit (by kernel_rfl) fun hf=>?_
 have hP:=J3 hf.1;have hcl:=hP.1;have hM:=Mx;refine yh kZ ?_;have hs:=Sn
 conv=>whnf
 repeat'((first|clear U K|apply st|(apply zk;intro K U)|refine zY ?_|refine zs fun Z hs=>?_|refine Pure.use (NG _ hk0) ?_|refine zo fun nn hnn Z hs=>?_|fail)<;>conv=>whnf)
 rename_i n2 _ _ _ _ _
 rename Nat=>n3
 replace hs:Sat Z [.box n3 [.l (EN (A5 p)) false,.l [] true],.box n2 [.l [] true,.l [] true]]:=hs;refine B1 p.AP.length (fun k (_:V)=>[(12,eI (A4 k))]) (fun k v=>[.own v 1 (iL (BU 0 (p.AP.take k))),.box n3 [.l (EN (A5 p)) false,v],.box n2 [.l [] true,.l [] true]]) (fun _ _=>True) (.l [] true) rfl trivial (Cq hs 1) ?_;clear hs;rintro k v Z hk - hs;rcases A8 p.AP hk with⟨c,hc,hlt⟩|hke
 .have hcm:=hP.2 c (Bp hc)
  have htk:=Rv hc;have hck:A4 k=k:=Ag (by omega)
  have hap:BU 0 (p.AP.take (k+1))=BU 0 (p.AP.take k)++List.replicate c.AG.length ((k:Int)+3):=by
   rw[AN hc,Je];have:(p.AP.take k).length=k:=by simp;omega
   rw[this];simp[BU]
  have hol:=Cj 0 (p.AP.take k);have hw3:IntKind.i64.wrap (A4 k+3)=(k:Int)+3:=by rw[hck,wrap64 (by omega) (by omega)]
  have hcs:=hcm.2.1;generalize BU 0 (p.AP.take k)=os at *
  conv=>whnf
  repeat'((first|clear U K|apply st|(apply zk;intro K U)|refine zY ?_|refine zs fun Z hs=>?_|refine zo fun nn hnn Z hs=>?_|fail)<;>conv=>whnf)
  refine B1 c.AG.length (fun j (_:V)=>[(20,eI (A4 j))]) (fun j v=>[.own v 1 (iL (os++List.replicate j ((k:Int)+3))),.box n3 [.l (EN (A5 p)) false,v],.box n2 [.l [] true,.l [] true]]) (fun _ _=>True) v rfl trivial (by simpa using hs.less (K6 _ _)) ?_;clear hs;rintro j v Z hj - hs;rcases A8 c.AG hj with⟨s,hsl,hjlt⟩|hje
  .have hsv0:=H4 hs 0 rfl
   conv=>whnf
   repeat'((first|clear U K|apply st|(apply zk;intro K U)|refine zY ?_|refine zs fun Z hs=>?_|refine aq fun v Z hs hsl=>?_|fail)<;>conv=>whnf)
   have hsv:=H4 hs 0 rfl
   conv=>whnf
   refine⟨hjlt,v,rfl,trivial,?_⟩;rw[List.replicate_succ',<-PR];rw[hw3]at hs;exact hs
  .refine zz ?_;(repeat clear U K);repeat intro K U
   exact⟨hlt,v,rfl,trivial,by rw[hap,<-hje];exact hs⟩
 .rw[Aq hke]at hs
  have hsv:=H4 hs 0 rfl
  conv=>whnf
  repeat'((first|clear U K|apply st|(apply zk;intro K U)|refine zY ?_|refine zs fun Z hs=>?_|fail)<;>conv=>whnf)
  exact A7 (.a (.cons (.refl _) (.cons (hs.GG 0 rfl) .nil)))
end Go.Gl
namespace Go.Proofs
open Go.Shelf
def Tryz.YD:Go.Shelf.Ren:=⟨fun|189=>268|125=>315|257=>314|128=>348|129=>349|294=>339|295=>340|296=>341|297=>342|298=>343|299=>344|216=>345|300=>346|301=>347|328=>360|329=>361|330=>362|331=>363|332=>364|215=>162|343=>375|n=>n,fun|28=>23|3=>3|46=>222|0=>0|51=>318|53=>139|4=>4|183=>394|182=>393|131=>266|5=>5|9=>9|218=>413|222=>329|228=>428|229=>429|n=>n,fun|n=>n⟩
def Tryz.pf:Go.Proofs.Lays.n189 Tryz.prog Tryz.YD:={
 mixed:=by kernel_rfl
 f125:=Tryz.func315.trans (congrArg some (by kernel_rfl))
 f128:=Tryz.func348.trans (congrArg some (by kernel_rfl))
 f129:=Tryz.func349.trans (congrArg some (by kernel_rfl))
 f189:=Tryz.func268.trans (congrArg some (by kernel_rfl))
 f215:=Tryz.func162.trans (congrArg some (by kernel_rfl))
 f216:=Tryz.func345.trans (congrArg some (by kernel_rfl))
 f257:=Tryz.func314.trans (congrArg some (by kernel_rfl))
 f294:=Tryz.func339.trans (congrArg some (by kernel_rfl))
 f295:=Tryz.func340.trans (congrArg some (by kernel_rfl))
 f296:=Tryz.func341.trans (congrArg some (by kernel_rfl))
 f297:=Tryz.func342.trans (congrArg some (by kernel_rfl))
 f298:=Tryz.func343.trans (congrArg some (by kernel_rfl))
 f299:=Tryz.func344.trans (congrArg some (by kernel_rfl))
 f300:=Tryz.func346.trans (congrArg some (by kernel_rfl))
 f301:=Tryz.func347.trans (congrArg some (by kernel_rfl))
 f328:=Tryz.func360.trans (congrArg some (by kernel_rfl))
 f329:=Tryz.func361.trans (congrArg some (by kernel_rfl))
 f330:=Tryz.func362.trans (congrArg some (by kernel_rfl))
 f331:=Tryz.func363.trans (congrArg some (by kernel_rfl))
 f332:=Tryz.func364.trans (congrArg some (by kernel_rfl))
 f343:=Tryz.func375.trans (congrArg some (by kernel_rfl))
 t0:=Tryz.underlying0
 a0:=Tryz.isAgg0
 z0:=Tryz.sizeOf0
 v0:=Tryz.zeroValue0
 t3:=Tryz.underlying3
 a3:=Tryz.isAgg3
 z3:=Tryz.sizeOf3
 v3:=Tryz.zeroValue3
 t4:=Tryz.underlying4
 a4:=Tryz.isAgg4
 z4:=Tryz.sizeOf4
 v4:=Tryz.zeroValue4
 t5:=Tryz.underlying5
 a5:=Tryz.isAgg5
 z5:=Tryz.sizeOf5
 v5:=Tryz.zeroValue5
 t9:=Tryz.underlying9
 a9:=Tryz.isAgg9
 z9:=Tryz.sizeOf9
 v9:=Tryz.zeroValue9
 t28:=Tryz.underlying23
 a28:=Tryz.isAgg23
 z28:=Tryz.sizeOf23
 v28:=Tryz.zeroValue23
 t46:=Tryz.underlying222
 a46:=Tryz.isAgg222
 z46:=Tryz.sizeOf222
 v46:=Tryz.zeroValue222
 t51:=Tryz.underlying318
 a51:=Tryz.isAgg318
 z51:=Tryz.sizeOf318
 v51:=Tryz.zeroValue318
 t53:=Tryz.underlying139
 a53:=Tryz.isAgg139
 z53:=Tryz.sizeOf139
 v53:=Tryz.zeroValue139
 t131:=Tryz.underlying266
 a131:=Tryz.isAgg266
 z131:=Tryz.sizeOf266
 v131:=Tryz.zeroValue266
 t182:=Tryz.underlying393
 a182:=Tryz.isAgg393
 z182:=Tryz.sizeOf393
 v182:=Tryz.zeroValue393
 t183:=Tryz.underlying394
 a183:=Tryz.isAgg394
 z183:=Tryz.sizeOf394
 v183:=Tryz.zeroValue394
 t218:=Tryz.underlying413
 a218:=Tryz.isAgg413
 z218:=Tryz.sizeOf413
 v218:=Tryz.zeroValue413
 t222:=Tryz.underlying329
 a222:=Tryz.isAgg329
 z222:=Tryz.sizeOf329
 v222:=Tryz.zeroValue329
 t228:=Tryz.underlying428
 a228:=Tryz.isAgg428
 z228:=Tryz.sizeOf428
 v228:=Tryz.zeroValue428
 t229:=Tryz.underlying429
 a229:=Tryz.isAgg429
 z229:=Tryz.sizeOf429
 v229:=Tryz.zeroValue429}
end Go.Proofs
namespace Go.Gl
open Go.Proofs Go.Shelf
abbrev Hy (x y:Int):Bool:=decide (x<=y)
def lI {P:Program} {f:FuncId} (hok:okF P f=true)
    (hc: ∀(blk cap:Nat) (zs:List Int) (w:World),Sort.Holds (Value.int .i64) w blk 0 zs.toArray->blk<w.heap.size->zs.length<4611686018427387904->
     Calls P f #[.slice (some ⟨blk,0,none⟩) zs.length cap] w fun e w'=>e= .returned (.tuple #[])/\ ∃n os,w'=Sort.grow (Sort.putRow (Value.int .i64) (Sort.ahead w n) blk 0 (zs.mergeSort fun x y=>decide (x<=y)).toArray) os)
    (xs:List Int) (n len cap:Nat):BQ P f [.sl n len cap] [.own (.sl n len cap) 1 (iL xs)] fun r post=>r= .ret (.t [])/\post= [.own (.sl n len cap) 1 (iL (xs.mergeSort Hy))]:=by
 intro Z hs;refine⟨hok,fun F w cs hR hv=>?_⟩;rcases hs.get (i:=0) rfl with⟨h,_⟩|⟨n',cap',h,hn⟩
 .cases h
 cases h;rw[B9]at hv;obtain⟨c,e,hb,h1,h2,h3,h4⟩:=FL hR hn;rw[B9]at h2 h3;have hM:Aa=17592186044416:=rfl;rw[BH]at h4
 have hcell: ∀j x,xs[j]? =some x->c[j]? =some (Value.int .i64 x)/\IntKind.i64.min<=x/\x<=IntKind.i64.max:=fun j x hx=>by
  have:=(h4 j [.i .i64 x] (by rw[Jm,hx];rfl)).2;simp only[Ba,Nat.mul_one,HG]at this;obtain⟨⟨d,hd,hr⟩,_⟩:=this;simp only[Ah]at hr;obtain⟨rfl,hr⟩:=hr;exact⟨hd,hr⟩
 have hcs:cs= #[.slice (some ⟨n,0,none⟩) xs.length cap]:=by
  obtain⟨hsz,hv⟩:=hv;simp only[Ba,Ah]at hv;obtain⟨⟨d,hd,rfl,_⟩,_⟩:=hv;simp at hsz;apply Array.ext_getElem?;intro i;rcases i with _|i
  .simpa using hd
  .rw[Array.getElem?_eq_none (by omega),Array.getElem?_eq_none (by simp)]
 subst hcs
 have hH:Sort.Holds (Value.int .i64) w n 0 xs.toArray:=fun j hj=>by
  have hj':j<xs.length:=by simpa using hj
  obtain⟨h5,_⟩:=hcell j xs[j] (Cs hj');refine⟨?_,?_⟩
  .rw[HG,Df hb,h5]
   simp[getElem!_pos,hj']
  .rw[HG];exact R4 hb
 refine(hc n cap xs w hH (hR.lt hn) (by omega)).mono fun e' w' ⟨he,k,os,hw⟩=>?_
 subst he;have hlen:(xs.mergeSort Hy).length=xs.length:=List.length_mergeSort _
 have hheap: ∀m,m<w.heap.size->w'.heap[m]? =if m=n then some (.cells (Sort.putCells (Value.int .i64) 0 (xs.mergeSort Hy).toArray c) e (0,0))else w.heap[m]? :=fun m hm=>by
  rw[hw];simp only[Sort.grow,Sort.putRow,Sort.mapBlock,Sort.ahead];rw[Array.getElem?_append_left (by simpa using hm),Array.getElem?_modify];by_cases e1:n=m
  .subst e1
   rw[if_pos rfl,if_pos rfl,hb];rfl
  .rw[if_neg e1,if_neg (Ne.symm e1)]
 have hadv:CD F Z w (B7 Z n (.arr 1 (iL (xs.mergeSort Hy)) cap)) w':=by
  refine⟨fun m hm h0=>?_,?_,by rw[hw];rfl,by rw[hw];rfl,by rw[hw];rfl,fun m h0 _=>?_⟩
  .rw[hheap m hm,if_neg]
   intro e1;subst e1;rw[hn]at h0;cases h0
  .rw[hw];simp[Sort.grow]
  .rw[Cm _ _ (fun e1=>by subst e1;rw[hn]at h0;cases h0)];exact h0
 refine⟨.ret (.t []),B7 Z n (.arr 1 (iL (xs.mergeSort Hy)) cap),⟨_,⟨rfl,rfl⟩,?_⟩,?_,?_,hadv⟩
 .refine⟨fun a ha=>?_,List.pairwise_singleton _ _⟩
  rw[KV.1 ha];exact .inr ⟨n,cap,by simp[hlen],DJ _ _ _⟩
 .exact⟨_,rfl,by simp[Ah,Ba]⟩
 .refine hR.step hadv fun m o ho=>?_
  by_cases e1:m=n
  .subst e1
   rw[DJ]at ho;cases ho;refine .inr ⟨(hR.own _ _ hn).1,_,(hheap m (hR.lt hn)).trans (if_pos rfl),_,_,rfl,by simpa[Sort.putCells]using h1,by simpa[hlen]using h2,by simpa[hlen]using h3,?_⟩;rw[BH];intro i r hi;rw[Jm]at hi;cases hx:(xs.mergeSort Hy)[i]? with
   | none=>rw[hx]at hi;cases hi
   | some x=>
     rw[hx]at hi;cases hi;have hil:i<xs.length:=by have:=(JL.1 hx).1;omega
     have hxm:x∈xs:=(List.mergeSort_perm xs Hy).mem_iff.1 (Bp hx);obtain⟨j,hj⟩:=List.getElem?_of_mem hxm;have hbd:=(hcell j x hj).2;obtain⟨hci,_⟩:=hcell i xs[i] (Cs hil);have hcl:i<c.size:=(sm.1 hci).1;refine⟨rfl,?_⟩;simp only[Ba,Nat.mul_one,HG,Ah,and_true];refine⟨_,?_,rfl,hbd⟩;simp only[Sort.putCells,Array.getElem?_mapIdx];rw[hci];have hxe:=(JL.1 hx).2;simp[hlen,hil,getElem!_pos,hxe]
  .rw[Cm _ _ e1]at ho
   exact .inl ⟨ho,(hheap m (hR.lt ho)).trans (if_neg e1)⟩
def oZ (xs:List Int) (n len cap:Nat):BQ Tryz.prog 268 [.sl n len cap] [.own (.sl n len cap) 1 (iL xs)] fun r post=>r= .ret (.t [])/\post= [.own (.sl n len cap) 1 (iL (xs.mergeSort Hy))]:=
 lI (by kernel_rfl) (fun blk cap zs w h1 h2 h3=>Any.slices_Sort_int Tryz.pf blk 0 cap zs w h1 h2 h3) xs n len cap
end Go.Gl
namespace Go.Gl
open Go.Proofs
attribute [local irreducible] Au Am Ae AR AK AY AQ AS AJ AX AM AO Ao A0 Sat AU Ay Af W
def uj:Pure zP 349 [.i .u64 0] (eI 0):=by
 refine wF kZ ?_;have hs:=Sn
 conv=>whnf
 repeat'((first|clear U K|apply st|(apply zk;intro K U)|refine zY ?_|(refine zb (fun hc=>?_) (fun hc=>?_)<;>try exact⟨⟩)|fail)<;>conv=>whnf)
 refine⟨by decide,?_⟩;exact zW
def uk:Pure zP 315 [.i .u64 0] (eI 0):=by
 refine wb kZ ?_;have hs:=Sn
 conv=>whnf
 repeat'((first|clear U K|apply st|(apply zk;intro K U)|refine uj.use ?_|fail)<;>conv=>whnf)
 all_goals exact AH rfl
def uu:Pure zP 339 [.l [] true,eI 0,eI 0] (.t []):=by
 refine wG kZ ?_;have hs:=Sn;refine zz ?_;(repeat clear U K);repeat intro K U
 refine D7 (fun(_:Unit)=>0) (fun _=>[(6,eI 1)]) (fun _=>[]) (fun _=>True) () rfl trivial hs ?_;clear hs;rintro - Z - hs;exact zW
def uF:Pure zP 314 [.l [] true,eI 0,eI 0,eI 0] (.t []):=by
 refine wc kZ ?_;have hs:=Sn;refine zz ?_;(repeat clear U K);repeat intro K U
 refine D7 (fun(_:Unit)=>0) (fun _=>[]) (fun _=>[]) (fun _=>True) () rfl trivial hs ?_;clear hs;rintro - Z - hs
 conv=>whnf
 repeat'((first|clear U K|apply st|(apply zk;intro K U)|refine zY ?_|refine uu.use ?_|(refine zb (fun hc=>?_) (fun hc=>?_)<;>try exact⟨⟩)|fail)<;>conv=>whnf)
 all_goals exact AH rfl
def lJ:Pure zP 268 [.l [] true] (.t []):=by
 refine xV kZ ?_;have hs:=Sn
 conv=>whnf
 repeat'((first|clear U K|apply st|(apply zk;intro K U)|refine uk.use ?_|refine uF.use ?_|fail)<;>conv=>whnf)
 all_goals exact AH rfl
def iA {xs:List Int} {v:V} (hv:(CC v).isSome=true\/(v= .l [] true/\xs= [])):BQ zP 268 [v] [.own v 1 (iL xs)] fun r post=>r= .ret (.t [])/\post= [.own v 1 (iL (xs.mergeSort Hy))]:=by
 rcases hv with hv|⟨rfl,rfl⟩
 .obtain⟨n,l,c,rfl⟩:=iC hv
  exact oZ xs n l c
 .intro Z hs
  have:=lJ.use (Z:=Z) (k:=fun v Z'=>v= .t []/\Z'=Z) (kp:=fun _ _=>False) ⟨rfl,rfl⟩;refine Au.mono this ?_;rintro(u|u) Z' hq
  .obtain⟨rfl,rfl⟩:=hq
   exact⟨_,⟨rfl,rfl⟩,by simpa using hs⟩
  .exact hq.elim
def YI {b:Nat} {Z:AE} {sz:Nat} {v:V} {ys:List (List V)} {f:Bool} {K:V->AE->Prop} (h:AK b Z sz v (.l ys f) fun v' Z'=>((CC v').isSome=true\/(v'=v/\ys= []))->K v' Z'):AK b Z sz v (.l ys f) K:=by
 unfold AK at *;obtain⟨h1,h2,h3⟩:=h;refine⟨h1,h2,?_⟩;cases v with
 | l es full=>exact⟨h3.1,h3.2.1,fun e=>h3.2.2.1 e (.inr ⟨rfl,e⟩),fun e=>⟨(h3.2.2.2 e).1,fun n cap hn hc=>(h3.2.2.2 e).2 n cap hn hc (.inl rfl)⟩⟩
 | sl n len cap=>
   simp only at h3 ⊢;split at h3
   .exact⟨h3.1,h3.2.1,h3.2.2.1,h3.2.2.2.1,fun n' cap' hn hc=>h3.2.2.2.2 n' cap' hn hc (.inl rfl)⟩
   .exact h3.elim
 | _=>exact h3.elim
def UJ (M:List Int):List (V×V):=M.map fun k=>(eI k,.b true)
def QL (M:List Int) (k:Int):List Int:=if M.contains k then M else M++[k]
def XD (M:List Int) (k b:Int):(QL M k).contains b=(M.contains b||b==k):=by
 unfold QL;split
 .rename_i h
  by_cases hb:b=k
  .subst hb;simpa using h
  .have:(b==k)=false:=by simpa using hb
   rw[this,Bool.or_false]
 .simp[List.contains_append]
  rfl
def bZ (M:List Int) (k:Int):DZ (eI k) (.b true) (UJ M)=UJ (QL M k):=by
 induction M with
 | nil=>rfl
 | cons x r ih=>
   simp only[UJ,FA,DZ]at *;have he:D6 (eI k) (eI x)=(k==x):=rfl;rw[he];cases hx:k==x
   .rw[cond_false,ih]
    unfold QL;have:(x::r).contains k=r.contains k:=by rw[List.contains_cons,hx,Bool.false_or]
    rw[this];split<;>simp
   .rw[cond_true]
    have hk:k=x:=by simpa using hx
    subst hk;unfold QL;simp
def NA (M:List Int) (k:Int):found (.b false) false (Cn (eI k) (UJ M))= .b (M.contains k):=by
 induction M with
 | nil=>rfl
 | cons x r ih=>
   simp only[UJ,FA,Cn]at *;have he:D6 (eI k) (eI x)=(k==x):=rfl;rw[he,List.contains_cons];cases k==x
   .simpa using ih
   .rfl
def IP (M:List Int): ∀kv∈UJ M,BW (.i .i64) kv.1=true:=by
 intro kv h;obtain⟨e,_,rfl⟩:=Il.1 h;rfl
def lkK {Z:AE} {l:List At} {i mm:Nat} {M:List Int} {k:Int} {K:V->Prop} (hk:K (.b (M.contains k))) (h:Sat Z l:=by assumption)
    (hi:l[i]? =some (.map mm (UJ M)):=by first|exact Sa|exact SZ|exact SY|exact SX|exact SW|exact SV):AM Z (.i .i64) (.b false) false (.m mm) (eI k) K:=
 Kb h i hi rfl (IP M) (by rw[NA];exact hk)
def msK {Z:AE} {l:List At} {i mm:Nat} {M:List Int} {k:Int} {K:AE->Prop} (hk: ∀Z',Sat Z' (l.set i (.map mm (UJ (QL M k))))->K Z') (h:Sat Z l:=by assumption)
    (hi:l[i]? =some (.map mm (UJ M)):=by first|exact Sa|exact SZ|exact SY|exact SX|exact SW|exact SV):AO Z (.i .i64) (.m mm) (eI k) (.b true) K:=
 Iz h i hi rfl (IP M) (fun Z' hs=>hk Z' (by rw[bZ]at hs;exact hs))
def J6 (p:Prog) (c:Nat):Sb:=p.AP.getD (c - 3) default
def EU (p:Prog) (c:Nat):Nat->List Int
 | 0=>[]
 | k+1=>if HA (A5 p) c (c - k)then EU p c k++(J6 p (c - k)).AG else EU p c k
def uG {ps:List (List Int)} (ho:ordered ps) {n c:Nat} (hc:c<n) (k:Nat): ∀p∈par ps (c - k),0<=p/\p.toNat<(H0 ps n c k).length/\p.toNat<c - k:=fun p hp=>by
 have:=ho _ _ hp;rw[Mb];omega
def Wu {ps:List (List Int)} (ho:ordered ps) {n c:Nat} (hc:c<n) (k b:Nat):(H0 ps n c (k+1)).getD b false=((H0 ps n c k).getD b false||((H0 ps n c k).getD (c - k) false&&(par ps (c - k)).contains (b:Int))):=by
 rw[H0,OX _ _ (uG ho hc k)]
def Wv {ps:List (List Int)} (ho:ordered ps) {n c:Nat} (hc:c<n) (k:Nat): ∀(m:Nat) (b:Nat),c - k<=b->(H0 ps n c (k+m)).getD b false=(H0 ps n c k).getD b false
 | 0,_,_=>rfl
 | m + 1,b,h=>by
   rw[<-Nat.add_assoc,Wu ho hc,Wv ho hc k m b h]
   have:(par ps (c - (k+m))).contains (b:Int)=false:=by
    cases hb:(par ps (c - (k+m))).contains (b:Int)
    .rfl
    .have:=ho _ _ (List.contains_iff_mem.1 hb)
     omega
   rw[this,Bool.and_false,Bool.or_false]
def ig {ps:List (List Int)} (ho:ordered ps) {n c:Nat} (hc:c<n) {k:Nat} (hk:k<=c - 2):(H0 ps n c k).getD (c - k) false=HA ps c (c - k):=by
 rw[<-ah ho hc (c - k),<-Wv ho hc k (c - 2 - k) (c - k) (Hz _)];congr 2;omega
def R5 (b:Int): ∀(l M:List Int),(l.foldl QL M).contains b=(M.contains b||l.contains b)
 | [],M=>by simp
 | x::r,M=>by
   rw[List.foldl_cons,R5 b r,XD,List.contains_cons,Bool.or_assoc]
def tN {Z:AE} {l:List At} {i mm:Nat} {M:List Int} {k:Int} {b:Bool} {K:V->Prop} (e:M.contains k=b) (hk:K (.b b)) (h:Sat Z l:=by assumption)
    (hi:l[i]? =some (.map mm (UJ M)):=by first|exact Sa|exact SZ|exact SY|exact SX|exact SW|exact SV):AM Z (.i .i64) (.b false) false (.m mm) (eI k) K:=lkK (e ▸ hk) h hi
def ux (p : Prog) (c:Nat) (h10:p.AP.length<=10) (hsl:Cu 0 p.AP=true) (hg:D4 (A5 p)=true) (hc3:3<=c) (hc:c<3+p.AP.length) :
    Pure zP 325 [.a (BG p),eI c] (.l (iL ((EU p c (c - 2)).mergeSort Hy)) false):=by
 refine Pure.fit (by kernel_rfl) fun hf=>?_
 have hP:=J3 hf.1;have hM:=Mx;have hG:=ED hg;have ho:=Kx hG;have hgl:(A5 p).length=p.AP.length:=by simp[A5]
 refine wS kZ ?_;have hs:=Sn
 conv=>whnf
 repeat'((first|clear U K|apply st|(apply zk;intro K U)|refine zo fun nn hnn Z hs=>?_|fail)<;>conv=>whnf)
 replace hs:Sat Z [.map nn (UJ [])]:=hs
 conv=>whnf
 repeat'((first|clear U K|apply st|(apply zk;intro K U)|refine msK (fun Z hs=>?_)|fail)<;>conv=>whnf)
 generalize nn=mm at *;replace hs:Sat Z [.map mm (UJ [(c:Int)])]:=hs
 refine B1 (c - 2) (fun k (x:List Int×V)=>[(6,x.2),(7,eI ((c:Int) - k))]) (fun k x=>[.own x.2 1 (iL (EU p c k)),.map mm (UJ x.1)])
  (fun k x=>(∀b:Nat,b<3+(A5 p).length->x.1.contains (b:Int)=(H0 (A5 p) (3+(A5 p).length) c k).getD b false)/\((CC x.2).isSome=true\/(x.2= .l [] true/\EU p c k= []))/\(EU p c k).length<=4*k) ([(c:Int)],.l [] true) ?_ ⟨?_,.inr ⟨rfl,rfl⟩,by simp[EU]⟩ (Cq hs 1) ?_
 .simp[QK,get]
  exact⟨rfl,rfl,rfl⟩
 .intro b hb
  simp only[H0];rw[Ee (by simp;omega)];by_cases hbc:b=c
  .subst hbc;simp
  .rw[if_neg hbc]
   have:((c:Int)==(b:Int))=false:=by simp;omega
   simp[C6,List.getElem?_replicate];split<;>simp<;>omega
 clear hs;rintro k ⟨M,v⟩ Z hk ⟨hMb,hv,hml⟩ hs;dsimp only at hMb hv hs;rcases Nat.lt_or_ge k (c - 2)with hlt|hge
 .have hkc:M.contains ((c:Int) - k)=HA (A5 p) c (c - k):=by
   have:=hMb (c - k) (by omega);rw[ig ho (by omega) (by omega)]at this;rw[<-this];congr 1;omega
  have hcl:p.AP[(IntKind.i64.wrap ((c:Int) - k - 3)).toNat]? =some (J6 p (c - k)):=by
   rw[wrap64 (by omega) (by omega),show((c:Int) - k - 3).toNat=c - k - 3 by omega,J6,C6,Cs (by omega)];rfl
  have hwi:0<=IntKind.i64.wrap ((c:Int) - k - 3):=by rw[wrap64 (by omega) (by omega)];omega
  have hw1:IntKind.i64.wrap ((c:Int) - k - 1)=(c:Int) - (k+1:Nat):=by rw[wrap64 (by omega) (by omega)];omega
  have hmt:EU p c (k+1)=if HA (A5 p) c (c - k)then EU p c k++(J6 p (c - k)).AG else EU p c k:=rfl
  have hpar:(J6 p (c - k)).parents=par (A5 p) (c - k):=by
   unfold par J6 A5;rw[if_neg (by omega),C6,C6,Jm,Cs (by omega)];rfl
  have hcm:=hP.2 _ (Bp hcl);have hs4:=((Fm _ _ hsl).2 _ (Bp hcl)).2;have hst:=fun b=>Wu ho (show c<3+(A5 p).length by omega) k b
  rw[ig ho (by omega) (by omega),<-hpar]at hst;generalize J6 p (c - k)=cl at *;cases hb:HA (A5 p) c (c - k)
  .rw[hb]at hkc hmt hst
   rw[if_neg (by decide)]at hmt
   conv=>whnf
   repeat'((first|clear U K|apply st|(apply zk;intro K U)|refine zY ?_|refine tN hkc ?_|(refine zb (fun hc=>?_) (fun hc=>?_)<;>try exact⟨⟩)|fail)<;>conv=>whnf)
   all_goals try(exfalso;omega)
   rw[hw1];exact⟨hlt,(M,v),rfl,⟨fun b hb=>by rw[hMb b hb,hst b];simp,by rw[hmt];exact hv,by rw[hmt];omega⟩,by rw[hmt];exact hs⟩
  .rw [hb] at hkc hmt hst
   rw[if_pos rfl]at hmt
   conv=>whnf
   repeat'((first|clear U K|apply st|(apply zk;intro K U)|refine zY ?_|refine tN hkc ?_|(refine zb (fun hc=>?_) (fun hc=>?_)<;>try exact⟨⟩)|fail)<;>conv=>whnf)
   all_goals try(exfalso;omega)
   refine YI (Fe hs 0 rfl (by omega) Bo fun v' Z hs hv'=>?_);rw[<-hmt]at hs;refine zz ?_;(repeat clear U K);repeat intro K U
   refine B1 cl.parents.length (fun j (_:List Int)=>[(38,eI (A4 j))]) (fun _ M=>[.own v' 1 (iL (EU p c (k+1))),.map mm (UJ M)]) (fun j M'=>M'=(cl.parents.take j).foldl QL M) M rfl rfl hs ?_;clear hs;rintro j M' Z hj hM' hs;rcases A8 cl.parents hj with⟨q,hq,hjlt⟩|hje
   .conv=>whnf
    repeat'((first|clear U K|apply st|(apply zk;intro K U)|refine zY ?_|refine msK (fun Z hs=>?_)|fail)<;>conv=>whnf)
    exact⟨hjlt,_,rfl,by rw[AN hq,List.foldl_append,<-hM'];rfl,hs⟩
   .rw [Aq hje]at hM'
    refine zz ?_;(repeat clear U K);repeat intro K U
    rw[hw1];refine⟨hlt,(M',v'),rfl,⟨fun b hb=>?_,?_,?_⟩,hs⟩
    .rw[hM',R5,hMb b hb,hst b,Ds]
    .rcases hv' with hv'|⟨rfl,he⟩
     .exact .inl hv'
     .rcases hv with hv|⟨hv,hm0⟩
      .exact .inl hv
      .refine .inr ⟨hv,?_⟩
       rw[hmt,hm0,List.map_eq_nil_iff.1 he];rfl
    .rw[hmt,Nl];omega
 .have hkk:k=c - 2:=by omega
  rw[hkk]at hs hv hml;clear hMb
  conv=>whnf
  repeat'((first|clear U K|apply st|(apply zk;intro K U)|refine zY ?_|(refine zb (fun hc=>?_) (fun hc=>?_)<;>try exact⟨⟩)|fail)<;>conv=>whnf)
  all_goals try(exfalso;omega)
  refine(iA hv).use (rest:=[_]) hs ?_;clear hs;rintro r post Z ⟨rfl,rfl⟩ hs
  conv=>whnf
  repeat'((first|clear U K|apply st|(apply zk;intro K U)|fail)<;>conv=>whnf)
  refine(Qo _ v (by rw[List.length_mergeSort];omega)).use (rest:=[_]) hs ?_;clear hs;rintro r post Z ⟨rfl,rfl⟩ hs;refine zz ?_;(repeat clear U K);repeat intro K U
  exact A7 iP
def Rr {p : Prog} {c:Nat} (s:Int): ∀k,s∈EU p c k↔ ∃j,j<k/\HA (A5 p) c (c - j)=true/\s∈(J6 p (c - j)).AG
 | 0=>by simp[EU]
 | k + 1 =>by
   rw[EU];have ih:=Rr (p:=p) (c:=c) s k;constructor
   .intro h
    split at h
    .rename_i hu
     rcases Dy.1 h with h|h
     .obtain⟨j,h1,h2⟩:=ih.1 h
      exact⟨j,by omega,h2⟩
     .exact⟨k,by omega,hu,h⟩
    .obtain⟨j,h1,h2⟩:=ih.1 h
     exact⟨j,by omega,h2⟩
   .rintro⟨j,h1,h2,h3⟩
    by_cases hj:j=k
    .subst hj
     rw[if_pos h2];exact Dy.2 (.inr h3)
    .have:=ih.2 ⟨j,by omega,h2,h3⟩
     split
     .exact Dy.2 (.inl this)
     .exact this
def W8: ∀(l:List Int) (n s:Int),MH n l=true->(s∈l↔n<=s/\s<n+l.length)
 | [],n,s,_=>by simp<;>omega
 | x::r,n,s,h=>by
   simp only[MH,A9,C0]at h;obtain⟨rfl,h⟩:=h;have:=W8 r (x+1) s h;rw[GM,this,LF];omega
def TW: ∀(cs:List Sb) (i:Nat) (n s:Int),Cu n cs=true->0<=n-> ∀(j:Nat) (c:Sb),cs[j]? =some c->(s∈c.AG↔n<=s/\s<n+(Bt cs:Int)/\(BU i cs).getD (s - n).toNat 0=((i+j:Nat):Int)+3)
 | [],_,_,_,_,_,_,_,h=>by cases h
 | d ::r,i,n,s,h,h0,j,c,hj=>by
   simp only[Cu,A9,Cp]at h;obtain⟨-,-,hq,hr⟩:=h;have hm:=W8 d.AG n s hq;have hml:(Bt (d::r):Int)=d.AG.length+Bt r:=by simp[Bt]
   have hgd:n<=s->(BU i (d::r)).getD (s - n).toNat 0=if s<n+d.AG.length then(i:Int)+3 else(BU (i+1) r).getD (s - (n+d.AG.length)).toNat 0:=fun hns=>by
    simp only[BU,C6];split
    .rw[cz (by simp;omega),List.getElem?_replicate,if_pos (by omega)]
     rfl
    .rw[List.getElem?_append_right (by simp;omega)]
     congr 2;simp;omega
   have hout: ∀q,q∈BU (i+1) r->(3:Int)+((i+1:Nat):Int)<=q:=fun q hq=>(Gb hq).1
   cases j with
   | zero=>
     simp at hj;subst hj;rw[hm,hml];constructor
     .rintro⟨h1,h2⟩
      refine⟨h1,by omega,?_⟩;rw[hgd h1,if_pos h2];simp
     .rintro⟨h1,h2,h3⟩
      refine⟨h1,?_⟩;rw[hgd h1]at h3;by_cases hlt:s<n+d.AG.length
      .exact hlt
      .rw[if_neg hlt,C6]at h3
       have hlen:(s - (n+d.AG.length)).toNat<(BU (i+1) r).length:=by rw[Cj];omega
       rw[Cs hlen]at h3;have:=hout _ (List.getElem_mem hlen);simp at h3;omega
   | succ j=>
     simp at hj;have ih:=TW r (i+1) (n+d.AG.length) s hr (by omega) j c hj;rw[ih,hml];constructor
     .rintro⟨h1,h2,h3⟩
      refine⟨by omega,by omega,?_⟩;rw[hgd (by omega),if_neg (by omega),h3];omega
     .rintro⟨h1,h2,h3⟩
      rw[hgd h1]at h3;by_cases hlt:s<n+d.AG.length
      .rw[if_pos hlt]at h3;omega
      .rw[if_neg hlt]at h3
       exact⟨by omega,by omega,by rw[h3];omega⟩
def ly {p:Prog} {c:Nat} (hsl:Cu 0 p.AP=true) (ho:ordered (A5 p)) (hc3:3<=c) (hc:c<3+p.AP.length) (s:Int) :
    ((EU p c (c - 2)).mergeSort Hy).contains s=(decide (0<=s)&&(decide (s<(Bt p.AP:Int))&&hasB (AL p) (c:Int) s)):=by
 rw[JK,List.contains_iff_mem,(List.mergeSort_perm _ Hy).mem_iff,Rr];simp only[A9,Cp,hasB]
 have hown: ∀j,j<c - 2->(s∈(J6 p (c - j)).AG↔0<=s/\s<(Bt p.AP:Int)/\Bl (AL p) s=((c - j:Nat):Int)):=fun j hj=>by
  have hcl:p.AP[c - j - 3]? =some (J6 p (c - j)):=by
   rw[J6,C6,Cs (by omega)];rfl
  have:=TW p.AP 0 0 s hsl (by omega) (c - j - 3) _ hcl;rw[this];simp only[Int.sub_zero,Int.zero_add,Bl,AL];constructor
  .rintro⟨h1,h2,h3⟩;exact⟨h1,h2,by rw[h3];omega⟩
  .rintro⟨h1,h2,h3⟩;exact⟨h1,h2,by rw[h3];omega⟩
 constructor
 .rintro⟨j,h1,h2,h3⟩
  obtain⟨h4,h5,h6⟩:=(hown j h1).1 h3;refine⟨h4,h5,by omega,?_⟩;rw[h6];simp only[Ju,E9,A9,Cp];exact .inr (.inr ⟨by omega,by simpa[AL]using h2⟩)
 .rintro⟨h1,h2,h3,h4⟩
  have hmem:Bl (AL p) s∈BU 0 p.AP:=by
   have hlen:s.toNat<(BU 0 p.AP).length:=by rw[Cj];omega
   have:Bl (AL p) s=(BU 0 p.AP)[s.toNat]:=by
    simp only[Bl,AL,C6,Cs hlen];rfl
   rw[this];exact List.getElem_mem hlen
  have hb:=Gb hmem
  have hup:HA (A5 p) c (Bl (AL p) s).toNat=true:=by
   simp only[Ju,E9,A9,Cp,C0]at h4;rcases h4 with h4|h4|⟨_,h4⟩
   .rw[<-h4,Fi];exact FQ ho c
   .omega
   .simpa[AL]using h4
  have hle:=ij ho _ _ hup;refine⟨c - (Bl (AL p) s).toNat,by omega,?_,?_⟩
  .rw[show c - (c - (Bl (AL p) s).toNat)=(Bl (AL p) s).toNat by omega]
   exact hup
  .refine(hown _ (by omega)).2 ⟨h1,h2,by omega⟩
end Go.Gl
