import Derived.Test.YtegbmnmnaijioaaGreatQ6
import Derived.Test.YtegbmnmnaijioaaGreatQ7
set_option linter.all false
set_option linter.defProp false
set_option maxHeartbeats 8000000
noncomputable section
namespace Go.Gl
open Go.Proofs
attribute [local irreducible] Au Am Ab AR AK AY AQ AS AJ AX AN AP Ao Az Sat AU Ax Ad W
def Rj {w:AH} (f:Fact):Bb w f=true->S2 f=true:=by
 induction f using Fact.ind with
 | h f ih=>
   intro h;rw[CM]at h;simp only[DE,A9,EB,Cc]at h;rw[RH];simp only[A9,Cc,List.all_map,EB,Function.comp_apply,id];exact⟨⟨h.1.2.2.1,h.1.2.2.2.1⟩,fun k hk=>ih k hk (h.2 k hk)⟩
def P4 (p:Prog) (m:Ni):Bool:=decide (1<=m.kind)&&(decide (m.kind<=4)&&(decide (0<=m.gen)&&(decide (m.gen<(p.Cs.length:Int))&&(DM (AL p) m.fact&&decide (Gk m.fact<=p.Cs.getD m.gen.toNat 0)))))
def runM (p:Prog):List Ni->List Int->Option (List Int)
 | [],s=>some s
 | m::r,s=>if P4 p m then match CX p (K5 m.kind) 12 m.node (p.Cs.getD m.gen.toNat 0) s with
   | none=>none
   | some s'=>runM p r s' else none
def DA (p:Prog):Bool:=BC p&&(decide (p.Cs.length<=8)&&(decide (p.methods.length<=16)&&(decide (1<=p.nodes.length)&&(decide (p.nodes.length<=120)&&p.Cs.all fun g=>decide (1<=g)&&decide (g<=3)))))
def BY (p:Prog):Option (List Int):=if DA p then match runM p p.methods (List.replicate p.nodes.length (-1))with
 | none=>none
 | some s=>match CX p false 12 p.main 0 s with
   | none=>none
   | some s=>if s.all fun n=>decide (0<=n)then some s else none else none
def K6 (p:Prog):Option (List Int)->Option (List Int)
 | none=>none
 | some s=>match CX p false 12 p.main 0 s with
   | none=>none
   | some s=>if s.all fun n=>decide (0<=n)then some s else none
def Ol (p:Prog):V:=match BY p with
 | none=> .t [.l [] true,.b false]
 | some s=> .t [.l (iL s) false,.b true]
def rf {p:Prog} (h:BY p=none):Ol p= .t [.l [] true,.b false]:=by simp only[Ol,h]
def AAe {p:Prog} (h:DA p=false):Ol p= .t [.l [] true,.b false]:=rf (by unfold BY;rw[h];rfl)
def MI {p:Prog} {Z:AE} (h:BY p=none):Am Z (.t [.l [] true,.b false]) fun r Z'=>r=R.ret (Ol p)/\Z'=emp:=by
 rw[rf h];exact AF rfl
def QN {p:Prog} {Z:AE} (h:DA p=false):Am Z (.t [.l [] true,.b false]) fun r Z'=>r=R.ret (Ol p)/\Z'=emp:=by
 rw[AAe h];exact AF rfl
def bB {p:Prog} (h:DA p=true):BY p=K6 p (runM p p.methods (List.replicate p.nodes.length (-1))):=by
 unfold BY;rw[if_pos h];rfl
def Df {p:Prog} {k:Nat} {x:Ni} {s:List Int} (hx:p.methods[k]? =some x) (hn:BY p=K6 p (runM p (p.methods.drop k) s)) (hok:P4 p x=false):BY p=none:=by
 rw[hn,drop_cons hx,runM,if_neg (by simp[hok])];rfl
def TJ {p:Prog} {k:Nat} {x:Ni} {s:List Int} (hx:p.methods[k]? =some x) (hn:BY p=K6 p (runM p (p.methods.drop k) s)) (hok:P4 p x=true) (hw:CX p (K5 x.kind) 12 x.node (p.Cs.getD x.gen.toNat 0) s=none):BY p=none:=by
 rw[hn,drop_cons hx,runM,if_pos hok,hw];rfl
def aS {p:Prog} {k:Nat} {x:Ni} {s s':List Int} (hx:p.methods[k]? =some x) (hn:BY p=K6 p (runM p (p.methods.drop k) s)) (hok:P4 p x=true) (hw:CX p (K5 x.kind) 12 x.node (p.Cs.getD x.gen.toNat 0) s=some s'):BY p=K6 p (runM p (p.methods.drop (k+1)) s'):=by
 rw[hn,drop_cons hx,runM,if_pos hok,hw]
def Tf {p:Prog} (h:DA p=true) {k:Nat} {x:Int} (hx:p.Cs[k]? =some x):1<=x/\x<=3:=by
 simp only[DA,A9,EB,Cc]at h;exact h.2.2.2.2.2 x (Bo hx)
def uG (p:Prog):Pure zP 97 [.a (BG p)] (Ol p):=by
 refine Pure.fit (by kernel_rfl) fun hf=>?_
 have⟨p1,p2,p3,p4⟩:=Gi hf.1;have hM:=Mx;refine AAw kZ ?_;have hs:=Sn
 conv=>whnf
 repeat'((first|apply st|(apply sq;intro K U)|(apply si;intro A B hA hB)|(refine hA _ _ ?_;clear hB B hA A)|(apply U;clear U K)|refine⟨rfl,?_⟩|refine⟨kZ,?_⟩|refine Pure.use (fN _) ?_|(constructor<;>intro hc<;>(try rw[hc])<;>(replace hc:=bp hc)<;>(try simp(disch:=omega) only[B2,wrap64,Ae]at hc))|clear U K)<;>conv=>whnf)
 .exact QN (by simp[DA];intros;omega)
 rotate_left
 .exact QN (by simp[DA];intros;omega)
 .exact QN (by simp[DA];intros;omega)
 .exact QN (by simp[DA];intros;omega)
 .exact QN (by simp[DA, *])
 have a1:p.Cs.length<=8:=by omega
 have a2:p.methods.length<=16:=by omega
 have a3:1<=p.nodes.length:=by omega
 have a4:p.nodes.length<=120:=by omega
 have hg:DA p=p.Cs.all fun g=>decide (1<=g)&&decide (g<=3):=by
  simp only[DA,a1,a2,a3,a4,decide_true,EA];simp[*]
 refine Bw p.Cs.length (fun k (_:Unit)=>[(4,eI (A6 k))]) (fun _ _=>[]) (fun k _=>DA p=(p.Cs.drop k).all fun g=>decide (1<=g)&&decide (g<=3)) () rfl (by simpa using hg) hs ?_;clear hs;rintro k - Z hk hn hs
 conv=>whnf
 repeat'((first|apply st|(apply sq;intro K U)|(apply si;intro A B hA hB)|(refine hA _ _ ?_;clear hB B hA A)|(apply U;clear U K)|refine⟨rfl,?_⟩|refine ix ?_|(refine fc (fun x hx hlt hc=>?_) (fun hk hc=>?_)<;>(try rw[hc])<;>clear hc)|(constructor<;>intro hc<;>(try rw[hc])<;>(replace hc:=bp hc))|clear U K)<;>conv=>whnf)
 .exact QN (by rw[hn,drop_cons hx];simp;intros;omega)
 .exact⟨hlt,(),rfl,by rw[hn,drop_cons hx];simp[*],hs⟩
 .exact QN (by rw[hn,drop_cons hx];simp;intros;omega)
 have hh:DA p=true:=by rw[hn,Ai hk];rfl
 have hP:=Ju hf.1;have hcB:BC p=true:=by assumption
 have hsb:Ct 0 p.AM=true:=by simp only[BC,A9]at hcB;exact hcB.2.1
 have hc10:p.AM.length<=1000:=by simp only[BC,A9,Cc]at hcB;omega
 have hmS:Bq p.AM<=AZ:=by have:=(Fe _ _ hsb).1;simp only[BC,A9,Cc]at hcB;omega
 have hL:=bB hh;clear hn hg;refine Bw p.nodes.length (fun j v=>[(5,v),(6,eI (A6 j))]) (fun j v=>[.own v 1 (iL (List.replicate j (-1)))]) (fun j v=>1<=j->(B7 v).isSome=true) (.l [] true) rfl (fun h=>by omega) (Dw hs 1) ?_;clear hs;rintro j v Z hj hv hs
 conv=>whnf
 repeat'((first|apply st|(apply sq;intro K U)|(apply si;intro A B hA hB)|(refine hA _ _ ?_;clear hB B hA A)|(apply U;clear U K)|refine⟨rfl,?_⟩|refine⟨kZ,?_⟩|refine sn fun Z hs=>?_|refine aq fun v Z hs hsl=>?_|(refine fc (fun x hx hlt hc=>?_) (fun hk hc=>?_)<;>(try rw[hc])<;>clear hc)|refine Pure.use (PY _ (by assumption) (by omega) (by assumption)) ?_|(intro nn hnn;generalize hg:B3 _ nn _=Z;refine al hg fun hs=>?_;clear hg)|clear U K)<;>conv=>whnf)
 .exact⟨hlt,_,rfl,fun _=>hsl,by rw[List.replicate_succ'];exact hs⟩
 have hsv:=hv (by omega);subst hk;refine Bw p.methods.length (fun k (s:List Int)=>[(8,eI (A6 k))]) (fun _ s=>[.own v 1 (iL s),.box nn (A0 (AL p))]) (fun k s=>s.length=p.nodes.length/\BY p=K6 p (runM p (p.methods.drop k) s)) (List.replicate p.nodes.length (-1)) rfl ⟨by simp,hL⟩ hs ?_;clear hs;rintro k s Z hk ⟨hl,hn⟩ hs
 conv=>whnf
 repeat'((first|apply st|(apply sq;intro K U)|(apply si;intro A B hA hB)|(refine hA _ _ ?_;clear hB B hA A)|(apply U;clear U K)|apply dr|refine rk ?_ ?_|exact fun s e=>by cases e;rfl|refine⟨rfl,?_⟩|refine⟨kZ,?_⟩|refine ix ?_|refine iq fun x hx=>?_|refine ld ?_|refine sn fun Z hs=>?_|(refine fc (fun x hx hlt hc=>?_) (fun hk hc=>?_)<;>(try rw[hc])<;>clear hc)|refine Pure.use (lr _ _) ?_|(constructor<;>intro hc<;>(try rw[hc])<;>(replace hc:=bp hc)<;>(try simp(disch:=omega) only[B2,wrap64,Ae]at hc))|(intro nn hnn;generalize hg:B3 _ nn _=Z;refine al hg fun hs=>?_;clear hg)|clear U K)<;>conv=>whnf)
 rotate_left
 .exact MI (Df hx hn (by simp[P4, *]))
 .exact MI (Df hx hn (by simp[P4];intros;omega))
 .exact MI (Df hx hn (by simp[P4];intros;omega))
 .exact MI (Df hx hn (by simp[P4];intros;omega))
 .exact MI (Df hx hn (by simp[P4];intros;omega))
 .refine(iE p false 12 (IW _) p.main 0 1 s v rfl (by omega) (by omega) hl hsv).use hs ?_
  clear hs;rintro r post Z ⟨s2,hl2,rfl,⟨ho,rfl⟩|⟨ho,rfl⟩⟩ hs
  .conv=>whnf
   repeat'((first|apply st|(apply sq;intro K U)|(apply si;intro A B hA hB)|(refine hA _ _ ?_;clear hB B hA A)|(apply U;clear U K)|(constructor<;>intro hc<;>(try rw[hc])<;>(replace hc:=bp hc)<;>(try simp(disch:=omega) only[B2,wrap64,Ae]at hc))|clear U K)<;>conv=>whnf)
   .cases hc
   have hz:BY p=if s2.all fun n=>decide (0<=n)then some s2 else none:=by rw[hn,Ai hk,runM,K6,ho]
   refine Bw s2.length (fun j (_:Unit)=>[(10,eI (A6 j))]) (fun _ _=>[.own v 1 (iL s2),.box nn (A0 (AL p))]) (fun j _=>BY p=if(s2.drop j).all fun n=>decide (0<=n)then some s2 else none) () rfl hz hs ?_;clear hs;rintro j - Z hj hz hs
   conv=>whnf
   repeat'((first|apply st|(apply sq;intro K U)|(apply si;intro A B hA hB)|(refine hA _ _ ?_;clear hB B hA A)|(apply U;clear U K)|refine⟨rfl,?_⟩|refine oc ?_|refine ol fun x hx=>?_|(refine fc (fun x hx hlt hc=>?_) (fun hk hc=>?_)<;>(try rw[hc])<;>clear hc)|refine lo ?_|(constructor<;>intro hc<;>(try rw[hc])<;>(replace hc:=bp hc))|clear U K)<;>conv=>whnf)
   .exact MI (by rw[hz,drop_cons hx,KE,if_neg];simp;intros;omega)
   .exact⟨hlt,(),rfl,by rw[hz,drop_cons hx,KE];simp[*],hs⟩
   .have hz2:BY p=some s2:=by rw[hz,Ai (by assumption)];rfl
    simp only[Ol,hz2];exact A8 (.t (.cons (hs.GC 0 rfl) (.cons (.refl _) .nil)))
  .conv=>whnf
   repeat'((first|apply st|(apply sq;intro K U)|(apply si;intro A B hA hB)|(refine hA _ _ ?_;clear hB B hA A)|(apply U;clear U K)|(constructor<;>intro hc<;>(try rw[hc])<;>(replace hc:=bp hc)<;>(try simp(disch:=omega) only[B2,wrap64,Ae]at hc))|clear U K)<;>conv=>whnf)
   .exact MI (by rw[hn,Ai hk,runM,K6,ho])
   .cases hc
 rename Ni=>m
 rename p.methods[k]? =some m=>hm
 refine(kV m.fact (Rj _ (by(have:DM (AL p) m.fact=true:=by assumption);simp only[DM,A9]at this;exact this.2.2))).use ?_
 conv=>whnf
 repeat'((first|apply st|(apply sq;intro K U)|(apply si;intro A B hA hB)|(refine hA _ _ ?_;clear hB B hA A)|(apply U;clear U K)|apply dr|refine rk ?_ ?_|exact fun s e=>by cases e;rfl|refine⟨rfl,?_⟩|refine⟨kZ,?_⟩|refine iq fun x hx=>?_|refine ld ?_|refine Pure.use (uA _) ?_|(constructor<;>intro hc<;>(try rw[hc])<;>(replace hc:=bp hc))|clear U K)<;>conv=>whnf)
 .exact MI (Df hm hn (by simp[P4,C4,hx];intros;omega))
 obtain⟨hx1,hx3⟩:=Tf hh hx;have hgd:p.Cs.getD m.gen.toNat 0=x:=by rw[C4,hx];rfl
 rename p.Cs[m.gen.toNat]? =some _=>hx2
 have hxe:=Option.some.inj (hx.symm.trans hx2);subst hxe;have hok:P4 p m=true:=by simp only[P4,hgd,A9,Cc];exact⟨by assumption,by omega,by assumption,by assumption,by assumption,by assumption⟩
 refine(iE p (K5 m.kind) 12 (IW _) m.node x 1 s v rfl (by omega) (by omega) hl hsv).use (rest:=[_,_]) hs ?_;clear hs;rintro r post Z ⟨s2,hl2,rfl,⟨ho,rfl⟩|⟨ho,rfl⟩⟩ hs
 .conv=>whnf
  repeat'((first|apply st|(apply sq;intro K U)|(apply si;intro A B hA hB)|(refine hA _ _ ?_;clear hB B hA A)|(apply U;clear U K)|apply dr|refine⟨rfl,?_⟩|(constructor<;>intro hc<;>(try rw[hc])<;>(replace hc:=bp hc)<;>(try simp(disch:=omega) only[B2,wrap64,Ae]at hc))|clear U K)<;>conv=>whnf)
  .cases hc
  .exact⟨by assumption,s2,rfl,⟨by omega,aS hm hn hok (by rw[hgd];exact ho)⟩,hs.less (.cons₂ _ (.cons₂ _ (JW _)))⟩
 .conv=>whnf
  repeat'((first|apply st|(apply sq;intro K U)|(apply si;intro A B hA hB)|(refine hA _ _ ?_;clear hB B hA A)|(apply U;clear U K)|apply dr|refine⟨rfl,?_⟩|(constructor<;>intro hc<;>(try rw[hc])<;>(replace hc:=bp hc)<;>(try simp(disch:=omega) only[B2,wrap64,Ae]at hc))|clear U K)<;>conv=>whnf)
  .exact MI (TJ hm hn hok (by rw[hgd];exact ho))
  .cases hc
def tc (p:Prog):Pure zP 36 [.a (BG p)] (.b (BY p).isSome):=by
 refine ABE kZ ?_;have h:=uG p;unfold Ol at h;cases hl:BY p with
 | none=>
   rw[hl]at h
   conv=>whnf
   repeat'((first|clear U K|apply st|(apply zk;intro K U)|refine zn ?_|refine zC ?_|fail)<;>conv=>whnf)
   all_goals exact AF (by first|rfl|simp)
 | some s=>
   rw[hl]at h
   conv=>whnf
   repeat'((first|clear U K|apply st|(apply zk;intro K U)|refine zn ?_|refine zC ?_|fail)<;>conv=>whnf)
   all_goals exact AF (by first|rfl|simp)
def Ix (xs ys:List Int) (f g:Bool):Pure zP 40 [.l (iL xs) f,.l (iL ys) g] (.b (xs==ys)):=by
 refine Pure.fit (by kernel_rfl) fun hf=>?_
 have hx:=MH hf.1;have hy:=MH hf.2.1;have hM:=Mx;refine ABD kZ ?_;have hs:=Sn
 conv=>whnf
 repeat'((first|clear U K|apply st|(apply zk;intro K U)|refine zn ?_|(refine zd (fun hc=>?_) (fun hc=>?_)<;>try exact⟨⟩)|fail)<;>conv=>whnf)
 .exact AF (by(have:(xs==ys)=false:=by(simp;intro e;subst e;simp at hc));rw[this])
 have hl:xs.length=ys.length:=by omega
 refine Bw xs.length (fun k (_:Unit)=>[(13,eI (A6 k))]) (fun _ _=>[]) (fun k _=>(xs==ys)=(xs.drop k==ys.drop k)) () rfl rfl Sat.nil ?_;clear hs;rintro k - Z hk hn hs;by_cases hlt:k<xs.length
 .obtain⟨y,hyk⟩: ∃y,ys[k]? =some y:=⟨_,Cr (by omega)⟩
  conv=>whnf
  repeat'((first|clear U K|apply st|(apply zk;intro K U)|refine zn ?_|(refine fc (fun x hx hlt hc=>?_) (fun hk hc=>?_)<;>(try rw[hc])<;>clear hc)|refine za (fun hc=>?_) fun hc=>?_|fail)<;>conv=>whnf)
  .exact AF (by rw[hn,drop_cons hx,drop_cons hyk];simp[hc])
  .exact⟨hlt,(),rfl,by rw[hn,drop_cons hx,drop_cons hyk,hc];simp,hs⟩
  .omega
 .conv=>whnf
  repeat'((first|clear U K|apply st|(apply zk;intro K U)|refine zn ?_|refine ze fun x hx=>?_|(refine fc (fun x hx hlt hc=>?_) (fun hk hc=>?_)<;>(try rw[hc])<;>clear hc)|(refine zb (fun hc=>?_) (fun hc=>?_)<;>try exact⟨⟩)|fail)<;>conv=>whnf)
  exact AF (by rw[hn,Ai hk,Ai (by omega)];rfl)
def Si:List (Fact->Bool)->List Fact->Bool
 | h::r,k::s=>h k&&Si r s
 | _,_=>true
def rO (f:Fact) (l:List (Fact->Bool)) (g:Fact):Bool:=f.op==g.op&&(f.arg==g.arg&&(f.cls==g.cls&&(f.n==g.n&&(f.path==g.path&&(f.kids.length==g.kids.length&&Si l g.kids)))))
def Fx (f:Fact):Fact->Bool:=f.Hu rO
def Mm (f g:Fact):Fx f g=(f.op==g.op&&(f.arg==g.arg&&(f.cls==g.cls&&(f.n==g.n&&(f.path==g.path&&(f.kids.length==g.kids.length&&Si (f.kids.map Fx) g.kids)))))):=congrFun (Fact.Ds rO f) g
def XY {xs ys:List Fact} (h: ∀x∈xs,∀y,Fx x y=true↔x=y) (hl:xs.length=ys.length):Si (xs.map Fx) ys=true↔xs=ys:=by
 induction xs generalizing ys with
 | nil=>cases ys with
   | nil=>simp[Si]
   | cons _ _=>simp at hl
 | cons x r ih=>cases ys with
   | nil=>simp at hl
   | cons y s=>
     simp only[E3,Si,A9,List.cons.injEq];rw[h x (.head _) y,ih (fun x hx=>h x (.tail _ hx)) (by simpa using hl)]
def OB (f g:Fact):Fx f g=true↔f=g:=by
 induction f using Fact.ind generalizing g with
 | h f ih=>
   rw[Mm];cases f with
   | mk o a p c n k=>cases g with
     | mk o' a' p' c' n' k'=>
       simp only[Fact.op,Fact.arg,Fact.cls,Fact.n,Fact.path,Fact.kids,A9,DD,Fact.mk.injEq]at *;constructor
       .rintro⟨rfl,rfl,rfl,rfl,rfl,hl,h⟩
        exact⟨rfl,rfl,rfl,rfl,rfl,(XY (fun x hx y=>ih x hx y) hl).1 h⟩
       .rintro⟨rfl,rfl,rfl,rfl,rfl,rfl⟩
        exact⟨rfl,rfl,rfl,rfl,rfl,rfl,(XY (fun x hx y=>ih x hx y) rfl).2 rfl⟩
def oN (f g:Fact):Pure zP 27 [.a (xF f),.a (xF g)] (.b (Fx f g)):=by
 induction f using Fact.ind generalizing g with
 | h f ih=>
   refine Pure.fit (by kernel_rfl) fun hf=>?_
   have⟨h2,h3,h4⟩:=K8 hf.1;have⟨g2,g3,g4⟩:=K8 hf.2.1;have hM:=Mx;refine ABI kZ ?_;have hs:=Sn
   conv=>whnf
   repeat'((first|clear U K|apply st|(apply zk;intro K U)|refine zn ?_|refine Pure.use (Ix _ _ _ _) ?_|(refine zd (fun hc=>?_) (fun hc=>?_)<;>try exact⟨⟩)|fail)<;>conv=>whnf)
   rotate_left
   all_goals try exact AF (by rw[Mm];simp[*]<;>omega)
   rotate_left
   .have hkl:f.kids.length=g.kids.length:=by omega
    refine Bw f.kids.length (fun k (_:Unit)=>[(52,eI (A6 k))]) (fun _ _=>[]) (fun k _=>Fx f g=Si ((f.kids.drop k).map Fx) (g.kids.drop k)) () rfl (by rw[Mm];simp[*]) Sat.nil ?_;clear hs;rintro k - Z hk hn hs;by_cases hlt:k<f.kids.length
    .obtain⟨y,hyk⟩: ∃y,g.kids[k]? =some y:=⟨_,Cr (by omega)⟩
     conv=>whnf
     repeat'((first|clear U K|apply st|(apply zk;intro K U)|refine zn ?_|(refine fc (fun x hx hlt hc=>?_) (fun hk hc=>?_)<;>(try rw[hc])<;>clear hc)|fail)<;>conv=>whnf)
     .refine(ih x (Bo hx) y).use ?_
      conv=>whnf
      repeat'((first|clear U K|apply st|(apply zk;intro K U)|refine zn ?_|refine za (fun hc=>?_) fun hc=>?_|fail)<;>conv=>whnf)
      .exact AF (by rw[hn,drop_cons hx,drop_cons hyk,E3,Si,hc];rfl)
      .exact⟨hlt,(),rfl,by rw[hn,drop_cons hx,drop_cons hyk,E3,Si,hc];rfl,hs⟩
     .omega
    .conv=>whnf
     repeat'((first|clear U K|apply st|(apply zk;intro K U)|refine zn ?_|refine ze fun x hx=>?_|(refine fc (fun x hx hlt hc=>?_) (fun hk hc=>?_)<;>(try rw[hc])<;>clear hc)|fail)<;>conv=>whnf)
     all_goals first|(exfalso;omega)|exact AF (by rw[hn,Ai hk];rfl)
def EV (f:Fact):Fact:= .mk 5 0 [] 0 0 [f]
def PO (f g:Fact):Fact:= .mk 6 0 [] 0 0 [f,g]
def iZ (f:Fact):Pure zP 68 [.a (xF f)] (.a (xF (EV f))):=by
 refine ABA kZ ?_;have hs:=Sn
 conv=>whnf
 repeat'((first|clear U K|apply st|(apply zk;intro K U)|refine zX ?_|refine zr fun Z hs=>?_|refine zp fun nn hnn Z hs=>?_|fail)<;>conv=>whnf)
 refine A8 (.a (.cons (.refl _) (.cons (.refl _) (.cons FE (.cons (.refl _) (.cons (.refl _) (.cons ?_ .nil)))))));refine .l (fun h=>by cases h) ?_;simp only[EV,Fact.kids,List.map,Bg];exact Ez _
def yx (f g:Fact):Pure zP 70 [.a (xF f),.a (xF g)] (.a (xF (PO f g))):=by
 refine AA9 kZ ?_;have hs:=Sn
 conv=>whnf
 repeat'((first|clear U K|apply st|(apply zk;intro K U)|refine zX ?_|refine zr fun Z hs=>?_|refine zp fun nn hnn Z hs=>?_|fail)<;>conv=>whnf)
 refine A8 (.a (.cons (.refl _) (.cons (.refl _) (.cons FE (.cons (.refl _) (.cons (.refl _) (.cons ?_ .nil)))))));refine .l (fun h=>by cases h) ?_;simp only[PO,Fact.kids,List.map,Bg];exact Ez _
def Ew (l:Fact):Prop:=l.op=5->l.kids≠[]
def Af (l:Fact):Fact×Bool:=if l.op=5 then(l.kids.headD default,true)else(l,false)
def Gq (l:Fact) (h:Ew l):Pure zP 370 [.a (xF l)] (.t [.a (xF (Af l).1),.b (Af l).2]):=by
 refine Pure.fit (by kernel_rfl) fun hf=>?_
 have⟨h2,h3,h4⟩:=K8 hf.1;refine vB kZ ?_;have hs:=Sn;by_cases h5:l.op=5
 .have hk:0<l.kids.length:=List.length_pos_iff.2 (h h5)
  conv=>whnf
  repeat'((first|clear U K|apply st|(apply zk;intro K U)|refine zX ?_|refine ze fun x hx=>?_|refine zr fun Z hs=>?_|(refine zb (fun hc=>?_) (fun hc=>?_)<;>try exact⟨⟩)|refine zp fun nn hnn Z hs=>?_|fail)<;>conv=>whnf)
  all_goals try(exfalso;omega)
  refine AF ?_
  have:l.kids.headD default=x:=by
   cases hl:l.kids with
   | nil=>rw[hl]at hk;simp at hk
   | cons y r=>rw[hl]at hx;simpa using hx
  simp only[Af,if_pos h5,this];rfl
 .conv=>whnf
  repeat'((first|clear U K|apply st|(apply zk;intro K U)|refine zX ?_|refine zr fun Z hs=>?_|(refine zb (fun hc=>?_) (fun hc=>?_)<;>try exact⟨⟩)|refine zp fun nn hnn Z hs=>?_|fail)<;>conv=>whnf)
  all_goals try(exfalso;omega)
  refine AF ?_;simp only[Af,if_neg h5];rfl
def Bc (path pre:List Int):Bool:=decide (pre.length<=path.length)&&path.take pre.length==pre
def T1 (xs ys:List Int) (f g:Bool):Pure zP 378 [.l (iL xs) f,.l (iL ys) g] (.b (Bc xs ys)):=by
 refine Pure.fit (by kernel_rfl) fun hf=>?_
 have hx:=MH hf.1;have hy:=MH hf.2.1;have hM:=Mx;refine uv kZ ?_;have hs:=Sn
 conv=>whnf
 repeat'((first|clear U K|apply st|(apply zk;intro K U)|refine zX ?_|refine Pure.use (Ix _ _ _ _) ?_|(refine zd (fun hc=>?_) (fun hc=>?_)<;>try exact⟨⟩)|fail)<;>conv=>whnf)
 .refine AF ?_
  have:ys.length<=xs.length:=by omega
  simp[Bc,this]
 .refine AF ?_
  have: ¬ys.length<=xs.length:=by omega
  simp[Bc,this]
def FB (w:AH) (ls:List Fact) (a:Int) (p:List Int) (c:Bool):List V:=[.l (EK w.parents) false,.l (iL w.owner) false,.l (facts ls) false,eI a,.l (iL p) false,.b c]
def Io (w:AH) (ls:List Fact) (a:Int) (p:List Int) (c:Bool) (s:Int) (hp:p.length<100):Pure zP 373 [.a (FB w ls a p c),eI s] (.a (FB w ls a (p++[s]) c)):=by
 have hM:=Mx;refine uz kZ ?_;have hs:=Sn
 conv=>whnf
 repeat'((first|clear U K|apply st|(apply zk;intro K U)|refine zX ?_|refine zp fun nn hnn Z hs=>?_|fail)<;>conv=>whnf)
 replace hs:=Dw hs 1;refine FV hs 1 (xs:=[]) (ys:=p) rfl (by simp;omega) Bm fun v Z hs=>?_
 conv=>whnf
 repeat'((first|apply st|refine zX ?_|refine rk ?_ ?_|exact fun s e=>by cases e;rfl|refine aq fun v Z hs hsl=>?_|fail)<;>conv=>whnf)
 obtain⟨n,l,cc,rfl⟩:=gg hsl
 conv=>whnf
 repeat'((first|clear U K|apply st|refine zX ?_|refine zr fun Z hs=>?_|fail)<;>conv=>whnf)
 exact A8 (.a (.cons (.refl _) (.cons (.refl _) (.cons (.refl _) (.cons (.refl _) (.cons (hs.GC 1 rfl) (.cons (.refl _) .nil)))))))
def Fo (a:Int) (p:List Int) (l:Fact):Bool:=(Af l).1.arg==a&&(Af l).1.path==p
def F5 {w:AH} {ls:List Fact} {a:Int} {p:List Int} {c:Bool} (h:FP (.a (FB w ls a p c))):ls.length<=AZ/\p.length<=AZ/\w.owner.length<=AZ/\w.parents.length<=AZ:=by
 simp only[FB,Hb,Dh,Ha,B2]at h;exact⟨h.2.2.1.1,h.2.2.2.2.1.1,h.2.1.1,h.1.1⟩
def Z2 (w:AH) (ls:List Fact) (a:Int) (p:List Int) (c:Bool) (hok: ∀l∈ls,Ew l) (hln:ls.length<=1000000):Pure zP 369 [.a (FB w ls a p c)] (.l (facts (ls.filter (Fo a p))) false):=by
 refine Pure.fit (by kernel_rfl) fun hf=>?_
 have⟨h1,h2,h3,h4⟩:=F5 hf.1;have hM:=Mx;refine vC kZ ?_;have hs:=Sn;refine zv ?_;(repeat clear U K);repeat intro K U
 refine Bw ls.length (fun k v=>[(3,v),(11,eI (A6 k))]) (fun k v=>[.own v 6 (facts ((ls.take k).filter (Fo a p)))]) (fun _ _=>True) (.l [] true) rfl trivial (Dw hs 6) ?_;clear hs;rintro k v Z hk - hs;have hfl:=Oc (Fo a p) (ls.take k)
 conv=>whnf
 repeat'((first|clear U K|apply st|(apply zk;intro K U)|refine zX ?_|refine zr fun Z hs=>?_|refine apF fun v Z hs hsl=>?_|(refine fc (fun x hx hlt hc=>?_) (fun hk hc=>?_)<;>(try rw[hc])<;>clear hc)|refine Pure.use (Gq _ (hok _ (Bo (by assumption)))) ?_|refine Pure.use (Ix _ _ _ _) ?_|refine za (fun hc=>?_) fun hc=>?_|refine zp fun nn hnn Z hs=>?_|fail)<;>conv=>whnf)
 .exact⟨hlt,_,rfl,trivial,by rw[AO hx,List.filter_append];simpa[Fo, *]using hs.take 1⟩
 .exact⟨hlt,_,rfl,trivial,by rw[AO hx,List.filter_append];simpa[Fo, *]using hs.take 1⟩
 .exact⟨hlt,_,rfl,trivial,by rw[AO hx,List.filter_append];simpa[Fo, *]using hs.take 1⟩
 .exact Ea hs 0 rfl (by rw[Aq hk])
def DF (ls:List Fact) (a:Int) (p:List Int):Bool:=ls.all fun l=>(Af l).2|| !((Af l).1.arg==a&&Bc (Af l).1.path p)
def VQ (w:AH) (ls:List Fact) (a:Int) (p:List Int) (c:Bool) (hok: ∀l∈ls,Ew l):Pure zP 374 [.a (FB w ls a p c)] (.b (DF ls a p)):=by
 refine Pure.fit (by kernel_rfl) fun hf=>?_
 have⟨h1,h2,h3,h4⟩:=F5 hf.1;have hM:=Mx;refine uy kZ ?_;have hs:=Sn;refine zv ?_;(repeat clear U K);repeat intro K U
 refine Bw ls.length (fun k (_:Unit)=>[(10,eI (A6 k))]) (fun k _=>[]) (fun k _=>DF ls a p=(ls.drop k).all fun l=>(Af l).2|| !((Af l).1.arg==a&&Bc (Af l).1.path p)) () rfl rfl hs ?_;clear hs;rintro k - Z hk hn hs
 conv=>whnf
 repeat'((first|clear U K|apply st|(apply zk;intro K U)|refine zX ?_|refine zr fun Z hs=>?_|(refine fc (fun x hx hlt hc=>?_) (fun hk hc=>?_)<;>(try rw[hc])<;>clear hc)|refine Pure.use (Gq _ (hok _ (Bo (by assumption)))) ?_|refine Pure.use (T1 _ _ _ _) ?_|refine za (fun hc=>?_) fun hc=>?_|refine zp fun nn hnn Z hs=>?_|fail)<;>conv=>whnf)
 .exact AF (by rw[hn,drop_cons hx,KE];simp[*])
 .exact⟨hlt,(),rfl,by rw[hn,drop_cons hx,KE];simp[*],hs.take 0⟩
 .exact⟨hlt,(),rfl,by rw[hn,drop_cons hx,KE];simp[*],hs.take 0⟩
 .exact⟨hlt,(),rfl,by rw[hn,drop_cons hx,KE];simp[*],hs.take 0⟩
 .exact AF (by rw[hn,Ai hk];rfl)
def BV (n:Nat):List Int:=(List.range n).map Int.ofNat
def J7 (n:Nat):BV (n+1)=BV n++[(n:Int)]:=by simp[BV,List.range_succ]
def DQ (n:Nat):(BV n).length=n:=by simp[BV]
def YM (a:Int) (p:List Int) (s:Int) (l:Fact):Bool:=(Af l).1.arg==a&&Bc (Af l).1.path (p++[s])
def BO (n:Nat) (ls:List Fact) (a:Int) (p:List Int):List Int:=(BV n).filter fun s=>ls.any (YM a p s)
def Qp (w:AH) (ls:List Fact) (a:Int) (p:List Int) (c:Bool) (hok: ∀l∈ls,Ew l) (hp:p.length<100) :
    Pure zP 372 [.a (FB w ls a p c)] (.l (iL (BO w.owner.length ls a p)) false):=by
 refine Pure.fit (by kernel_rfl) fun hf=>?_
 have⟨h1,h2,h3,h4⟩:=F5 hf.1;have hM:=Mx;refine u9 kZ ?_;have hs:=Sn;refine zv ?_;(repeat clear U K);repeat intro K U
 refine Bw w.owner.length (fun k v=>[(3,v),(14,eI (A6 k))]) (fun k v=>[.own v 1 (iL (BO k ls a p))]) (fun _ _=>True) (.l [] true) rfl trivial (Dw hs 1) ?_;clear hs;rintro k v Z hk - hs;have hck:A6 k=k:=Ae (by omega);have hfl:=Oc (fun s=>ls.any (YM a p s)) (BV k);rw[DQ]at hfl;have hfl2:(BO k ls a p).length<=k:=hfl
 conv=>whnf
 repeat'((first|clear U K|apply st|(apply zk;intro K U)|refine zX ?_|(refine fc (fun x hx hlt hc=>?_) (fun hk hc=>?_)<;>(try rw[hc])<;>clear hc)|fail)<;>conv=>whnf)
 .refine Bw ls.length (fun j b=>[(5,.b b),(20,eI (A6 j))]) (fun j _=>[.own v 1 (iL (BO k ls a p))]) (fun j b=>b=(ls.take j).any (YM a p (A6 k))) false rfl (by simp) hs ?_
  clear hs;rintro j b Z hj hb hs;subst hb
  conv=>whnf
  repeat'((first|clear U K|apply st|(apply zk;intro K U)|refine zX ?_|refine rk ?_ ?_|exact fun s e=>by cases e;rfl|refine zr fun Z hs=>?_|refine aq fun v Z hs hsl=>?_|(refine fc (fun x hx hlt hc=>?_) (fun hk hc=>?_)<;>(try rw[hc])<;>clear hc)|refine Pure.use (Gq _ (hok _ (Bo (by assumption)))) ?_|refine Pure.use (T1 _ _ _ _) ?_|refine Pure.use (Io _ _ _ _ _ _ (by omega)) ?_|(refine zd (fun hc=>?_) (fun hc=>?_)<;>try exact⟨⟩)|refine zp fun nn hnn Z hs=>?_|fail)<;>conv=>whnf)
  .exact⟨hlt,_,rfl,by rw[AO hx,List.any_append];simp[YM, *],hs.take 1⟩
  .exact⟨hlt,_,rfl,by rw[AO hx,List.any_append];simp[YM, *],hs.take 1⟩
  .exact⟨hlt,true,rfl,by rw[AO hx,List.any_append];simp[*],hs.take 1⟩
  .refine⟨by assumption,_,rfl,trivial,?_⟩
   rw[Aq hk]at hc;rw[BO,J7,List.filter_append];simp only[BO]at hs;simpa[hc,hck]using hs
  .refine⟨by assumption,_,rfl,trivial,?_⟩
   rw[Aq hk]at hc;rw[BO,J7,List.filter_append];simp only[BO]at hs;simpa[hc,hck]using hs
 .exact Ea hs 0 rfl (by rw[hk])
def DY (n:Nat) (ls:List Fact) (a:Int) (p:List Int):Bool:=(BO n ls a p).all fun s=>DF ls a (p++[s])
def bf (w:AH) (ls:List Fact) (a:Int) (p:List Int) (c:Bool) (hok: ∀l∈ls,Ew l) (hp:p.length<50):Pure zP 371 [.a (FB w ls a p c)] (.b (DY w.owner.length ls a p)):=by
 refine Pure.fit (by kernel_rfl) fun hf=>?_
 have⟨h1,h2,h3,h4⟩:=F5 hf.1;have hM:=Mx;refine vA kZ ?_;have hs:=Sn;have hfl:=Oc (fun s=>ls.any (YM a p s)) (BV w.owner.length);rw[DQ]at hfl;have hfl2:(BO w.owner.length ls a p).length<=w.owner.length:=hfl
 conv=>whnf
 repeat'((first|clear U K|apply st|(apply zk;intro K U)|refine zX ?_|refine Pure.use (Qp _ _ _ _ _ hok (by omega)) ?_|fail)<;>conv=>whnf)
 refine Bw (BO w.owner.length ls a p).length (fun k (_:Unit)=>[(8,eI (A6 k))]) (fun k _=>[]) (fun k _=>DY w.owner.length ls a p=((BO w.owner.length ls a p).drop k).all fun s=>DF ls a (p++[s])) () rfl rfl hs ?_;clear hs;rintro k - Z hk hn hs
 conv=>whnf
 repeat'((first|clear U K|apply st|(apply zk;intro K U)|refine zX ?_|(refine fc (fun x hx hlt hc=>?_) (fun hk hc=>?_)<;>(try rw[hc])<;>clear hc)|refine Pure.use (Io _ _ _ _ _ _ (by omega)) ?_|refine Pure.use (VQ _ _ _ _ _ hok) ?_|refine za (fun hc=>?_) fun hc=>?_|fail)<;>conv=>whnf)
 .exact AF (by rw[hn,drop_cons hx,KE];simp[*])
 .exact⟨hlt,(),rfl,by rw[hn,drop_cons hx,KE];simp[*],hs⟩
 .exact AF (by rw[hn,Ai hk];rfl)
def HV (ls:List Fact):Prop:= ∀l∈ls,-1000000000<=(Af l).1.n/\(Af l).1.n<=1000000000
def Hw (x:Fact×Bool) (t:Int×Int×List Int):Option (Int×Int×List Int):=
 if x.1.op=2 then if decide (x.1.cls > 1) != x.2 then none else some t
 else if x.1.op=3 then(if x.2 then some (if x.1.n > t.1 then x.1.n else t.1,t.2.1,t.2.2)else some (t.1,if x.1.n - 1<t.2.1 then x.1.n - 1 else t.2.1,t.2.2))
 else if x.2 then some (t.1,t.2.1,t.2.2++[x.1.n])else some (if x.1.n > t.1 then x.1.n else t.1,if x.1.n<t.2.1 then x.1.n else t.2.1,t.2.2)
def foldI:List Fact->Int×Int×List Int->Option (Int×Int×List Int)
 | [],t=>some t
 | x::r,t=>(Hw (Af x) t).bind (foldI r)
def OQ: ∀(xs ys:List Fact) (t:Int×Int×List Int),foldI (xs++ys) t=(foldI xs t).bind (foldI ys)
 | [],_,_=>rfl
 | x::r,ys,t=>by
   simp only[List.cons_append,foldI];cases Hw (Af x) t with
   | none=>rfl
   | some u=>exact OQ r ys u
def Gw {os:List Fact} {k:Nat} {x:Fact} (hx:os[k]? =some x) (t:Int×Int×List Int):foldI (os.take (k+1)) t=(foldI (os.take k) t).bind (Hw (Af x)):=by
 rw[AO hx,OQ];congr 1;funext u;simp only[foldI];cases Hw (Af x) u<;>rfl
def Zb {os:List Fact} (k:Nat) {t:Int×Int×List Int} (h:foldI (os.take k) t=none):foldI os t=none:=by
 rw[<-List.take_append_drop k os,OQ,h];rfl
def UJ (no:List Int):Nat->Int->Option Int
 | 0,_=>none
 | k+1,n=>if no.all (· != n)then some n else UJ no k (n+1)
def QG (t:Int×Int×List Int):Option Int:=UJ t.2.2 (t.2.1+1 - t.1).toNat t.1
def t0:Int×Int×List Int:=(-1000000000,1000000000,[])
def GF (ls:List Fact) (a:Int) (p:List Int):Option Int:=(foldI (ls.filter (Fo a p)) t0).bind QG
def cr (n:Nat) (ls:List Fact) (a:Int) (p:List Int):V:=match GF ls a p with
 | some x=> .t [eI x,.b (DY n ls a p)]
 | none=> .t [eI 0,.b false]
def I3 (w : AH) (ls:List Fact) (a:Int) (p:List Int) (c:Bool) (hokL: ∀l∈ls,Ew l) (hln:ls.length<=1000000) (hp:p.length<50) (hsm:HV ls):Pure zP 357 [.a (FB w ls a p c)] (cr w.owner.length ls a p):=by
 refine Pure.fit (by kernel_rfl) fun hf=>?_
 have⟨h1,h2,h3,h4⟩:=F5 hf.1;have hM:=Mx;refine vJ kZ ?_;have hs:=Sn;have hfl:=Oc (Fo a p) ls;have hok2: ∀l∈ls.filter (Fo a p),Ew l:=fun l hl=>hokL l ((JX.1 hl).1)
 have hsm2:HV (ls.filter (Fo a p)):=fun l hl=>hsm l ((JX.1 hl).1)
 conv=>whnf
 repeat'((first|clear U K|apply st|(apply zk;intro K U)|refine zX ?_|refine Pure.use (Z2 _ _ _ _ _ hokL hln) ?_|fail)<;>conv=>whnf)
 generalize hos:ls.filter (Fo a p)=os at *;have hV:GF ls a p=(foldI os t0).bind QG:=by rw[GF,hos]
 refine Bw os.length (fun k (x:Int×Int×List Int×V)=>[(4,eI x.1),(5,eI x.2.1),(6,x.2.2.2),(18,eI (A6 k))]) (fun k x=>[.own x.2.2.2 1 (iL x.2.2.1)]) (fun k x=>foldI (os.take k) t0=some (x.1,x.2.1,x.2.2.1)/\ -1000000000<=x.1/\x.1<=1000000000/\ -1000000001<=x.2.1/\x.2.1<=1000000000/\x.2.2.1.length<=k) (-1000000000,1000000000,[],.l [] true) rfl ⟨rfl,by simp⟩ (Dw hs 1) ?_;clear hs;rintro k ⟨low,high,no,v⟩ Z hk ⟨hno,hb1,hb2,hb3,hb4,hb5⟩ hs;simp only at hb1 hb2 hb3 hb4 hb5 hno;have hok:=hok2
 conv=>whnf
 repeat'((first|clear U K|apply st|(apply zk;intro K U)|refine zX ?_|refine zr fun Z hs=>?_|refine aq fun v Z hs hsl=>?_|(refine fc (fun x hx hlt hc=>?_) (fun hk hc=>?_)<;>(try rw[hc])<;>clear hc)|refine Pure.use (Gq _ (hok _ (Bo (by assumption)))) ?_|(refine zb (fun hc=>?_) (fun hc=>?_)<;>try exact⟨⟩)|refine zp fun nn hnn Z hs=>?_|fail)<;>conv=>whnf)
 all_goals first
  | (have hb:=hsm2 _ (Bo hx)
     first
      | (refine⟨hlt,(_,_,_,_),rfl,⟨?_,?_⟩,hs.take 1⟩
         .rw[Gw hx,hno]
          have hw:IntKind.i64.wrap ((Af ‹Fact›).1.n - 1)=(Af ‹Fact›).1.n - 1:=wrap64 (by omega) (by omega);simp[Hw, *]
          done
         .have hw:IntKind.i64.wrap ((Af ‹Fact›).1.n - 1)=(Af ‹Fact›).1.n - 1:=wrap64 (by omega) (by omega)
          simp only[NW,List.length_singleton,hw]
          refine⟨?_,?_,?_,?_,?_⟩<;>(try split)<;>omega)
      | (refine AF ?_
         have:foldI os t0=none:=Zb (k+1) (by rw[Gw hx,hno];simp[Hw, *]);rw[this]at hV;simp only[cr,hV]
         rfl))
  | skip
 .have hb:=hsm2 _ (Bo hx)
  refine⟨hlt,(if(Af x).1.n > low then(Af x).1.n else low,high,no,v),rfl,⟨?_,?_⟩,hs.take 1⟩
  .rw[Gw hx,hno]
   simp[Hw, *]
  .dsimp only
   refine⟨?_,?_,?_,?_,?_⟩<;>(try split)<;>omega
 .have hb:=hsm2 _ (Bo hx)
  have hw:IntKind.i64.wrap ((Af x).1.n - 1)=(Af x).1.n - 1:=wrap64 (by omega) (by omega);rw[hw];refine⟨hlt,(low,if(Af x).1.n - 1<high then(Af x).1.n - 1 else high,no,v),rfl,⟨?_,?_⟩,hs.take 1⟩
  .rw[Gw hx,hno]
   simp[Hw, *]
  .dsimp only
   refine⟨?_,?_,?_,?_,?_⟩<;>(try split)<;>omega
 .have hb:=hsm2 _ (Bo hx)
  refine⟨hlt,(if(Af x).1.n > low then(Af x).1.n else low,if(Af x).1.n<high then(Af x).1.n else high,no,v),rfl,⟨?_,?_⟩,hs.take 1⟩
  .rw[Gw hx,hno]
   simp[Hw, *]
  .dsimp only
   refine⟨?_,?_,?_,?_,?_⟩<;>(try split)<;>omega
 rw[Aq (by assumption)]at hno;have hV2:GF ls a p=QG (low,high,no):=by rw[hV,hno];rfl
 dsimp only;refine D1 (fun n:Int=>(high+1 - n).toNat) (fun n=>[(11,eI n)]) (fun _=>[.own v 1 (iL no)]) (fun n=>low<=n/\n<=1000000001/\GF ls a p=UJ no (high+1 - n).toNat n) low rfl ⟨by omega,by omega,hV2⟩ hs ?_;clear hs;rintro n Z ⟨hn1,hn2,hn⟩ hs;have hnl:no.length<=AZ:=by omega
 conv=>whnf
 repeat'((first|clear U K|apply st|(apply zk;intro K U)|refine zX ?_|refine za (fun hc=>?_) fun hc=>?_|fail)<;>conv=>whnf)
 .refine Bw no.length (fun j b=>[(12,.b b),(80,eI (A6 j))]) (fun j _=>[.own v 1 (iL no)]) (fun j b=>b=(no.take j).all (· != n)) true rfl (by simp) hs ?_
  clear hs;rintro j b Z hj hb hs;subst hb
  conv=>whnf
  repeat'((first|clear U K|apply st|(apply zk;intro K U)|refine zX ?_|(refine fc (fun x hx hlt hc=>?_) (fun hk hc=>?_)<;>(try rw[hc])<;>clear hc)|refine Pure.use (bf _ _ _ _ _ hokL (by omega)) ?_|refine za (fun hc=>?_) fun hc=>?_|fail)<;>conv=>whnf)
  .exact⟨hlt,_,rfl,by rw[AO hx,List.all_append,hc];simp,hs⟩
  .exact⟨hlt,false,rfl,by rw[AO hx,List.all_append,hc];simp,hs⟩
  .refine AF ?_
   rw[Aq hk]at hc;rw[show(high+1 - n).toNat=(high - n).toNat+1 by omega,UJ,if_pos hc]at hn;simp only[cr,hn]
  .rw[Aq hk]at hc
   rw[show(high+1 - n).toNat=(high+1 - (n+1)).toNat+1 by omega,UJ,if_neg (by simp[hc])]at hn;rw[wrap64 (by omega) (by omega)];exact⟨n+1,by omega,rfl,⟨by omega,by omega,hn⟩,hs⟩
 .refine AF ?_
  have:(high+1 - n).toNat=0:=by omega
  rw[this,UJ]at hn;simp only[cr,hn]
def JG (x:Fact×Bool):Bool:=((x.1.op==2&&(x.1.cls==0||x.1.cls==2))==x.2)
def Eu (n:Nat) (ls:List Fact) (a:Int) (p:List Int):Bool:=(ls.filter (Fo a p)).all (fun l=> !JG (Af l))&&DY n ls a p
def Pj (w:AH) (ls:List Fact) (a:Int) (p:List Int) (c:Bool) (hokL: ∀l∈ls,Ew l) (hln:ls.length<=1000000) (hp:p.length<50):Pure zP 358 [.a (FB w ls a p c)] (.b (Eu w.owner.length ls a p)):=by
 refine Pure.fit (by kernel_rfl) fun hf=>?_
 have⟨h1,h2,h3,h4⟩:=F5 hf.1;have hM:=Mx;refine vI kZ ?_;have hs:=Sn;have hfl:=Oc (Fo a p) ls;have hok: ∀l∈ls.filter (Fo a p),Ew l:=fun l hl=>hokL l (JX.1 hl).1
 conv=>whnf
 repeat'((first|clear U K|apply st|(apply zk;intro K U)|refine zX ?_|refine Pure.use (Z2 _ _ _ _ _ hokL hln) ?_|fail)<;>conv=>whnf)
 generalize hos:ls.filter (Fo a p)=os at *;have hV:Eu w.owner.length ls a p=(os.all (fun l=> !JG (Af l))&&DY w.owner.length ls a p):=by rw[Eu,hos]
 refine Bw os.length (fun k (_:Unit)=>[(11,eI (A6 k))]) (fun k _=>[]) (fun k _=>Eu w.owner.length ls a p=((os.drop k).all (fun l=> !JG (Af l))&&DY w.owner.length ls a p)) () rfl hV hs ?_;clear hs;rintro k - Z hk hn hs
 conv=>whnf
 repeat'((first|clear U K|apply st|(apply zk;intro K U)|refine zX ?_|refine zr fun Z hs=>?_|(refine fc (fun x hx hlt hc=>?_) (fun hk hc=>?_)<;>(try rw[hc])<;>clear hc)|refine Pure.use (Gq _ (hok _ (Bo (by assumption)))) ?_|refine Pure.use (bf _ _ _ _ _ hokL (by omega)) ?_|refine za (fun hc=>?_) fun hc=>?_|refine zp fun nn hnn Z hs=>?_|fail)<;>conv=>whnf)
 all_goals first
  | (have hst:JG (Af x)=true:=by clear hV hn;cases hz:(Af x).2<;>cases hy:((Af x).1.cls==2)<;>simp_all [JG]
     exact AF (by rw[hn,drop_cons hx,KE,hst];simp))
  | (have hst:JG (Af x)=false:=by clear hV hn;cases hz:(Af x).2<;>cases hy:((Af x).1.cls==2)<;>simp_all [JG]
     exact⟨hlt,(),rfl,by rw[hn,drop_cons hx,KE,hst];simp,hs.take 0⟩)
  | exact AF (by rw[hn,Ai (by assumption)];simp)
abbrev BB:=List Bool×List Bool
def Gh (x:Fact×Bool) (t:BB):Option BB:=
 if x.1.op≠2\/x.1.cls=1\/x.1.cls=2 then(if x.2 then some t else none)else
 if x.2 then some (t.1,t.2.set x.1.cls.toNat true)else some (t.1.set x.1.cls.toNat true,t.2)
def EL:List Fact->BB->Option BB
 | [],t=>some t
 | x::r,t=>(Gh (Af x) t).bind (EL r)
def JF (w:AH) (ls:List Fact) (a:Int) (p:List Int) (can:Int->Bool) (s:Int) (t:BB):Option BB:=
 if !DF ls a (p++[s])&& !can s then none else some (if DF ls a (p++[s])then t.1 else t.1.set (B4 w s).toNat true,if can s then t.2 else t.2.set (B4 w s).toNat true)
def Dz (w:AH) (ls:List Fact) (a:Int) (p:List Int) (can:Int->Bool):List Int->BB->Option BB
 | [],t=>some t
 | s::r,t=>(JF w ls a p can s t).bind (Dz w ls a p can r)
def IS (ps:List (List Int)) (c:Nat) (bs:List Bool):List Bool:=if bs.getD c false then(par ps c).foldl (fun b q=>b.set q.toNat true) bs else bs
def CC (ps:List (List Int)) (n:Nat):Nat->List Bool->List Bool
 | 0,bs=>bs
 | k+1,bs=>IS ps (n - 1 - k) (CC ps n k bs)
def Hk: ∀(l:List Int) (bs:List Bool),(l.foldl (fun b q=>b.set q.toNat true) bs).length=bs.length
 | [],_=>rfl
 | q::r,bs=>by rw[List.foldl_cons,Hk r,List.length_set]
def Er (ps:List (List Int)) (n:Nat): ∀(k:Nat) (bs:List Bool),(CC ps n k bs).length=bs.length
 | 0,_=>rfl
 | k+1,bs=>by
   rw[CC,IS];split
   .rw[Hk,Er ps n k bs]
   .exact Er ps n k bs
def V0 (w:AH) (t:BB):Option (List Bool):=
 if t.2.getD 0 false then none else
 if(List.range (3+w.parents.length)).any (fun c=>(CC w.parents (3+w.parents.length) w.parents.length (t.1.set 0 false)).getD c false&&t.2.getD c false)then none else some (CC w.parents (3+w.parents.length) w.parents.length (t.1.set 0 false))
def tO (w:AH):BB:=(List.replicate (3+w.parents.length) false,List.replicate (3+w.parents.length) false)
def LO (w:AH) (ls:List Fact) (a:Int) (p:List Int) (can:Int->Bool):Option (List Bool):=
 ((EL (ls.filter (Fo a p)) (tO w)).bind (Dz w ls a p can (BO w.owner.length ls a p))).bind (V0 w)
def zy (o:Option (List Bool)):V:=match o with
 | some m=> .t [.l (bL m) false,.b true]
 | none=> .t [.l [] true,.b false]
def OP: ∀(xs ys:List Fact) (t:BB),EL (xs++ys) t=(EL xs t).bind (EL ys)
 | [],_,_=>rfl
 | x::r,ys,t=>by
   simp only[List.cons_append,EL];cases Gh (Af x) t with
   | none=>rfl
   | some u=>exact OP r ys u
def I5 {os:List Fact} {k:Nat} {x:Fact} (hx:os[k]? =some x) (t:BB):EL (os.take (k+1)) t=(EL (os.take k) t).bind (Gh (Af x)):=by
 rw[AO hx,OP];congr 1;funext u;simp only[EL];cases Gh (Af x) u<;>rfl
def Za {os:List Fact} (k:Nat) {t:BB} (h:EL (os.take k) t=none):EL os t=none:=by
 rw[<-List.take_append_drop k os,OP,h];rfl
def OO {w:AH} {ls:List Fact} {a:Int} {p:List Int} {can:Int->Bool}: ∀(xs ys:List Int) (t:BB),Dz w ls a p can (xs++ys) t=(Dz w ls a p can xs t).bind (Dz w ls a p can ys)
 | [],_,_=>rfl
 | x::r,ys,t=>by
   simp only[List.cons_append,Dz];cases JF w ls a p can x t with
   | none=>rfl
   | some u=>exact OO r ys u
def I4 {w:AH} {ls:List Fact} {a:Int} {p:List Int} {can:Int->Bool} {os:List Int} {k:Nat} {x:Int} (hx:os[k]? =some x) (t:BB):Dz w ls a p can (os.take (k+1)) t=(Dz w ls a p can (os.take k) t).bind (JF w ls a p can x):=by
 rw[AO hx,OO];congr 1;funext u;simp only[Dz];cases JF w ls a p can x u<;>rfl
def ZZ {w:AH} {ls:List Fact} {a:Int} {p:List Int} {can:Int->Bool} {os:List Int} (k:Nat) {t:BB} (h:Dz w ls a p can (os.take k) t=none):Dz w ls a p can os t=none:=by
 rw[<-List.take_append_drop k os,OO,h];rfl
def Fc {n:Nat} {ls:List Fact} {a:Int} {p:List Int} {s:Int} (h:s∈BO n ls a p):0<=s/\s<n:=by
 have:=(JX.1 h).1;simp only[BV,IX,List.mem_range]at this;obtain⟨m,hm,rfl⟩:=this;exact⟨Int.natCast_nonneg m,by simpa using hm⟩
def MJ (w:AH) (ls:List Fact):Prop:= ∀l∈ls,(Af l).1.op=2->0<=(Af l).1.cls/\(Af l).1.cls<3+w.parents.length
def TS (w : AH) (ls:List Fact) (a:Int) (p:List Int) (c:Bool) (can:Int->Bool) (hokL: ∀l∈ls,Ew l) (hln:ls.length<=1000000) (hp:p.length<50) (hw:KG w) (hcl:MJ w ls) (hcan: ∀s∈BO w.owner.length ls a p,Pure zP 351 [.a (FB w ls a (p++[s]) c)] (.b (can s))) :
    Pure zP 365 [.a (FB w ls a p c)] (zy (LO w ls a p can)):=by
 refine Pure.fit (by kernel_rfl) fun hf=>?_
 have⟨h1,h2,h3,h4⟩:=F5 hf.1;have hM:=Mx;have hwl:=hw.len;have hwo:=hw.olen;refine vG kZ ?_;have hs:=Sn;have hfl:=Oc (Fo a p) ls;have hok: ∀l∈ls.filter (Fo a p),Ew l:=fun l hl=>hokL l (JX.1 hl).1
 have hcl2:MJ w (ls.filter (Fo a p)):=fun l hl=>hcl l (JX.1 hl).1
 have hfl2:(BO w.owner.length ls a p).length<=w.owner.length:=by
  have:=Oc (fun s=>ls.any (YM a p s)) (BV w.owner.length);rw[DQ]at this;exact this
 refine zv ?_;(repeat clear U K);repeat intro K U
 rw[show IntKind.i64.wrap (3+((EK w.parents).length:Nat))=((3+w.parents.length:Nat):Int) by rw[B2,wrap64 (by omega) (by omega)];omega];refine hMk hs (by omega) fun v1 Z hs hv=>?_
 obtain⟨id1,rfl⟩:=hv;refine zv ?_;(repeat clear U K);repeat intro K U
 rw[show IntKind.i64.wrap (3+((EK w.parents).length:Nat))=((3+w.parents.length:Nat):Int) by rw[B2,wrap64 (by omega) (by omega)];omega];refine hMk hs (by omega) fun v2 Z hs hv=>?_
 obtain⟨id2,rfl⟩:=hv
 conv=>whnf
 repeat'((first|clear U K|apply st|(apply zk;intro K U)|refine zX ?_|refine Pure.use (Z2 _ _ _ _ _ hokL hln) ?_|fail)<;>conv=>whnf)
 generalize hos:ls.filter (Fo a p)=os at *;have hV:LO w ls a p can=((EL os (tO w)).bind (Dz w ls a p can (BO w.owner.length ls a p))).bind (V0 w):=by rw[LO,hos]
 refine Bw os.length (fun k (_:BB)=>[(34,eI (A6 k))]) (fun k t=>[.own (.sl id1 (3+w.parents.length) (3+w.parents.length)) 1 (bL t.1),.own (.sl id2 (3+w.parents.length) (3+w.parents.length)) 1 (bL t.2)]) (fun k t=>EL (os.take k) (tO w)=some t/\t.1.length=3+w.parents.length/\t.2.length=3+w.parents.length) (tO w) rfl ⟨rfl,by simp[tO],by simp[tO]⟩ (by simpa[tO,bL]using hs) ?_;clear hs;rintro k ⟨BU,no⟩ Z hk ⟨hno,hl1,hl2⟩ hs;simp only at hl1 hl2;dsimp only at hs
 conv=>whnf
 repeat'((first|clear U K|apply st|(apply zk;intro K U)|refine zX ?_|refine zr fun Z hs=>?_|(refine fc (fun x hx hlt hc=>?_) (fun hk hc=>?_)<;>(try rw[hc])<;>clear hc)|refine Pure.use (Gq _ (hok _ (Bo (by assumption)))) ?_|refine Pure.use (Qp _ _ _ _ _ hokL (by omega)) ?_|refine za (fun hc=>?_) fun hc=>?_|refine zp fun nn hnn Z hs=>?_|fail)<;>conv=>whnf)
 all_goals try
  (have hcx:=hcl2 _ (Bo hx) (by assumption)
   conv=>whnf
   repeat'((first|clear U K|apply st|(apply zk;intro K U)|refine zX ?_|refine zr fun Z hs=>?_|fail)<;>conv=>whnf)
  )
 all_goals first
  | (refine AF ?_
     have:EL os (tO w)=none:=Za (k+1) (by rw[I5 hx,hno];simp[Gh, *]);rw[hV,this]
     rfl)
  | exact⟨hlt,(BU,no),rfl,⟨by rw[I5 hx,hno];simp[Gh, *],hl1,hl2⟩,hs.take 2⟩
  | exact⟨hlt,(BU.set (Af x).1.cls.toNat true,no),rfl,⟨by rw[I5 hx,hno];simp[Gh, *],by simpa using hl1,hl2⟩,hs.take 2⟩
  | exact⟨hlt,(BU,no.set (Af x).1.cls.toNat true),rfl,⟨by rw[I5 hx,hno];simp[Gh, *],hl1,by simpa using hl2⟩,hs.take 2⟩
  | skip
 rw[Aq (by assumption)]at hno;have hV2:LO w ls a p can=(Dz w ls a p can (BO w.owner.length ls a p) (BU,no)).bind (V0 w):=by rw[hV,hno];rfl
 clear hno;generalize hsl:BO w.owner.length ls a p=sl at *;have hsi: ∀s∈sl,0<=s/\s<w.owner.length:=fun s h=>Fc (by rw[hsl];exact h)
 refine Bw sl.length (fun k (_:BB)=>[(73,eI (A6 k))]) (fun k t=>[.own (.sl id1 (3+w.parents.length) (3+w.parents.length)) 1 (bL t.1),.own (.sl id2 (3+w.parents.length) (3+w.parents.length)) 1 (bL t.2)]) (fun k t=>Dz w ls a p can (sl.take k) (BU,no)=some t/\t.1.length=3+w.parents.length/\t.2.length=3+w.parents.length) (BU,no) rfl ⟨rfl,hl1,hl2⟩ hs ?_;clear hs hl1 hl2;rintro k ⟨m1,n1⟩ Z hk ⟨hno,hl1,hl2⟩ hs;simp only at hl1 hl2;dsimp only at hs;rcases A7 sl hk with⟨x,hx,hlt⟩|hke
 .have hxm:=Bo hx
  obtain⟨hx0,hx1⟩:=hsi x hxm
  have hox:w.owner[x.toNat]? =some (B4 w x):=by
   rw[B4,C4,Cr (by omega)];rfl
  have ho:=hw.own _ (Bo hox);have hcx:=hcan x hxm;have hbx:=VQ w ls a (p++[x]) c hokL;cases hB:DF ls a (p++[x])<;>cases hC:can x<;>rw[hB]at hbx<;>rw[hC]at hcx
  .conv=>whnf
   repeat'((first|clear U K|apply st|(apply zk;intro K U)|refine zX ?_|refine rk ?_ ?_|exact fun s e=>by cases e;rfl|refine zr fun Z hs=>?_|refine Pure.use (Io _ _ _ _ _ _ (by omega)) ?_|refine Pure.use (by assumption) ?_|refine zp fun nn hnn Z hs=>?_|fail)<;>conv=>whnf)
   refine AF ?_;have:Dz w ls a p can sl (BU,no)=none:=ZZ (k+1) (by rw[I4 hx,hno];simp[JF, *]);rw[hV2,this];rfl
  .conv=>whnf
   repeat'((first|clear U K|apply st|(apply zk;intro K U)|refine zX ?_|refine rk ?_ ?_|exact fun s e=>by cases e;rfl|refine zr fun Z hs=>?_|refine Pure.use (Io _ _ _ _ _ _ (by omega)) ?_|refine Pure.use (by assumption) ?_|refine zp fun nn hnn Z hs=>?_|fail)<;>conv=>whnf)
   exact⟨hlt,(m1.set (B4 w x).toNat true,n1),rfl,⟨by rw[I4 hx,hno];simp[JF, *],by simpa using hl1,hl2⟩,hs.take 2⟩
  .conv=>whnf
   repeat'((first|clear U K|apply st|(apply zk;intro K U)|refine zX ?_|refine rk ?_ ?_|exact fun s e=>by cases e;rfl|refine zr fun Z hs=>?_|refine Pure.use (Io _ _ _ _ _ _ (by omega)) ?_|refine Pure.use (by assumption) ?_|refine zp fun nn hnn Z hs=>?_|fail)<;>conv=>whnf)
   exact⟨hlt,(m1,n1.set (B4 w x).toNat true),rfl,⟨by rw[I4 hx,hno];simp[JF, *],hl1,by simpa using hl2⟩,hs.take 2⟩
  .conv=>whnf
   repeat'((first|clear U K|apply st|(apply zk;intro K U)|refine zX ?_|refine rk ?_ ?_|exact fun s e=>by cases e;rfl|refine zr fun Z hs=>?_|refine Pure.use (Io _ _ _ _ _ _ (by omega)) ?_|refine Pure.use (by assumption) ?_|refine zp fun nn hnn Z hs=>?_|fail)<;>conv=>whnf)
   exact⟨hlt,(m1,n1),rfl,⟨by rw[I4 hx,hno];simp[JF, *],hl1,hl2⟩,hs.take 2⟩
 .rw [Aq hke]at hno
  have hV3:LO w ls a p can=V0 w (m1,n1):=by rw[hV2,hno];rfl
  have hrow: ∀l∈w.parents,l.length<=AZ:=(Uj (g:=false) (by have:=hf.1;simp only[FB,Hb,Dh]at this;exact this.1)).2
  have hen:LO w ls a p can=if n1.getD 0 false then none else
   if(List.range (3+w.parents.length)).any (fun c=>(CC w.parents (3+w.parents.length) w.parents.length (m1.set 0 false)).getD c false&&n1.getD c false)then none else some (CC w.parents (3+w.parents.length) w.parents.length (m1.set 0 false)):=hV3.trans rfl
  clear hcan hcl hV hV2 hV3 hno hos hsl hcl2 hok;obtain⟨n0,hn0⟩: ∃b,n1[0]? =some b:=⟨_,Cr (by omega)⟩
  have hn0':n1[Int.toNat 0]? =some n0:=hn0;have hng:n1.getD 0 false=n0:=by rw[C4,hn0];rfl
  rw[hng]at hen;cases n0
  .generalize hms:m1.set 0 false=ms at *
   have hl3:ms.length=3+w.parents.length:=by rw[<-hms,List.length_set];exact hl1
   conv=>whnf
   repeat'((first|clear U K|apply st|(apply zk;intro K U)|refine zX ?_|refine zr fun Z hs=>?_|fail)<;>conv=>whnf)
   replace hs:Sat Z [.own (.sl id1 (3+w.parents.length) (3+w.parents.length)) 1 (bL ms),.own (.sl id2 (3+w.parents.length) (3+w.parents.length)) 1 (bL n1)]:=by rw[<-hms];exact hs
   rw[show IntKind.i64.wrap (((bL (m1.set (Int.toNat 0) false)).length:Nat) - 1)=((2+w.parents.length:Nat):Int) by rw[B2,List.length_set,hl1,wrap64 (by omega) (by omega)];omega];refine Bw w.parents.length (fun k (_:Unit)=>[(15,eI (PI ((2+w.parents.length:Nat):Int) k))]) (fun k _=>[.own (.sl id1 (3+w.parents.length) (3+w.parents.length)) 1 (bL (CC w.parents (3+w.parents.length) k ms)),.own (.sl id2 (3+w.parents.length) (3+w.parents.length)) 1 (bL n1)]) (fun k _=>True) () rfl trivial hs ?_;clear hs;rintro k - Z hk - hs;have hd:PI ((2+w.parents.length:Nat):Int) k=((2+w.parents.length:Nat):Int) - k:=VN (by omega) (by omega);have hcl:=Er w.parents (3+w.parents.length) k ms;rcases Nat.lt_or_ge k w.parents.length with hlt|hge
   .have hpw:w.parents[(IntKind.i64.wrap (PI ((2+w.parents.length:Nat):Int) k - 3)).toNat]? =some (par w.parents (3+w.parents.length - 1 - k)):=by
     rw[hd,wrap64 (by omega) (by omega),show(((2+w.parents.length:Nat):Int) - k - 3).toNat=(3+w.parents.length - 1 - k) - 3 by omega];exact iS (by omega) (by omega)
    have hwi:0<=IntKind.i64.wrap (PI ((2+w.parents.length:Nat):Int) k - 3):=by rw[hd,wrap64 (by omega) (by omega)];omega
    have hpl:=hrow _ (Bo hpw);have hpr:=fun q=>hw.ord (3+w.parents.length - 1 - k) q
    generalize hpe:par w.parents (3+w.parents.length - 1 - k)=pr at *;generalize hce:CC w.parents (3+w.parents.length) k ms=ce at *;have hcs:CC w.parents (3+w.parents.length) (k+1) ms=if ce.getD (3+w.parents.length - 1 - k) false then pr.foldl (fun b q=>b.set q.toNat true) ce else ce:=by rw[CC,IS,hce,hpe]
    conv=>whnf
    repeat'((first|clear U K|apply st|(apply zk;intro K U)|refine zX ?_|refine ze fun x hx=>?_|(refine zb (fun hc=>?_) (fun hc=>?_)<;>try exact⟨⟩)|fail)<;>conv=>whnf)
    .rw[show(PI ((2+w.parents.length:Nat):Int) k).toNat=3+w.parents.length - 1 - k by rw[hd];omega]at hx
     rw[C4,hx,hc]at hcs;simp only[Option.getD_some,if_true]at hcs;refine Bw pr.length (fun j (_:Unit)=>[(135,eI (A6 j))]) (fun j _=>[.own (.sl id1 (3+w.parents.length) (3+w.parents.length)) 1 (bL ((pr.take j).foldl (fun b q=>b.set q.toNat true) ce)),.own (.sl id2 (3+w.parents.length) (3+w.parents.length)) 1 (bL n1)]) (fun _ _=>True) () rfl trivial hs ?_;clear hs hx;rintro j - Z hj - hs;have hfl:=Hk (pr.take j) ce;rcases A7 pr hj with⟨q,hq,hjlt⟩|hje
     .have hqr:=hpr q (Bo hq)
      conv=>whnf
      repeat'((first|clear U K|apply st|(apply zk;intro K U)|refine zX ?_|refine zr fun Z hs=>?_|fail)<;>conv=>whnf)
      exact⟨hjlt,(),rfl,trivial,by rw[AO hq,List.foldl_append];exact hs⟩
     .refine zv ?_;(repeat clear U K);repeat intro K U
      rw[Aq hje]at hs;exact⟨hlt,(),rfl,trivial,by rw[hcs];exact hs⟩
    .rw[show(PI ((2+w.parents.length:Nat):Int) k).toNat=3+w.parents.length - 1 - k by rw[hd];omega]at hx
     rw[C4,hx,hc]at hcs;simp only[Option.getD_some,L2,if_false]at hcs;exact⟨hlt,(),rfl,trivial,by rw[hcs];exact hs⟩
   .have hke2:k=w.parents.length:=by omega
    rw[hke2]at hs hcl;generalize hme:CC w.parents (3+w.parents.length) w.parents.length ms=me at *
    conv=>whnf
    repeat'((first|clear U K|apply st|(apply zk;intro K U)|refine zX ?_|(refine zb (fun hc=>?_) (fun hc=>?_)<;>try exact⟨⟩)|fail)<;>conv=>whnf)
    refine Bw me.length (fun j (_:Unit)=>[(145,eI (A6 j))]) (fun _ _=>[.own (.sl id1 (3+w.parents.length) (3+w.parents.length)) 1 (bL me),.own (.sl id2 (3+w.parents.length) (3+w.parents.length)) 1 (bL n1)]) (fun j _=>LO w ls a p can=if((List.range (3+w.parents.length)).drop j).any (fun c=>me.getD c false&&n1.getD c false)then none else some me) () rfl hen hs ?_;clear hs hen;rintro j - Z hj hn hs;rcases A7 me hj with⟨x,hx,hjlt⟩|hje
    .obtain⟨y,hy⟩: ∃y,n1[j]? =some y:=⟨_,Cr (by omega)⟩
     have hrg:(List.range (3+w.parents.length))[j]? =some j:=by rw[List.getElem?_range (by omega)]
     rw[drop_cons hrg,PV,C4,C4,hx,hy]at hn;cases x<;>cases y<;>simp only[Option.getD_some,Bool.and_true,Bool.and_false,Bool.false_or,Bool.true_or,if_true]at hn
     .refine zv ?_;(repeat clear U K);repeat intro K U
      exact⟨hjlt,(),rfl,hn,hs⟩
     .refine zv ?_;(repeat clear U K);repeat intro K U
      exact⟨hjlt,(),rfl,hn,hs⟩
     .refine zv ?_;(repeat clear U K);repeat intro K U
      exact⟨hjlt,(),rfl,hn,hs⟩
     .refine zv ?_;(repeat clear U K);repeat intro K U
      exact AF (by rw[hn];rfl)
    .rw[List.drop_of_length_le (by rw[List.length_range];omega)]at hn
     simp only[List.any_nil,L2,if_false]at hn;refine zv ?_;(repeat clear U K);repeat intro K U
     rw[hn];exact A8 (.t (.cons (hs.GC 0 rfl) (.cons (.refl _) .nil)))
  .conv=>whnf
   repeat'((first|clear U K|apply st|(apply zk;intro K U)|refine zX ?_|refine zr fun Z hs=>?_|fail)<;>conv=>whnf)
   exact AF (by rw[hen];rfl)
def MD (w:AH) (ls:List Fact) (a:Int):Nat->List Int->Bool
 | 0,p=>((GF ls a p).isSome&&DY w.owner.length ls a p)||(Eu w.owner.length ls a p||(LO w ls a p fun _=>false).isSome)
 | d+1,p=>((GF ls a p).isSome&&DY w.owner.length ls a p)||(Eu w.owner.length ls a p||(LO w ls a p fun s=>MD w ls a d (p++[s])).isSome)
def Nl (ls:List Fact) (n:Nat):Prop:= ∀l∈ls,(Af l).1.path.length<=n
def II {n m:Nat} {ls:List Fact} {a:Int} {p:List Int} (h:Nl ls m) (hp:m<=p.length):BO n ls a p= []:=by
 rw[BO,List.filter_eq_nil_iff];intro s _ hs;rw[IY]at hs;obtain⟨l,hl,hg⟩:=hs;have:=h l hl;simp only[YM,Bc,A9,Cc,NW,List.length_singleton]at hg;omega
def Po {n:Nat} {ls:List Fact} {a:Int} {p:List Int}:cr n ls a p= .t [eI ((GF ls a p).getD 0),.b ((GF ls a p).isSome&&DY n ls a p)]:=by
 unfold cr;cases GF ls a p<;>rfl
def az (o:Option (List Bool)):zy o= .t [.l (bL (o.getD [])) o.isNone,.b o.isSome]:=by
 cases o<;>rfl
def yo (w:AH) (ls:List Fact) (a:Int) (hokL: ∀l∈ls,Ew l) (hln:ls.length<=1000000) (hw:KG w) (hcl:MJ w ls) (hsm:HV ls) (hsh:Nl ls 2): ∀(d:Nat) (p:List Int),p.length+d=2->Pure zP 351 [.a (FB w ls a p false)] (.b (MD w ls a d p)):=by
 intro d
 induction d with
 | zero=>
   intro p hp;have hI:=I3 w ls a p false hokL hln (by omega) hsm;rw[Po]at hI;have hN:=Pj w ls a p false hokL hln (by omega);have hO:=TS w ls a p false (fun _=>false) hokL hln (by omega) hw hcl (by rw[II hsh (by omega)];intro s hs;cases hs);rw[az]at hO;refine Ny kZ ?_;have hs:=Sn;rw[MD];cases hA:(GF ls a p).isSome&&DY w.owner.length ls a p<;>cases hB:Eu w.owner.length ls a p<;>rw[hA]at hI<;>rw[hB]at hN
   all_goals
    conv=>whnf
    repeat'((first|clear U K|apply st|(apply zk;intro K U)|refine zX ?_|refine hI.use ?_|refine hN.use ?_|refine hO.use ?_|fail)<;>conv=>whnf)
   all_goals exact AF (by simp)
 | succ d ih=>
   intro p hp;have hI:=I3 w ls a p false hokL hln (by omega) hsm;rw[Po]at hI;have hN:=Pj w ls a p false hokL hln (by omega);have hO:=TS w ls a p false (fun s=>MD w ls a d (p++[s])) hokL hln (by omega) hw hcl (fun s hs=>ih (p++[s]) (by simp;omega));rw[az]at hO;refine Ny kZ ?_;have hs:=Sn;rw[MD];cases hA:(GF ls a p).isSome&&DY w.owner.length ls a p<;>cases hB:Eu w.owner.length ls a p<;>rw[hA]at hI<;>rw[hB]at hN
   all_goals
    conv=>whnf
    repeat'((first|clear U K|apply st|(apply zk;intro K U)|refine zX ?_|refine hI.use ?_|refine hN.use ?_|refine hO.use ?_|fail)<;>conv=>whnf)
   all_goals exact AF (by simp)
def G5 (w:AH) (ls:List Fact):Bool:=(BV 3).all fun a=>MD w ls a 2 []
def Ow (w:AH) (ls:List Fact) (hokL: ∀l∈ls,Ew l) (hln:ls.length<=1000000) (hw:KG w) (hcl:MJ w ls) (hsm:HV ls) (hsh:Nl ls 2):Pure zP 321 [.a (A0 w),.l (facts ls) false] (.b (G5 w ls)):=by
 have hM:=Mx;refine vr kZ ?_;have hs:=Sn;refine zv ?_;(repeat clear U K);repeat intro K U
 refine Bw 3 (fun k (_:Unit)=>[(5,eI (A6 k))]) (fun _ _=>[]) (fun k _=>G5 w ls=((BV 3).drop k).all fun a=>MD w ls a 2 []) () rfl rfl hs ?_;clear hs;rintro k - Z hk hn hs;have hck:A6 k=k:=Ae (by omega);rcases Nat.lt_or_ge k 3 with hlt|hge
 .have hrk:(BV 3)[k]? =some (A6 k):=by
   rw[hck];rcases k with _|_|_|k
   .rfl
   .rfl
   .rfl
   .omega
  rw[drop_cons hrk,KE]at hn
  conv=>whnf
  repeat'((first|clear U K|apply st|(apply zk;intro K U)|refine zX ?_|refine zr fun Z hs=>?_|refine Pure.L7 (yo w ls (A6 k) hokL hln hw hcl hsm hsh 2 [] rfl) (.cons (.a (.cons (.refl _) (.cons (.refl _) (.cons (.refl _) (.cons (.refl _) (.cons FE (.cons (.refl _) .nil))))))) .nil) rfl ?_|(refine zb (fun hc=>?_) (fun hc=>?_)<;>try exact⟨⟩)|refine zp fun nn hnn Z hs=>?_|fail)<;>conv=>whnf)
  .exact AF (by rw[hn,hck,hc];rfl)
  .exact⟨hlt,(),rfl,by rw[hn,hck,hc];rfl,hs.take 0⟩
 .rw[List.drop_of_length_le (by rw[DQ];omega)]at hn
  conv=>whnf
  repeat'((first|clear U K|apply st|(apply zk;intro K U)|refine zX ?_|(refine zb (fun hc=>?_) (fun hc=>?_)<;>try exact⟨⟩)|fail)<;>conv=>whnf)
  exact AF (by rw[hn];rfl)
def Pq {b:Nat} {Z:AE} {l:List At} (h:Sat Z l) (i j:Nat) {v u:V} {sz:Nat} {es ys:List (List V)} {K:V->AE->Prop} (hi:l[i]? =some (.own v sz es)) (hj:l[j]? =some (.own u sz ys)) (hl:es.length+ys.length<=AZ/\(es.length+ys.length)*b<=140737488355328) (hys: ∀e∈ys,e.length=sz) (ho: ∀e∈ys,∀v∈e,CO v=true)
    (hk: ∀v' Z',Sat Z' (l.set i (.own v' sz (es++ys)))->K v' Z'):AK b Z sz v u K:=by
 have hA:AK b Z sz v (.l ys true) K:=hAppend h i hi hl hys ho hk;rcases h.get hj with⟨rfl,hel⟩|⟨n,cap,rfl,hn⟩
 .exact hA
 .unfold AK at hA ⊢
  simp only[rowsOf]at hA ⊢;rw[hn];refine⟨rfl,IW _,?_⟩;rw[List.take_length];exact hA.2
def CY (a:List Fact):List Fact->List Fact
 | []=>a
 | x::r=>CY (if a.any (Fx x)then a else a++[x]) r
def Ru (a:List Fact): ∀(b:List Fact) (x:Fact),CY a (b++[x])=if(CY a b).any (Fx x)then CY a b else CY a b++[x]:=by
 intro b
 induction b generalizing a with
 | nil=>intro x;rfl
 | cons y r ih=>intro x;simp only[List.cons_append,CY];exact ih _ x
def OM (a:List Fact): ∀(b:List Fact),(CY a b).length<=a.length+b.length:=by
 intro b
 induction b generalizing a with
 | nil=>simp[CY]
 | cons y r ih=>
   simp only[CY,Ky];refine Nat.le_trans (ih _) ?_;split
   .omega
   .simp;omega
def Td (a:List Fact): ∀(b:List Fact) (x:Fact),x∈CY a b->x∈a\/x∈b:=by
 intro b
 induction b generalizing a with
 | nil=>intro x hx;exact .inl hx
 | cons y r ih=>
   intro x hx;simp only[CY]at hx;rcases ih _ x hx with h|h
   .split at h
    .exact .inl h
    .rcases Du.1 h with h|h
     .exact .inl h
     .rw[KF.1 h];exact .inr (.head _)
   .exact .inr (.tail _ h)
def dn (a b:List Fact) (f g:Bool) (hl:a.length+b.length<1000000):Pure zP 335 [.l (facts a) f,.l (facts b) g] (.l (facts (CY a b)) false):=by
 have hM:=Mx;refine vU kZ ?_;have hs:=Sn
 conv=>whnf
 repeat'((first|clear U K|apply st|(apply zk;intro K U)|fail)<;>conv=>whnf)
 replace hs:=Dw hs 6;refine FV hs 0 (xs:=[]) (ys:=a) rfl (by simp;omega) Ii fun v Z hs=>?_
 refine zv ?_;(repeat clear U K);repeat intro K U
 refine Bw b.length (fun k v=>[(5,v),(15,eI (A6 k))]) (fun k v=>[.own v 6 (facts (CY a (b.take k)))]) (fun _ _=>True) v rfl trivial hs ?_;clear hs;rintro k v Z hk - hs;have hml:=OM a (b.take k);rw[Jd]at hml;rcases A7 b hk with⟨x,hx,hlt⟩|hke
 .have hsn:=Ru a (b.take k) x
  rw[<-AO hx]at hsn;generalize CY a (b.take k)=m at *
  conv=>whnf
  repeat'((first|clear U K|apply st|(apply zk;intro K U)|refine zX ?_|refine zr fun Z hs=>?_|refine zp fun nn hnn Z hs=>?_|fail)<;>conv=>whnf)
  refine Bw m.length (fun j t=>[(8,.b t),(21,eI (A6 j))]) (fun j t=>[.own v 6 (facts m),.obj nn (.cs (xF x))]) (fun j t=>t=(m.take j).any (Fx x)) false rfl (by simp) hs ?_;clear hs;rintro j t Z hj ht hs;rcases A7 m hj with⟨y,hy,hjlt⟩|hje
  .cases t
   .conv=>whnf
    repeat'((first|clear U K|apply st|(apply zk;intro K U)|refine zX ?_|refine zr fun Z hs=>?_|refine Pure.use (oN _ _) ?_|refine zp fun nn hnn Z hs=>?_|fail)<;>conv=>whnf)
    exact⟨hjlt,_,rfl,by rw[AO hy,List.any_append,<-ht];simp,hs.take 2⟩
   .conv=>whnf
    repeat'((first|clear U K|apply st|(apply zk;intro K U)|refine zX ?_|refine zr fun Z hs=>?_|refine zp fun nn hnn Z hs=>?_|fail)<;>conv=>whnf)
    exact⟨hjlt,true,rfl,by rw[AO hy,List.any_append,<-ht];simp,hs.take 2⟩
  .rw[Aq hje]at ht
   subst ht
   conv=>whnf
   repeat'((first|clear U K|apply st|(apply zk;intro K U)|refine zX ?_|refine apF fun v Z hs hsl=>?_|refine za (fun hc=>?_) fun hc=>?_|fail)<;>conv=>whnf)
   .rw[hc]at hsn
    exact⟨hlt,_,rfl,trivial,by rw[hsn];exact hs.take 1⟩
   .rw[hc]at hsn
    exact⟨hlt,_,rfl,trivial,by rw[hsn];exact hs.take 1⟩
 .refine zv ?_;(repeat clear U K);repeat intro K U
  exact Ea hs 0 rfl (by rw[Aq hke])
abbrev mw (ls:List (List Fact)):List (List V):=ls.map fun l=>[.l (facts l) false]
def DW (A B:List (List Fact)):List (List Fact):=A.flatMap fun x=>B.map fun y=>CY x y
def Ek (f:Fact) (l:List (Bool->List (List Fact))) (c:Bool):List (List Fact):=
 if f.op=1 then(if c then []else [[]])else
 if f.op=5 then(l.getD 0 (fun _=>[])) (!c)else
 if f.op=6\/f.op=7 then(if c != (f.op==7)then l.getD 0 (fun _=>[]) c++l.getD 1 (fun _=>[]) c else DW (l.getD 0 (fun _=>[]) c) (l.getD 1 (fun _=>[]) c))else
 if c then [[EV f]]else [[f]]
def BE (f:Fact):Bool->List (List Fact):=f.Hu Ek
def Ey (f:Fact) (c:Bool):BE f c=Ek f (f.kids.map BE) c:=congrFun (Fact.Ds Ek f) c
def YJ (f:Fact) (l:List Nat):Nat:=if f.op=5 then l.getD 0 0 else if f.op=6\/f.op=7 then l.getD 0 0+l.getD 1 0 else 1
def lv (f:Fact):Nat:=f.Hu YJ
def Jq (f:Fact):lv f=YJ f (f.kids.map lv):=Fact.Ds YJ f
def arity (f:Fact):Bool:=f.Hu fun f l=>f.kids.length==Ch f.op&&l.all id
def M7 (f:Fact):arity f=(f.kids.length==Ch f.op&&f.kids.all arity):=by
 rw[arity,Fact.Ds,List.all_map];rfl
def Bl {w:AH} (f:Fact):Bb w f=true->arity f=true:=by
 induction f using Fact.ind with
 | h f ih=>
   intro h;rw[CM]at h;simp only[DE,A9,EB]at h;rw[M7,A9,EB];exact⟨h.1.2.1,fun k hk=>ih k hk (h.2 k hk)⟩
def FH {f:Fact} (h:arity f=true) (h5:f.op=5): ∃a,f.kids= [a]/\arity a=true:=by
 rw[M7,A9,EB,h5]at h;have hl:f.kids.length=1:=by simpa[Ch]using h.1
 obtain⟨a,ha⟩:=List.length_eq_one_iff.1 hl;exact⟨a,ha,h.2 a (by rw[ha];exact .head _)⟩
def FG {f:Fact} (h:arity f=true) (h6:f.op=6\/f.op=7): ∃a b,f.kids= [a,b]/\arity a=true/\arity b=true:=by
 rw[M7,A9,EB]at h
 have hl:f.kids.length=2:=by
  have h5:f.op≠5:=by omega
  simpa[Ch,h5,h6]using h.1
 match hk:f.kids,hl with
 | [a,b],_=>exact⟨a,b,rfl,h.2 a (by rw[hk];exact .head _),h.2 b (by rw[hk];exact .tail _ (.head _))⟩
def ie (f:Fact):arity f=true->1<=lv f:=by
 induction f using Fact.ind with
 | h f ih=>
   intro h;rw[Jq,YJ];split
   .rename_i h5
    obtain⟨a,ha,hb⟩:=FH h h5;rw[ha];exact ih a (by rw[ha];exact .head _) hb
   .split
    .rename_i h6
     obtain⟨a,b,ha,hb,_⟩:=FG h h6;rw[ha];have:=ih a (by rw[ha];exact .head _) hb;simp only[E3,List.getD_cons_zero];omega
    .omega
def oY {a b:Nat} (ha:1<=a) (hb:1<=b):2 ^ a+2 ^ b<=2 ^ (a+b):=by
 rw[Nat.pow_add];have h1:2<=2 ^ a:=by simpa using Nat.pow_le_pow_right (show 0<2 by omega) ha
 have h2:2<=2 ^ b:=by simpa using Nat.pow_le_pow_right (show 0<2 by omega) hb
 generalize 2 ^ a=x at *;generalize 2 ^ b=y at *;have:=Nat.mul_le_mul_left (x - 1) (show 1<=y - 1 by omega);obtain⟨x,rfl⟩: ∃u,x=u+1:=⟨x - 1,by omega⟩
 obtain⟨y,rfl⟩: ∃u,y=u+1:=⟨y - 1,by omega⟩
 simp only[Nat.add_sub_cancel,Nat.mul_one]at this;rw[Nat.add_mul,Nat.mul_add];omega
def TP (A B:List (List Fact)):(DW A B).length=A.length*B.length:=by
 induction A with
 | nil=>simp[DW]
 | cons x r ih=>
   simp only[DW,List.flatMap_cons,NW,B2,Ky]at *;rw[ih,Nat.add_mul];omega
def D8 (f : Fact):arity f=true-> ∀c,(BE f c).length<=2 ^ lv f/\ ∀l∈BE f c,l.length<=lv f:=by
 induction f using Fact.ind with
 | h f ih=>
   intro h c;rw[Ey,Jq,Ek,YJ];by_cases h1:f.op=1
   .have e5: ¬f.op=5:=by omega
    have e6: ¬(f.op=6\/f.op=7):=by omega
    rw[if_pos h1,if_neg e5,if_neg e6];cases c
    .rw[if_neg (by decide)]
     exact⟨by simp,fun l hl=>by simp at hl;subst hl;simp⟩
    .rw[if_pos rfl]
     exact⟨by simp,fun l hl=>by cases hl⟩
   rw[if_neg h1];by_cases h5:f.op=5
   .obtain⟨a,ha,hb⟩:=FH h h5
    rw[if_pos h5,if_pos h5,ha];exact ih a (by rw[ha];exact .head _) hb (!c)
   rw[if_neg h5,if_neg h5];by_cases h6:f.op=6\/f.op=7
   .obtain⟨a,b,ha,hb1,hb2⟩:=FG h h6
    rw[if_pos h6,if_pos h6,ha];simp only[E3,List.map_nil,List.getD_cons_zero,List.getD_cons_succ];obtain⟨i1,i2⟩:=ih a (by rw[ha];exact .head _) hb1 c;obtain⟨j1,j2⟩:=ih b (by rw[ha];exact .tail _ (.head _)) hb2 c;have p1:=ie a hb1;have p2:=ie b hb2;split
    .refine⟨?_,fun l hl=>?_⟩
     .rw[NW]
      have:=oY p1 p2;omega
     .rcases Du.1 hl with hl|hl
      .have:=i2 l hl;omega
      .have:=j2 l hl;omega
    .refine⟨?_,fun l hl=>?_⟩
     .rw[TP,Nat.pow_add]
      exact Nat.mul_le_mul i1 j1
     .simp only[DW,List.mem_flatMap,IX]at hl
      obtain⟨x,hx,y,hy,rfl⟩:=hl;have:=OM x y;have:=i2 x hx;have:=j2 y hy;omega
   .rw[if_neg h6,if_neg h6]
    cases c
    .exact⟨by simp,fun l hl=>by simp at hl;subst hl;simp⟩
    .exact⟨by simp,fun l hl=>by simp at hl;subst hl;simp⟩
def uF (f:Fact):arity f=true->2*lv f<=NU f+1:=by
 induction f using Fact.ind with
 | h f ih=>
   intro h;rw[Jq,YJ,La];by_cases h5:f.op=5
   .obtain⟨a,ha,hb⟩:=FH h h5
    rw[if_pos h5,ha];have:=ih a (by rw[ha];exact .head _) hb;simp only[E3,List.map_nil,List.getD_cons_zero,List.sum_cons,List.sum_nil];omega
   rw[if_neg h5];by_cases h6:f.op=6\/f.op=7
   .obtain⟨a,b,ha,hb1,hb2⟩:=FG h h6
    rw[if_pos h6,ha];have:=ih a (by rw[ha];exact .head _) hb1;have:=ih b (by rw[ha];exact .tail _ (.head _)) hb2;simp only[E3,List.map_nil,List.getD_cons_zero,List.getD_cons_succ,List.sum_cons,List.sum_nil];omega
   .rw[if_neg h6]
    omega
def Md {Z:AE} {es es':List (List V)} (hs:Sat Z []) (h:FR Z Z es es') (he: ∀e∈es',e.length=1):Am Z (.l es true) fun r Z'=> ∃post,(∃v,r= .ret v/\post= [.own v 1 es'])/\Sat Z' post:=
 HN (fun _ _ h=>h) (.l (fun _=>rfl) h) ⟨_,⟨_,rfl,rfl⟩,nY hs he⟩
def jj (f : Fact):arity f=true->lv f<=28-> ∀c,BT zP 300 [.a (xF f),.b c] [] fun r post=> ∃v,r= .ret v/\post= [.own v 1 (mw (BE f c))]:=by
 induction f using Fact.ind with
 | h f ih =>
   intro h hlv c Z hs;refine Au.fit (by kernel_rfl) fun hf=>?_
   have⟨h2,h3,h4⟩:=K8 hf.1;have hM:=Mx;refine wP kZ ?_;rw[Ey];rw[Jq]at hlv;by_cases h5:f.op=5
   .obtain⟨a,ha,hb⟩:=FH h h5
    have ha0:f.kids[Int.toNat 0]? =some a:=by rw[ha];rfl
    have hrec:=ih a (by rw[ha];exact .head _) hb (by simpa[YJ,h5,ha]using hlv) (!c)
    conv=>whnf
    repeat'((first|clear U K|apply st|(apply zk;intro K U)|refine zX ?_|(refine zb (fun hc=>?_) (fun hc=>?_)<;>try exact⟨⟩)|fail)<;>conv=>whnf)
    all_goals try(exfalso;omega)
    refine hrec.use (rest:=[]) hs ?_;clear hs;rintro r post Z ⟨v,rfl,rfl⟩ hs;refine zv ?_;(repeat clear U K);repeat intro K U
    refine As hs (List.Sublist.refl _) (.refl _) fun Z' hs'=>⟨_,⟨_,rfl,?_⟩,hs'⟩
    simp only[Ek,h5,ha];rfl
   by_cases h6:f.op=6\/f.op=7
   .obtain ⟨a,b,ha,hb1,hb2⟩:=FG h h6
    have ha0:f.kids[Int.toNat 0]? =some a:=by rw[ha];rfl
    have ha1:f.kids[Int.toNat 1]? =some b:=by rw[ha];rfl
    have hlv2:lv a+lv b<=28:=by simpa[YJ,h5,h6,ha]using hlv
    have hrec:=ih a (by rw[ha];exact .head _) hb1 (by omega) c;have hrec2:=ih b (by rw[ha];exact .tail _ (.head _)) hb2 (by omega) c
    have hcg:Ek f (f.kids.map BE) c=if c != (f.op==7)then BE a c++BE b c else DW (BE a c) (BE b c):=by
     have h1: ¬f.op=1:=by omega
     simp only[Ek,if_neg h1,if_neg h5,if_pos h6,ha];rfl
    rw[hcg];obtain⟨i1,i2⟩:=D8 a hb1 c;obtain⟨j1,j2⟩:=D8 b hb2 c
    have hpw:2 ^ lv a*2 ^ lv b<=268435456:=by
     rw[<-Nat.pow_add];exact Nat.pow_le_pow_right (by omega) (show lv a+lv b<=28 from hlv2)
    have hAB:=Nat.le_trans (Nat.mul_le_mul i1 j1) hpw;have q1:1<=2 ^ lv a:=Nat.one_le_two_pow;have q2:1<=2 ^ lv b:=Nat.one_le_two_pow;have q3:2 ^ lv a<=268435456:=Nat.le_trans (Nat.le_mul_of_pos_right _ q2) hpw;have q4:2 ^ lv b<=268435456:=Nat.le_trans (Nat.le_mul_of_pos_left _ q1) hpw;generalize BE a c=LA at *;generalize BE b c=LB at *;have hgB:=DL MW LB;clear hcg;generalize hres:(if c != (f.op==7)then LA++LB else DW LA LB)=RES;clear ih
    conv=>whnf
    repeat'((first|clear U K|apply st|(apply zk;intro K U)|refine zX ?_|(refine zb (fun hc=>?_) (fun hc=>?_)<;>try exact⟨⟩)|fail)<;>conv=>whnf)
    all_goals try(exfalso;omega)
    all_goals
     refine hrec.use (rest:=[]) hs ?_;clear hs;rintro r post Z ⟨v1,rfl,rfl⟩ hs
     conv=>whnf
     repeat'((first|apply st|refine zX ?_|refine rk ?_ ?_|exact fun s e=>by cases e;rfl|fail)<;>conv=>whnf)
     refine hrec2.use (pre:=[]) (rest:=[_]) hs ?_;clear hs;rintro r post Z ⟨v2,rfl,rfl⟩ hs
     conv=>whnf
     repeat'((first|clear U K|apply st|(apply zk;intro K U)|refine zX ?_|refine za (fun hc=>?_) fun hc=>?_|fail)<;>conv=>whnf)
    all_goals have hct:=hc
    all_goals clear hc
    all_goals first
     | (refine Pq hs 1 0 rfl rfl (by simp only[B2];omega) hgB.1 hgB.2 fun v Z hs=>?_
        refine zv ?_;(repeat clear U K);repeat intro K U
        rw[hct,if_pos rfl]at hres;refine As (hs.less (Ku _ _)) (List.Sublist.refl _) (.refl _) fun Z' hs'=>⟨_,⟨_,rfl,?_⟩,hs'⟩
        rw[<-hres];simp only[mw,SN]
        rfl)
     | (refine Bw LA.length (fun k v=>[(7,v),(52,eI (A6 k))]) (fun k v=>[.own v2 1 (mw LB),.own v1 1 (mw LA),.own v 1 (mw (DW (LA.take k) LB))]) (fun _ _=>True) (.l [] true) rfl trivial (Dw hs 1) ?_
        clear hs;rintro k v Z hk - hs;rcases A7 LA hk with⟨x,hx,hlt⟩|hke
        .have hxl:=i2 x (Bo hx)
         have hpk:DW (LA.take (k+1)) LB=DW (LA.take k) LB++LB.map fun y=>CY x y:=by
          rw[AO hx];simp[DW]
         have hpl:(DW (LA.take k) LB).length+LB.length<=LA.length*LB.length:=by
          rw[TP,Jd,Nat.min_eq_left hk];have:=Vi LB.length (show k+1<=LA.length from hlt);rw[Nat.add_mul]at this;omega
         generalize DW (LA.take k) LB=pk0 at *;refine zv ?_;(repeat clear U K);repeat intro K U
         refine Bw LB.length (fun j v=>[(7,v),(58,eI (A6 j))]) (fun j v=>[.own v2 1 (mw LB),.own v1 1 (mw LA),.own v 1 (mw (pk0++(LB.take j).map fun y=>CY x y))]) (fun _ _=>True) v rfl trivial (by simpa using hs) ?_;clear hs;rintro j v Z hj - hs;rcases A7 LB hj with⟨y,hy,hjlt⟩|hje
         .have hyl:=j2 y (Bo hy)
          conv=>whnf
          repeat'((first|clear U K|apply st|(apply zk;intro K U)|refine zX ?_|refine aq fun v Z hs hsl=>?_|refine Pure.use (dn _ _ _ _ (by omega)) ?_|fail)<;>conv=>whnf)
          refine⟨hjlt,_,rfl,trivial,?_⟩;rw[AO hy,SN,<-PD];exact hs
         .refine zv ?_;(repeat clear U K);repeat intro K U
          rw[Aq hje]at hs;exact⟨hlt,_,rfl,trivial,by rw[hpk];exact hs⟩
        .refine zv ?_;(repeat clear U K);repeat intro K U
         rw[Aq hke]at hs;rw[hct,if_neg (by decide)]at hres;rw[<-hres]
         refine As (hs.less ((Ku _ _).trans (Ku _ _))) (List.Sublist.refl _) (.refl _) fun Z' hs'=>⟨_,⟨_,rfl,rfl⟩,hs'⟩)
   .have e1:Ek f (f.kids.map BE) c=if f.op=1 then(if c then []else [[]])else if c then [[EV f]]else [[f]]:=by
     simp only[Ek,if_neg h5,if_neg h6]
    rw[e1];clear e1
    conv=>whnf
    repeat'((first|clear U K|apply st|(apply zk;intro K U)|refine zX ?_|refine Pure.use (iZ _) ?_|(refine zb (fun hc=>?_) (fun hc=>?_)<;>try exact⟨⟩)|fail)<;>conv=>whnf)
    all_goals try(exfalso;omega)
    .subst hc
     rw[if_pos (by assumption),if_pos rfl];exact Md hs .nil (fun e h=>by cases h)
    .subst hc
     rw[if_pos (by assumption),if_neg (by decide)];refine Md hs (.cons (.cons FE .nil) .nil) ?_;intro e he;simp at he;subst he;rfl
    .subst hc
     rw[if_neg (by assumption),if_pos rfl];refine Md hs (.cons (.cons (.l (fun h=>by cases h) ?_) .nil) .nil) ?_
     .simp only[facts,List.map,Bg]
      exact Ez _
     .intro e he
      simp at he;subst he;rfl
    .subst hc
     rw[if_neg (by assumption),if_neg (by decide)];refine Md hs (.cons (.cons (.l (fun h=>by cases h) ?_) .nil) .nil) ?_
     .simp only[facts,List.map,Bg]
      exact Ez _
     .intro e he
      simp at he;subst he;rfl
def Dj (w:AH) (x:Fact):Prop:= ∃g,Bb w g=true/\CI g=true/\(x=g\/x=EV g)
def Ft {g:Fact} (h:CI g=true):g.op=2\/g.op=3\/g.op=4:=by
 simp only[CI,Fm,DD]at h;omega
def C3 {w : AH} (f:Fact):Bb w f=true-> ∀c,∀l∈BE f c,∀x∈l,Dj w x:=by
 induction f using Fact.ind with
 | h f ih=>
   intro h c;have har:=Bl f h;have h':=h;rw[CM,A9,EB]at h';rw[Ey,Ek];by_cases h1:f.op=1
   .rw[if_pos h1]
    cases c
    .rw[if_neg (by decide)]
     intro l hl x hx;simp at hl;subst hl;cases hx
    .rw[if_pos rfl]
     intro l hl;cases hl
   rw[if_neg h1];by_cases h5:f.op=5
   .obtain⟨a,ha,hb⟩:=FH har h5
    rw[if_pos h5,ha];exact ih a (by rw[ha];exact .head _) (h'.2 a (by rw[ha];exact .head _)) (!c)
   rw[if_neg h5];by_cases h6:f.op=6\/f.op=7
   .obtain⟨a,b,ha,hb1,hb2⟩:=FG har h6
    rw[if_pos h6,ha];have i1:=ih a (by rw[ha];exact .head _) (h'.2 a (by rw[ha];exact .head _)) c;have j1:=ih b (by rw[ha];exact .tail _ (.head _)) (h'.2 b (by rw[ha];exact .tail _ (.head _))) c;simp only[E3,List.map_nil,List.getD_cons_zero,List.getD_cons_succ];split
    .intro l hl
     rcases Du.1 hl with hl|hl
     .exact i1 l hl
     .exact j1 l hl
    .intro l hl x hx
     simp only[DW,List.mem_flatMap,IX]at hl;obtain⟨y,hy,z,hz,rfl⟩:=hl;rcases Td _ _ _ hx with h|h
     .exact i1 y hy x h
     .exact j1 z hz x h
   .rw [if_neg h6]
    have hlf:CI f=true:=by
     have ho:YF w f=true:=by
      have:=h'.1;simp only[DE,A9]at this;exact this.1
     simp only[CI,Fm,DD];unfold YF at ho;split at ho
     .omega
     .split at ho
      .omega
      .simp only[Fm,DD]at ho
       omega
    cases c
    .rw[if_neg (by decide)]
     intro l hl x hx;simp at hl;subst hl;simp at hx;subst hx;exact⟨x,h,hlf,.inl rfl⟩
    .rw[if_pos rfl]
     intro l hl x hx;simp at hl;subst hl;simp at hx;subst hx;exact⟨f,h,hlf,.inr rfl⟩
def IB {w:AH} {x:Fact} (h:Dj w x):Ew x/\Bb w (Af x).1=true/\CI (Af x).1=true:=by
 obtain⟨g,hn,hl,rfl|rfl⟩:=h
 .have:=Ft hl
  have h5: ¬x.op=5:=by omega
  exact⟨fun e=>absurd e h5,by simp only[Af,if_neg h5];exact⟨hn,hl⟩⟩
 .exact⟨fun _ e=>(by cases e),hn,hl⟩
def IA {w:AH} {l:List Fact} (h: ∀x∈l,Dj w x):(∀x∈l,Ew x)/\MJ w l/\HV l/\Nl l 2:=by
 refine⟨fun x hx=>(IB (h x hx)).1,fun x hx h2=>?_,fun x hx=>?_,fun x hx=>?_⟩
 all_goals
  obtain⟨-,hn,hl⟩:=IB (h x hx);have hlo:=Ft hl;generalize (Af x).1=g at *;rw[CM,A9]at hn;have hn:=hn.1;simp only[DE,A9]at hn;obtain⟨ho,-,-,-,hp,-⟩:=hn
 .unfold YF at ho
  rw[if_pos h2]at ho;simp only[Sf,A9,Cc]at ho;exact ho.2
 .unfold YF at ho
  split at ho
  .simp only[A9,DD]at ho
   omega
  .split at ho
   .simp only[A9,Cc]at ho
    omega
   .omega
 .simp only[FT,A9,Cc]at hp
  omega
def Sc (w:AH) (f:Fact):Bool:=(BE f false).any (G5 w)
def yq (w:AH) (f:Fact) (hw:KG w) (hn:Bb w f=true) (hlv:lv f<=28):Pure zP 277 [.a (A0 w),.a (xF f)] (.b (Sc w f)):=by
 have hM:=Mx;have har:=Bl f hn;have hcl:=(D8 f har false).1;have hp:2 ^ lv f<=2 ^ 28:=Nat.pow_le_pow_right (by omega) hlv;have hlits:=C3 f hn false;refine wk kZ ?_;have hs:=Sn;refine zv ?_;(repeat clear U K);repeat intro K U
 refine(jj f har hlv false).use (rest:=[]) hs ?_;clear hs;rintro r post Z ⟨v,rfl,rfl⟩ hs;have hP:Sc w f=(BE f false).any (G5 w):=rfl
 have hlen: ∀x∈BE f false,x.length<=1000000:=fun x hx=>by
  have:=(D8 f har false).2 x hx;omega
 generalize BE f false=cs at *;refine zv ?_;(repeat clear U K);repeat intro K U
 refine Bw cs.length (fun k (_:Unit)=>[(10,eI (A6 k))]) (fun _ _=>[.own v 1 (mw cs)]) (fun k _=>Sc w f=(cs.drop k).any (G5 w)) () rfl hP hs ?_;clear hs hP;rintro k - Z hk hP hs;rcases A7 cs hk with⟨x,hx,hlt⟩|hke
 .obtain⟨q1,q2,q3,q4⟩:=IA (hlits x (Bo hx))
  have htog:=Ow w x q1 (hlen x (Bo hx)) hw q2 q3 q4;rw[drop_cons hx,PV]at hP;cases ht:G5 w x<;>rw[ht]at htog hP
  .conv=>whnf
   repeat'((first|clear U K|apply st|(apply zk;intro K U)|refine zX ?_|refine zC ?_|fail)<;>conv=>whnf)
   exact⟨hlt,(),rfl,hP,hs⟩
  .conv=>whnf
   repeat'((first|clear U K|apply st|(apply zk;intro K U)|refine zX ?_|refine zC ?_|fail)<;>conv=>whnf)
   exact AF (by rw[hP];rfl)
 .refine zv ?_;(repeat clear U K);repeat intro K U
  exact AF (by rw[hP,Ai hke];rfl)
def UP (w:AH) (a b:Fact):Bool:= !Sc w (PO a (EV b))
def ig (a b:Fact):lv (PO a (EV b))=lv a+lv b:=by
 rw[Jq];simp only[YJ,PO,Fact.op,Fact.kids,E3,List.map_nil,List.getD_cons_zero,List.getD_cons_succ];rw[Jq (EV b)];simp[YJ,EV,Fact.op,Fact.kids]
def Qt {w:AH} {a b:Fact} (ha:Bb w a=true) (hb:Bb w b=true):Bb w (PO a (EV b))=true:=by
 have hnb:Bb w (EV b)=true:=by
  rw[CM];simp[EV,DE,YF,Fact.op,Fact.kids,Fact.arg,Fact.path,Fact.cls,Fact.n,Ch,FT,CI,hb]
 rw[CM];simp[PO,DE,YF,Fact.op,Fact.kids,Fact.arg,Fact.path,Fact.cls,Fact.n,Ch,FT,CI,ha,hnb]
def eG (w:AH) (a b:Fact) (hw:KG w) (ha:Bb w a=true) (hb:Bb w b=true) (la:lv a<=12) (lb:lv b<=12):Pure zP 204 [.a (A0 w),.a (xF a),.a (xF b)] (.b (UP w a b)):=by
 refine xn kZ ?_;have hs:=Sn
 conv=>whnf
 repeat'((first|clear U K|apply st|(apply zk;intro K U)|refine zX ?_|refine rk ?_ ?_|exact fun s e=>by cases e;rfl|refine Pure.use (iZ _) ?_|refine Pure.use (yx _ _) ?_|refine Pure.use (yq _ _ hw (Qt ha hb) (by rw[ig];omega)) ?_|fail)<;>conv=>whnf)
 all_goals exact AF rfl
def Wu {p:Prog}: ∀ {ms:List Ni} {s:List Int},(runM p ms s).isSome=true-> ∀m∈ms,P4 p m=true
 | [],_,_,_,h=>by cases h
 | m ::r,s,h,x,hx=>by
   rw[runM]at h;split at h
   .rename_i hok
    split at h
    .cases h
    .rcases GR.1 hx with rfl|hx
     .exact hok
     .exact Wu h x hx
   .cases h
def Fg {p:Prog} (h:(BY p).isSome=true):DA p=true/\ ∀m∈p.methods,P4 p m=true:=by
 unfold BY at h;split at h
 .rename_i hh
  refine⟨hh,?_⟩;split at h
  .cases h
  .rename_i s hs
   exact Wu (by rw[hs];rfl)
 .cases h
structure EM (p:Prog):Prop where
 zQ:KG (AL p)
 AG:Bq p.AM<=AZ
 rZ:p.AM.length<=1000
 facts: ∀m∈p.methods,Bb (AL p) m.fact=true/\lv m.fact<=12
 many:p.methods.length<=16
def look_ok {p:Prog} (h:(BY p).isSome=true):EM p:=by
 obtain⟨hh,hm⟩:=Fg h;simp only[DA,A9,Cc]at hh;have hc:=hh.1;simp only[BC,A9,Cc]at hc;have hM:=Mx;refine⟨RP hc.1 hc.2.1 hc.2.2.2.1,by have:=(Fe _ _ hc.2.1).1;omega,by have:=hc.1;omega,fun m h=>?_,hh.2.2.1⟩;have:=hm m h;simp only[P4,DM,A9,Cc]at this;have hn:=this.2.2.2.2.1.2.2;refine⟨hn,?_⟩;have hcn:=Ln m.fact 24 (by omega) this.2.2.2.2.1.1;have:=uF m.fact (Bl _ hn);omega
def BM (p:Prog) (m:Int):Bool:=decide (0<=m)&&decide (m<(p.methods.length:Int))
def Bd (p:Prog) (m:Int):Ni:=p.methods.getD m.toNat default
def CE {p:Prog} {m:Int} (h:BM p m=true):p.methods[m.toNat]? =some (Bd p m):=by
 simp only[BM,A9,Cc]at h;rw[Bd,C4,Cr (by omega)];rfl
def Dn (p:Prog) (m n:Int):Bool:=(Bd p m).gen==(Bd p n).gen&&(Bd p m).kind==(Bd p n).kind
def Gg (p:Prog) (m n:Int):Bool:=UP (AL p) (Bd p m).fact (Bd p n).fact
def Ay (p:Prog) (m n:Int):Bool:=Gg p m n&& !Gg p n m
def qw (p:Prog) (m n:Int) (hm:BM p m=true) (hn:BM p n=true):Pure zP 203 [.a (BG p),eI m,eI n] (.b (Dn p m n)):=by
 refine Pure.fit (by kernel_rfl) fun hf=>?_
 have⟨p1,p2,p3,p4⟩:=Gi hf.1;have hxm:=CE hm;have hxn:=CE hn;simp only[BM,A9,Cc]at hm hn;refine xp kZ ?_;have hs:=Sn
 conv=>whnf
 repeat'((first|clear U K|apply st|(apply zk;intro K U)|refine zX ?_|refine za (fun hc=>?_) fun hc=>?_|fail)<;>conv=>whnf)
 all_goals exact AF (by simp[Dn, *])
end Go.Gl
