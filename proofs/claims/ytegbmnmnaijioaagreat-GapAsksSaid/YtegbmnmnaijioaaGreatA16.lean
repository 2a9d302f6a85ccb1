import Derived.Test.YtegbmnmnaijioaaGreatA5
import Derived.Test.YtegbmnmnaijioaaGreatA11
import Derived.Test.YtegbmnmnaijioaaGreatA12
import Derived.Test.YtegbmnmnaijioaaGreatA13
import Derived.Test.YtegbmnmnaijioaaGreatA14
import Derived.Test.YtegbmnmnaijioaaGreatA15
set_option linter.all false
set_option linter.defProp false
noncomputable section
namespace Go.Gl
open Go.Proofs
attribute [local irreducible] BC Aw Ai AV AM Ah AU AW AN Ag AQ AS A3 BA Sat Ab A8 Ak W
def gq {p:Prog} {l:List Int} {k:Nat} {x:Int} (hx:l[k]? =some x) (kd:Int):CC p (l.take (k+1)) kd=if(Bh p x).kind==kd then CC p (l.take k) kd++[x]else CC p (l.take k) kd:=by
 rw[AO hx,CC,List.filter_append];cases hp:(Bh p x).kind==kd<;>simp[CC,hp]
def Lr {p:Prog} {l:List Int} {k:Nat} {kd:Int} (h:l.length≤16):(CC p (l.take k) kd).length≤16:=by
 have:=Oa (fun m=>(Bh p m).kind==kd) (l.take k);rw[K1]at this;simp only[CC];omega
set_option maxHeartbeats 4000000 in
def pt (p:Prog) (L:Nat) (l:List Int) (f:Bool) (h:(Bb p).isSome=true) (hG:Nc p l) (M:List (Int×Int)) :
    Bj Tryz.prog 124 [Sf p L,.l (iL l) f] [.map L (KE p M)] fun r post=>r= .ret (.t [.a (xr (Ep (A1 p) p l).1 true (!(Ep (A1 p) p l).2)),.b (Ep (A1 p) p l).2])∧ ∃M',post= [.map L (KE p M')]:=by
 intro σ hs;have hM:=Mx;have hok:=look_ok h;have hgw:=nq h;have hfm:=mD h;have h16:=hG.many;have hm16:=hok.many;generalize hX:Ep (A1 p) p l=X;refine uR kZ ?_
 conv=>whnf
 repeat'((first|apply st|(apply sq;intro K U)|(apply si;intro A B Y Z)|(apply Y;clear Z B Y A)|(apply U;clear U K)|(intro nn hnn;generalize hg:A0 _ nn _=σ;refine CZ hg fun hs=>?_;clear hg)|fail)<;>conv=>whnf)
 rename_i n4 _ _ _;clear hnn;refine CA l.length (fun k (_:V×V×V×V)=>[(13,eI (BG k))]) (fun k x=>[.own x.1 1 (iL (CC p (l.take k) 1)),.own x.2.1 1 (iL (CC p (l.take k) 2)),.own x.2.2.1 1 (iL (CC p (l.take k) 3)),.own x.2.2.2 1 (iL (CC p (l.take k) 4)),.box nn [.l [] true,x.1,x.2.1,x.2.2.1,x.2.2.2],.box n4 [.l [] true,.b false,.l [] true,.l [] true,.b false,.l [] true],.map L (KE p M)]) (fun _ _=>True) (.l [] true,.l [] true,.l [] true,.l [] true) rfl trivial (DA (DA (DA (DA hs 1) 1) 1) 1) ?_;clear hs;rintro k ⟨v1,v2,v3,v4⟩ σ hk - hs;dsimp only at hs;dsimp only;rcases BI l hk with⟨x,hx,hlt⟩|hke
 ·have hmx:=hG.I4 x (B9 hx)
  have hxm:=B8 hmx;obtain⟨hkr,-⟩:=lK h (B9 hxm);have hst:=gq (p:=p) hx;simp only[BQ,BJ,Cn]at hmx;have l1:(CC p (l.take k) 1).length≤16:=Lr h16;have l2:(CC p (l.take k) 2).length≤16:=Lr h16;have l3:(CC p (l.take k) 3).length≤16:=Lr h16;have l4:(CC p (l.take k) 4).length≤16:=Lr h16;have s1:=hst 1;have s2:=hst 2;have s3:=hst 3;have s4:=hst 4;clear hst;generalize Bh p x=y at *;generalize CC p (l.take k) 1=z1 at *;generalize CC p (l.take k) 2=z2 at *;generalize CC p (l.take k) 3=z3 at *;generalize CC p (l.take k) 4=z4 at *;obtain⟨kd,gn,fc,nd⟩:=y;dsimp only at hkr s1 s2 s3 s4;rcases(show kd=1∨kd=2∨kd=3∨kd=4 by omega)with rfl|rfl|rfl|rfl
  ·rw[if_pos (beq_self_eq_true _)]at s1
   rw[if_neg (by decide)]at s2 s3 s4;have hll:z1.length<Ad∧(z1.length+1)*8≤140737488355328:=by omega
   clear l1 l2 l3 l4
   conv=>whnf
   repeat'((first|apply st|(apply sq;intro K U)|(apply si;intro A B Y Z)|(apply Y;clear Z B Y A)|(apply U;clear U K)|refine⟨rfl,?_⟩|refine ix ?_|refine HI ?_|refine ld ?_|refine GV fun σ hs=>?_|refine aq fun v σ hs hsl=>?_|(refine CU (fun hc=>?_)<;>(try rw[hc])<;>clear hc)|refine Wf (j:=1) ?_ (by decide) (by decide)|clear U K)<;>conv=>whnf)
   exact⟨hlt,(v,v2,v3,v4),rfl,trivial,by rw[s1,s2,s3,s4];exact hs⟩
  ·rw[if_pos (beq_self_eq_true _)]at s2
   rw[if_neg (by decide)]at s1 s3 s4;have hll:z2.length<Ad∧(z2.length+1)*8≤140737488355328:=by omega
   clear l1 l2 l3 l4
   conv=>whnf
   repeat'((first|apply st|(apply sq;intro K U)|(apply si;intro A B Y Z)|(apply Y;clear Z B Y A)|(apply U;clear U K)|refine⟨rfl,?_⟩|refine ix ?_|refine HI ?_|refine ld ?_|refine GV fun σ hs=>?_|refine aq fun v σ hs hsl=>?_|(refine CU (fun hc=>?_)<;>(try rw[hc])<;>clear hc)|refine Wf (j:=2) ?_ (by decide) (by decide)|clear U K)<;>conv=>whnf)
   exact⟨hlt,(v1,v,v3,v4),rfl,trivial,by rw[s1,s2,s3,s4];exact hs⟩
  ·rw[if_pos (beq_self_eq_true _)]at s3
   rw[if_neg (by decide)]at s1 s2 s4;have hll:z3.length<Ad∧(z3.length+1)*8≤140737488355328:=by omega
   clear l1 l2 l3 l4
   conv=>whnf
   repeat'((first|apply st|(apply sq;intro K U)|(apply si;intro A B Y Z)|(apply Y;clear Z B Y A)|(apply U;clear U K)|refine⟨rfl,?_⟩|refine ix ?_|refine HI ?_|refine ld ?_|refine GV fun σ hs=>?_|refine aq fun v σ hs hsl=>?_|(refine CU (fun hc=>?_)<;>(try rw[hc])<;>clear hc)|refine Wf (j:=3) ?_ (by decide) (by decide)|clear U K)<;>conv=>whnf)
   exact⟨hlt,(v1,v2,v,v4),rfl,trivial,by rw[s1,s2,s3,s4];exact hs⟩
  ·rw[if_pos (beq_self_eq_true _)]at s4
   rw[if_neg (by decide)]at s1 s2 s3;have hll:z4.length<Ad∧(z4.length+1)*8≤140737488355328:=by omega
   clear l1 l2 l3 l4
   conv=>whnf
   repeat'((first|apply st|(apply sq;intro K U)|(apply si;intro A B Y Z)|(apply Y;clear Z B Y A)|(apply U;clear U K)|refine⟨rfl,?_⟩|refine ix ?_|refine HI ?_|refine ld ?_|refine GV fun σ hs=>?_|refine aq fun v σ hs hsl=>?_|(refine CU (fun hc=>?_)<;>(try rw[hc])<;>clear hc)|refine Wf (j:=4) ?_ (by decide) (by decide)|clear U K)<;>conv=>whnf)
   exact⟨hlt,(v1,v2,v3,v),rfl,trivial,by rw[s1,s2,s3,s4];exact hs⟩
 ·rw [Ap hke]at hs
  obtain⟨o1,d1⟩:=hG.of 1;obtain⟨o2,d2⟩:=hG.of 2;obtain⟨o3,d3⟩:=hG.of 3;obtain⟨o4,d4⟩:=hG.of 4;have hpl:Ep (A1 p) p l=if(CC p l 1).isEmpty then(uy,false)else(⟨(Bc (A1 p) (CC p l 4).length (CC p l 4)).1,(Bc (A1 p) (CC p l 4).length (CC p l 4)).2,DK (A1 p) (CC p l 2).length (Cv (CC p l 2)),(Bc (A1 p) (CC p l 1).length (CC p l 1)).1,(Bc (A1 p) (CC p l 1).length (CC p l 1)).2,(DK (A1 p) (CC p l 3).length (Cv (CC p l 3))).reverse⟩,true):=rfl
  rw[hpl]at hX;clear hpl;have e4:=fun M=>Zl p L (CC p l 4) false hok hgw hfm o4 d4 M
  have e2:=fun M=>cg p L (CC p l 2) false hok hgw hfm o2 d2 M
  have e1:=fun M=>Zl p L (CC p l 1) false hok hgw hfm o1 d1 M
  have e3:=fun M=>YH p L (CC p l 3) false hok hgw hfm o3 d3 M
  rw[Ra d2]at e2;rw[Ra d3]at e3;have hl1:=o1.many
  have hbl:(DK (A1 p) (CC p l 3).length (Cv (CC p l 3))).length≤16:=by
   have: ∀k l,(DK (A1 p) k l).length=k:=fun k=>by
    induction k with
    | zero=>intro l;rfl
    | succ k ih=>intro l;simp only[DK,K2,ih]
   rw[this];exact o3.many
  clear o1 o2 o3 o4 d1 d2 d3 d4 hG;generalize DK (A1 p) (CC p l 3).length (Cv (CC p l 3))=xs at *;generalize DK (A1 p) (CC p l 2).length (Cv (CC p l 2))=bs at *;generalize Bc (A1 p) (CC p l 4).length (CC p l 4)=q4 at *;generalize Bc (A1 p) (CC p l 1).length (CC p l 1)=q1 at *;generalize CC p l 1=l1 at *;generalize CC p l 2=l2 at *;generalize CC p l 3=l3 at *;generalize CC p l 4=l4 at *;obtain⟨r4,t4⟩:=q4;obtain⟨r1,t1⟩:=q1;dsimp only at e1 e4;by_cases hz:l1.length=0
  ·have he:l1.isEmpty=true:=by simpa using hz
   rw[he,if_pos rfl]at hX;subst hX
   conv=>whnf
   repeat'((first|apply st|(apply sq;intro K U)|(apply si;intro A B Y Z)|(apply Y;clear Z B Y A)|(apply U;clear U K)|refine⟨rfl,?_⟩|refine⟨kZ,?_⟩|refine Wf ?_|refine lo ?_|refine ld ?_|(refine Dl (fun hc=>?_)<;>(try rw[hc])<;>clear hc)|(constructor<;>intro hc<;>(try rw[hc])<;>(replace hc:=bp hc)<;>(try simp(disch:=omega) only[A9,wrap64,AK]at hc)<;>try(exfalso;omega))|(intro nn hnn;generalize hg:A0 _ nn _=σ;refine CZ hg fun hs=>?_;clear hg)|clear U K)<;>conv=>whnf)
   refine G1 hs 6 rfl rfl rfl (by simp) (by decide) fun σ hs=>?_
   conv=>whnf
   repeat'((first|apply st|(apply Y;clear Z B Y A)|(apply U;clear U K)|clear U K)<;>conv=>whnf)
   refine Uh hs 6 rfl ?_
   conv=>whnf
   repeat'((first|refine⟨kZ,?_⟩|fail)<;>conv=>whnf)
   exact Av (hs.front (j:=7) rfl) (.cons₂ _ (NT _)) (.refl _) fun σ' hs'=>⟨_,⟨rfl,M,rfl⟩,hs'⟩
  ·have he:l1.isEmpty=false:=by cases l1 with
    | nil=>simp at hz
    | cons=>rfl
   rw[he,if_neg (by decide)]at hX;subst hX
   conv=>whnf
   repeat'((first|apply st|(apply sq;intro K U)|(apply si;intro A B Y Z)|(apply Y;clear Z B Y A)|(apply U;clear U K)|refine⟨rfl,?_⟩|refine Wf ?_|refine lo ?_|refine ld ?_|(refine Dl (fun hc=>?_)<;>(try rw[hc])<;>clear hc)|(constructor<;>intro hc<;>(try rw[hc])<;>(replace hc:=bp hc)<;>(try simp(disch:=omega) only[A9,wrap64,AK]at hc)<;>try(exfalso;omega))|(intro nn hnn;generalize hg:A0 _ nn _=σ;refine CZ hg fun hs=>?_;clear hg)|clear U K)<;>conv=>whnf)
   obtain⟨σ2,g1,g2,g3⟩:=I5 hs 4 rfl;refine BC.Uf ((e4 M).use (rest:=_) (g3.front (j:=6) rfl) ?_) g1 (.cons (.refl _) (.cons g2 .nil));clear hs g1 g2 g3;rintro r post σ ⟨rfl,M,rfl⟩ hs
   conv=>whnf
   repeat'((first|(apply sq;intro K U)|(apply si;intro A B Y Z)|(apply Y;clear Z B Y A)|(apply U;clear U K)|refine Wf ?_|refine ld ?_|refine GV fun σ hs=>?_|fail)<;>conv=>whnf)
   obtain⟨σ2,g1,g2,g3⟩:=I5 hs 3 rfl;refine BC.Uf ((e2 M).use (rest:=_) g3 ?_) g1 (.cons (.refl _) (.cons g2 .nil));clear hs g1 g2 g3;rintro r post σ ⟨rfl,M,rfl⟩ hs
   conv=>whnf
   repeat'((first|(apply sq;intro K U)|(apply si;intro A B Y Z)|(apply Y;clear Z B Y A)|(apply U;clear U K)|refine Wf ?_|refine ld ?_|refine GV fun σ hs=>?_|fail)<;>conv=>whnf)
   obtain⟨σ2,g1,g2,g3⟩:=I5 hs 2 rfl;refine BC.Uf ((e1 M).use (rest:=_) g3 ?_) g1 (.cons (.refl _) (.cons g2 .nil));clear hs g1 g2 g3;rintro r post σ ⟨rfl,M,rfl⟩ hs
   conv=>whnf
   repeat'((first|(apply sq;intro K U)|(apply si;intro A B Y Z)|(apply Y;clear Z B Y A)|(apply U;clear U K)|refine Wf ?_|refine ld ?_|refine GV fun σ hs=>?_|fail)<;>conv=>whnf)
   obtain⟨σ2,g1,g2,g3⟩:=I5 hs 2 rfl;refine BC.Uf ((e3 M).use (rest:=_) g3 ?_) g1 (.cons (.refl _) (.cons g2 .nil));clear hs g1 g2 g3;rintro r post σ ⟨v,M,rfl,rfl,hv⟩ hs
   conv=>whnf
   repeat'((first|(apply sq;intro K U)|(apply si;intro A B Y Z)|(apply Y;clear Z B Y A)|(apply U;clear U K)|refine ld ?_|refine GV fun σ hs=>?_|fail)<;>conv=>whnf)
   refine(an xs v (by omega) hv).use (rest:=_) hs ?_;clear hs;rintro r post σ ⟨rfl,rfl⟩ hs
   conv=>whnf
   repeat'((first|(apply sq;intro K U)|(apply si;intro A B Y Z)|(apply Y;clear Z B Y A)|(apply U;clear U K)|refine⟨kZ,?_⟩|refine ld ?_|fail)<;>conv=>whnf)
   have o1:=Gw hs 0 rfl;refine G1 hs 4 rfl rfl rfl (by simp[o1]) (by decide) fun σ hs=>?_
   clear o1
   conv=>whnf
   repeat'((first|apply st|(apply Y;clear Z B Y A)|(apply U;clear U K)|refine⟨kZ,?_⟩|refine ld ?_|fail)<;>conv=>whnf)
   obtain⟨σ2,g1,g2,g3⟩:=I5 hs 0 rfl;exact Gp g1 (.t (.cons (.a (.cons (.refl _) (.cons (.refl _) (.cons (.refl _) (.cons (.refl _) (.cons (.refl _) (.cons g2 .nil))))))) (.cons (.refl _) .nil))) ⟨_,⟨rfl,M,rfl⟩,g3.less (.cons₂ _ (NT _))⟩
def oO (g:FuncId) (fi ca:List V) (q:Ob→Bool):Prop:= ∀v,Pure Tryz.prog g (fi++[.a (eOb v)]++ca) (.b (q v))
def oO.use {g:FuncId} {fi ca:List V} {q:Ob→Bool} (h:oO g fi ca q) {v:Ob} {σ:AH} {k kp:V→AH→Prop} (hk:k (.b (q v)) σ):A3 Tryz.prog (.f (.func g) fi ca) [.a (eOb v)] σ (qk k kp):=B2 ((h v).use hk)
end Go.Gl
namespace Go.Gl
open Go.Proofs
def ZH {p:Prog} {l:List Int} (hok:EN p) (h:Fj p l false=true):Nc p l:=by
 rw[Fj,BJ,Em,Cn]at h;obtain⟨h1,h2⟩:=h
 have hm: ∀x∈l,BQ p x=true∧(Bh p x).gen=(Bh p (l.getD 0 0)).gen:=fun x hx=>by
  have:=h1 x hx;simp only[jb,BJ,D9]at this;exact⟨this.1,this.2.1⟩
 refine⟨fun x hx=>(hm x hx).1,fun x hx y hy=>(hm x hx).2.trans (hm y hy).2.symm,h2,Nat.le_trans (PM p.methods.length l h2 fun x hx=>?_) hok.many⟩;have:=(hm x hx).1;simp only[BQ,BJ,Cn]at this;omega
def dn (x:Pl×Bool):Pl×Int:=if x.2 then(x.1,0)else(uy,5)
def S0 (p:Prog) (l:List Int):Pl×Int:=if(Bb p).isSome&&Fj p l false then dn (Ep (A1 p) p l)else(uy,2)
abbrev plE (x:Pl×Int) (g:Bool):V:= .t [.a (xr x.1 g (x.2 != 0)),eI x.2]
attribute [local irreducible] BC Aw Ai AV AM Ah AU AW AN Ag AQ AS A3 BA Sat Ab A8 Ak W
def uo (p:Prog) (l:List Int) (f:Bool) (hl:l.length≤1000):Pure Tryz.prog 133 [.a (BR p),.l (iL l) f] (plE (S0 p l) true):=by
 refine Pure.of ?_;have hr:=gd p;generalize hX:S0 p l=X;rw[S0]at hX;refine uL kZ ?_;have hs:=Sn
 conv=>whnf
 repeat'((first|apply st|(apply sq;intro K U)|(apply si;intro A B Y Z)|(apply Y;clear Z B Y A)|(apply U;clear U K)|refine⟨kZ,?_⟩|(intro nn hnn;generalize hg:A0 _ nn _=σ;refine CZ hg fun hs=>?_;clear hg)|fail)<;>conv=>whnf)
 refine hr.use (rest:=_) hs ?_;clear hs;cases h:(Bb p).isSome
 ·have c1:=lM l f false
  rw[h,Bool.false_and,if_neg (by decide)]at hX;subst hX;rintro r post σ ⟨rfl,rfl⟩ hs
  conv=>whnf
  repeat'((first|apply st|(apply sq;intro K U)|(apply si;intro A B Y Z)|(apply Y;clear Z B Y A)|(apply U;clear U K)|refine⟨kZ,?_⟩|refine ld ?_|refine Cw fun σ hs=>?_|refine HK ?_|refine c1.use ?_|clear U K)<;>conv=>whnf)
  exact AX (by rfl)
 ·rintro r post σ ⟨L,rfl,rfl⟩ hs
  have c1:=qV p L l f false hl;cases hb:Fj p l false<;>rw[hb]at c1 hX
  ·rw[Bool.and_false,if_neg (by decide)]at hX
   subst hX
   conv=>whnf
   repeat'((first|apply st|(apply sq;intro K U)|(apply si;intro A B Y Z)|(apply Y;clear Z B Y A)|(apply U;clear U K)|refine⟨kZ,?_⟩|refine ld ?_|refine Cw fun σ hs=>?_|refine HK ?_|refine c1.use ?_|clear U K)<;>conv=>whnf)
   exact AX (by rfl)
  ·have c3:=pt p L l f h (ZH (look_ok h) hb) []
   rw[h,Bool.and_self,if_pos rfl]at hX;generalize Ep (A1 p) p l=x at *;obtain⟨x,b⟩:=x;cases b
   all_goals
    subst hX
    conv=>whnf
    repeat'((first|apply st|(apply sq;intro K U)|(apply si;intro A B Y Z)|(apply Y;clear Z B Y A)|(apply U;clear U K)|refine FP ?_|refine c1.use ?_|fail)<;>conv=>whnf)
    refine c3.use (rest:=_) hs ?_;clear hs;rintro r post σ ⟨rfl,M,rfl⟩ hs
    conv=>whnf
    repeat'((first|apply st|(apply sq;intro K U)|(apply si;intro A B Y Z)|(apply Y;clear Z B Y A)|(apply U;clear U K)|refine⟨kZ,?_⟩|refine ld ?_|refine Cw fun σ hs=>?_|refine HK ?_|refine FP ?_|(intro nn hnn;generalize hg:A0 _ nn _=σ;refine CZ hg fun hs=>?_;clear hg)|clear U K)<;>conv=>whnf)
    exact AX (by rfl)
end Go.Gl
namespace Go.Gl
open Go.Proofs
attribute [local irreducible] BC Aw Ai AV AM Ah AU AW AN Ag AQ AS A3 BA Sat Ab A8 Ak W
def dE (p:Prog) (gen:Int) (k:Nat):List Int:=(Ci k).filter fun m=>(Bh p m).gen==gen
def J0 (p:Prog) (gen:Int):List Int:=dE p gen p.methods.length
def VU (p:Prog) (gen:Int) (k:Nat):dE p gen (k+1)=if(Bh p (k:Int)).gen==gen then dE p gen k++[(k:Int)]else dE p gen k:=by
 rw[dE,JO,List.filter_append];cases hp:(Bh p (k:Int)).gen==gen<;>simp[dE,hp]
def OU (p:Prog) (gen:Int) (k:Nat):(dE p gen k).length≤k:=by
 have:=Oa (fun m=>(Bh p m).gen==gen) (Ci k)
 rwa [GJ]at this
def ZS (p:Prog) (gen:Int) (m:Int):(J0 p gen).contains m=(BQ p m&&(Bh p m).gen==gen):=by
 rw[JU,List.contains_iff_mem,J0,dE,K0,IC,BJ,BQ];simp only[BJ,Cn]
def ZE {p:Prog} {k:Nat} {x:Mc} (hx:p.methods[k]? =some x):Bh p (k:Int)=x:=by
 have hlt:=(IS.1 hx).1;have:=B8 (p:=p) (m:=k) (by simp[BQ];omega);rw[Iv,hx]at this;exact(Option.some.inj this).symm
def MS (p:Prog) (gen:Int) (l:List Int) (i:Nat):Bool:=BQ p (l.getD i 0)&&((Bh p (l.getD i 0)).gen==gen&& !(decide (0<i)&&decide (l.getD (i - 1) 0≥l.getD i 0)))
def Fe (p:Prog) (gen:Int) (l:List Int):Bool:=(List.range l.length).all (MS p gen l)
def VB {p:Prog} {gen:Int} {l:List Int} {i:Nat} (hi:i<l.length) (h:MS p gen l i=false):Fe p gen l=false:=by
 rw[←Bool.not_eq_true,Fe,Em];intro h2;rw[h2 i (List.mem_range.2 hi)]at h;cases h
def Yp {p:Prog} {gen:Int} {l:List Int} (h: ∀i,i<l.length→MS p gen l i=true):Fe p gen l=true:=by
 rw[Fe,Em];exact fun i hi=>h i (List.mem_range.1 hi)
def Yq {p:Prog} {gen:Int} {l:List Int} (h:Fe p gen l=true): ∀i (hi:i+1<l.length),l[i]<l[i+1]:=fun i hi=>by
 rw[Fe,Em]at h;have:=h (i+1) (List.mem_range.2 hi);simp only[MS,BJ,Bool.not_eq_true',Bool.and_eq_false_iff,decide_eq_false_iff_not,Nat.add_sub_cancel,DZ,C7 hi,C7 (show i<l.length by omega),Option.getD_some]at this;omega
def VA {p:Prog} {gen:Int} {l:List Int} (h:Fe p gen l=true): ∀x∈l,BQ p x=true∧(Bh p x).gen=gen:=fun x hx=>by
 rw[Fe,Em]at h;obtain⟨i,hi,rfl⟩:=List.mem_iff_getElem.1 hx;have:=h i (List.mem_range.2 hi);simp only[MS,BJ,DZ,C7 hi,Option.getD_some,D9]at this;exact⟨this.1,this.2.1⟩
def M1 {p:Prog} {gen:Int} {l:List Int} (h:Fe p gen l=true):Fj p l false=true:=by
 have hm:=VA h;rw[Fj,BJ,Em,Cn];refine⟨fun x hx=>?_,?_⟩
 ·have h0:l.getD 0 0∈l:=by
   cases l with
   | nil=>cases hx
   | cons y r=>exact List.mem_cons_self ..
  rw[jb,(hm x hx).1,(hm x hx).2,(hm _ h0).2];simp
 ·have hq: ∀(i d:Nat) (hd:i+d+1<l.length),l[i]<l[i+d+1]:=fun i d=>by
   induction d with
   | zero=>exact fun hd=>Yq h i hd
   | succ d ih=>exact fun hd=>Int.lt_trans (ih (by omega)) (Yq h (i+d+1) hd)
  have hp:List.Pairwise (· < ·) l:=List.pairwise_iff_getElem.2 fun i j hi hj hij=>by
   obtain⟨d,rfl⟩: ∃d,j=i+d+1:=⟨j - i - 1,by omega⟩
   exact hq i d hj
  exact hp.imp fun h e=>by omega
def gb {p:Prog} {gen:Int} {l:List Int} (h:Fe p gen l=true):l.length≤p.methods.length:=by
 have h1:=M1 h;rw[Fj,BJ,Cn]at h1;refine PM p.methods.length l h1.2 fun x hx=>?_
 have:=(VA h x hx).1;simp only[BQ,BJ,Cn]at this;omega
def GY (p:Prog) (gen:Int):Bool:=(Bb p).isSome&&Wr p gen
def xS (x:Pl×Bool):Int:=if x.2 then(if x.1.ar.isEmpty&&(x.1.YP||x.1.pr.isEmpty)then 3 else if x.1.YP||x.1.prt then 2 else 1)else 4
def vH (p:Prog) (l:List Int):Int:=xS (Ep (A1 p) p l)
def KM (p:Prog) (gen:Int) (l:List Int):Int×Int:=if GY p gen then(if Fe p gen l then(if(J0 p gen).length≤8 then(vH p l,0)else(0,3))else(0,2))else(0,2)
def Vx (p:Prog) (gen:Int) (h16:p.methods.length≤16):Pure Tryz.prog 89 [.a (BR p),eI gen] (.l (iL (J0 p gen)) false):=by
 refine Pure.fit (by kernel_rfl) fun hf=>?_
 have F:=HV hf.1;have hM:=Mx;refine wg kZ ?_;have hs:=Sn
 conv=>whnf
 repeat'((first|apply st|(apply sq;intro K U)|(apply si;intro A B Y Z)|(apply Y;clear Z B Y A)|(apply U;clear U K)|fail)<;>conv=>whnf)
 refine CA p.methods.length (fun k v=>[(5,v),(11,eI (BG k))]) (fun k v=>[.own v 1 (iL (dE p gen k))]) (fun _ _=>True) (.l [] true) rfl trivial (EM hs 1) ?_;clear hs;rintro k v σ hk - hs;have hal:=OU p gen k;rcases BI p.methods hk with⟨x,hx,hlt⟩|hke
 ·have hck:BG k=k:=AK (by omega)
  have hxe:=ZE hx;have hst:=VU p gen k;rw[hxe]at hst;generalize dE p gen k=zs at *;have hll:zs.length<Ad∧(zs.length+1)*8≤140737488355328:=by omega
  by_cases hg:x.gen=gen
  ·rw[if_pos (D9.2 hg)]at hst
   conv=>whnf
   repeat'((first|apply st|(apply sq;intro K U)|(apply si;intro A B Y Z)|(apply Y;clear Z B Y A)|(apply U;clear U K)|refine⟨rfl,?_⟩|refine⟨kZ,?_⟩|refine ix ?_|refine ld ?_|refine Cw fun σ hs=>?_|refine aq fun v σ hs hsl=>?_|(refine CU (fun hc=>?_)<;>(try rw[hc])<;>clear hc)|(constructor<;>intro hc<;>(try rw[hc])<;>(replace hc:=bp hc)<;>try(exfalso;omega))|(intro nn hnn;generalize hg:A0 _ nn _=σ;refine CZ hg fun hs=>?_;clear hg)|clear U K)<;>conv=>whnf)
   exact⟨hlt,_,rfl,trivial,by rw[hst,←hck];exact hs.less (Jz _ _)⟩
  ·rw[if_neg (by simpa using hg)]at hst
   conv=>whnf
   repeat'((first|apply st|(apply sq;intro K U)|(apply si;intro A B Y Z)|(apply Y;clear Z B Y A)|(apply U;clear U K)|refine⟨rfl,?_⟩|refine⟨kZ,?_⟩|refine ix ?_|refine ld ?_|refine Cw fun σ hs=>?_|(refine CU (fun hc=>?_)<;>(try rw[hc])<;>clear hc)|(constructor<;>intro hc<;>(try rw[hc])<;>(replace hc:=bp hc)<;>try(exfalso;omega))|(intro nn hnn;generalize hg:A0 _ nn _=σ;refine CZ hg fun hs=>?_;clear hg)|clear U K)<;>conv=>whnf)
   exact⟨hlt,_,rfl,trivial,by rw[hst];exact hs.less (Jz _ _)⟩
 ·rw[hke]at hs
  conv=>whnf
  repeat'((first|apply st|(apply sq;intro K U)|(apply si;intro A B Y Z)|(apply Y;clear Z B Y A)|(apply U;clear U K)|refine⟨rfl,?_⟩|(refine Dl (fun hc=>?_)<;>(try rw[hc])<;>clear hc)|clear U K)<;>conv=>whnf)
  exact Al (hs.GX 0 rfl)
def gF (p:Prog) (gen:Int):Pure Tryz.prog 28 [.a (BR p),eI gen] (eI (if GY p gen then 0 else 2)):=by
 have c1:=po p;have c2:=wX p gen;rw[GY];cases h1:(Bb p).isSome<;>rw[h1]at c1<;>cases h2:Wr p gen<;>rw[h2]at c2
 all_goals
  refine xH kZ ?_;have hs:=Sn
  conv=>whnf
  repeat'((first|apply st|(apply sq;intro K U)|(apply si;intro A B Y Z)|(apply Y;clear Z B Y A)|(apply U;clear U K)|refine⟨kZ,?_⟩|refine HK ?_|refine FP ?_|refine kA ?_|refine Qi ?_|refine Pure.use (by assumption) ?_|clear U K)<;>conv=>whnf)
  all_goals exact AI rfl
def nc (p:Prog) (gen:Int) (h16:p.methods.length≤16):Pure Tryz.prog 64 [.a (BR p),eI gen] (eI (if(J0 p gen).length≤8 then 0 else 3)):=by
 have c1:=Vx p gen h16;have hl:=OU p gen p.methods.length;rw[←J0]at hl;generalize J0 p gen=ms at *;have e1:((iL ms).length:Int)=ms.length:=by simp
 refine wz kZ ?_;have hs:=Sn
 conv=>whnf
 repeat'((first|apply st|(apply sq;intro K U)|(apply si;intro A B Y Z)|(apply Y;clear Z B Y A)|(apply U;clear U K)|refine⟨rfl,?_⟩|refine⟨kZ,?_⟩|(constructor<;>intro hc<;>(try rw[hc])<;>(replace hc:=bp hc)<;>(try simp(disch:=omega) only[A9,wrap64,AK]at hc))|refine Pure.use (by assumption) ?_|clear U K)<;>conv=>whnf)
 ·exact AI (by rw[if_neg (by omega)])
 ·exact AI (by rw[if_pos (by omega)])
set_option maxHeartbeats 2000000 in
def vw (p : Prog) (gen:Int) (l:List Int) (f:Bool):Pure Tryz.prog 63 [.a (BR p),eI gen,.l (iL l) f] (.b (Fe p gen l)):=by
 refine Pure.fit (by kernel_rfl) fun hf=>?_
 have⟨p1,p2,p3,p4⟩:=Er hf.1;have hl:=JF hf.2.2.1;have hM:=Mx;refine w7 kZ ?_;have hs:=Sn
 conv=>whnf
 repeat'((first|apply st|(apply sq;intro K U)|(apply si;intro A B Y Z)|(apply Y;clear Z B Y A)|(apply U;clear U K)|fail)<;>conv=>whnf)
 refine CA l.length (fun i (_:Unit)=>[(11,eI (BG i))]) (fun _ _=>[]) (fun i _=> ∀k,k<i→MS p gen l k=true) () rfl (fun k h=>by omega) hs ?_;clear hs;rintro i - σ hi ho hs;rcases BI l hi with⟨x,hx,hlt⟩|hie
 ·have hci:BG i=i:=AK (by omega)
  have hx0:=By hx;have hbad:=fun h=>VB (p:=p) (gen:=gen) hlt h
  have hgood:MS p gen l i=true→ ∀k,k<i+1→MS p gen l k=true:=fun h k hk=>by
   rcases Nat.lt_or_ge k i with h1|h1
   ·exact ho k h1
   ·rw[show k=i by omega];exact h
  rw[MS,hx0]at hbad hgood;have c1:=hZ p x;cases hmx:BQ p x<;>rw[hmx]at c1 hbad hgood
  ·conv=>whnf
   repeat'((first|apply st|(apply sq;intro K U)|(apply si;intro A B Y Z)|(apply Y;clear Z B Y A)|(apply U;clear U K)|refine⟨rfl,?_⟩|refine⟨kZ,?_⟩|refine ix ?_|refine kA ?_|(refine CU (fun hc=>?_)<;>(try rw[hc])<;>clear hc)|refine c1.use ?_|clear U K)<;>conv=>whnf)
   all_goals exact AI (by rw[hbad rfl])
  have hxP:=B8 hmx;have hxr:=hmx;simp only[BQ,BJ,Cn]at hxr;by_cases hg:(Bh p x).gen=gen
  ·rcases Nat.eq_zero_or_pos i with h0|h0
   ·subst h0
    conv=>whnf
    repeat'((first|apply st|(apply sq;intro K U)|(apply si;intro A B Y Z)|(apply Y;clear Z B Y A)|(apply U;clear U K)|refine⟨rfl,?_⟩|refine⟨kZ,?_⟩|refine ix ?_|refine HI ?_|refine FP ?_|refine Qi ?_|(refine CU (fun hc=>?_)<;>(try rw[hc])<;>clear hc)|refine c1.use ?_|(constructor<;>intro hc<;>(try rw[hc])<;>(replace hc:=bp hc)<;>(try simp(disch:=omega) only[A9,wrap64,AK]at hc)<;>try(exfalso;omega))|clear U K)<;>conv=>whnf)
    all_goals try(exfalso;simp[hg,hci]at hc;done)
    all_goals exact⟨hlt,(),rfl,hgood (by rw[hg];simp),hs⟩
   ·obtain⟨z,hz⟩: ∃z,l[i - 1]? =some z:=⟨_,C7 (by omega)⟩
    have hz0:=By hz;rw[hz0]at hbad hgood;have hwi:IntKind.i64.wrap ((i:Int) - 1)=((i - 1:Nat):Int):=by rw[wrap64 (by omega) (by omega)];omega
    have hw0:0≤IntKind.i64.wrap (BG i - 1):=by rw[hci,hwi];omega
    have hwz:l[(IntKind.i64.wrap (BG i - 1)).toNat]? =some z:=by rw[hci,hwi];simpa using hz
    clear hwi;by_cases hzx:z≥x
    ·conv=>whnf
     repeat'((first|apply st|(apply sq;intro K U)|(apply si;intro A B Y Z)|(apply Y;clear Z B Y A)|(apply U;clear U K)|refine⟨rfl,?_⟩|refine⟨kZ,?_⟩|refine ix ?_|refine HI ?_|refine Qi ?_|(refine CU (fun hc=>?_)<;>(try rw[hc])<;>clear hc)|refine c1.use ?_|(constructor<;>intro hc<;>(try rw[hc])<;>(replace hc:=bp hc)<;>(try simp(disch:=omega) only[A9,wrap64,AK]at hc)<;>try(exfalso;omega))|clear U K)<;>conv=>whnf)
     all_goals try(exfalso;simp[hg,hci]at hc;done)
     all_goals exact AI (by rw[hbad (by simp[hg,h0,hzx])])
    ·conv=>whnf
     repeat'((first|apply st|(apply sq;intro K U)|(apply si;intro A B Y Z)|(apply Y;clear Z B Y A)|(apply U;clear U K)|refine⟨rfl,?_⟩|refine⟨kZ,?_⟩|refine ix ?_|refine HI ?_|refine Qi ?_|(refine CU (fun hc=>?_)<;>(try rw[hc])<;>clear hc)|refine c1.use ?_|(constructor<;>intro hc<;>(try rw[hc])<;>(replace hc:=bp hc)<;>(try simp(disch:=omega) only[A9,wrap64,AK]at hc)<;>try(exfalso;omega))|clear U K)<;>conv=>whnf)
     all_goals try(exfalso;simp[hg,hci]at hc;done)
     all_goals exact⟨hlt,(),rfl,hgood (by simp[hg];omega),hs⟩
  ·conv=>whnf
   repeat'((first|apply st|(apply sq;intro K U)|(apply si;intro A B Y Z)|(apply Y;clear Z B Y A)|(apply U;clear U K)|refine⟨rfl,?_⟩|refine⟨kZ,?_⟩|refine ix ?_|refine HI ?_|refine FP ?_|refine Qi ?_|(refine CU (fun hc=>?_)<;>(try rw[hc])<;>clear hc)|refine c1.use ?_|(constructor<;>intro hc<;>(try rw[hc])<;>(replace hc:=bp hc)<;>(try simp(disch:=omega) only[A9,wrap64,AK]at hc))|clear U K)<;>conv=>whnf)
   all_goals try(exfalso;simp[hg]at hc;done)
   all_goals try exact absurd ‹(bif !true then true else(Bh p x).gen != gen)=false› (by simp[hg])
   all_goals exact AI (by rw[hbad (by simp[hg])])
 ·have hsb:Fe p gen l=true:=Yp fun k hk=>ho k (by omega)
  conv=>whnf
  repeat'((first|apply st|(apply sq;intro K U)|(apply si;intro A B Y Z)|(apply Y;clear Z B Y A)|(apply U;clear U K)|refine⟨rfl,?_⟩|(refine Dl (fun hc=>?_)<;>(try rw[hc])<;>clear hc)|clear U K)<;>conv=>whnf)
  all_goals exact AI (by rw[hsb])
def eR (ar:List Int) (YP:Bool) (be pr:List Int) (prt:Bool) (af:List Int):xS (⟨ar,YP,be,pr,prt,af⟩,true)=if decide (ar.length=0)&&(YP||decide (pr.length=0))then 3 else if YP||prt then 2 else 1:=by
 rw[xS,if_pos rfl];cases ar<;>cases pr<;>simp
set_option maxHeartbeats 4000000 in
def gT (p:Prog) (T:List (List Bool)) (l:List Int) (f:Bool) (hG:Nc p l) (h16:p.methods.length≤16) (hT:Iy T l):Pure Tryz.prog 135 [.a (BR p),oV T,.l (iL l) f] (eI (xS (Ep (Di T) p l))):=by
 have c1:=gj p T l f hG h16 hT;generalize Ep (Di T) p l=x at *;obtain⟨⟨ar,YP,be,pr,prt,af⟩,b⟩:=x;dsimp only at c1;cases b
 ·refine fY kZ ?_
  have hs:=Sn
  conv=>whnf
  repeat'((first|apply st|(apply sq;intro K U)|(apply si;intro A B Y Z)|(apply Y;clear Z B Y A)|(apply U;clear U K)|refine⟨kZ,?_⟩|refine Cw fun σ hs=>?_|refine HK ?_|refine c1.use ?_|(intro nn hnn;generalize hg:A0 _ nn _=σ;refine CZ hg fun hs=>?_;clear hg)|clear U K)<;>conv=>whnf)
  all_goals exact AI rfl
 rw[eR];cases ha:decide (ar.length=0)<;>cases hp:decide (pr.length=0)<;>cases YP<;>cases prt
 all_goals
  first|replace ha:=of_decide_eq_true ha|replace ha:=of_decide_eq_false ha
  first|replace hp:=of_decide_eq_true hp|replace hp:=of_decide_eq_false hp
  refine fY kZ ?_;have hs:=Sn
  conv=>whnf
  repeat'((first|apply st|(apply sq;intro K U)|(apply si;intro A B Y Z)|(apply Y;clear Z B Y A)|(apply U;clear U K)|refine⟨rfl,?_⟩|refine⟨kZ,?_⟩|refine ld ?_|refine Cw fun σ hs=>?_|refine HK ?_|refine FP ?_|refine c1.use ?_|(constructor<;>intro hc<;>(try rw[hc])<;>(replace hc:=bp hc)<;>(try simp(disch:=omega) only[A9,wrap64,AK]at hc)<;>try(exfalso;omega))|(intro nn hnn;generalize hg:A0 _ nn _=σ;refine CZ hg fun hs=>?_;clear hg)|clear U K)<;>conv=>whnf)
  all_goals exact AI rfl
def jP (p:Prog) (l:List Int) (f:Bool) (hok:EN p) (hG:Nc p l):Pure Tryz.prog 65 [.a (BR p),.l (iL l) f] (eI (vH p l)):=by
 refine Pure.of ?_;refine wy kZ ?_;have hs:=Sn
 conv=>whnf
 repeat'((first|apply st|(apply sq;intro K U)|(apply si;intro A B Y Z)|(apply Y;clear Z B Y A)|(apply U;clear U K)|apply dr|refine⟨kZ,?_⟩|fail)<;>conv=>whnf)
 refine(jK p l f hok hG.many hG.I4).use (rest:=_) hs ?_;clear hs;rintro r post σ ⟨rfl,T,rfl,hT,hq⟩ hs;have c1:=gT p T l f hG hok.many hT;rw[WA hG hq,←vH]at c1
 conv=>whnf
 repeat'((first|apply st|(apply Y;clear Z B Y A)|(apply U;clear U K)|apply dr|refine rk ?_ ?_|exact fun s e=>by cases e;rfl|refine⟨kZ,?_⟩|refine c1.use ?_|fail)<;>conv=>whnf)
 all_goals exact AX (by rfl)
def uk (p:Prog) (gen:Int) (l:List Int) (f:Bool):Pure Tryz.prog 16 [.a (BR p),eI gen,.l (iL l) f] (.t [eI (KM p gen l).1,eI (KM p gen l).2]):=by
 have c1:=gF p gen;have c2:=vw p gen l f;rw[KM];cases h1:GY p gen<;>rw[h1]at c1
 ·rw[if_neg (by decide)]at c1 ⊢
  refine Yb kZ ?_;have hs:=Sn
  conv=>whnf
  repeat'((first|apply st|(apply sq;intro K U)|(apply si;intro A B Y Z)|(apply Y;clear Z B Y A)|(apply U;clear U K)|refine⟨rfl,?_⟩|refine⟨kZ,?_⟩|refine c1.use ?_|(constructor<;>intro hc<;>(try rw[hc])<;>(replace hc:=bp hc)<;>try(exfalso;omega))|clear U K)<;>conv=>whnf)
  all_goals exact AI rfl
 rw[if_pos rfl]at c1 ⊢;rw[GY,BJ]at h1;have hok:=look_ok h1.1;have c3:=nc p gen hok.many;cases h2:Fe p gen l<;>rw[h2]at c2
 ·rw[if_neg (by decide)]
  refine Yb kZ ?_;have hs:=Sn
  conv=>whnf
  repeat'((first|apply st|(apply sq;intro K U)|(apply si;intro A B Y Z)|(apply Y;clear Z B Y A)|(apply U;clear U K)|refine⟨rfl,?_⟩|refine⟨kZ,?_⟩|refine HK ?_|refine c1.use ?_|refine c2.use ?_|(constructor<;>intro hc<;>(try rw[hc])<;>(replace hc:=bp hc)<;>(try simp(disch:=omega) only[A9,wrap64,AK]at hc)<;>try(exfalso;omega))|clear U K)<;>conv=>whnf)
  all_goals exact AI rfl
 have c4:=jP p l f hok (ZH hok (M1 h2));clear h1 hok h2;rw[if_pos rfl];by_cases h3:(J0 p gen).length≤8
 ·rw[if_pos h3]at c3 ⊢
  refine Yb kZ ?_;have hs:=Sn
  conv=>whnf
  repeat'((first|apply st|(apply sq;intro K U)|(apply si;intro A B Y Z)|(apply Y;clear Z B Y A)|(apply U;clear U K)|refine⟨rfl,?_⟩|refine⟨kZ,?_⟩|refine FP ?_|refine c1.use ?_|refine c2.use ?_|refine c3.use ?_|refine c4.use ?_|(constructor<;>intro hc<;>(try rw[hc])<;>(replace hc:=bp hc)<;>(try simp(disch:=omega) only[A9,wrap64,AK]at hc)<;>try(exfalso;omega))|fail)<;>conv=>whnf)
  all_goals exact AI rfl
 ·rw[if_neg h3]at c3 ⊢
  refine Yb kZ ?_;have hs:=Sn
  conv=>whnf
  repeat'((first|apply st|(apply sq;intro K U)|(apply si;intro A B Y Z)|(apply Y;clear Z B Y A)|(apply U;clear U K)|refine⟨rfl,?_⟩|refine⟨kZ,?_⟩|refine FP ?_|refine c1.use ?_|refine c2.use ?_|refine c3.use ?_|(constructor<;>intro hc<;>(try rw[hc])<;>(replace hc:=bp hc)<;>(try simp(disch:=omega) only[A9,wrap64,AK]at hc)<;>try(exfalso;omega))|clear U K)<;>conv=>whnf)
  all_goals exact AI rfl
abbrev dL (p:Prog) (gen:Int):List V:=BR p++[eI gen,.l (iL (J0 p gen)) false]
abbrev vN:List V:=[.l [] true,eI 0,.l [] true,.l [] true,.l [] true,eI 0,eI 0,.l [] true]
def xM (p:Prog) (gen:Int):Pure Tryz.prog 131 [.a (BR p),eI gen] (.t [.a (if GY p gen then dL p gen else vN),.b (GY p gen)]):=by
 refine Pure.fit (by kernel_rfl) fun hf=>?_
 have F:=HV hf.1;have⟨p1,p2,p3,p4⟩:=Er hf.1;have hM:=Mx;have c1:=Vz p;rw[GY];cases h1:(Bb p).isSome<;>rw[h1]at c1
 ·rw[if_neg (by decide)]at c1
  refine XJ kZ ?_;have hs:=Sn
  conv=>whnf
  repeat'((first|apply st|(apply sq;intro K U)|(apply si;intro A B Y Z)|(apply Y;clear Z B Y A)|(apply U;clear U K)|refine⟨rfl,?_⟩|refine⟨kZ,?_⟩|refine ld ?_|refine Cw fun σ hs=>?_|refine c1.use ?_|(constructor<;>intro hc<;>(try rw[hc])<;>(replace hc:=bp hc)<;>try(exfalso;omega))|(intro nn hnn;generalize hg:A0 _ nn _=σ;refine CZ hg fun hs=>?_;clear hg)|clear U K)<;>conv=>whnf)
  all_goals exact AI rfl
 rw[if_pos rfl]at c1;have h16:=(look_ok h1).many;cases h2:Wr p gen
 ·simp only[Wr,Bool.and_eq_false_iff,decide_eq_false_iff_not]at h2
  refine XJ kZ ?_;have hs:=Sn
  conv=>whnf
  repeat'((first|apply st|(apply sq;intro K U)|(apply si;intro A B Y Z)|(apply Y;clear Z B Y A)|(apply U;clear U K)|refine⟨rfl,?_⟩|refine⟨kZ,?_⟩|refine ld ?_|refine Cw fun σ hs=>?_|refine c1.use ?_|(constructor<;>intro hc<;>(try rw[hc])<;>(replace hc:=bp hc)<;>(try simp(disch:=omega) only[A9,wrap64,AK]at hc)<;>try(exfalso;omega))|(intro nn hnn;generalize hg:A0 _ nn _=σ;refine CZ hg fun hs=>?_;clear hg)|clear U K)<;>conv=>whnf)
  all_goals first
   | exact AI rfl
   | (exfalso;simp at *;omega)
 have h2r:=h2;simp only[Wr,BJ,Cn]at h2r;refine XJ kZ ?_;have hs:=Sn
 conv=>whnf
 repeat'((first|apply st|(apply sq;intro K U)|(apply si;intro A B Y Z)|(apply Y;clear Z B Y A)|(apply U;clear U K)|refine⟨rfl,?_⟩|refine⟨kZ,?_⟩|refine Cw fun σ hs=>?_|refine c1.use ?_|(constructor<;>intro hc<;>(try rw[hc])<;>(replace hc:=bp hc)<;>(try simp(disch:=omega) only[A9,wrap64,AK]at hc)<;>try(exfalso;omega))|(intro nn hnn;generalize hg:A0 _ nn _=σ;refine CZ hg fun hs=>?_;clear hg)|fail)<;>conv=>whnf)
 rename_i n4 _ _ _ _ _ _ _;refine CA p.methods.length (fun k (_:V)=>[(30,eI (BG k))]) (fun k v=>[.box nn (BR p++[eI gen,v]),.box n4 vN,.own v 1 (iL (dE p gen k))]) (fun _ _=>True) (.l [] true) rfl trivial (EM hs 1) ?_;clear hs;rintro k v σ hk - hs;have hal:=OU p gen k;rcases BI p.methods hk with⟨x,hx,hlt⟩|hke
 ·have hck:BG k=k:=AK (by omega)
  have hxe:=ZE hx;have hst:=VU p gen k;rw[hxe]at hst;generalize dE p gen k=zs at *;have hll:zs.length<Ad∧(zs.length+1)*8≤140737488355328:=by omega
  by_cases hg:x.gen=gen
  ·rw[if_pos (D9.2 hg)]at hst
   conv=>whnf
   repeat'((first|apply st|(apply sq;intro K U)|(apply si;intro A B Y Z)|(apply Y;clear Z B Y A)|(apply U;clear U K)|refine⟨rfl,?_⟩|refine⟨kZ,?_⟩|refine ix ?_|refine ld ?_|refine GV fun σ hs=>?_|refine Cw fun σ hs=>?_|refine aq fun v σ hs hsl=>?_|(refine CU (fun hc=>?_)<;>(try rw[hc])<;>clear hc)|(constructor<;>intro hc<;>(try rw[hc])<;>(replace hc:=bp hc)<;>try(exfalso;omega))|(intro nn hnn;generalize hg:A0 _ nn _=σ;refine CZ hg fun hs=>?_;clear hg)|clear U K)<;>conv=>whnf)
   exact⟨hlt,_,rfl,trivial,by rw[hst,←hck];exact hs.less (Jz _ _)⟩
  ·rw[if_neg (by simpa using hg)]at hst
   conv=>whnf
   repeat'((first|apply st|(apply sq;intro K U)|(apply si;intro A B Y Z)|(apply Y;clear Z B Y A)|(apply U;clear U K)|refine⟨rfl,?_⟩|refine⟨kZ,?_⟩|refine ix ?_|refine ld ?_|refine Cw fun σ hs=>?_|(refine CU (fun hc=>?_)<;>(try rw[hc])<;>clear hc)|(constructor<;>intro hc<;>(try rw[hc])<;>(replace hc:=bp hc)<;>try(exfalso;omega))|(intro nn hnn;generalize hg:A0 _ nn _=σ;refine CZ hg fun hs=>?_;clear hg)|clear U K)<;>conv=>whnf)
   exact⟨hlt,_,rfl,trivial,by rw[hst];exact hs.less (Jz _ _)⟩
 ·rw[hke]at hs
  conv=>whnf
  repeat'((first|apply st|(apply sq;intro K U)|(apply si;intro A B Y Z)|(apply Y;clear Z B Y A)|(apply U;clear U K)|refine⟨rfl,?_⟩|refine⟨kZ,?_⟩|refine ld ?_|(refine Dl (fun hc=>?_)<;>(try rw[hc])<;>clear hc)|clear U K)<;>conv=>whnf)
  have o1:=Gw hs 2 rfl;refine G1 hs 1 rfl rfl rfl (by simp[BR,o1]) (by decide) fun σ hs=>?_
  clear o1
  conv=>whnf
  repeat'((first|apply st|(apply Y;clear Z B Y A)|(apply U;clear U K)|refine⟨kZ,?_⟩|refine ld ?_|fail)<;>conv=>whnf)
  exact Al (.t (.cons (.a (.cons (.refl _) (.cons (.refl _) (.cons (.refl _) (.cons (.refl _) (.cons (.refl _) (.cons (.refl _) (.cons (.refl _) (.cons (hs.GX 2 rfl) .nil))))))))) (.cons (.refl _) .nil)))
def wN (p:Prog) (gen:Int):Pure Tryz.prog 132 [.a (dL p gen)] (eI (if(J0 p gen).length≤8 then 0 else 3)):=by
 have e1:((iL (J0 p gen)).length:Int)=(J0 p gen).length:=by simp
 refine uM kZ ?_;have hs:=Sn
 conv=>whnf
 repeat'((first|apply st|(apply sq;intro K U)|(apply si;intro A B Y Z)|(apply Y;clear Z B Y A)|(apply U;clear U K)|refine⟨rfl,?_⟩|(constructor<;>intro hc<;>(try rw[hc])<;>(replace hc:=bp hc)<;>(try simp(disch:=omega) only[A9,wrap64,AK]at hc))|clear U K)<;>conv=>whnf)
 ·exact AI (by rw[if_neg (by omega)])
 ·exact AI (by rw[if_pos (by omega)])
set_option maxHeartbeats 2000000 in
def vV (p : Prog) (gen:Int) (l:List Int) (f:Bool):Pure Tryz.prog 61 [.a (dL p gen),.l (iL l) f] (.b (Fe p gen l)):=by
 refine Pure.fit (by kernel_rfl) fun hf=>?_
 have hl:=JF hf.2.1;have hM:=Mx;refine w8 kZ ?_;have hs:=Sn
 conv=>whnf
 repeat'((first|apply st|(apply sq;intro K U)|(apply si;intro A B Y Z)|(apply Y;clear Z B Y A)|(apply U;clear U K)|fail)<;>conv=>whnf)
 refine CA l.length (fun i (_:Unit)=>[(9,eI (BG i))]) (fun _ _=>[]) (fun i _=> ∀k,k<i→MS p gen l k=true) () rfl (fun k h=>by omega) hs ?_;clear hs;rintro i - σ hi ho hs;rcases BI l hi with⟨x,hx,hlt⟩|hie
 ·have hci:BG i=i:=AK (by omega)
  have hx0:=By hx;have hbad:=fun h=>VB (p:=p) (gen:=gen) hlt h
  have hgood:MS p gen l i=true→ ∀k,k<i+1→MS p gen l k=true:=fun h k hk=>by
   rcases Nat.lt_or_ge k i with h1|h1
   ·exact ho k h1
   ·rw[show k=i by omega];exact h
  rw[MS,hx0,←Bool.and_assoc,←ZS]at hbad hgood;have c1:=C1 (J0 p gen) false x;cases hmx:(J0 p gen).contains x<;>rw[hmx]at c1 hbad hgood
  ·conv=>whnf
   repeat'((first|apply st|(apply sq;intro K U)|(apply si;intro A B Y Z)|(apply Y;clear Z B Y A)|(apply U;clear U K)|refine⟨rfl,?_⟩|refine ix ?_|refine kA ?_|(refine CU (fun hc=>?_)<;>(try rw[hc])<;>clear hc)|refine c1.use ?_|clear U K)<;>conv=>whnf)
   all_goals exact AI (by rw[hbad rfl])
  ·rcases Nat.eq_zero_or_pos i with h0|h0
   ·subst h0
    conv=>whnf
    repeat'((first|apply st|(apply sq;intro K U)|(apply si;intro A B Y Z)|(apply Y;clear Z B Y A)|(apply U;clear U K)|refine⟨rfl,?_⟩|refine ix ?_|refine FP ?_|refine Qi ?_|(refine CU (fun hc=>?_)<;>(try rw[hc])<;>clear hc)|refine c1.use ?_|(constructor<;>intro hc<;>(try rw[hc])<;>(replace hc:=bp hc)<;>(try simp(disch:=omega) only[A9,wrap64,AK]at hc)<;>try(exfalso;omega))|clear U K)<;>conv=>whnf)
    all_goals try(exfalso;simp[hci]at hc;done)
    all_goals exact⟨hlt,(),rfl,hgood (by simp),hs⟩
   ·obtain⟨z,hz⟩: ∃z,l[i - 1]? =some z:=⟨_,C7 (by omega)⟩
    have hz0:=By hz;rw[hz0]at hbad hgood;have hwi:IntKind.i64.wrap ((i:Int) - 1)=((i - 1:Nat):Int):=by rw[wrap64 (by omega) (by omega)];omega
    have hw0:0≤IntKind.i64.wrap (BG i - 1):=by rw[hci,hwi];omega
    have hwz:l[(IntKind.i64.wrap (BG i - 1)).toNat]? =some z:=by rw[hci,hwi];simpa using hz
    clear hwi;by_cases hzx:z≥x
    ·conv=>whnf
     repeat'((first|apply st|(apply sq;intro K U)|(apply si;intro A B Y Z)|(apply Y;clear Z B Y A)|(apply U;clear U K)|refine⟨rfl,?_⟩|refine ix ?_|refine HI ?_|refine Qi ?_|(refine CU (fun hc=>?_)<;>(try rw[hc])<;>clear hc)|refine c1.use ?_|(constructor<;>intro hc<;>(try rw[hc])<;>(replace hc:=bp hc)<;>(try simp(disch:=omega) only[A9,wrap64,AK]at hc)<;>try(exfalso;omega))|clear U K)<;>conv=>whnf)
     all_goals try(exfalso;simp at hc;omega)
     all_goals exact AI (by rw[hbad (by simp[h0,hzx])])
    ·conv=>whnf
     repeat'((first|apply st|(apply sq;intro K U)|(apply si;intro A B Y Z)|(apply Y;clear Z B Y A)|(apply U;clear U K)|refine⟨rfl,?_⟩|refine ix ?_|refine HI ?_|refine Qi ?_|(refine CU (fun hc=>?_)<;>(try rw[hc])<;>clear hc)|refine c1.use ?_|(constructor<;>intro hc<;>(try rw[hc])<;>(replace hc:=bp hc)<;>(try simp(disch:=omega) only[A9,wrap64,AK]at hc)<;>try(exfalso;omega))|clear U K)<;>conv=>whnf)
     all_goals try(exfalso;simp at hc;omega)
     all_goals exact⟨hlt,(),rfl,hgood (by simp;omega),hs⟩
 ·have hsb:Fe p gen l=true:=Yp fun k hk=>ho k (by omega)
  conv=>whnf
  repeat'((first|apply st|(apply sq;intro K U)|(apply si;intro A B Y Z)|(apply Y;clear Z B Y A)|(apply U;clear U K)|refine⟨rfl,?_⟩|(refine Dl (fun hc=>?_)<;>(try rw[hc])<;>clear hc)|clear U K)<;>conv=>whnf)
  all_goals exact AI (by rw[hsb])
def eG (a b c:Bool):Pure Tryz.prog 134 [.b a,.b b,.b c] (eI (if a then 4 else if b then 3 else if c then 2 else 1)):=by
 cases a<;>cases b<;>cases c
 all_goals
  refine uK kZ ?_;have hs:=Sn
  conv=>whnf
  repeat'((first|apply st|(apply sq;intro K U)|(apply si;intro A B Y Z)|(apply Y;clear Z B Y A)|(apply U;clear U K)|refine⟨rfl,?_⟩|clear U K)<;>conv=>whnf)
  all_goals exact AI rfl
def yH (l:List Int):(((iL l).length:Int)==0)=decide (l.length=0):=by
 rw[A9,JU,D9,Cn];omega
set_option maxHeartbeats 4000000 in
def pR (p:Prog) (gen:Int) (l:List Int) (f:Bool) (h:GY p gen=true) (Z:Fe p gen l=true):Pure Tryz.prog 62 [.a (dL p gen),.l (iL l) f] (eI (vH p l)):=by
 rw[GY,BJ]at h;have hok:=look_ok h.1;have c1:=uo p l f (Nat.le_trans (gb Z) (Nat.le_trans hok.many (by decide)));rw[S0,h.1,M1 Z,Bool.and_self,if_pos rfl]at c1;rw[vH];clear h hok Z;generalize Ep (A1 p) p l=x at *;obtain⟨⟨ar,YP,be,pr,prt,af⟩,b⟩:=x;cases b
 ·rw[show dn (⟨ar,YP,be,pr,prt,af⟩,false)=(uy,5) from rfl]at c1
  refine oD kZ ?_;have hs:=Sn
  conv=>whnf
  repeat'((first|apply st|(apply sq;intro K U)|(apply si;intro A B Y Z)|(apply Y;clear Z B Y A)|(apply U;clear U K)|refine⟨rfl,?_⟩|refine⟨kZ,?_⟩|refine Cw fun σ hs=>?_|refine c1.use ?_|refine Pure.use (eG _ _ _) ?_|(constructor<;>intro hc<;>(try rw[hc])<;>(replace hc:=bp hc)<;>(try simp(disch:=omega) only[A9,wrap64,AK]at hc)<;>try(exfalso;omega))|(intro nn hnn;generalize hg:A0 _ nn _=σ;refine CZ hg fun hs=>?_;clear hg)|clear U K)<;>conv=>whnf)
  all_goals exact AI rfl
 rw[show dn (⟨ar,YP,be,pr,prt,af⟩,true)=(⟨ar,YP,be,pr,prt,af⟩,0) from rfl]at c1;rw[eR];cases ha:decide (ar.length=0)<;>cases hp:decide (pr.length=0)<;>cases YP<;>cases prt
 all_goals
  first|replace ha:=of_decide_eq_true ha|replace ha:=of_decide_eq_false ha
  first|replace hp:=of_decide_eq_true hp|replace hp:=of_decide_eq_false hp
  refine oD kZ ?_;have hs:=Sn
  conv=>whnf
  repeat'((first|apply st|(apply sq;intro K U)|(apply si;intro A B Y Z)|(apply Y;clear Z B Y A)|(apply U;clear U K)|refine⟨rfl,?_⟩|refine⟨kZ,?_⟩|refine ld ?_|refine Cw fun σ hs=>?_|refine c1.use ?_|refine Pure.use (eG _ _ _) ?_|(constructor<;>intro hc<;>(try rw[hc])<;>(replace hc:=bp hc)<;>(try simp(disch:=omega) only[A9,wrap64,AK]at hc)<;>try(exfalso;omega))|(intro nn hnn;generalize hg:A0 _ nn _=σ;refine CZ hg fun hs=>?_;clear hg)|fail)<;>conv=>whnf)
  all_goals first|exact AI rfl|exact AI (by simp only[yH];simp[ha,hp])
def Wx (p:Prog) (gen:Int) (b:Bool):Int:=if GY p gen then(if b then(if(J0 p gen).length≤8 then 0 else 3)else 2)else 2
abbrev Ww (p:Prog) (gen:Int) (b:Bool):List V:=if GY p gen&&b then dL p gen else vN
def RH {p:Prog} {gen:Int} (h:GY p gen=false) (b:Bool):Ww p gen b=vN∧Wx p gen b=2:=by rw[Ww,Wx,h];exact⟨rfl,rfl⟩
def RG {p:Prog} {gen:Int}:Ww p gen false=vN∧Wx p gen false=2:=by
 rw[Ww,Wx,Bool.and_false];exact⟨rfl,by split<;>rfl⟩
def RF {p:Prog} {gen:Int} (h:GY p gen=true):Ww p gen true=dL p gen∧Wx p gen true=if(J0 p gen).length≤8 then 0 else 3:=by rw[Ww,Wx,h];exact⟨rfl,rfl⟩
def fh (p:Prog) (gen:Int) (k:Nat) (ca:List V) (b:Bool) (c2:GY p gen=true→Pure Tryz.prog k (.a (dL p gen)::ca) (.b b)):Pure Tryz.prog 59 [.a (BR p),eI gen,.f (.func k) [] ca] (.t [.a (Ww p gen b),eI (Wx p gen b)]):=by
 have c1:=xM p gen;have c3:=wN p gen;cases h1:GY p gen<;>rw[h1]at c1
 ·rw[(RH h1 b).1,(RH h1 b).2]
  rw[if_neg (by decide)]at c1;refine dz kZ ?_;have hs:=Sn
  conv=>whnf
  repeat'((first|apply st|(apply sq;intro K U)|(apply si;intro A B Y Z)|(apply Y;clear Z B Y A)|(apply U;clear U K)|refine⟨kZ,?_⟩|refine ld ?_|refine Cw fun σ hs=>?_|refine kA ?_|refine c1.use ?_|(intro nn hnn;generalize hg:A0 _ nn _=σ;refine CZ hg fun hs=>?_;clear hg)|clear U K)<;>conv=>whnf)
  all_goals exact AI rfl
 replace c2:=c2 h1;rw[if_pos rfl]at c1;cases b
 ·rw[RG.1,RG.2]
  refine dz kZ ?_;have hs:=Sn
  conv=>whnf
  repeat'((first|apply st|(apply sq;intro K U)|(apply si;intro A B Y Z)|(apply Y;clear Z B Y A)|(apply U;clear U K)|refine⟨kZ,?_⟩|refine ld ?_|refine Cw fun σ hs=>?_|refine HK ?_|refine Qi ?_|refine c1.use ?_|refine B2 (c2.use ?_)|(intro nn hnn;generalize hg:A0 _ nn _=σ;refine CZ hg fun hs=>?_;clear hg)|clear U K)<;>conv=>whnf)
  all_goals exact AI rfl
 ·rw[(RF h1).1,(RF h1).2]
  refine dz kZ ?_;have hs:=Sn
  conv=>whnf
  repeat'((first|apply st|(apply sq;intro K U)|(apply si;intro A B Y Z)|(apply Y;clear Z B Y A)|(apply U;clear U K)|apply dr|refine rk ?_ ?_|exact fun s e=>by cases e;rfl|refine⟨kZ,?_⟩|refine ld ?_|refine Cw fun σ hs=>?_|refine FP ?_|refine Qi ?_|refine c1.use ?_|refine B2 (c2.use ?_)|refine c3.use ?_|(intro nn hnn;generalize hg:A0 _ nn _=σ;refine CZ hg fun hs=>?_;clear hg)|fail)<;>conv=>whnf)
  all_goals exact AI rfl
def cU (p:Prog) (gen:Int) (l:List Int) (f:Bool):Pure Tryz.prog 60 [.a (dL p gen),.rp [.l (iL l) f]] (.b (Fe p gen l)):=by
 have c1:=vV p gen l f;refine w9 kZ ?_;have hs:=Sn
 conv=>whnf
 repeat'((first|apply st|(apply sq;intro K U)|(apply si;intro A B Y Z)|(apply Y;clear Z B Y A)|(apply U;clear U K)|refine⟨kZ,?_⟩|refine c1.use ?_|fail)<;>conv=>whnf)
 all_goals exact AI rfl
def uj (p:Prog) (gen:Int) (l:List Int) (f:Bool):Pure Tryz.prog 15 [.a (BR p),eI gen,.l (iL l) f] (.t [eI (KM p gen l).1,eI (KM p gen l).2]):=by
 have c1:=fh p gen 60 [.rp [.l (iL l) f]] (Fe p gen l) fun _=>cU p gen l f
 rw[KM];cases h1:GY p gen
 ·rw[(RH h1 _).1,(RH h1 _).2]at c1
  rw[if_neg (by decide)];refine Yc kZ ?_;have hs:=Sn
  conv=>whnf
  repeat'((first|apply st|(apply sq;intro K U)|(apply si;intro A B Y Z)|(apply Y;clear Z B Y A)|(apply U;clear U K)|refine⟨rfl,?_⟩|refine⟨kZ,?_⟩|refine Cw fun σ hs=>?_|refine c1.use ?_|(constructor<;>intro hc<;>(try rw[hc])<;>(replace hc:=bp hc)<;>try(exfalso;omega))|(intro nn hnn;generalize hg:A0 _ nn _=σ;refine CZ hg fun hs=>?_;clear hg)|clear U K)<;>conv=>whnf)
  all_goals exact AI rfl
 rw[if_pos rfl];cases h2:Fe p gen l<;>rw[h2]at c1
 ·rw[RG.1,RG.2]at c1
  rw[if_neg (by decide)];refine Yc kZ ?_;have hs:=Sn
  conv=>whnf
  repeat'((first|apply st|(apply sq;intro K U)|(apply si;intro A B Y Z)|(apply Y;clear Z B Y A)|(apply U;clear U K)|refine⟨rfl,?_⟩|refine⟨kZ,?_⟩|refine Cw fun σ hs=>?_|refine c1.use ?_|(constructor<;>intro hc<;>(try rw[hc])<;>(replace hc:=bp hc)<;>try(exfalso;omega))|(intro nn hnn;generalize hg:A0 _ nn _=σ;refine CZ hg fun hs=>?_;clear hg)|clear U K)<;>conv=>whnf)
  all_goals exact AI rfl
 rw[(RF h1).1,(RF h1).2]at c1;rw[if_pos rfl];have c2:=pR p gen l f h1 h2;by_cases h3:(J0 p gen).length≤8
 ·rw[if_pos h3]at c1 ⊢
  refine Yc kZ ?_;have hs:=Sn
  conv=>whnf
  repeat'((first|apply st|(apply sq;intro K U)|(apply si;intro A B Y Z)|(apply Y;clear Z B Y A)|(apply U;clear U K)|refine⟨rfl,?_⟩|refine⟨kZ,?_⟩|refine ld ?_|refine Cw fun σ hs=>?_|refine c1.use ?_|refine c2.use ?_|(constructor<;>intro hc<;>(try rw[hc])<;>(replace hc:=bp hc)<;>(try simp(disch:=omega) only[A9,wrap64,AK]at hc)<;>try(exfalso;omega))|(intro nn hnn;generalize hg:A0 _ nn _=σ;refine CZ hg fun hs=>?_;clear hg)|fail)<;>conv=>whnf)
  all_goals exact AI rfl
 ·rw[if_neg h3]at c1 ⊢
  refine Yc kZ ?_;have hs:=Sn
  conv=>whnf
  repeat'((first|apply st|(apply sq;intro K U)|(apply si;intro A B Y Z)|(apply Y;clear Z B Y A)|(apply U;clear U K)|refine⟨rfl,?_⟩|refine⟨kZ,?_⟩|refine Cw fun σ hs=>?_|refine c1.use ?_|(constructor<;>intro hc<;>(try rw[hc])<;>(replace hc:=bp hc)<;>try(exfalso;omega))|(intro nn hnn;generalize hg:A0 _ nn _=σ;refine CZ hg fun hs=>?_;clear hg)|clear U K)<;>conv=>whnf)
  all_goals exact AI rfl
def Xx (g:vE) (c3:Pure Tryz.prog 17 [] (.b true)):Pure Tryz.prog 3 [.a (Qg g)] (.b true):=by
 have c1:=uj g.p g.gen g.ms false;have c2:=uk g.p g.gen g.ms false;generalize KM g.p g.gen g.ms=x at *;obtain⟨s,e⟩:=x;dsimp only at c1 c2;refine ctr3 kZ ?_;have hs:=Sn
 conv=>whnf
 repeat'((first|apply st|(apply sq;intro K U)|(apply si;intro A B Y Z)|(apply Y;clear Z B Y A)|(apply U;clear U K)|refine⟨rfl,?_⟩|refine⟨kZ,?_⟩|refine c1.use ?_|refine c2.use ?_|refine c3.use ?_|(constructor<;>intro hc<;>(try rw[hc])<;>(replace hc:=bp hc)<;>(try simp(disch:=omega) only[A9,wrap64,AK]at hc)<;>try(exfalso;omega))|fail)<;>conv=>whnf)
 all_goals first
  | exact AI rfl
  | (exfalso;simp at hc;done)
end Go.Gl
namespace Go.Gl
variable {P:Program} {Λ:Nat→Prop} {σ:AH} {pu:List FuncId} {fz:List Nat}
end Go.Gl
namespace Go.Gl
def F2 {α β:Type} (R:α→β→Prop):List α→List β→Prop
 | [],l=>l= []
 | x::xs,l=> ∃y ys,R x y∧F2 R xs ys∧l=y::ys
section
variable {α β:Type} {R R':α→β→Prop}
def F2.nil:F2 R [] []:=rfl
def F2.cons {x:α} {y:β} {xs:List α} {ys:List β} (h:R x y) (h':F2 R xs ys):F2 R (x::xs) (y::ys):=⟨y,ys,h,h',rfl⟩
def F2.len: ∀ {xs:List α} {ys:List β},F2 R xs ys→ys.length=xs.length
 | [],_,h=>by cases h;rfl
 | _::_,_,⟨_,_,_,h,e⟩=>by subst e;simp[F2.len h]
def F2.get: ∀ {xs:List α} {ys:List β},F2 R xs ys→ ∀ {i:Nat} {x:α},xs[i]? =some x→ ∃y,ys[i]? =some y∧R x y
 | x::xs,_,⟨y,ys,h1,h2,e⟩,i,z,hi=>by
   subst e;cases i with
   | zero=>simp at hi;subst hi;exact⟨y,by simp,h1⟩
   | succ i=>simp at hi;simpa using F2.get h2 hi
def F2.mono (hm: ∀x y,R x y→R' x y): ∀ {xs:List α} {ys:List β},F2 R xs ys→F2 R' xs ys
 | [],_,h=>h
 | _::_,_,⟨y,ys,h1,h2,e⟩=>⟨y,ys,hm _ _ h1,F2.mono hm h2,e⟩
def F2.app: ∀ {xs xs':List α} {ys ys':List β},F2 R xs ys→F2 R xs' ys'→F2 R (xs++xs') (ys++ys')
 | [],_,_,_,h,h'=>by cases h;exact h'
 | _::_,_,_,_,⟨y,ys,h1,h2,e⟩,h'=>by subst e;exact⟨y,ys++_,h1,F2.app h2 h',rfl⟩
def F2.take: ∀ {xs:List α} {ys:List β},F2 R xs ys→ ∀n,F2 R (xs.take n) (ys.take n)
 | [],_,h,n=>by cases h;simp;rfl
 | _::_,_,⟨y,ys,h1,h2,e⟩,n=>by
   subst e;cases n with
   | zero=>exact rfl
   | succ n=>exact⟨y,_,h1,F2.take h2 n,rfl⟩
def F2.drop: ∀ {xs:List α} {ys:List β},F2 R xs ys→ ∀n,F2 R (xs.drop n) (ys.drop n)
 | [],_,h,n=>by cases h;simp;rfl
 | _::_,_,⟨y,ys,h1,h2,e⟩,n=>by
   subst e;cases n with
   | zero=>exact⟨y,ys,h1,h2,rfl⟩
   | succ n=>exact F2.drop h2 n
def F2.set: ∀ {xs:List α} {ys:List β},F2 R xs ys→ ∀(i:Nat) {x:α} {y:β},R x y→F2 R (xs.set i x) (ys.set i y)
 | [],_,h,i,_,_,_=>by cases h;simp;rfl
 | _::_,_,⟨y,ys,h1,h2,e⟩,i,_,_,h=>by
   subst e;cases i with
   | zero=>exact⟨_,_,h,h2,rfl⟩
   | succ i=>exact⟨_,_,h1,F2.set h2 i h,rfl⟩
def F2.rep {x:α} {y:β} (h:R x y): ∀n,F2 R (List.replicate n x) (List.replicate n y)
 | 0=>rfl
 | n+1=>⟨y,_,h,F2.rep h n,rfl⟩
def F2.mem: ∀ {xs:List α} {ys:List β},F2 R xs ys→ ∀ {y:β},y∈ys→ ∃x,x∈xs∧R x y
 | [],_,h,y,hy=>by cases h;cases hy
 | x ::_,_,⟨z,zs,h1,h2,e⟩,y,hy=>by
   subst e;rcases F6.1 hy with rfl|hy
   ·exact⟨x,.head _,h1⟩
   ·obtain⟨u,hu,hr⟩:=F2.mem h2 hy
    exact⟨u,.tail _ hu,hr⟩
def F2.fn (hf: ∀x y z,R x y→R x z→y=z): ∀ {xs:List α} {ys zs:List β},F2 R xs ys→F2 R xs zs→ys=zs
 | [],_,_,h,h'=>by cases h;cases h';rfl
 | _::_,_,_,⟨y,ys,h1,h2,e⟩,⟨z,zs,h3,h4,e'⟩=>by
   subst e;subst e';rw[hf _ _ _ h1 h3,F2.fn hf h2 h4]
end
abbrev Ren:=Nat→Option (Nat×Nat)
def Ren.le (ρ ρ':Ren):Prop:= ∀i m,ρ i=some m→ρ' i=some m
def Ren.le.refl (ρ:Ren):ρ.le ρ:=fun _ _ h=>h
def Ren.le.trans {a b c:Ren} (h:a.le b) (k:b.le c):a.le c:=fun i m e=>k i m (h i m e)
def Z9 (ρ:Ren):Fn→Fn→Prop
 | .yield i,f=> ∃m,ρ i=some m∧f= .yield m.1
 | fn,f=>f=fn
mutual
def RV (ρ:Ren):V→V→Prop
 | .p n off,v=> ∃m,ρ n=some m∧v= .p m.1 off
 | .sl n len _,v=> ∃m,ρ n=some m∧v= .sl m.1 len m.2
 | .sv n sz off len,v=> ∃m,ρ n=some m∧v= .sv m.1 sz off len
 | .pe n sz i off,v=> ∃m,ρ n=some m∧v= .pe m.1 sz i off
 | .m n,v=> ∃m,ρ n=some m∧v= .m m.1
 | .rp cs,v=> ∃cs',RL ρ cs cs'∧v= .rp cs'
 | .l es f,v=> ∃es',RR ρ es es'∧v= .l es' f
 | .f fn first cap,v=> ∃fn' first' cap',Z9 ρ fn fn'∧RL ρ first first'∧RL ρ cap cap'∧v= .f fn' first' cap'
 | .E2 t x,v=> ∃x',RV ρ x x'∧v= .E2 t x'
 | .a cs,v=> ∃cs',RL ρ cs cs'∧v= .a cs'
 | .t cs,v=> ∃cs',RL ρ cs cs'∧v= .t cs'
 | .b x,v=>v= .b x
 | .i k n,v=>v= .i k n
 | .s x,v=>v= .s x
 | .pn,v=>v= .pn
 | .mn,v=>v= .mn
 | .K8,v=>v= .K8
 | .Dm,v=>v= .Dm
 | .any,v=>v= .any
def RL (ρ:Ren):List V→List V→Prop
 | [],l=>l= []
 | x::xs,l=> ∃y ys,RV ρ x y∧RL ρ xs ys∧l=y::ys
def RR (ρ:Ren):List (List V)→List (List V)→Prop
 | [],l=>l= []
 | x::xs,l=> ∃y ys,RL ρ x y∧RR ρ xs ys∧l=y::ys
end
def Bf {ρ:Ren}: ∀ {xs ys:List V},RL ρ xs ys↔F2 (RV ρ) xs ys
 | [],_=>by simp only[RL,F2]
 | x::xs,l=>by
   simp only[RL,F2];constructor
   ·rintro⟨y,ys,h1,h2,rfl⟩;exact⟨y,ys,h1,Bf.1 h2,rfl⟩
   ·rintro⟨y,ys,h1,h2,rfl⟩;exact⟨y,ys,h1,Bf.2 h2,rfl⟩
def FZ {ρ:Ren}: ∀ {xs ys:List (List V)},RR ρ xs ys↔F2 (F2 (RV ρ)) xs ys
 | [],_=>by simp only[RR,F2]
 | x::xs,l=>by
   simp only[RR,F2];constructor
   ·rintro⟨y,ys,h1,h2,rfl⟩;exact⟨y,ys,Bf.1 h1,FZ.1 h2,rfl⟩
   ·rintro⟨y,ys,h1,h2,rfl⟩;exact⟨y,ys,Bf.2 h1,FZ.2 h2,rfl⟩
def Z9.mono {ρ ρ':Ren} (h:ρ.le ρ') {f g:Fn} (k:Z9 ρ f g):Z9 ρ' f g:=by
 cases f<;>first|exact k|exact⟨_,h _ _ k.choose_spec.1,k.choose_spec.2⟩
mutual
def RV.mono {ρ ρ':Ren} (h:ρ.le ρ'): ∀(v v':V),RV ρ v v'→RV ρ' v v'
 | .p _ _,_,k| .sl _ _ _,_,k| .sv _ _ _ _,_,k| .pe _ _ _ _,_,k| .m _,_,k=>by
   simp only[RV]at k ⊢;obtain⟨m,h1,h2⟩:=k;exact⟨m,h _ _ h1,h2⟩
 | .rp cs,_,k=>by
   simp only[RV]at k ⊢;obtain⟨c,h1,h2⟩:=k;exact⟨c,RL.mono h _ _ h1,h2⟩
 | .a cs,_,k=>by
   simp only[RV]at k ⊢;obtain⟨c,h1,h2⟩:=k;exact⟨c,RL.mono h _ _ h1,h2⟩
 | .t cs,_,k=>by
   simp only[RV]at k ⊢;obtain⟨c,h1,h2⟩:=k;exact⟨c,RL.mono h _ _ h1,h2⟩
 | .l es f,_,k=>by
   simp only[RV]at k ⊢;obtain⟨c,h1,h2⟩:=k;exact⟨c,RR.mono h _ _ h1,h2⟩
 | .f fn a b,_,k=>by
   simp only[RV]at k ⊢;obtain⟨g,c,d,h1,h2,h3,h4⟩:=k;exact⟨g,c,d,h1.mono h,RL.mono h _ _ h2,RL.mono h _ _ h3,h4⟩
 | .E2 t x,_,k=>by
   simp only[RV]at k ⊢;obtain⟨c,h1,h2⟩:=k;exact⟨c,RV.mono h _ _ h1,h2⟩
 | .b _,_,k| .i _ _,_,k| .s _,_,k| .pn,_,k| .mn,_,k| .K8,_,k| .Dm,_,k| .any,_,k=>by
   simp only[RV]at k ⊢;exact k
def RL.mono {ρ ρ':Ren} (h:ρ.le ρ'): ∀(l l':List V),RL ρ l l'→RL ρ' l l'
 | [],_,k=>by simp only[RL]at k ⊢;exact k
 | x::xs,_,k=>by
   simp only[RL]at k ⊢;obtain⟨y,ys,h1,h2,h3⟩:=k;exact⟨y,ys,RV.mono h _ _ h1,RL.mono h _ _ h2,h3⟩
def RR.mono {ρ ρ':Ren} (h:ρ.le ρ'): ∀(l l':List (List V)),RR ρ l l'→RR ρ' l l'
 | [],_,k=>by simp only[RR]at k ⊢;exact k
 | x::xs,_,k=>by
   simp only[RR]at k ⊢;obtain⟨y,ys,h1,h2,h3⟩:=k;exact⟨y,ys,RL.mono h _ _ h1,RR.mono h _ _ h2,h3⟩
end
def Z9.fn {ρ:Ren} {f g g':Fn} (h:Z9 ρ f g) (k:Z9 ρ f g'):g=g':=by
 cases f<;>first|(simp only[Z9]at h k;rw[h,k];done)|skip
 simp only[Z9]at h k;obtain⟨m,h1,rfl⟩:=h;obtain⟨m',h2,rfl⟩:=k;rw[h1]at h2;cases h2;rfl
mutual
def RV.fn {ρ:Ren}: ∀(v a b:V),RV ρ v a→RV ρ v b→a=b
 | .p _ _,_,_,k,k'| .sl _ _ _,_,_,k,k'| .sv _ _ _ _,_,_,k,k'| .pe _ _ _ _,_,_,k,k'| .m _,_,_,k,k'=>by
   simp only[RV]at k k';obtain⟨m,h1,rfl⟩:=k;obtain⟨m',h2,rfl⟩:=k';rw[h1]at h2;cases h2;rfl
 | .rp _,_,_,k,k'| .a _,_,_,k,k'| .t _,_,_,k,k'=>by
   simp only[RV]at k k';obtain⟨m,h1,rfl⟩:=k;obtain⟨m',h2,rfl⟩:=k';rw[RL.fn _ _ _ h1 h2]
 | .l _ _,_,_,k,k'=>by
   simp only[RV]at k k';obtain⟨m,h1,rfl⟩:=k;obtain⟨m',h2,rfl⟩:=k';rw[RR.fn _ _ _ h1 h2]
 | .f fn a b,_,_,k,k'=>by
   simp only[RV]at k k';obtain⟨g,c,d,h1,h2,h3,rfl⟩:=k;obtain⟨g',c',d',h1',h2',h3',rfl⟩:=k';rw[h1.fn h1',RL.fn _ _ _ h2 h2',RL.fn _ _ _ h3 h3']
 | .E2 t x,_,_,k,k'=>by
   simp only[RV]at k k';obtain⟨m,h1,rfl⟩:=k;obtain⟨m',h2,rfl⟩:=k';rw[RV.fn _ _ _ h1 h2]
 | .b _,_,_,k,k'| .i _ _,_,_,k,k'| .s _,_,_,k,k'| .pn,_,_,k,k'| .mn,_,_,k,k'| .K8,_,_,k,k'| .Dm,_,_,k,k'| .any,_,_,k,k'=>by
   simp only[RV]at k k';rw[k,k']
def RL.fn {ρ:Ren}: ∀(l a b:List V),RL ρ l a→RL ρ l b→a=b
 | [],_,_,k,k'=>by simp only[RL]at k k';rw[k,k']
 | x::xs,_,_,k,k'=>by
   simp only[RL]at k k';obtain⟨y,ys,h1,h2,rfl⟩:=k;obtain⟨z,zs,h3,h4,rfl⟩:=k';rw[RV.fn _ _ _ h1 h3,RL.fn _ _ _ h2 h4]
def RR.fn {ρ:Ren}: ∀(l a b:List (List V)),RR ρ l a→RR ρ l b→a=b
 | [],_,_,k,k'=>by simp only[RR]at k k';rw[k,k']
 | x::xs,_,_,k,k'=>by
   simp only[RR]at k k';obtain⟨y,ys,h1,h2,rfl⟩:=k;obtain⟨z,zs,h3,h4,rfl⟩:=k';rw[RL.fn _ _ _ h1 h3,RR.fn _ _ _ h2 h4]
end
def Me:Fn→Bool
 | .yield _=>false
 | _=>true
mutual
def BT:V→Bool
 | .p _ _=>false
 | .sl _ _ _=>false
 | .sv _ _ _ _=>false
 | .pe _ _ _ _=>false
 | .m _=>false
 | .rp cs=>CG cs
 | .a cs=>CG cs
 | .t cs=>CG cs
 | .l es _=>Q7 es
 | .f fn a b=>Me fn&&(CG a&&CG b)
 | .E2 _ x=>BT x
 | _=>true
def CG:List V→Bool
 | []=>true
 | x::xs=>BT x&&CG xs
def Q7:List (List V)→Bool
 | []=>true
 | x::xs=>CG x&&Q7 xs
end
mutual
def RV.pure {ρ:Ren}: ∀(v:V),BT v=true→RV ρ v v
 | .p _ _,h| .sl _ _ _,h| .sv _ _ _ _,h| .pe _ _ _ _,h| .m _,h=>by simp[BT]at h
 | .rp cs,h| .a cs,h| .t cs,h=>by simp only[BT]at h;simp only[RV];exact⟨_,RL.pure cs h,rfl⟩
 | .l es f,h=>by simp only[BT]at h;simp only[RV];exact⟨_,RR.pure es h,rfl⟩
 | .f fn a b,h=>by
   simp only[BT,BJ]at h;simp only[RV];refine⟨fn,a,b,?_,RL.pure a h.2.1,RL.pure b h.2.2,rfl⟩;cases fn<;>first|rfl|(simp[Me]at h)
 | .E2 t x,h=>by simp only[BT]at h;simp only[RV];exact⟨_,RV.pure x h,rfl⟩
 | .b _,_| .i _ _,_| .s _,_| .pn,_| .mn,_| .K8,_| .Dm,_| .any,_=>by simp only[RV]
def RL.pure {ρ:Ren}: ∀(v:List V),CG v=true→RL ρ v v
 | [],_=>by simp only[RL]
 | x::xs,h=>by
   simp only[CG,BJ]at h;simp only[RL];exact⟨x,xs,RV.pure x h.1,RL.pure xs h.2,rfl⟩
def RR.pure {ρ:Ren}: ∀(v:List (List V)),Q7 v=true→RR ρ v v
 | [],_=>by simp only[RR]
 | x::xs,h=>by
   simp only[Q7,BJ]at h;simp only[RR];exact⟨x,xs,RL.pure x h.1,RR.pure xs h.2,rfl⟩
end
def RV.jh {ρ:Ren} {v v':V} (h:RV ρ v v') (hp:BT v=true):v'=v:=RV.fn v _ _ h (RV.pure v hp)
mutual
def Ej:V→V→Bool
 | .b x,.b y=>x==y
 | .i k n,.i k' n'=>decide (k=k')&&decide (n=n')
 | .s x,.s y=>decide (x=y)
 | .pn,.pn=>true
 | .p n o,.p n' o'=>Nat.beq n n'&&Nat.beq o o'
 | .rp a,.rp b=>Mb a b
 | .l a f,.l b g=>(f==g)&&aN a b
 | .sl n a b,.sl n' a' b'=>Nat.beq n n'&&(Nat.beq a a'&&Nat.beq b b')
 | .sv n a b c,.sv n' a' b' c'=>Nat.beq n n'&&(Nat.beq a a'&&(Nat.beq b b'&&Nat.beq c c'))
 | .pe n a b c,.pe n' a' b' c'=>Nat.beq n n'&&(Nat.beq a a'&&(Nat.beq b b'&&Nat.beq c c'))
 | .m n,.m n'=>Nat.beq n n'
 | .mn,.mn=>true
 | .f fn a b,.f fn' a' b'=>decide (fn=fn')&&(Mb a a'&&Mb b b')
 | .K8,.K8=>true
 | .E2 t v,.E2 t' v'=>Nat.beq t t'&&Ej v v'
 | .Dm,.Dm=>true
 | .a a,.a b=>Mb a b
 | .t a,.t b=>Mb a b
 | .any,.any=>true
 | _,_=>false
def Mb:List V→List V→Bool
 | [],[]=>true
 | x::xs,y::ys=>Ej x y&&Mb xs ys
 | _,_=>false
def aN:List (List V)→List (List V)→Bool
 | [],[]=>true
 | x::xs,y::ys=>Mb x y&&aN xs ys
 | _,_=>false
end
def C3 {a b:Nat} (h:Nat.beq a b=true):a=b:=T8 h
mutual
def OY: ∀(a b:V),Ej a b=true→a=b
 | .b x,b,h=>by cases b<;>simp[Ej]at h;rw[h]
 | .i _ _,b,h=>by cases b<;>simp[Ej]at h;rw[h.1,h.2]
 | .s _,b,h=>by cases b<;>simp[Ej]at h;rw[h]
 | .pn,b,h=>by cases b<;>simp[Ej]at h;rfl
 | .p _ _,b,h=>by
   cases b<;>simp only[Ej,BJ]at h<;>first|(rw[C3 h.1,C3 h.2];done)|cases h
 | .rp _,b,h=>by
   cases b<;>simp only[Ej]at h<;>first|(rw[Gm _ _ h];done)|cases h
 | .l _ _,b,h=>by
   cases b<;>simp only[Ej,BJ,D9]at h<;>first|(rw[h.1,Zp _ _ h.2];done)|cases h
 | .sl _ _ _,b,h=>by
   cases b<;>simp only[Ej,BJ]at h<;>first|(rw[C3 h.1,C3 h.2.1,C3 h.2.2];done)|cases h
 | .sv _ _ _ _,b,h=>by
   cases b<;>simp only[Ej,BJ]at h<;>first|(rw[C3 h.1,C3 h.2.1,C3 h.2.2.1,C3 h.2.2.2];done)|cases h
 | .pe _ _ _ _,b,h=>by
   cases b<;>simp only[Ej,BJ]at h<;>first|(rw[C3 h.1,C3 h.2.1,C3 h.2.2.1,C3 h.2.2.2];done)|cases h
 | .m _,b,h=>by
   cases b<;>simp only[Ej]at h<;>first|(rw[C3 h];done)|cases h
 | .mn,b,h=>by cases b<;>simp[Ej]at h;rfl
 | .f _ _ _,b,h=>by
   cases b<;>simp only[Ej,BJ,Cn]at h<;>first|(rw[h.1,Gm _ _ h.2.1,Gm _ _ h.2.2];done)|cases h
 | .K8,b,h=>by cases b<;>simp[Ej]at h;rfl
 | .E2 _ _,b,h=>by
   cases b<;>simp only[Ej,BJ]at h<;>first|(rw[C3 h.1,OY _ _ h.2];done)|cases h
 | .Dm,b,h=>by cases b<;>simp[Ej]at h;rfl
 | .a _,b,h=>by
   cases b<;>simp only[Ej]at h<;>first|(rw[Gm _ _ h];done)|cases h
 | .t _,b,h=>by
   cases b<;>simp only[Ej]at h<;>first|(rw[Gm _ _ h];done)|cases h
 | .any,b,h=>by cases b<;>simp[Ej]at h;rfl
def Gm: ∀(a b:List V),Mb a b=true→a=b
 | [],[],_=>rfl
 | x::xs,y::ys,h=>by
   simp only[Mb,BJ]at h;rw[OY _ _ h.1,Gm _ _ h.2]
 | [],_::_,h=>by simp[Mb]at h
 | _::_,[],h=>by simp[Mb]at h
def Zp: ∀(a b:List (List V)),aN a b=true→a=b
 | [],[],_=>rfl
 | x::xs,y::ys,h=>by
   simp only[aN,BJ]at h;rw[Gm _ _ h.1,Zp _ _ h.2]
 | [],_::_,h=>by simp[aN]at h
 | _::_,[],h=>by simp[aN]at h
end
inductive EO where
 | cs (vs:List V)
 | arr (sz:Nat) (es:List (List V))
 | map (kvs:List (V×V))
 | loop (st:vD) (env:Env) (ps:List Nat) (a b:AY)
inductive Tr (α:Type) where
 | leaf
 | node (o:Option α) (l r:Tr α)
def Tr.get {α:Type}:Tr α→Nat→Option α
 | .leaf,_=>none
 | .node o l r,k=>match k with
   | 0=>o
   | k+1=>bif Nat.beq (k % 2) 0 then l.get (k / 2)else r.get (k / 2)
def Tr.put {α β:Type} (x:Option α):Nat→Tr α→Nat→(Tr α→β)→β
 | 0,t,_,K=>K t
 | d+1,t,k,K=>match k,t with
   | 0,.leaf=>K (.node x .leaf .leaf)
   | 0,.node _ l r=>K (.node x l r)
   | k+1,.leaf=>bif Nat.beq (k % 2) 0 then Tr.put x d .leaf (k / 2) fun l=>K (.node none l .leaf)else Tr.put x d .leaf (k / 2) fun r=>K (.node none .leaf r)
   | k+1,.node o l r=>bif Nat.beq (k % 2) 0 then Tr.put x d l (k / 2) fun l=>K (.node o l r)else Tr.put x d r (k / 2) fun r=>K (.node o l r)
def BF:Nat:=40
abbrev Tr.set {α:Type} (x:Option α) (d:Nat) (t:Tr α) (k:Nat):Tr α:=Tr.put x d t k id
def Tr.put_eq {α β:Type} {x:Option α}: ∀(d:Nat) (t:Tr α) (k:Nat) (K:Tr α→β),Tr.put x d t k K=K (Tr.set x d t k)
 | 0,t,k,K=>rfl
 | d + 1,t,k,K=>by
   unfold Tr.set;cases k with
   | zero=>cases t<;>rfl
   | succ k=>
     cases t<;>simp only[Tr.put]<;>cases Nat.beq (k % 2) 0<;>simp only[cond_true,cond_false]<;>rw[Tr.put_eq d,Tr.put_eq d _ _ (fun _=>_)]<;>rfl
def Tr.D2 {α:Type} {x:Option α}: ∀(d:Nat) (t:Tr α) (k:Nat),k+1<2 ^ d→ ∀j,(Tr.set x d t k).get j=if j=k then x else t.get j
 | 0,_,k,h,_=>by simp at h
 | d + 1, t, k,h,j=>by
   have hp:2 ^ (d+1)=2*2 ^ d:=by rw[Nat.pow_succ];omega
   cases k with
   | zero=>cases t<;>cases j<;>simp[Tr.set,Tr.put,Tr.get]
   | succ k=>
     have hk:k / 2+1<2 ^ d:=by omega
     cases t with
     | leaf=>
       simp only[Tr.set,Tr.put];cases hb:Nat.beq (k % 2) 0 with
       | true=>
         simp only[cond_true];rw[Tr.put_eq];have hb':=C3 hb;cases j with
         | zero=>simp[Tr.get]
         | succ j=>
           simp only[Tr.get,id];cases hj:Nat.beq (j % 2) 0 with
           | true=>
             have hj':=C3 hj;simp only[cond_true];rw[Tr.D2 d _ _ hk];simp only[Tr.get];by_cases e:j=k
             ·simp[e]
             ·rw[if_neg (by omega),if_neg (by omega)]
           | false=>
             simp only[cond_false];rw[if_neg (fun e=>by(have:j=k:=by omega);subst this;rw[hj]at hb;cases hb)]
       | false=>
         simp only[cond_false];rw[Tr.put_eq];have hb':=Nat.ne_of_beq_eq_false hb;cases j with
         | zero=>simp[Tr.get]
         | succ j=>
           simp only[Tr.get,id];cases hj:Nat.beq (j % 2) 0 with
           | false=>
             have hj':=Nat.ne_of_beq_eq_false hj;simp only[cond_false];rw[Tr.D2 d _ _ hk];simp only[Tr.get];by_cases e:j=k
             ·simp[e]
             ·rw[if_neg (by omega),if_neg (by omega)]
           | true=>
             simp only[cond_true];rw[if_neg (fun e=>by(have:j=k:=by omega);subst this;rw[hj]at hb;cases hb)]
     | node o l r=>
       simp only[Tr.set,Tr.put];cases hb:Nat.beq (k % 2) 0 with
       | true=>
         simp only[cond_true];rw[Tr.put_eq];have hb':=C3 hb;cases j with
         | zero=>simp[Tr.get]
         | succ j=>
           simp only[Tr.get,id];cases hj:Nat.beq (j % 2) 0 with
           | true=>
             have hj':=C3 hj;simp only[cond_true];rw[Tr.D2 d _ _ hk];by_cases e:j=k
             ·simp[e]
             ·rw[if_neg (by omega),if_neg (by omega)]
           | false=>
             simp only[cond_false];rw[if_neg (fun e=>by(have:j=k:=by omega);subst this;rw[hj]at hb;cases hb)]
       | false=>
         simp only[cond_false];rw[Tr.put_eq];have hb':=Nat.ne_of_beq_eq_false hb;cases j with
         | zero=>simp[Tr.get]
         | succ j=>
           simp only[Tr.get,id];cases hj:Nat.beq (j % 2) 0 with
           | false=>
             have hj':=Nat.ne_of_beq_eq_false hj;simp only[cond_false];rw[Tr.D2 d _ _ hk];by_cases e:j=k
             ·simp[e]
             ·rw[if_neg (by omega),if_neg (by omega)]
           | true=>
             simp only[cond_true];rw[if_neg (fun e=>by(have:j=k:=by omega);subst this;rw[hj]at hb;cases hb)]
end Go.Gl
