import Derived.Test.YtnidfcmdimehdaaGreatProg
import Derived.KernelRfl
import Derived.Test.YtnidfcmdimehdaaGreatW14
import Derived.Test.YtnidfcmdimehdaaGreatW17
import Derived.Test.YtnidfcmdimehdaaGreatW22
import Derived.Test.YtnidfcmdimehdaaGreatW26
import Derived.Test.YtnidfcmdimehdaaGreatW27
import Derived.Test.YtnidfcmdimehdaaGreatW28
set_option linter.all false
set_option linter.defProp false
set_option maxHeartbeats 8000000
noncomputable section
namespace Go.Gl
open Go.Proofs
attribute [local irreducible] Ao Ai AY AO AJ AX AN AP AI AW AK AL Ak Au Sat AT Ar Aa W
def ie {p:Prog} {l:List Int} {k:Nat} {x:Int} (hx:l[k]? =some x) (kd:Int):Dj p (l.take (k+1)) kd=if(Bv p x).kind==kd then Dj p (l.take k) kd++[x]else Dj p (l.take k) kd:=by
 rw[An hx,Dj,List.filter_append];cases hp:(Bv p x).kind==kd<;>simp[Dj,hp]
def Lg {p:Prog} {l:List Int} {k:Nat} {kd:Int} (h:l.length<=16):(Dj p (l.take k) kd).length<=16:=by
 have:=W9 (fun m=>(Bv p m).kind==kd) (l.take k);rw[NK]at this;simp only[Dj];omega
def qo (p:Prog) (L:Nat) (l:List Int) (f:Bool) (h:(BZ p).isSome=true) (hG:Yr p l) (M:List (Int×Int)) :
    BK zP 171 [Sh p L,.l (iL l) f] [.map L (J4 p M)] fun r post=>r= .ret (.t [.a (plV (K2 (Aw p) p l).1 true (!(K2 (Aw p) p l).2)),.b (K2 (Aw p) p l).2])/\ ∃M',post= [.map L (J4 p M')]:=by
 intro Z hs;have hM:=Mx;have hok:=look_ok h;have hgw:=U3 h;have hfm:=nH h;have h16:=hG.many;have hm16:=hok.many;generalize hX:K2 (Aw p) p l=X;refine tl kZ ?_
 conv=>whnf
 repeat'((first|clear U K|apply st|(apply zk;intro K U)|refine zo fun nn hnn Z hs=>?_|fail)<;>conv=>whnf)
 rename_i n4 _ _ _;clear hnn;refine Du l.length (fun k (_:V×V×V×V)=>[(13,eI (Bj k))]) (fun k x=>[.own x.1 1 (iL (Dj p (l.take k) 1)),.own x.2.1 1 (iL (Dj p (l.take k) 2)),.own x.2.2.1 1 (iL (Dj p (l.take k) 3)),.own x.2.2.2 1 (iL (Dj p (l.take k) 4)),.box nn [.l [] true,x.1,x.2.1,x.2.2.1,x.2.2.2],.box n4 [.l [] true,.b false,.l [] true,.l [] true,.b false,.l [] true],.map L (J4 p M)]) (fun _ _=>True) (.l [] true,.l [] true,.l [] true,.l [] true) rfl trivial (DN (DN (DN (DN hs 1) 1) 1) 1) ?_;clear hs;rintro k ⟨v1,v2,v3,v4⟩ Z hk - hs;dsimp only at hs;dsimp only;rcases BJ l hk with⟨x,hx,hlt⟩|hke
 .have hmx:=hG.K3 x (Dn hx)
  have hxm:=Cx hmx;obtain⟨hkr,-⟩:=mK h (Dn hxm);have hst:=ie (p:=p) hx;simp only[BX,A4,CT]at hmx;have l1:(Dj p (l.take k) 1).length<=16:=Lg h16;have l2:(Dj p (l.take k) 2).length<=16:=Lg h16;have l3:(Dj p (l.take k) 3).length<=16:=Lg h16;have l4:(Dj p (l.take k) 4).length<=16:=Lg h16;have s1:=hst 1;have s2:=hst 2;have s3:=hst 3;have s4:=hst 4;clear hst;generalize Bv p x=y at *;generalize Dj p (l.take k) 1=z1 at *;generalize Dj p (l.take k) 2=z2 at *;generalize Dj p (l.take k) 3=z3 at *;generalize Dj p (l.take k) 4=z4 at *;obtain⟨kd,gn,fc,nd⟩:=y;dsimp only at hkr s1 s2 s3 s4;rcases(show kd=1\/kd=2\/kd=3\/kd=4 by omega)with rfl|rfl|rfl|rfl
  .rw[if_pos (beq_self_eq_true _)]at s1
   rw[if_neg (by decide)]at s2 s3 s4;have hll:z1.length<As/\(z1.length+1)*8<=140737488355328:=by omega
   clear l1 l2 l3 l4
   conv=>whnf
   repeat'((first|clear U K|apply st|(apply zk;intro K U)|refine zY ?_|refine zs fun Z hs=>?_|refine aq fun v Z hs hsl=>?_|refine vG (j:=1) ?_ (by decide) (by decide)|fail)<;>conv=>whnf)
   exact⟨hlt,(v,v2,v3,v4),rfl,trivial,by rw[s1,s2,s3,s4];exact hs⟩
  .rw[if_pos (beq_self_eq_true _)]at s2
   rw[if_neg (by decide)]at s1 s3 s4;have hll:z2.length<As/\(z2.length+1)*8<=140737488355328:=by omega
   clear l1 l2 l3 l4
   conv=>whnf
   repeat'((first|clear U K|apply st|(apply zk;intro K U)|refine zY ?_|refine zs fun Z hs=>?_|refine aq fun v Z hs hsl=>?_|refine vG (j:=2) ?_ (by decide) (by decide)|fail)<;>conv=>whnf)
   exact⟨hlt,(v1,v,v3,v4),rfl,trivial,by rw[s1,s2,s3,s4];exact hs⟩
  .rw[if_pos (beq_self_eq_true _)]at s3
   rw[if_neg (by decide)]at s1 s2 s4;have hll:z3.length<As/\(z3.length+1)*8<=140737488355328:=by omega
   clear l1 l2 l3 l4
   conv=>whnf
   repeat'((first|clear U K|apply st|(apply zk;intro K U)|refine zY ?_|refine zs fun Z hs=>?_|refine aq fun v Z hs hsl=>?_|refine vG (j:=3) ?_ (by decide) (by decide)|fail)<;>conv=>whnf)
   exact⟨hlt,(v1,v2,v,v4),rfl,trivial,by rw[s1,s2,s3,s4];exact hs⟩
  .rw[if_pos (beq_self_eq_true _)]at s4
   rw[if_neg (by decide)]at s1 s2 s3;have hll:z4.length<As/\(z4.length+1)*8<=140737488355328:=by omega
   clear l1 l2 l3 l4
   conv=>whnf
   repeat'((first|clear U K|apply st|(apply zk;intro K U)|refine zY ?_|refine zs fun Z hs=>?_|refine aq fun v Z hs hsl=>?_|refine vG (j:=4) ?_ (by decide) (by decide)|fail)<;>conv=>whnf)
   exact⟨hlt,(v1,v2,v3,v),rfl,trivial,by rw[s1,s2,s3,s4];exact hs⟩
 .rw [CE hke]at hs
  obtain⟨o1,d1⟩:=hG.of 1;obtain⟨o2,d2⟩:=hG.of 2;obtain⟨o3,d3⟩:=hG.of 3;obtain⟨o4,d4⟩:=hG.of 4;have hpl:K2 (Aw p) p l=if(Dj p l 1).isEmpty then(vE,false)else(⟨(C0 (Aw p) (Dj p l 4).length (Dj p l 4)).1,(C0 (Aw p) (Dj p l 4).length (Dj p l 4)).2,GY (Aw p) (Dj p l 2).length (Jl (Dj p l 2)),(C0 (Aw p) (Dj p l 1).length (Dj p l 1)).1,(C0 (Aw p) (Dj p l 1).length (Dj p l 1)).2,(GY (Aw p) (Dj p l 3).length (Jl (Dj p l 3))).reverse⟩,true):=rfl
  rw[hpl]at hX;clear hpl;have e4:=fun M=>Zx p L (Dj p l 4) false hok hgw hfm o4 d4 M
  have e2:=fun M=>ct p L (Dj p l 2) false hok hgw hfm o2 d2 M
  have e1:=fun M=>Zx p L (Dj p l 1) false hok hgw hfm o1 d1 M
  have e3:=fun M=>Yf p L (Dj p l 3) false hok hgw hfm o3 d3 M
  rw[Rj d2]at e2;rw[Rj d3]at e3;have hl1:=o1.many
  have hbl:(GY (Aw p) (Dj p l 3).length (Jl (Dj p l 3))).length<=16:=by
   have: ∀k l,(GY (Aw p) k l).length=k:=fun k=>by
    induction k with
    | zero=>intro l;rfl
    | succ k ih=>intro l;simp only[GY,Kt,ih]
   rw[this];exact o3.many
  clear o1 o2 o3 o4 d1 d2 d3 d4 hG;generalize GY (Aw p) (Dj p l 3).length (Jl (Dj p l 3))=xs at *;generalize GY (Aw p) (Dj p l 2).length (Jl (Dj p l 2))=bs at *;generalize C0 (Aw p) (Dj p l 4).length (Dj p l 4)=q4 at *;generalize C0 (Aw p) (Dj p l 1).length (Dj p l 1)=q1 at *;generalize Dj p l 1=l1 at *;generalize Dj p l 2=l2 at *;generalize Dj p l 3=l3 at *;generalize Dj p l 4=l4 at *;obtain⟨r4,t4⟩:=q4;obtain⟨r1,t1⟩:=q1;dsimp only at e1 e4;by_cases hz:l1.length=0
  .have he:l1.isEmpty=true:=by simpa using hz
   rw[he,if_pos rfl]at hX;subst hX
   conv=>whnf
   repeat'((first|clear U K|apply st|(apply zk;intro K U)|refine zY ?_|(refine zb (fun hc=>?_) (fun hc=>?_)<;>try exact⟨⟩)|refine zo fun nn hnn Z hs=>?_|fail)<;>conv=>whnf)
   refine MY hs 6 rfl rfl rfl (by simp) (by decide) fun Z hs=>?_
   refine zz ?_;(repeat clear U K);repeat intro K U
   refine ou hs 6 rfl ?_;refine zz ?_;(repeat clear U K);repeat intro K U
   exact A0 (hs.front (j:=7) rfl) (.cons₂ _ (RF _)) (.refl _) fun Z' hs'=>⟨_,⟨rfl,M,rfl⟩,hs'⟩
  .have he:l1.isEmpty=false:=by cases l1 with
    | nil=>simp at hz
    | cons=>rfl
   rw[he,if_neg (by decide)]at hX;subst hX
   conv=>whnf
   repeat'((first|clear U K|apply st|(apply zk;intro K U)|refine zY ?_|(refine zb (fun hc=>?_) (fun hc=>?_)<;>try exact⟨⟩)|refine zo fun nn hnn Z hs=>?_|fail)<;>conv=>whnf)
   obtain⟨Z2,g1,g2,g3⟩:=Jr hs 4 rfl;refine Ao.RP ((e4 M).use (rest:=_) (g3.front (j:=6) rfl) ?_) g1 (.cons (.refl _) (.cons g2 .nil));clear hs g1 g2 g3;rintro r post Z ⟨rfl,M,rfl⟩ hs
   conv=>whnf
   repeat'((first|clear U K|apply st|(apply zk;intro K U)|refine zY ?_|refine zs fun Z hs=>?_|fail)<;>conv=>whnf)
   obtain⟨Z2,g1,g2,g3⟩:=Jr hs 3 rfl;refine Ao.RP ((e2 M).use (rest:=_) g3 ?_) g1 (.cons (.refl _) (.cons g2 .nil));clear hs g1 g2 g3;rintro r post Z ⟨rfl,M,rfl⟩ hs
   conv=>whnf
   repeat'((first|clear U K|apply st|(apply zk;intro K U)|refine zY ?_|refine zs fun Z hs=>?_|fail)<;>conv=>whnf)
   obtain⟨Z2,g1,g2,g3⟩:=Jr hs 2 rfl;refine Ao.RP ((e1 M).use (rest:=_) g3 ?_) g1 (.cons (.refl _) (.cons g2 .nil));clear hs g1 g2 g3;rintro r post Z ⟨rfl,M,rfl⟩ hs
   conv=>whnf
   repeat'((first|clear U K|apply st|(apply zk;intro K U)|refine zY ?_|refine zs fun Z hs=>?_|fail)<;>conv=>whnf)
   obtain⟨Z2,g1,g2,g3⟩:=Jr hs 2 rfl;refine Ao.RP ((e3 M).use (rest:=_) g3 ?_) g1 (.cons (.refl _) (.cons g2 .nil));clear hs g1 g2 g3;rintro r post Z ⟨v,M,rfl,rfl,hv⟩ hs
   conv=>whnf
   repeat'((first|clear U K|apply st|(apply zk;intro K U)|refine zY ?_|refine zs fun Z hs=>?_|fail)<;>conv=>whnf)
   refine(bI xs v (by omega) hv).use (rest:=_) hs ?_;clear hs;rintro r post Z ⟨rfl,rfl⟩ hs;refine zz ?_;(repeat clear U K);repeat intro K U
   have o1:=IW hs 0 rfl;refine MY hs 4 rfl rfl rfl (by simp[o1]) (by decide) fun Z hs=>?_
   clear o1;refine zz ?_;(repeat clear U K);repeat intro K U
   obtain⟨Z2,g1,g2,g3⟩:=Jr hs 0 rfl;exact JI g1 (.t (.cons (.a (.cons (.refl _) (.cons (.refl _) (.cons (.refl _) (.cons (.refl _) (.cons (.refl _) (.cons g2 .nil))))))) (.cons (.refl _) .nil))) ⟨_,⟨rfl,M,rfl⟩,g3.less (.cons₂ _ (RF _))⟩
end Go.Gl
namespace Go.Gl
open Go.Proofs
def mO {p:Prog} {l:List Int} (hok:ES p) (h:FV p l false=true):Yr p l:=by
 rw[FV,A4,DR,CT]at h;obtain⟨h1,h2⟩:=h
 have hm: ∀x∈l,BX p x=true/\(Bv p x).gen=(Bv p (l.getD 0 0)).gen:=fun x hx=>by
  have:=h1 x hx;simp only[kK,A4,Cy]at this;exact⟨this.1,this.2.1⟩
 refine⟨fun x hx=>(hm x hx).1,fun x hx y hy=>(hm x hx).2.trans (hm y hy).2.symm,h2,Nat.le_trans (Pc p.methods.length l h2 fun x hx=>?_) hok.many⟩;have:=(hm x hx).1;simp only[BX,A4,CT]at this;omega
def eH (x:Pl×Bool):Pl×Int:=if x.2 then(x.1,0)else(vE,5)
def S8 (p:Prog) (l:List Int):Pl×Int:=if(BZ p).isSome&&FV p l false then eH (K2 (Aw p) p l)else(vE,2)
abbrev plE (x:Pl×Int) (g:Bool):V:= .t [.a (plV x.1 g (x.2 != 0)),eI x.2]
attribute [local irreducible] Ao Ai AY AO AJ AX AN AP AI AW AK AL Ak Au Sat AT Ar Aa W
def ug (p:Prog) (l:List Int) (f:Bool) (hl:l.length<=1000):Pure zP 106 [.a (Ba p),.l (iL l) f] (plE (S8 p l) true):=by
 refine Pure.of ?_;have hr:=iQ p;generalize hX:S8 p l=X;rw[S8]at hX;refine uU kZ ?_;have hs:=Sn
 conv=>whnf
 repeat'((first|clear U K|apply st|(apply zk;intro K U)|refine zY ?_|refine zo fun nn hnn Z hs=>?_|fail)<;>conv=>whnf)
 refine hr.use (rest:=_) hs ?_;clear hs;cases h:(BZ p).isSome
 .have c1:=mP l f false
  rw[h,Bool.false_and,if_neg (by decide)]at hX;subst hX;rintro r post Z ⟨rfl,rfl⟩ hs
  conv=>whnf
  repeat'((first|clear U K|apply st|(apply zk;intro K U)|refine zY ?_|refine zs fun Z hs=>?_|refine zC ?_|fail)<;>conv=>whnf)
  exact AH (by rfl)
 .rintro r post Z ⟨L,rfl,rfl⟩ hs
  have c1:=rR p L l f false hl;cases hb:FV p l false<;>rw[hb]at c1 hX
  .rw[Bool.and_false,if_neg (by decide)]at hX
   subst hX
   conv=>whnf
   repeat'((first|clear U K|apply st|(apply zk;intro K U)|refine zY ?_|refine zs fun Z hs=>?_|refine zC ?_|fail)<;>conv=>whnf)
   exact AH (by rfl)
  .have c3:=qo p L l f h (mO (look_ok h) hb) []
   rw[h,Bool.and_self,if_pos rfl]at hX;generalize K2 (Aw p) p l=x at *;obtain⟨x,b⟩:=x;cases b
   all_goals
    subst hX
    conv=>whnf
    repeat'((first|clear U K|apply st|(apply zk;intro K U)|refine zY ?_|refine zC ?_|fail)<;>conv=>whnf)
    refine c3.use (rest:=_) hs ?_;clear hs;rintro r post Z ⟨rfl,M,rfl⟩ hs
    conv=>whnf
    repeat'((first|clear U K|apply st|(apply zk;intro K U)|refine zY ?_|refine zs fun Z hs=>?_|refine zo fun nn hnn Z hs=>?_|fail)<;>conv=>whnf)
    exact AH (by rfl)
end Go.Gl
namespace Go.Gl
open Go.Proofs
attribute [local irreducible] Ao Ai AY AO AJ AX AN AP AI AW AK AL Ak Au Sat AT Ar Aa W
def qY (ar:List Int) (dK:Bool) (be pr:List Int) (prt:Bool) (af:List Int):yA (⟨ar,dK,be,pr,prt,af⟩,true)=if decide (ar.length=0)&&(dK||decide (pr.length=0))then 3 else if dK||prt then 2 else 1:=by
 rw[yA,if_pos rfl];cases ar<;>cases pr<;>simp
abbrev UQ (p:Prog) (gen:Int):List V:=Ba p++[eI gen,.l (iL (Dv p gen)) false]
abbrev vI:List V:=[.l [] true,eI 0,.l [] true,.l [] true,.l [] true,eI 0,eI 0,.l [] true]
def xd (p:Prog) (gen:Int):Pure zP 87 [.a (Ba p),eI gen] (.t [.a (if Dw p gen then UQ p gen else vI),.b (Dw p gen)]):=by
 refine Pure.fit (by kernel_rfl) fun hf=>?_
 have hP:=U4 hf.1;have⟨p1,p2,p3,p4⟩:=O6 hf.1;have hM:=Mx;have c1:=WS p;rw[Dw];cases h1:(BZ p).isSome<;>rw[h1]at c1
 .rw[if_neg (by decide)]at c1
  refine eV kZ ?_;have hs:=Sn;exact zW
 rw[if_pos rfl]at c1;have h16:=(look_ok h1).many;cases h2:XK p gen
 .simp only[XK,Bool.and_eq_false_iff,decide_eq_false_iff_not]at h2
  refine eV kZ ?_;have hs:=Sn
  conv=>whnf
  repeat'((first|clear U K|apply st|(apply zk;intro K U)|refine zY ?_|refine zs fun Z hs=>?_|refine zC ?_|(refine zb (fun hc=>?_) (fun hc=>?_)<;>try exact⟨⟩)|refine zo fun nn hnn Z hs=>?_|fail)<;>conv=>whnf)
  all_goals first
   | exact AS rfl
   | (exfalso;simp at *;omega)
 have h2r:=h2;simp only[XK,A4,CT]at h2r;refine eV kZ ?_;have hs:=Sn
 conv=>whnf
 repeat'((first|clear U K|apply st|(apply zk;intro K U)|refine zY ?_|refine zs fun Z hs=>?_|refine zC ?_|(refine zb (fun hc=>?_) (fun hc=>?_)<;>try exact⟨⟩)|refine zo fun nn hnn Z hs=>?_|fail)<;>conv=>whnf)
 rename_i n4 _ _ _ _ _ _ _;refine Du p.methods.length (fun k (_:V)=>[(30,eI (Bj k))]) (fun k v=>[.box nn (Ba p++[eI gen,v]),.box n4 vI,.own v 1 (iL (dS p gen k))]) (fun _ _=>True) (.l [] true) rfl trivial (Ol hs 1) ?_;clear hs;rintro k v Z hk - hs;have hal:=my p gen k;rcases BJ p.methods hk with⟨x,hx,hlt⟩|hke
 .have hck:Bj k=k:=Av (by omega)
  have hxe:=mL hx;have hst:=jQ p gen k;rw[hxe]at hst;generalize dS p gen k=zl at *;have hll:zl.length<As/\(zl.length+1)*8<=140737488355328:=by omega
  by_cases hg:x.gen=gen
  .rw[if_pos (Cy.2 hg)]at hst
   conv=>whnf
   repeat'((first|clear U K|apply st|(apply zk;intro K U)|refine zY ?_|refine zs fun Z hs=>?_|refine aq fun v Z hs hsl=>?_|(refine zb (fun hc=>?_) (fun hc=>?_)<;>try exact⟨⟩)|refine zo fun nn hnn Z hs=>?_|fail)<;>conv=>whnf)
   exact⟨hlt,_,rfl,trivial,by rw[hst,<-hck];exact hs.less (NJ _ _)⟩
  .rw[if_neg (by simpa using hg)]at hst
   conv=>whnf
   repeat'((first|clear U K|apply st|(apply zk;intro K U)|refine zY ?_|refine zs fun Z hs=>?_|(refine zb (fun hc=>?_) (fun hc=>?_)<;>try exact⟨⟩)|refine zo fun nn hnn Z hs=>?_|fail)<;>conv=>whnf)
   exact⟨hlt,_,rfl,trivial,by rw[hst];exact hs.less (NJ _ _)⟩
 .rw[hke]at hs
  refine zz ?_;(repeat clear U K);repeat intro K U
  have o1:=IW hs 2 rfl;refine MY hs 1 rfl rfl rfl (by simp[Ba,o1]) (by decide) fun Z hs=>?_
  clear o1;refine zz ?_;(repeat clear U K);repeat intro K U
  exact Br (.t (.cons (.a (.cons (.refl _) (.cons (.refl _) (.cons (.refl _) (.cons (.refl _) (.cons (.refl _) (.cons (.refl _) (.cons (.refl _) (.cons (hs.He 2 rfl) .nil))))))))) (.cons (.refl _) .nil)))
def wX (p:Prog) (gen:Int):Pure zP 88 [.a (UQ p gen)] (eI (if(Dv p gen).length<=8 then 0 else 3)):=by
 have e1:((iL (Dv p gen)).length:Int)=(Dv p gen).length:=by simp
 refine xD kZ ?_;have hs:=Sn
 conv=>whnf
 repeat'((first|clear U K|apply st|(apply zk;intro K U)|refine zY ?_|(refine zd (fun hc=>?_) (fun hc=>?_)<;>try exact⟨⟩)|fail)<;>conv=>whnf)
 .exact AS (by rw[if_neg (by omega)])
 .exact AS (by rw[if_pos (by omega)])
def ee (a b c:Bool):Pure zP 107 [.b a,.b b,.b c] (eI (if a then 4 else if b then 3 else if c then 2 else 1)):=by
 cases a<;>cases b<;>cases c
 all_goals
  refine uT kZ ?_;have hs:=Sn;exact zW
def yX (l:List Int):(((iL l).length:Int)==0)=decide (l.length=0):=by
 rw[C4,Gr,Cy,CT];omega
def fC (p:Prog) (gen:Int) (l:List Int) (f:Bool) (h:Dw p gen=true) (hB:Qv p gen l=true):Pure zP 51 [.a (UQ p gen),.l (iL l) f] (eI (kI p l)):=by
 rw[Dw,A4]at h;have hok:=look_ok h.1;have c1:=ug p l f (Nat.le_trans (iN hB) (Nat.le_trans hok.many (by decide)));rw[S8,h.1,Ro hB,Bool.and_self,if_pos rfl]at c1;rw[kI];clear h hok hB;generalize K2 (Aw p) p l=x at *;obtain⟨⟨ar,dK,be,pr,prt,af⟩,b⟩:=x;cases b
 .rw[show eH (⟨ar,dK,be,pr,prt,af⟩,false)=(vE,5) from rfl]at c1
  refine pA kZ ?_;have hs:=Sn
  conv=>whnf
  repeat'((first|clear U K|apply st|(apply zk;intro K U)|refine zY ?_|refine zs fun Z hs=>?_|refine c1.use ?_|refine Pure.use (ee _ _ _) ?_|(refine zb (fun hc=>?_) (fun hc=>?_)<;>try exact⟨⟩)|refine zo fun nn hnn Z hs=>?_|fail)<;>conv=>whnf)
  all_goals exact AS rfl
 rw[show eH (⟨ar,dK,be,pr,prt,af⟩,true)=(⟨ar,dK,be,pr,prt,af⟩,0) from rfl]at c1;rw[qY];cases ha:decide (ar.length=0)<;>cases hp:decide (pr.length=0)<;>cases dK<;>cases prt
 all_goals
  first|replace ha:=of_decide_eq_true ha|replace ha:=of_decide_eq_false ha
  first|replace hp:=of_decide_eq_true hp|replace hp:=of_decide_eq_false hp
  refine pA kZ ?_;have hs:=Sn
  conv=>whnf
  repeat'((first|clear U K|apply st|(apply zk;intro K U)|refine zY ?_|refine zs fun Z hs=>?_|refine c1.use ?_|refine Pure.use (ee _ _ _) ?_|(refine zb (fun hc=>?_) (fun hc=>?_)<;>try exact⟨⟩)|refine zo fun nn hnn Z hs=>?_|fail)<;>conv=>whnf)
  all_goals first|exact AS rfl|exact AS (by simp only[yX];simp[ha,hp])
def Gz (p:Prog) (gen:Int) (b:Bool):Int:=if Dw p gen then(if b then(if(Dv p gen).length<=8 then 0 else 3)else 2)else 2
abbrev XR (p:Prog) (gen:Int) (b:Bool):List V:=if Dw p gen&&b then UQ p gen else vI
def Ik {p:Prog} {gen:Int} (h:Dw p gen=false) (b:Bool):XR p gen b=vI/\Gz p gen b=2:=by rw[XR,Gz,h];exact⟨rfl,rfl⟩
def Ij {p:Prog} {gen:Int}:XR p gen false=vI/\Gz p gen false=2:=by
 rw[XR,Gz,Bool.and_false];exact⟨rfl,by split<;>rfl⟩
def IG {p:Prog} {gen:Int} (h:Dw p gen=true):XR p gen true=UQ p gen/\Gz p gen true=if(Dv p gen).length<=8 then 0 else 3:=by rw[XR,Gz,h];exact⟨rfl,rfl⟩
def gK (p:Prog) (gen:Int) (k:Nat) (ca:List V) (b:Bool) (c2:Dw p gen=true->Pure zP k (.a (UQ p gen)::ca) (.b b)):Pure zP 31 [.a (Ba p),eI gen,.f (.func k) [] ca] (.t [.a (XR p gen b),eI (Gz p gen b)]):=by
 have c1:=xd p gen;have c3:=wX p gen;cases h1:Dw p gen<;>rw[h1]at c1
 .rw[(Ik h1 b).1,(Ik h1 b).2]
  rw[if_neg (by decide)]at c1;refine eW kZ ?_;have hs:=Sn;exact zW
 replace c2:=c2 h1;rw[if_pos rfl]at c1;cases b
 .rw[Ij.1,Ij.2]
  refine eW kZ ?_;have hs:=Sn
  conv=>whnf
  repeat'((first|clear U K|apply st|(apply zk;intro K U)|refine zY ?_|refine zs fun Z hs=>?_|refine c1.use ?_|refine Ay (c2.use ?_)|refine zo fun nn hnn Z hs=>?_|fail)<;>conv=>whnf)
  all_goals exact AS rfl
 .rw[(IG h1).1,(IG h1).2]
  refine eW kZ ?_;have hs:=Sn
  conv=>whnf
  repeat'((first|clear U K|apply st|(apply zk;intro K U)|refine zY ?_|refine rk ?_ ?_|exact fun s e=>by cases e;rfl|refine zs fun Z hs=>?_|refine c1.use ?_|refine Ay (c2.use ?_)|refine c3.use ?_|refine zo fun nn hnn Z hs=>?_|fail)<;>conv=>whnf)
  all_goals exact AS rfl
end Go.Gl
namespace Go.Gl
open Go.Proofs
def DO (f:Fact) (c:Bool) (j:Nat) (a:Int) (p:List Int) (k:Kn):Kn:=
 if f.arg=a/\BY f.path p=true then(if p.length<j then kJ (Bm k c) (f.path.getD p.length 0)else if p.length=j then Bm k c else k)else k
def mo (f:Fact) (c:Bool) (a:Int) (p:List Int) (k:Kn):DO f c 0 a p k=if a=f.arg/\p= []then Bm k c else k:=by
 unfold DO;by_cases h:f.arg=a/\BY f.path p=true
 .rw[if_pos h,if_neg (by omega)]
  by_cases hp:p.length=0
  .rw[if_pos hp,if_pos ⟨h.1.symm,W7.1 hp⟩]
  .rw[if_neg hp,if_neg (fun h'=>hp (by rw[h'.2];rfl))]
 .rw[if_neg h,if_neg]
  rintro⟨rfl,rfl⟩;exact h ⟨rfl,Bn.2 ⟨f.path,by simp⟩⟩
def mq (f:Fact) (c:Bool) {j:Nat} (hj:j<f.path.length) (a:Int) (p:List Int) (k:Kn):DO f c (j+1) a p k=if a=f.arg/\p=f.path.take (j+1)then Bm (DO f c j a p k) c else if a=f.arg/\p=f.path.take j then kJ (DO f c j a p k) (f.path.getD j 0)else DO f c j a p k:=by
 unfold DO;by_cases h:f.arg=a/\BY f.path p=true
 .rw [if_pos h,if_pos h]
  obtain⟨h1,h2⟩:=h;rw[GS]at h2;obtain⟨h2,h3⟩:=h2;have l1:p=f.path.take (j+1)↔p.length=j+1:=⟨fun e=>by rw[e,NK];omega,fun e=>by rw[e]at h3;exact h3⟩
  have l2:p=f.path.take j↔p.length=j:=⟨fun e=>by rw[e,NK];omega,fun e=>by rw[e]at h3;exact h3⟩
  have n1:p.length≠j+1-> ¬(a=f.arg/\p=f.path.take (j+1)):=fun h h'=>h (l1.1 h'.2)
  have n2:p.length≠j-> ¬(a=f.arg/\p=f.path.take j):=fun h h'=>h (l2.1 h'.2)
  by_cases q1:p.length<j
  .rw[if_pos (show p.length<j+1 by omega),if_neg (n1 (by omega)),if_neg (n2 (by omega)),if_pos q1]
  .by_cases q2:p.length=j
   .rw[if_pos (show p.length<j+1 by omega),if_neg (n1 (by omega)),if_pos (show a=f.arg/\p=f.path.take j from⟨h1.symm,l2.2 q2⟩),if_neg q1,if_pos q2,q2]
   .by_cases q3:p.length=j+1
    .rw[if_neg (show¬p.length<j+1 by omega),if_pos q3,if_pos (show a=f.arg/\p=f.path.take (j+1) from⟨h1.symm,l1.2 q3⟩),if_neg q1,if_neg q2]
    .rw[if_neg (show¬p.length<j+1 by omega),if_neg q3,if_neg (n1 q3),if_neg (n2 q2),if_neg q1,if_neg q2]
 .rw[if_neg h,if_neg h,if_neg,if_neg]
  .rintro⟨rfl,rfl⟩
   exact h ⟨rfl,Bn.2 ⟨f.path.drop j,by rw[List.take_append_drop]⟩⟩
  .rintro⟨rfl,rfl⟩
   exact h ⟨rfl,Bn.2 ⟨f.path.drop (j+1),by rw[List.take_append_drop]⟩⟩
def rm (a : Int) (p:List Int) (k:Kn) (l:Fact):G6 a p k l=if a=(Ag l).1.arg/\p=(Ag l).1.path then Bl (DO (Ag l).1 (Ag l).2 (Ag l).1.path.length a p k) (Ag l).1 (Ag l).2 else DO (Ag l).1 (Ag l).2 (Ag l).1.path.length a p k:=by
 unfold G6 DO;by_cases h:(Ag l).1.arg=a/\BY (Ag l).1.path p=true
 .rw [if_pos h,if_pos h]
  obtain⟨h1,h2⟩:=h;rw[GS]at h2;obtain⟨h2,h3⟩:=h2;by_cases hp:(Ag l).1.path=p
  .rw[if_pos hp,if_pos ⟨h1.symm,hp.symm⟩,if_neg (by rw[hp];omega),if_pos (by rw[hp])]
  .have hne:p.length<(Ag l).1.path.length:=by
    rcases Nat.lt_or_ge p.length (Ag l).1.path.length with h'|h'
    .exact h'
    .rw[List.take_of_length_le h']at h3
     exact absurd h3.symm hp
   rw[if_neg hp,if_neg (fun h=>hp h.2.symm),if_pos hne]
 .rw[if_neg h,if_neg h,if_neg]
  rintro⟨rfl,rfl⟩;exact h ⟨rfl,I1 _⟩
def mb (ls:List Fact) (l:Fact) (a:Int) (p:List Int):kg (ls++[l]) a p=G6 a p (kg ls a p) l:=by
 rw[kg,List.foldl_append];rfl
def WL (l:List Int) (s:Int):(S5 l s).length<=l.length+1:=by
 unfold S5;split
 .omega
 .simp
def fV (a:Int) (p:List Int): ∀(ls:List Fact) (k:Kn),(ls.foldl (G6 a p) k).no.length<=k.no.length+ls.length/\(ls.foldl (G6 a p) k).AF.length<=k.AF.length+ls.length
 | [],k=>⟨IN _,IN _⟩
 | l ::r,k=>by
   obtain⟨h1,h2⟩:=fV a p r (G6 a p k l)
   have h3:(G6 a p k l).no.length<=k.no.length+1/\(G6 a p k l).AF.length<=k.AF.length+1:=by
    unfold G6
    repeat' split
    .have:=Qe (Bm k (Ag l).2) (Ag l).1 (Ag l).2
     rw[Hb];simp only[Bm]at this ⊢;omega
    .have:=WL k.AF ((Ag l).1.path.getD p.length 0)
     simp only[kJ,Bm]at this ⊢;omega
    .omega
   rw[List.foldl_cons,Kt];omega
def mc {n:Nat} {ls:List Fact} (h:GC n ls) (a:Int) (p:List Int):(kg ls a p).BL<2 ^ n/\(kg ls a p).DS<2 ^ n:=by
 obtain⟨-,-,-,c4,c5,-⟩:=LS (ZY ls a p);have hc2:GC n (ls.filter (Jk a p)):=fun l hl=>h l (Kv.1 hl).1
 rw[c4,c5];exact⟨LH hc2,fL hc2⟩
abbrev gZ:AU:=(.seq [2,3] (.Cl [⟨(some 2),.N3 (.t 0),none⟩,
 ⟨(some 3),.N3 (.t 1),none⟩,
 ⟨(some 4),.mv (.c .pn),none⟩])
 (.seq [2,3,5,6] (.Cl [⟨(some 8),.FW 1 (.t 2),none⟩,
  ⟨(some 9),.load none (.t 8),none⟩,
  ⟨(some 10),.load (some 4) (.t 3),none⟩,
  ⟨(some 11),.lookup (.a [.i64,.i64,.i64,.i64]) .pn true (.t 9) (.t 10),none⟩,
  ⟨(some 7),.mv (.t 11),none⟩,
  ⟨(some 12),.extract 0 (.t 7),none⟩,
  ⟨(some 13),.extract 1 (.t 7),none⟩,
  ⟨(some 5),.mv (.t 12),none⟩,
  ⟨(some 6),.mv (.t 13),none⟩])
 (.seq [5] (.seq [2,3,5,15] (.Cl [⟨(some 14),.mv (.t 6),none⟩,
  ⟨(some 15),.not (.t 14),none⟩])
 (.cond (.t 15)
 (.seq [2,3,5] (.Cl [⟨(some 16),.build [(.i .u64 0),(.i .u64 0),(.i .i64 0),(.i .i64 0),(.l [] true),(.b false),(.b false),(.l [] true)] [(2,1,(.c (.i .i64 (-1000000000)))),(3,1,(.c (.i .i64 1000000000)))],none⟩,
  ⟨(some 17),.box (.t 16),none⟩,
  ⟨(some 5),.mv (.t 17),none⟩])
 (.Cl [⟨(some 18),.FW 1 (.t 2),none⟩,
  ⟨(some 19),.load none (.t 18),none⟩,
  ⟨(some 20),.load (some 4) (.t 3),none⟩,
  ⟨(some 21),.mv (.t 5),none⟩,
  ⟨none,.D0 (.a [.i64,.i64,.i64,.i64]) (.t 19) (.t 20) (.t 21),none⟩]))
 .skip))
 (.seq [4] (.Cl [⟨(some 22),.mv (.t 5),none⟩,
  ⟨(some 4),.mv (.t 22),none⟩])
 .ret))))
def la:Tryz.f151.body.bind (res Tryz.prog Tryz.f151.ntmps [] [2,3])=some (erase gZ):=by kernel_rfl
def nh {args:List V} (hn:args.length<=23) {Z:AE} {Q:R->AE->Prop} (h:W Tryz.prog gZ (dw [4] Q) (Az 0 args) Z):Ao Tryz.prog 151 args Z Q:=
 Kj Tryz.func151 (by kernel_rfl) la rfl hn (kT h)
end Go.Gl
namespace Go.Gl
open Go.Proofs
attribute [local irreducible] Ao Ai AY AO AJ AX AN AP AI AW AK AL Ak Au Sat AT Ar Aa W
def v7 (s c:Nat) (hs0:s<18446744073709551616) (hc:c<64):Pure zP 150 [eU s,eI c] (eU (s|||2 ^ c)):=by
 refine ts kZ ?_;have hs:=Sn
 conv=>whnf
 repeat'((first|clear U K|apply st|(apply zk;intro K U)|fail)<;>conv=>whnf)
 refine⟨Int.natCast_nonneg _,?_⟩;refine zv ?_;(repeat clear U K);repeat intro K U
 exact AS (by rw[Hc,Ta hc,Hu hs0 (Hk hc)])
def ya (s c:Nat) (hs0:s<18446744073709551616) (hc:c<64):Pure zP 108 [eU s,eI c] (.b (s.testBit c)):=by
 refine uS kZ ?_;have hs:=Sn
 conv=>whnf
 repeat'((first|clear U K|apply st|(apply zk;intro K U)|fail)<;>conv=>whnf)
 refine⟨Int.natCast_nonneg _,?_⟩;refine zv ?_;(repeat clear U K);repeat intro K U
 refine AS ?_;rw[Hc,TZ hc];have h1:s >>> c<18446744073709551616:=by rw[Nat.shiftRight_eq_div_pow];exact Nat.lt_of_le_of_lt (Nat.div_le_self _ _) hs0
 have h2:bits .and .u64 ((s >>> c:Nat):Int) 1=((s >>> c&&&1:Nat):Int):=FJ h1 (show 1<_ by decide);rw[h2];simp only[Nat.testBit,Nat.and_comm 1];congr 1;rcases Nat.mod_two_eq_zero_or_one (s >>> c)with h|h<;>simp[Nat.and_one_is_mod,h]
def MR (s:Nat) (c:Int) (hs0:s<18446744073709551616) (h0:0<=c) (hc:c<64):Pure zP 150 [eU s,eI c] (eU (s|||2 ^ c.toNat)):=by
 have:=v7 s c.toNat hs0 (by omega);rw[Int.toNat_of_nonneg h0]at this;exact this
def eO (s:Nat) (c:Int) (hs0:s<18446744073709551616) (h0:0<=c) (hc:c<64):Pure zP 108 [eU s,eI c] (.b (s.testBit c.toNat)):=by
 have:=ya s c.toNat hs0 (by omega);rw[Int.toNat_of_nonneg h0]at this;exact this
abbrev gW (w:AG) (us:List Nat):List V:=[.l (Jg w.parents) false,.l (iL w.owner) false,.l (us.map fun u=>[eU u]) false]
abbrev gv (w:AG) (us:List Nat) (L:Nat):List V:=[.rp (gW w us),.m L]
abbrev eS (b:Nat) (vn vs:V) (k:Kn):List At:=[.box b [eU k.BL,eU k.DS,eI k.low,eI k.high,vn,.b k.whole,.b k.Ad,vs],.own vn 1 (iL k.no),.own vs 1 (iL k.AF)]
abbrev U6 (e:Bt):List At:=eS e.b e.vn e.vs e.k
def By (L:Nat) (es:List Bt):List At:= .map L (Sk es)::es.flatMap U6
def IA (L:Nat) (es pre post:List Bt):List At:= .map L (Sk es)::(pre++post).flatMap U6
def Vq (L:Nat) (pre post:List Bt) (e:Bt):(By L (pre++e::post)).Perm (U6 e++IA L (pre++e::post) pre post):=by
 unfold By IA;rw[List.flatMap_append,List.flatMap_cons,List.flatMap_append];refine List.Perm.trans ?_ (List.perm_middle.symm);refine List.Perm.cons _ ?_;rw[<-Od,<-Od];exact List.Perm.append_right _ OD
def T5 {L:Nat} {pre post:List Bt} {e e':Bt} (h1:e'.a=e.a) (h2:e'.p=e.p) (h3:e'.b=e.b):IA L (pre++e'::post) pre post=IA L (pre++e::post) pre post:=by
 rw[IA,IA,QL h1 h2 h3]
def Jp {Z:AE} {X:List At} {L:Nat} {pre post:List Bt} {e:Bt} (h:Sat Z (X++By L (pre++e::post))):Sat Z (.box e.b [eU e.k.BL,eU e.k.DS,eI e.k.low,eI e.k.high,e.vn,.b e.k.whole,.b e.k.Ad,e.vs]:: .own e.vn 1 (iL e.k.no):: .own e.vs 1 (iL e.k.AF)::(X++IA L (pre++e::post) pre post)):=by
 have h2:Sat Z (U6 e++(X++IA L (pre++e::post) pre post)):=h.perm ((List.Perm.append_left X (Vq L pre post e)).trans (by rw[<-Od,<-Od];exact OD.append_right _));exact h2
def DW {Z:AE} {X:List At} {L:Nat} {pre post:List Bt} {e e':Bt} (h1:e'.a=e.a) (h2:e'.p=e.p) (h3:e'.b=e.b) (h:Sat Z (U6 e'++(X++IA L (pre++e::post) pre post))):Sat Z (X++By L (pre++e'::post)):=by
 rw[<-T5 h1 h2 h3]at h;exact h.perm ((List.Perm.append_left X (Vq L pre post e')).trans (by rw[<-Od,<-Od];exact OD.append_right _)).symm
def oO (w:AG) (us:List Nat) {kf:Int->List Int->Kn} {L:Nat} {es:List Bt} (h:Bx kf es) {a:Int} {p:List Int} (hp:p.length<=2) :
    BK zP 151 [.a (gv w us L),CI a p] (By L es) fun r post=> ∃es' e,lB kf es es' a p e/\r= .ret (.p e.b 0)/\post=By L es':=by
 intro Z hs;refine nh kZ ?_;unfold By at hs;rcases eJ a p es with hn|⟨pre,e,post,rfl,he,hpre⟩
 .have hf:=Pg hp h.len hn
  conv=>whnf
  repeat'((first|clear U K|apply st|(apply zk;intro K U)|refine zY ?_|refine MZ hs 0 rfl rfl (HJ _) hf ?_|refine GN hs 1 rfl rfl (HJ _) fun Z hs=>?_|refine zo fun nn hnn Z hs=>?_|fail)<;>conv=>whnf)
  simp only[List.set_cons_succ,List.set_cons_zero]at hs;change Sat Z (_:: .map L (Cp (CI a p) (.p nn 0) (Sk es))::_)at hs;rw[Xa hp nn (.l [] true) (.l [] true) k0 h.len hn]at hs;have hs2:=DN (DN hs 1) 1;refine AH ⟨_,⟨es++[⟨a,p,nn,.l [] true,.l [] true,k0⟩],⟨a,p,nn,.l [] true,.l [] true,k0⟩,⟨h.add hp hn _ _ _,⟨_,rfl,by simp⟩,by simp,by simp[Bt.is]⟩,rfl,rfl⟩,?_⟩;unfold By;rw[List.flatMap_append,List.flatMap_cons,List.flatMap_nil,Fj];refine hs2.perm ((List.perm_middle (l₁:=[_,_,_])).trans (.cons _ (OD.trans (List.Perm.append_left _ (List.reverse_perm _).symm))))
 .have hf:=Pf hp he h.len hpre
  conv=>whnf
  repeat'((first|clear U K|apply st|(apply zk;intro K U)|refine zY ?_|refine MZ hs 0 rfl rfl (HJ _) hf ?_|fail)<;>conv=>whnf)
  exact AH ⟨_,⟨_,e,⟨h,.refl _,by simp,he⟩,rfl,rfl⟩,hs⟩
def OX (a:Int) (p:List Int) (s:Int) (hp:p.length<2):Pure zP 152 [CI a p,eI s] (CI a (p++[s])):=by
 refine Pure.of ?_;refine tr kZ ?_;have hs:=Sn
 match p,hp with
 | [],_=>
   conv=>whnf
   repeat'((first|clear U K|apply st|(apply zk;intro K U)|refine zY ?_|refine zs fun Z hs=>?_|refine za (fun hc=>?_) fun hc=>?_|refine zo fun nn hnn Z hs=>?_|fail)<;>conv=>whnf)
   all_goals first
    | exact AH rfl
    | (exfalso;simp at hc;done)
 | [x],_=>
   conv=>whnf
   repeat'((first|clear U K|apply st|(apply zk;intro K U)|refine zY ?_|refine zs fun Z hs=>?_|refine za (fun hc=>?_) fun hc=>?_|refine zo fun nn hnn Z hs=>?_|fail)<;>conv=>whnf)
   all_goals first
    | exact AH rfl
    | (exfalso;simp at hc;done)
def wE {b:Nat} {vn vs:V} {k:Kn} (f:Fact) (c:Bool) (hl:f.op=2\/f.op=3\/f.op=4) (hc:f.op=2->0<=f.cls/\f.cls<64) (hm:k.BL<18446744073709551616) (hn:k.DS<18446744073709551616) (hno:k.no.length<1000000) (hN: -1000000000<=f.n/\f.n<=1000000000) :
    BK zP 153 [.p b 0,.a (xF f++[.b c])] (eS b vn vs k) fun r post=>r= .ret (.t [])/\ ∃vn',post=eS b vn' vs (Bl k f c):=by
 intro Z hs;have hM:=Mx;refine tq kZ ?_;rw[show xF f++[V.b c]= [eI f.op,eI f.arg,.l (iL f.path) false,eI f.cls,eI f.n,.l (f.kids.map FX) false,.b c] from rfl];have hw:IntKind.i64.wrap (f.n - 1)=f.n - 1:=wrap64 (by omega) (by omega);cases c<;>rcases hl with h2|h3|h4
 .have hE:Bl k f false= {k with BL:=k.BL|||2 ^ f.cls.toNat}:=by rw[Bl,if_pos h2,if_neg Bool.false_ne_true]
  rw[hE]
  conv=>whnf
  repeat'((first|clear U K|apply st|(apply zk;intro K U)|refine zY ?_|refine zs fun Z hs=>?_|refine Pure.use (MR _ _ hm (by omega) (by omega)) ?_|(refine zb (fun hc=>?_) (fun hc=>?_)<;>try exact⟨⟩)|fail)<;>conv=>whnf)
  exact AH ⟨_,⟨rfl,vn,rfl⟩,hs⟩
 .have hE:Bl k f false= {k with high:=if f.n - 1<k.high then f.n - 1 else k.high,whole:=true}:=by rw[Bl,if_neg (by omega),if_pos h3,if_neg Bool.false_ne_true]
  rw[hE]
  conv=>whnf
  repeat'((first|clear U K|apply st|(apply zk;intro K U)|refine zY ?_|refine zs fun Z hs=>?_|(refine zb (fun hc=>?_) (fun hc=>?_)<;>try exact⟨⟩)|fail)<;>conv=>whnf)
  rw[hw]at hs;exact AH ⟨_,⟨rfl,vn,rfl⟩,hs⟩
 .have hE:Bl k f false= {k with low:=if f.n > k.low then f.n else k.low,high:=if f.n<k.high then f.n else k.high,whole:=true}:=by rw[Bl,if_neg (by omega),if_neg (by omega),if_neg Bool.false_ne_true]
  rw[hE]
  conv=>whnf
  repeat'((first|clear U K|apply st|(apply zk;intro K U)|refine zY ?_|refine zs fun Z hs=>?_|(refine zb (fun hc=>?_) (fun hc=>?_)<;>try exact⟨⟩)|fail)<;>conv=>whnf)
  exact AH ⟨_,⟨rfl,vn,rfl⟩,hs⟩
 .have hE:Bl k f true= {k with DS:=k.DS|||2 ^ f.cls.toNat}:=by rw[Bl,if_pos h2,if_pos rfl]
  rw[hE]
  conv=>whnf
  repeat'((first|clear U K|apply st|(apply zk;intro K U)|refine zY ?_|refine zs fun Z hs=>?_|refine Pure.use (MR _ _ hn (by omega) (by omega)) ?_|(refine zb (fun hc=>?_) (fun hc=>?_)<;>try exact⟨⟩)|fail)<;>conv=>whnf)
  exact AH ⟨_,⟨rfl,vn,rfl⟩,hs⟩
 .have hE:Bl k f true= {k with low:=if f.n > k.low then f.n else k.low}:=by rw[Bl,if_neg (by omega),if_pos h3,if_pos rfl]
  rw[hE]
  conv=>whnf
  repeat'((first|clear U K|apply st|(apply zk;intro K U)|refine zY ?_|refine zs fun Z hs=>?_|(refine zb (fun hc=>?_) (fun hc=>?_)<;>try exact⟨⟩)|fail)<;>conv=>whnf)
  exact AH ⟨_,⟨rfl,vn,rfl⟩,hs⟩
 .have hE:Bl k f true= {k with no:=k.no++[f.n]}:=by rw[Bl,if_neg (by omega),if_neg (by omega),if_pos rfl]
  rw[hE]
  conv=>whnf
  repeat'((first|clear U K|apply st|(apply zk;intro K U)|refine zY ?_|refine zs fun Z hs=>?_|refine aq fun v Z hs hsl=>?_|(refine zb (fun hc=>?_) (fun hc=>?_)<;>try exact⟨⟩)|fail)<;>conv=>whnf)
  exact AH ⟨_,⟨rfl,_,rfl⟩,hs⟩
end Go.Gl
