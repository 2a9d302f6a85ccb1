import Derived.Test.YtinppljblkpedaaGreatProg
import Derived.KernelRfl
import Derived.Test.YtinppljblkpedaaGreatU14
import Derived.Test.YtinppljblkpedaaGreatU20
import Derived.Test.YtinppljblkpedaaGreatU23
import Derived.Test.YtinppljblkpedaaGreatU25
import Derived.Test.YtinppljblkpedaaGreatU27
import Derived.Test.YtinppljblkpedaaGreatU35
import Derived.Test.YtinppljblkpedaaGreatU36
set_option linter.all false
set_option linter.defProp false
set_option maxHeartbeats 8000000
noncomputable section
namespace Go.Gl
open Go.Proofs
attribute [local irreducible] As Ag AY AQ AL AX AP AR AK AW AM AN Ai Ap Sat AT An AZ W
def kr {p:Prog} {l:List Int} {k:Nat} {x:Int} (hx:l[k]? =some x) (kd:Int):EM p (l.take (k+1)) kd=if(BY p x).kind==kd then EM p (l.take k) kd++[x]else EM p (l.take k) kd:=by
 rw[AU hx,EM,List.filter_append];cases hp:(BY p x).kind==kd<;>simp[EM,hp]
def Mt {p:Prog} {l:List Int} {k:Nat} {kd:Int} (h:l.length<=16):(EM p (l.take k) kd).length<=16:=by
 have:=TZ (fun m=>(BY p m).kind==kd) (l.take k);rw[Je]at this;simp only[EM];omega
def tC (p:Prog) (L:Nat) (l:List Int) (f:Bool) (h:(BQ p).isSome=true) (hG:Zk p l) (M:List (Int×Int)) :
    BL zP 261 [Tb p L,.l (iL l) f] [.map L (LZ p M)] fun r post=>r= .ret (.t [.a (plV (ML (Az p) p l).1 true (!(ML (Az p) p l).2)),.b (ML (Az p) p l).2])/\ ∃M',post= [.map L (LZ p M')]:=by
 intro Z hs;have hM:=Mx;have hok:=look_ok h;have hgw:=LL h;have hfm:=pc h;have h16:=hG.many;have hm16:=hok.many;generalize hX:ML (Az p) p l=X;refine vz kZ ?_
 conv=>whnf
 repeat'((first|clear U K|apply st|(apply zk;intro K U)|refine zo fun nn hnn Z hs=>?_|fail)<;>conv=>whnf)
 rename_i n4 _ _ _;clear hnn;refine B4 l.length (fun k (_:V×V×V×V)=>[(13,eI (A7 k))]) (fun k x=>[.own x.1 1 (iL (EM p (l.take k) 1)),.own x.2.1 1 (iL (EM p (l.take k) 2)),.own x.2.2.1 1 (iL (EM p (l.take k) 3)),.own x.2.2.2 1 (iL (EM p (l.take k) 4)),.box nn [.l [] true,x.1,x.2.1,x.2.2.1,x.2.2.2],.box n4 [.l [] true,.b false,.l [] true,.l [] true,.b false,.l [] true],.map L (LZ p M)]) (fun _ _=>True) (.l [] true,.l [] true,.l [] true,.l [] true) rfl trivial (Ch (Ch (Ch (Ch hs 1) 1) 1) 1) ?_;clear hs;rintro k ⟨v1,v2,v3,v4⟩ Z hk - hs;dsimp only at hs;dsimp only;rcases A9 l hk with⟨x,hx,hlt⟩|hke
 .have hmx:=hG.MN x (B6 hx)
  have hxm:=Cm hmx;obtain⟨hkr,-⟩:=ah h (B6 hxm);have hst:=kr (p:=p) hx;simp only[Bd,A4,B7]at hmx;have l1:(EM p (l.take k) 1).length<=16:=Mt h16;have l2:(EM p (l.take k) 2).length<=16:=Mt h16;have l3:(EM p (l.take k) 3).length<=16:=Mt h16;have l4:(EM p (l.take k) 4).length<=16:=Mt h16;have s1:=hst 1;have s2:=hst 2;have s3:=hst 3;have s4:=hst 4;clear hst;generalize BY p x=y at *;generalize EM p (l.take k) 1=z1 at *;generalize EM p (l.take k) 2=z2 at *;generalize EM p (l.take k) 3=z3 at *;generalize EM p (l.take k) 4=z4 at *;obtain⟨kd,gn,fc,nd⟩:=y;dsimp only at hkr s1 s2 s3 s4;rcases(show kd=1\/kd=2\/kd=3\/kd=4 by omega)with rfl|rfl|rfl|rfl
  .rw[if_pos (beq_self_eq_true _)]at s1
   rw[if_neg (by decide)]at s2 s3 s4;have hll:z1.length<Ab/\(z1.length+1)*8<=140737488355328:=by omega
   clear l1 l2 l3 l4
   conv=>whnf
   repeat'((first|clear U K|apply st|(apply zk;intro K U)|refine zY ?_|refine zs fun Z hs=>?_|refine aq fun v Z hs hsl=>?_|refine qa (j:=1) ?_ (by decide) (by decide)|fail)<;>conv=>whnf)
   exact⟨hlt,(v,v2,v3,v4),rfl,trivial,by rw[s1,s2,s3,s4];exact hs⟩
  .rw[if_pos (beq_self_eq_true _)]at s2
   rw[if_neg (by decide)]at s1 s3 s4;have hll:z2.length<Ab/\(z2.length+1)*8<=140737488355328:=by omega
   clear l1 l2 l3 l4
   conv=>whnf
   repeat'((first|clear U K|apply st|(apply zk;intro K U)|refine zY ?_|refine zs fun Z hs=>?_|refine aq fun v Z hs hsl=>?_|refine qa (j:=2) ?_ (by decide) (by decide)|fail)<;>conv=>whnf)
   exact⟨hlt,(v1,v,v3,v4),rfl,trivial,by rw[s1,s2,s3,s4];exact hs⟩
  .rw[if_pos (beq_self_eq_true _)]at s3
   rw[if_neg (by decide)]at s1 s2 s4;have hll:z3.length<Ab/\(z3.length+1)*8<=140737488355328:=by omega
   clear l1 l2 l3 l4
   conv=>whnf
   repeat'((first|clear U K|apply st|(apply zk;intro K U)|refine zY ?_|refine zs fun Z hs=>?_|refine aq fun v Z hs hsl=>?_|refine qa (j:=3) ?_ (by decide) (by decide)|fail)<;>conv=>whnf)
   exact⟨hlt,(v1,v2,v,v4),rfl,trivial,by rw[s1,s2,s3,s4];exact hs⟩
  .rw[if_pos (beq_self_eq_true _)]at s4
   rw[if_neg (by decide)]at s1 s2 s3;have hll:z4.length<Ab/\(z4.length+1)*8<=140737488355328:=by omega
   clear l1 l2 l3 l4
   conv=>whnf
   repeat'((first|clear U K|apply st|(apply zk;intro K U)|refine zY ?_|refine zs fun Z hs=>?_|refine aq fun v Z hs hsl=>?_|refine qa (j:=4) ?_ (by decide) (by decide)|fail)<;>conv=>whnf)
   exact⟨hlt,(v1,v2,v3,v),rfl,trivial,by rw[s1,s2,s3,s4];exact hs⟩
 .rw [BA hke]at hs
  obtain⟨o1,d1⟩:=hG.of 1;obtain⟨o2,d2⟩:=hG.of 2;obtain⟨o3,d3⟩:=hG.of 3;obtain⟨o4,d4⟩:=hG.of 4;have hpl:ML (Az p) p l=if(EM p l 1).isEmpty then(yd,false)else(⟨(DU (Az p) (EM p l 4).length (EM p l 4)).1,(DU (Az p) (EM p l 4).length (EM p l 4)).2,Ho (Az p) (EM p l 2).length (LF (EM p l 2)),(DU (Az p) (EM p l 1).length (EM p l 1)).1,(DU (Az p) (EM p l 1).length (EM p l 1)).2,(Ho (Az p) (EM p l 3).length (LF (EM p l 3))).reverse⟩,true):=rfl
  rw[hpl]at hX;clear hpl;have e4:=fun M=>bc p L (EM p l 4) false hok hgw hfm o4 d4 M
  have e2:=fun M=>ep p L (EM p l 2) false hok hgw hfm o2 d2 M
  have e1:=fun M=>bc p L (EM p l 1) false hok hgw hfm o1 d1 M
  have e3:=fun M=>Za p L (EM p l 3) false hok hgw hfm o3 d3 M
  rw[Se d2]at e2;rw[Se d3]at e3;have hl1:=o1.many
  have hbl:(Ho (Az p) (EM p l 3).length (LF (EM p l 3))).length<=16:=by
   have: ∀k l,(Ho (Az p) k l).length=k:=fun k=>by
    induction k with
    | zero=>intro l;rfl
    | succ k ih=>intro l;simp only[Ho,HH,ih]
   rw[this];exact o3.many
  clear o1 o2 o3 o4 d1 d2 d3 d4 hG;generalize Ho (Az p) (EM p l 3).length (LF (EM p l 3))=xs at *;generalize Ho (Az p) (EM p l 2).length (LF (EM p l 2))=bs at *;generalize DU (Az p) (EM p l 4).length (EM p l 4)=q4 at *;generalize DU (Az p) (EM p l 1).length (EM p l 1)=q1 at *;generalize EM p l 1=l1 at *;generalize EM p l 2=l2 at *;generalize EM p l 3=l3 at *;generalize EM p l 4=l4 at *;obtain⟨r4,t4⟩:=q4;obtain⟨r1,t1⟩:=q1;dsimp only at e1 e4;by_cases hz:l1.length=0
  .have he:l1.isEmpty=true:=by simpa using hz
   rw[he,if_pos rfl]at hX;subst hX
   conv=>whnf
   repeat'((first|clear U K|apply st|(apply zk;intro K U)|refine zY ?_|(refine zb (fun hc=>?_) (fun hc=>?_)<;>try exact⟨⟩)|refine zo fun nn hnn Z hs=>?_|fail)<;>conv=>whnf)
   refine FF hs 6 rfl rfl rfl (by simp) (by decide) fun Z hs=>?_
   refine zz ?_;(repeat clear U K);repeat intro K U
   refine Vl hs 6 rfl ?_;refine zz ?_;(repeat clear U K);repeat intro K U
   exact Au (hs.front (j:=7) rfl) (.cons₂ _ (Oq _)) (.refl _) fun Z' hs'=>⟨_,⟨rfl,M,rfl⟩,hs'⟩
  .have he:l1.isEmpty=false:=by cases l1 with
    | nil=>simp at hz
    | cons=>rfl
   rw[he,if_neg (by decide)]at hX;subst hX
   conv=>whnf
   repeat'((first|clear U K|apply st|(apply zk;intro K U)|refine zY ?_|(refine zb (fun hc=>?_) (fun hc=>?_)<;>try exact⟨⟩)|refine zo fun nn hnn Z hs=>?_|fail)<;>conv=>whnf)
   obtain⟨Z2,g1,g2,g3⟩:=HT hs 4 rfl;refine As.SO ((e4 M).use (rest:=_) (g3.front (j:=6) rfl) ?_) g1 (.cons (.refl _) (.cons g2 .nil));clear hs g1 g2 g3;rintro r post Z ⟨rfl,M,rfl⟩ hs
   conv=>whnf
   repeat'((first|clear U K|apply st|(apply zk;intro K U)|refine zY ?_|refine zs fun Z hs=>?_|fail)<;>conv=>whnf)
   obtain⟨Z2,g1,g2,g3⟩:=HT hs 3 rfl;refine As.SO ((e2 M).use (rest:=_) g3 ?_) g1 (.cons (.refl _) (.cons g2 .nil));clear hs g1 g2 g3;rintro r post Z ⟨rfl,M,rfl⟩ hs
   conv=>whnf
   repeat'((first|clear U K|apply st|(apply zk;intro K U)|refine zY ?_|refine zs fun Z hs=>?_|fail)<;>conv=>whnf)
   obtain⟨Z2,g1,g2,g3⟩:=HT hs 2 rfl;refine As.SO ((e1 M).use (rest:=_) g3 ?_) g1 (.cons (.refl _) (.cons g2 .nil));clear hs g1 g2 g3;rintro r post Z ⟨rfl,M,rfl⟩ hs
   conv=>whnf
   repeat'((first|clear U K|apply st|(apply zk;intro K U)|refine zY ?_|refine zs fun Z hs=>?_|fail)<;>conv=>whnf)
   obtain⟨Z2,g1,g2,g3⟩:=HT hs 2 rfl;refine As.SO ((e3 M).use (rest:=_) g3 ?_) g1 (.cons (.refl _) (.cons g2 .nil));clear hs g1 g2 g3;rintro r post Z ⟨v,M,rfl,rfl,hv⟩ hs
   conv=>whnf
   repeat'((first|clear U K|apply st|(apply zk;intro K U)|refine zY ?_|refine zs fun Z hs=>?_|fail)<;>conv=>whnf)
   refine(dH xs v (by omega) hv).use (rest:=_) hs ?_;clear hs;rintro r post Z ⟨rfl,rfl⟩ hs;refine zz ?_;(repeat clear U K);repeat intro K U
   have o1:=FZ hs 0 rfl;refine FF hs 4 rfl rfl rfl (by simp[o1]) (by decide) fun Z hs=>?_
   clear o1;refine zz ?_;(repeat clear U K);repeat intro K U
   obtain⟨Z2,g1,g2,g3⟩:=HT hs 0 rfl;exact Fx g1 (.t (.cons (.a (.cons (.refl _) (.cons (.refl _) (.cons (.refl _) (.cons (.refl _) (.cons (.refl _) (.cons g2 .nil))))))) (.cons (.refl _) .nil))) ⟨_,⟨rfl,M,rfl⟩,g3.less (.cons₂ _ (Oq _))⟩
end Go.Gl
namespace Go.Gl
open Go.Proofs
def om {p:Prog} {l:List Int} (hok:FC p) (h:GN p l false=true):Zk p l:=by
 rw[GN,A4,Cu,B7]at h;obtain⟨h1,h2⟩:=h
 have hm: ∀x∈l,Bd p x=true/\(BY p x).gen=(BY p (l.getD 0 0)).gen:=fun x hx=>by
  have:=h1 x hx;simp only[ml,A4,CF]at this;exact⟨this.1,this.2.1⟩
 refine⟨fun x hx=>(hm x hx).1,fun x hx y hy=>(hm x hx).2.trans (hm y hy).2.symm,h2,Nat.le_trans (QS p.methods.length l h2 fun x hx=>?_) hok.many⟩;have:=(hm x hx).1;simp only[Bd,A4,B7]at this;omega
def gE (x:Pl×Bool):Pl×Int:=if x.2 then(x.1,0)else(yd,5)
def T0 (p:Prog) (l:List Int):Pl×Int:=if(BQ p).isSome&&GN p l false then gE (ML (Az p) p l)else(yd,2)
abbrev plE (x:Pl×Int) (g:Bool):V:= .t [.a (plV x.1 g (x.2 != 0)),eI x.2]
attribute [local irreducible] As Ag AY AQ AL AX AP AR AK AW AM AN Ai Ap Sat AT An AZ W
def yK (p:Prog) (l:List Int) (f:Bool) (hl:l.length<=1000):Pure zP 183 [.a (BF p),.l (iL l) f] (plE (T0 p l) true):=by
 refine Pure.of ?_;have hr:=kQ p;generalize hX:T0 p l=X;rw[T0]at hX;refine xB kZ ?_;have hs:=Sn
 conv=>whnf
 repeat'((first|clear U K|apply st|(apply zk;intro K U)|refine zY ?_|refine zo fun nn hnn Z hs=>?_|fail)<;>conv=>whnf)
 refine hr.use (rest:=_) hs ?_;clear hs;cases h:(BQ p).isSome
 .have c1:=oo l f false
  rw[h,Bool.false_and,if_neg (by decide)]at hX;subst hX;rintro r post Z ⟨rfl,rfl⟩ hs
  conv=>whnf
  repeat'((first|clear U K|apply st|(apply zk;intro K U)|refine zY ?_|refine zs fun Z hs=>?_|refine zC ?_|fail)<;>conv=>whnf)
  exact AJ (by rfl)
 .rintro r post Z ⟨L,rfl,rfl⟩ hs
  have c1:=tp p L l f false hl;cases hb:GN p l false<;>rw[hb]at c1 hX
  .rw[Bool.and_false,if_neg (by decide)]at hX
   subst hX
   conv=>whnf
   repeat'((first|clear U K|apply st|(apply zk;intro K U)|refine zY ?_|refine zs fun Z hs=>?_|refine zC ?_|fail)<;>conv=>whnf)
   exact AJ (by rfl)
  .have c3:=tC p L l f h (om (look_ok h) hb) []
   rw[h,Bool.and_self,if_pos rfl]at hX;generalize ML (Az p) p l=x at *;obtain⟨x,b⟩:=x;cases b
   all_goals
    subst hX
    conv=>whnf
    repeat'((first|clear U K|apply st|(apply zk;intro K U)|refine zY ?_|refine zC ?_|fail)<;>conv=>whnf)
    refine c3.use (rest:=_) hs ?_;clear hs;rintro r post Z ⟨rfl,M,rfl⟩ hs
    conv=>whnf
    repeat'((first|clear U K|apply st|(apply zk;intro K U)|refine zY ?_|refine zs fun Z hs=>?_|refine zo fun nn hnn Z hs=>?_|fail)<;>conv=>whnf)
    exact AJ (by rfl)
end Go.Gl
namespace Go.Gl
open Go.Proofs
attribute [local irreducible] As Ag AY AQ AL AX AP AR AK AW AM AN Ai Ap Sat AT An AZ W
def sh (ar:List Int) (fI:Bool) (be pr:List Int) (prt:Bool) (af:List Int):stO (⟨ar,fI,be,pr,prt,af⟩,true)=if decide (ar.length=0)&&(fI||decide (pr.length=0))then 3 else if fI||prt then 2 else 1:=by
 rw[stO,if_pos rfl];cases ar<;>cases pr<;>simp
abbrev O6 (p:Prog) (gen:Int):List V:=BF p++[eI gen,.l (iL (Bu p gen)) false]
abbrev ye:List V:=[.l [] true,eI 0,.l [] true,.l [] true,.l [] true,eI 0,eI 0,.l [] true]
def AA2 (p:Prog) (gen:Int):Pure zP 111 [.a (BF p),eI gen] (.t [.a (if C5 p gen then O6 p gen else ye),.b (C5 p gen)]):=by
 refine Pure.fit (by kernel_rfl) fun hf=>?_
 have hP:=JM hf.1;have⟨p1,p2,p3,p4⟩:=Gq hf.1;have hM:=Mx;have c1:=XM p;rw[C5];cases h1:(BQ p).isSome<;>rw[h1]at c1
 .rw[if_neg (by decide)]at c1
  refine Ye kZ ?_;have hs:=Sn;exact zW
 rw[if_pos rfl]at c1;have h16:=(look_ok h1).many;cases h2:R2 p gen
 .simp only[R2,Bool.and_eq_false_iff,decide_eq_false_iff_not]at h2
  refine Ye kZ ?_;have hs:=Sn
  conv=>whnf
  repeat'((first|clear U K|apply st|(apply zk;intro K U)|refine zY ?_|refine zs fun Z hs=>?_|refine zC ?_|(refine zb (fun hc=>?_) (fun hc=>?_)<;>try exact⟨⟩)|refine zo fun nn hnn Z hs=>?_|fail)<;>conv=>whnf)
  all_goals first
   | exact AG rfl
   | (exfalso;simp at *;omega)
 have h2r:=h2;simp only[R2,A4,B7]at h2r;refine Ye kZ ?_;have hs:=Sn
 conv=>whnf
 repeat'((first|clear U K|apply st|(apply zk;intro K U)|refine zY ?_|refine zs fun Z hs=>?_|refine zC ?_|(refine zb (fun hc=>?_) (fun hc=>?_)<;>try exact⟨⟩)|refine zo fun nn hnn Z hs=>?_|fail)<;>conv=>whnf)
 rename_i n4 _ _ _ _ _ _ _;refine B4 p.methods.length (fun k (_:V)=>[(30,eI (A7 k))]) (fun k v=>[.box nn (BF p++[eI gen,v]),.box n4 ye,.own v 1 (iL (Xx p gen k))]) (fun _ _=>True) (.l [] true) rfl trivial (EY hs 1) ?_;clear hs;rintro k v Z hk - hs;have hal:=bH p gen k;rcases A9 p.methods hk with⟨x,hx,hlt⟩|hke
 .have hck:A7 k=k:=AS (by omega)
  have hxe:=Uc hx;have hst:=Wn p gen k;rw[hxe]at hst;generalize Xx p gen k=zl at *;have hll:zl.length<Ab/\(zl.length+1)*8<=140737488355328:=by omega
  by_cases hg:x.gen=gen
  .rw[if_pos (CF.2 hg)]at hst
   conv=>whnf
   repeat'((first|clear U K|apply st|(apply zk;intro K U)|refine zY ?_|refine zs fun Z hs=>?_|refine aq fun v Z hs hsl=>?_|(refine zb (fun hc=>?_) (fun hc=>?_)<;>try exact⟨⟩)|refine zo fun nn hnn Z hs=>?_|fail)<;>conv=>whnf)
   exact⟨hlt,_,rfl,trivial,by rw[hst,<-hck];exact hs.less (Gg _ _)⟩
  .rw[if_neg (by simpa using hg)]at hst
   conv=>whnf
   repeat'((first|clear U K|apply st|(apply zk;intro K U)|refine zY ?_|refine zs fun Z hs=>?_|(refine zb (fun hc=>?_) (fun hc=>?_)<;>try exact⟨⟩)|refine zo fun nn hnn Z hs=>?_|fail)<;>conv=>whnf)
   exact⟨hlt,_,rfl,trivial,by rw[hst];exact hs.less (Gg _ _)⟩
 .rw[hke]at hs
  refine zz ?_;(repeat clear U K);repeat intro K U
  have o1:=FZ hs 2 rfl;refine FF hs 1 rfl rfl rfl (by simp[BF,o1]) (by decide) fun Z hs=>?_
  clear o1;refine zz ?_;(repeat clear U K);repeat intro K U
  exact Af (.t (.cons (.a (.cons (.refl _) (.cons (.refl _) (.cons (.refl _) (.cons (.refl _) (.cons (.refl _) (.cons (.refl _) (.cons (.refl _) (.cons (hs.MB 2 rfl) .nil))))))))) (.cons (.refl _) .nil)))
def zT (p:Prog) (gen:Int):Pure zP 112 [.a (O6 p gen)] (eI (if(Bu p gen).length<=8 then 0 else 3)):=by
 have e1:((iL (Bu p gen)).length:Int)=(Bu p gen).length:=by simp
 refine xw kZ ?_;have hs:=Sn
 conv=>whnf
 repeat'((first|clear U K|apply st|(apply zk;intro K U)|refine zY ?_|(refine zd (fun hc=>?_) (fun hc=>?_)<;>try exact⟨⟩)|fail)<;>conv=>whnf)
 .exact AG (by rw[if_neg (by omega)])
 .exact AG (by rw[if_pos (by omega)])
def yj (p : Prog) (gen:Int) (l:List Int) (f:Bool):Pure zP 54 [.a (O6 p gen),.l (iL l) f] (.b (HK p gen l)):=by
 refine Pure.fit (by kernel_rfl) fun hf=>?_
 have hl:=Nj hf.2.1;have hM:=Mx;refine AAb kZ ?_;have hs:=Sn;refine zz ?_;(repeat clear U K);repeat intro K U
 refine B4 l.length (fun i (_:Unit)=>[(9,eI (A7 i))]) (fun _ _=>[]) (fun i _=> ∀k,k<i->Ru p gen l k=true) () rfl (fun k h=>by omega) hs ?_;clear hs;rintro i - Z hi ho hs;rcases A9 l hi with⟨x,hx,hlt⟩|hie
 .have hci:A7 i=i:=AS (by omega)
  have hx0:=Ee hx;have hbad:=fun h=>kN (p:=p) (gen:=gen) hlt h
  have hgood:Ru p gen l i=true-> ∀k,k<i+1->Ru p gen l k=true:=fun h k hk=>by
   rcases Nat.lt_or_ge k i with h1|h1
   .exact ho k h1
   .rw[show k=i by omega];exact h
  rw[Ru,hx0,<-Bool.and_assoc,<-Mc]at hbad hgood;have c1:=B3 (Bu p gen) false x;cases hmx:(Bu p gen).contains x<;>rw[hmx]at c1 hbad hgood
  .conv=>whnf
   repeat'((first|clear U K|apply st|(apply zk;intro K U)|refine zY ?_|refine zC ?_|fail)<;>conv=>whnf)
   all_goals exact AG (by rw[hbad rfl])
  .rcases Nat.eq_zero_or_pos i with h0|h0
   .subst h0
    conv=>whnf
    repeat'((first|clear U K|apply st|(apply zk;intro K U)|refine zY ?_|refine zC ?_|(refine zb (fun hc=>?_) (fun hc=>?_)<;>try exact⟨⟩)|fail)<;>conv=>whnf)
    all_goals try(exfalso;simp[hci]at hc;done)
    all_goals exact⟨hlt,(),rfl,hgood (by simp),hs⟩
   .obtain⟨z,hz⟩: ∃z,l[i - 1]? =some z:=⟨_,Cd (by omega)⟩
    have hz0:=Ee hz;rw[hz0]at hbad hgood;have hwi:IntKind.i64.wrap ((i:Int) - 1)=((i - 1:Nat):Int):=by rw[wrap64 (by omega) (by omega)];omega
    have hw0:0<=IntKind.i64.wrap (A7 i - 1):=by rw[hci,hwi];omega
    have hwz:l[(IntKind.i64.wrap (A7 i - 1)).toNat]? =some z:=by rw[hci,hwi];simpa using hz
    clear hwi;by_cases hzx:z≥x
    .conv=>whnf
     repeat'((first|clear U K|apply st|(apply zk;intro K U)|refine zY ?_|refine zC ?_|(refine zb (fun hc=>?_) (fun hc=>?_)<;>try exact⟨⟩)|fail)<;>conv=>whnf)
     all_goals try(exfalso;simp at hc;omega)
     all_goals exact AG (by rw[hbad (by simp[h0,hzx])])
    .conv=>whnf
     repeat'((first|clear U K|apply st|(apply zk;intro K U)|refine zY ?_|refine zC ?_|(refine zb (fun hc=>?_) (fun hc=>?_)<;>try exact⟨⟩)|fail)<;>conv=>whnf)
     all_goals try(exfalso;simp at hc;omega)
     all_goals exact⟨hlt,(),rfl,hgood (by simp;omega),hs⟩
 .have hsb:HK p gen l=true:=Z6 fun k hk=>ho k (by omega)
  refine zz ?_;(repeat clear U K);repeat intro K U
  all_goals exact AG (by rw[hsb])
def gb (a b c:Bool):Pure zP 184 [.b a,.b b,.b c] (eI (if a then 4 else if b then 3 else if c then 2 else 1)):=by
 cases a<;>cases b<;>cases c
 all_goals
  refine xA kZ ?_;have hs:=Sn;exact zW
def len0 (l:List Int):(((iL l).length:Int)==0)=decide (l.length=0):=by
 rw[Bc,Hl,CF,B7];omega
def YK (p:Prog) (gen:Int) (l:List Int) (f:Bool) (h:C5 p gen=true) (hB:HK p gen l=true):Pure zP 105 [.a (O6 p gen),.l (iL l) f] (eI (Zd p l)):=by
 rw[C5,A4]at h;have hok:=look_ok h.1;have c1:=yK p l f (Nat.le_trans (kL hB) (Nat.le_trans hok.many (by decide)));rw[T0,h.1,Sh hB,Bool.and_self,if_pos rfl]at c1;rw[Zd];clear h hok hB;generalize ML (Az p) p l=x at *;obtain⟨⟨ar,fI,be,pr,prt,af⟩,b⟩:=x;cases b
 .rw[show gE (⟨ar,fI,be,pr,prt,af⟩,false)=(yd,5) from rfl]at c1
  refine jG kZ ?_;have hs:=Sn
  conv=>whnf
  repeat'((first|clear U K|apply st|(apply zk;intro K U)|refine zY ?_|refine zs fun Z hs=>?_|refine c1.use ?_|refine Pure.use (gb _ _ _) ?_|(refine zb (fun hc=>?_) (fun hc=>?_)<;>try exact⟨⟩)|refine zo fun nn hnn Z hs=>?_|fail)<;>conv=>whnf)
  all_goals exact AG rfl
 rw[show gE (⟨ar,fI,be,pr,prt,af⟩,true)=(⟨ar,fI,be,pr,prt,af⟩,0) from rfl]at c1;rw[sh];cases ha:decide (ar.length=0)<;>cases hp:decide (pr.length=0)<;>cases fI<;>cases prt
 all_goals
  first|replace ha:=of_decide_eq_true ha|replace ha:=of_decide_eq_false ha
  first|replace hp:=of_decide_eq_true hp|replace hp:=of_decide_eq_false hp
  refine jG kZ ?_;have hs:=Sn
  conv=>whnf
  repeat'((first|clear U K|apply st|(apply zk;intro K U)|refine zY ?_|refine zs fun Z hs=>?_|refine c1.use ?_|refine Pure.use (gb _ _ _) ?_|(refine zb (fun hc=>?_) (fun hc=>?_)<;>try exact⟨⟩)|refine zo fun nn hnn Z hs=>?_|fail)<;>conv=>whnf)
  all_goals first|exact AG rfl|exact AG (by simp only[len0];simp[ha,hp])
def La (p:Prog) (gen:Int) (b:Bool):Int:=if C5 p gen then(if b then(if(Bu p gen).length<=8 then 0 else 3)else 2)else 2
abbrev YC (p:Prog) (gen:Int) (b:Bool):List V:=if C5 p gen&&b then O6 p gen else ye
def Et {p:Prog} {gen:Int} (h:C5 p gen=false) (b:Bool):YC p gen b=ye/\La p gen b=2:=by rw[YC,La,h];exact⟨rfl,rfl⟩
def JP {p:Prog} {gen:Int}:YC p gen false=ye/\La p gen false=2:=by
 rw[YC,La,Bool.and_false];exact⟨rfl,by split<;>rfl⟩
def EK {p:Prog} {gen:Int} (h:C5 p gen=true):YC p gen true=O6 p gen/\La p gen true=if(Bu p gen).length<=8 then 0 else 3:=by rw[YC,La,h];exact⟨rfl,rfl⟩
def Lg (p:Prog) (gen:Int) (k:Nat) (ca:List V) (b:Bool) (c2:C5 p gen=true->Pure zP k (.a (O6 p gen)::ca) (.b b)):Pure zP 49 [.a (BF p),eI gen,.f (.func k) [] ca] (.t [.a (YC p gen b),eI (La p gen b)]):=by
 have c1:=AA2 p gen;have c3:=zT p gen;cases h1:C5 p gen<;>rw[h1]at c1
 .rw[(Et h1 b).1,(Et h1 b).2]
  rw[if_neg (by decide)]at c1;refine gT kZ ?_;have hs:=Sn;exact zW
 replace c2:=c2 h1;rw[if_pos rfl]at c1;cases b
 .rw[JP.1,JP.2]
  refine gT kZ ?_;have hs:=Sn
  conv=>whnf
  repeat'((first|clear U K|apply st|(apply zk;intro K U)|refine zY ?_|refine zs fun Z hs=>?_|refine c1.use ?_|refine A0 (c2.use ?_)|refine zo fun nn hnn Z hs=>?_|fail)<;>conv=>whnf)
  all_goals exact AG rfl
 .rw[(EK h1).1,(EK h1).2]
  refine gT kZ ?_;have hs:=Sn
  conv=>whnf
  repeat'((first|clear U K|apply st|(apply zk;intro K U)|refine zY ?_|refine rk ?_ ?_|exact fun s e=>by cases e;rfl|refine zs fun Z hs=>?_|refine c1.use ?_|refine A0 (c2.use ?_)|refine c3.use ?_|refine zo fun nn hnn Z hs=>?_|fail)<;>conv=>whnf)
  all_goals exact AG rfl
def ee (p:Prog) (gen:Int) (l:List Int) (f:Bool):Pure zP 108 [.a (O6 p gen),.rp [.l (iL l) f]] (.b (HK p gen l)):=by
 have c1:=yj p gen l f;refine xz kZ ?_;have hs:=Sn;exact zW
def yI (p:Prog) (gen:Int) (l:List Int) (f:Bool):Pure zP 42 [.a (BF p),eI gen,.l (iL l) f] (.t [eI (Tw p gen l).1,eI (Tw p gen l).2]):=by
 have c1:=Lg p gen 108 [.rp [.l (iL l) f]] (HK p gen l) fun _=>ee p gen l f
 rw[Tw];cases h1:C5 p gen
 .rw[(Et h1 _).1,(Et h1 _).2]at c1
  rw[if_neg (by decide)];refine Zr kZ ?_;have hs:=Sn;exact zW
 rw[if_pos rfl];cases h2:HK p gen l<;>rw[h2]at c1
 .rw[JP.1,JP.2]at c1
  rw[if_neg (by decide)];refine Zr kZ ?_;have hs:=Sn;exact zW
 rw[(EK h1).1,(EK h1).2]at c1;rw[if_pos rfl];have c2:=YK p gen l f h1 h2;by_cases h3:(Bu p gen).length<=8
 .rw[if_pos h3]at c1 ⊢
  refine Zr kZ ?_;have hs:=Sn;exact zW
 .rw[if_neg h3]at c1 ⊢
  refine Zr kZ ?_;have hs:=Sn;exact zW
end Go.Gl
namespace Go.Gl
open Go.Proofs
def Dk (f:Fact) (c:Bool) (j:Nat) (a:Int) (p:List Int) (k:Kn):Kn:=
 if f.arg=a/\Bn f.path p=true then(if p.length<j then mj (Bz k c) (f.path.getD p.length 0)else if p.length=j then Bz k c else k)else k
def pM (f:Fact) (c:Bool) (a:Int) (p:List Int) (k:Kn):Dk f c 0 a p k=if a=f.arg/\p= []then Bz k c else k:=by
 unfold Dk;by_cases h:f.arg=a/\Bn f.path p=true
 .rw[if_pos h,if_neg (by omega)]
  by_cases hp:p.length=0
  .rw[if_pos hp,if_pos ⟨h.1.symm,Xv.1 hp⟩]
  .rw[if_neg hp,if_neg (fun h'=>hp (by rw[h'.2];rfl))]
 .rw[if_neg h,if_neg]
  rintro⟨rfl,rfl⟩;exact h ⟨rfl,B1.2 ⟨f.path,by simp⟩⟩
def pN (f:Fact) (c:Bool) {j:Nat} (hj:j<f.path.length) (a:Int) (p:List Int) (k:Kn):Dk f c (j+1) a p k=if a=f.arg/\p=f.path.take (j+1)then Bz (Dk f c j a p k) c else if a=f.arg/\p=f.path.take j then mj (Dk f c j a p k) (f.path.getD j 0)else Dk f c j a p k:=by
 unfold Dk;by_cases h:f.arg=a/\Bn f.path p=true
 .rw [if_pos h,if_pos h]
  obtain⟨h1,h2⟩:=h;rw[Hk]at h2;obtain⟨h2,h3⟩:=h2;have l1:p=f.path.take (j+1)↔p.length=j+1:=⟨fun e=>by rw[e,Je];omega,fun e=>by rw[e]at h3;exact h3⟩
  have l2:p=f.path.take j↔p.length=j:=⟨fun e=>by rw[e,Je];omega,fun e=>by rw[e]at h3;exact h3⟩
  have n1:p.length≠j+1-> ¬(a=f.arg/\p=f.path.take (j+1)):=fun h h'=>h (l1.1 h'.2)
  have n2:p.length≠j-> ¬(a=f.arg/\p=f.path.take j):=fun h h'=>h (l2.1 h'.2)
  by_cases q1:p.length<j
  .rw[if_pos (show p.length<j+1 by omega),if_neg (n1 (by omega)),if_neg (n2 (by omega)),if_pos q1]
  .by_cases q2:p.length=j
   .rw[if_pos (show p.length<j+1 by omega),if_neg (n1 (by omega)),if_pos (show a=f.arg/\p=f.path.take j from⟨h1.symm,l2.2 q2⟩),if_neg q1,if_pos q2,q2]
   .by_cases q3:p.length=j+1
    .rw[if_neg (show¬p.length<j+1 by omega),if_pos q3,if_pos (show a=f.arg/\p=f.path.take (j+1) from⟨h1.symm,l1.2 q3⟩),if_neg q1,if_neg q2]
    .rw[if_neg (show¬p.length<j+1 by omega),if_neg q3,if_neg (n1 q3),if_neg (n2 q2),if_neg q1,if_neg q2]
 .rw[if_neg h,if_neg h,if_neg,if_neg]
  .rintro⟨rfl,rfl⟩
   exact h ⟨rfl,B1.2 ⟨f.path.drop j,by rw[List.take_append_drop]⟩⟩
  .rintro⟨rfl,rfl⟩
   exact h ⟨rfl,B1.2 ⟨f.path.drop (j+1),by rw[List.take_append_drop]⟩⟩
def uH (a : Int) (p:List Int) (k:Kn) (l:Fact):IE a p k l=if a=(Ad l).1.arg/\p=(Ad l).1.path then Bx (Dk (Ad l).1 (Ad l).2 (Ad l).1.path.length a p k) (Ad l).1 (Ad l).2 else Dk (Ad l).1 (Ad l).2 (Ad l).1.path.length a p k:=by
 unfold IE Dk;by_cases h:(Ad l).1.arg=a/\Bn (Ad l).1.path p=true
 .rw [if_pos h,if_pos h]
  obtain⟨h1,h2⟩:=h;rw[Hk]at h2;obtain⟨h2,h3⟩:=h2;by_cases hp:(Ad l).1.path=p
  .rw[if_pos hp,if_pos ⟨h1.symm,hp.symm⟩,if_neg (by rw[hp];omega),if_pos (by rw[hp])]
  .have hne:p.length<(Ad l).1.path.length:=by
    rcases Nat.lt_or_ge p.length (Ad l).1.path.length with h'|h'
    .exact h'
    .rw[List.take_of_length_le h']at h3
     exact absurd h3.symm hp
   rw[if_neg hp,if_neg (fun h=>hp h.2.symm),if_pos hne]
 .rw[if_neg h,if_neg h,if_neg]
  rintro⟨rfl,rfl⟩;exact h ⟨rfl,KQ _⟩
def pA (ls:List Fact) (l:Fact) (a:Int) (p:List Int):kg (ls++[l]) a p=IE a p (kg ls a p) l:=by
 rw[kg,List.foldl_append];rfl
def XG (l:List Int) (s:Int):(Tt l s).length<=l.length+1:=by
 unfold Tt;split
 .omega
 .simp
def iJ (a:Int) (p:List Int): ∀(ls:List Fact) (k:Kn),(ls.foldl (IE a p) k).no.length<=k.no.length+ls.length/\(ls.foldl (IE a p) k).AI.length<=k.AI.length+ls.length
 | [],k=>⟨Ft _,Ft _⟩
 | l ::r,k=>by
   obtain⟨h1,h2⟩:=iJ a p r (IE a p k l)
   have h3:(IE a p k l).no.length<=k.no.length+1/\(IE a p k l).AI.length<=k.AI.length+1:=by
    unfold IE
    repeat' split
    .have:=Rc (Bz k (Ad l).2) (Ad l).1 (Ad l).2
     rw[Io];simp only[Bz]at this ⊢;omega
    .have:=XG k.AI ((Ad l).1.path.getD p.length 0)
     simp only[mj,Bz]at this ⊢;omega
    .omega
   rw[List.foldl_cons,HH];omega
def pB {n:Nat} {ls:List Fact} (h:Gm n ls) (a:Int) (p:List Int):(kg ls a p).BO<2 ^ n/\(kg ls a p).Dm<2 ^ n:=by
 obtain⟨-,-,-,c4,c5,-⟩:=Km (Uk ls a p);have hc2:Gm n (ls.filter (Iq a p)):=fun l hl=>h l (HD.1 hl).1
 rw[c4,c5];exact⟨Ma hc2,gz hc2⟩
abbrev jd:Aq:=(.seq [2,3] (.H3 [⟨(some 2),.Tp (.t 0),none⟩,
 ⟨(some 3),.Tp (.t 1),none⟩,
 ⟨(some 4),.mv (.c .pn),none⟩])
 (.seq [2,3,5,6] (.H3 [⟨(some 8),.MP 1 (.t 2),none⟩,
  ⟨(some 9),.load none (.t 8),none⟩,
  ⟨(some 10),.load (some 4) (.t 3),none⟩,
  ⟨(some 11),.lookup (.a [.i64,.i64,.i64,.i64]) .pn true (.t 9) (.t 10),none⟩,
  ⟨(some 7),.mv (.t 11),none⟩,
  ⟨(some 12),.extract 0 (.t 7),none⟩,
  ⟨(some 13),.extract 1 (.t 7),none⟩,
  ⟨(some 5),.mv (.t 12),none⟩,
  ⟨(some 6),.mv (.t 13),none⟩])
 (.seq [5] (.seq [2,3,5,15] (.H3 [⟨(some 14),.mv (.t 6),none⟩,
  ⟨(some 15),.not (.t 14),none⟩])
 (.cond (.t 15)
 (.seq [2,3,5] (.H3 [⟨(some 16),.build [(.i .u64 0),(.i .u64 0),(.i .i64 0),(.i .i64 0),(.l [] true),(.b false),(.b false),(.l [] true)] [(2,1,(.c (.i .i64 (-1000000000)))),(3,1,(.c (.i .i64 1000000000)))],none⟩,
  ⟨(some 17),.box (.t 16),none⟩,
  ⟨(some 5),.mv (.t 17),none⟩])
 (.H3 [⟨(some 18),.MP 1 (.t 2),none⟩,
  ⟨(some 19),.load none (.t 18),none⟩,
  ⟨(some 20),.load (some 4) (.t 3),none⟩,
  ⟨(some 21),.mv (.t 5),none⟩,
  ⟨none,.Ht (.a [.i64,.i64,.i64,.i64]) (.t 19) (.t 20) (.t 21),none⟩]))
 .skip))
 (.seq [4] (.H3 [⟨(some 22),.mv (.t 5),none⟩,
  ⟨(some 4),.mv (.t 22),none⟩])
 .ret))))
def oB:Tryz.f196.body.bind (res Tryz.prog Tryz.f196.ntmps [] [2,3])=some (erase jd):=by kernel_rfl
def py {args:List V} (hn:args.length<=23) {Z:AE} {Q:R->AE->Prop} (h:W Tryz.prog jd (fq [4] Q) (C1 0 args) Z):As Tryz.prog 196 args Z Q:=
 L0 Tryz.func196 (by kernel_rfl) oB rfl hn (qc h)
end Go.Gl
namespace Go.Gl
open Go.Proofs
attribute [local irreducible] As Ag AY AQ AL AX AP AR AK AW AM AN Ai Ap Sat AT An AZ W
def qf (s c:Nat) (hs0:s<18446744073709551616) (hc:c<64):Pure zP 195 [eU s,eI c] (eU (s|||2 ^ c)):=by
 refine wq kZ ?_;have hs:=Sn
 conv=>whnf
 repeat'((first|clear U K|apply st|(apply zk;intro K U)|fail)<;>conv=>whnf)
 refine⟨Int.natCast_nonneg _,?_⟩;refine zv ?_;(repeat clear U K);repeat intro K U
 exact AG (by rw[GR,UL hc,Hf hs0 (GI hc)])
def sI (s c:Nat) (hs0:s<18446744073709551616) (hc:c<64):Pure zP 185 [eU s,eI c] (.b (s.testBit c)):=by
 refine w9 kZ ?_;have hs:=Sn
 conv=>whnf
 repeat'((first|clear U K|apply st|(apply zk;intro K U)|fail)<;>conv=>whnf)
 refine⟨Int.natCast_nonneg _,?_⟩;refine zv ?_;(repeat clear U K);repeat intro K U
 refine AG ?_;rw[GR,UK hc];have h1:s >>> c<18446744073709551616:=by rw[Nat.shiftRight_eq_div_pow];exact Nat.lt_of_le_of_lt (Nat.div_le_self _ _) hs0
 have h2:bits .and .u64 ((s >>> c:Nat):Int) 1=((s >>> c&&&1:Nat):Int):=GA h1 (show 1<_ by decide);rw[h2];simp only[Nat.testBit,Nat.and_comm 1];congr 1;rcases Nat.mod_two_eq_zero_or_one (s >>> c)with h|h<;>simp[Nat.and_one_is_mod,h]
def Lb (s:Nat) (c:Int) (hs0:s<18446744073709551616) (h0:0<=c) (hc:c<64):Pure zP 195 [eU s,eI c] (eU (s|||2 ^ c.toNat)):=by
 have:=qf s c.toNat hs0 (by omega);rw[Int.toNat_of_nonneg h0]at this;exact this
def Zo (s:Nat) (c:Int) (hs0:s<18446744073709551616) (h0:0<=c) (hc:c<64):Pure zP 185 [eU s,eI c] (.b (s.testBit c.toNat)):=by
 have:=sI s c.toNat hs0 (by omega);rw[Int.toNat_of_nonneg h0]at this;exact this
abbrev gW (w:AF) (us:List Nat):List V:=[.l (EV w.parents) false,.l (iL w.owner) false,.l (us.map fun u=>[eU u]) false]
abbrev gv (w:AF) (us:List Nat) (L:Nat):List V:=[.rp (gW w us),.m L]
abbrev gR (b:Nat) (vn vs:V) (k:Kn):List At:=[.box b [eU k.BO,eU k.Dm,eI k.low,eI k.high,vn,.b k.whole,.b k.AV,vs],.own vn 1 (iL k.no),.own vs 1 (iL k.AI)]
abbrev Vo (e:Bv):List At:=gR e.b e.vn e.vs e.k
def Bs (L:Nat) (es:List Bv):List At:= .map L (Tf es)::es.flatMap Vo
def JG (L:Nat) (es pre post:List Bv):List At:= .map L (Tf es)::(pre++post).flatMap Vo
def Wj (L:Nat) (pre post:List Bv) (e:Bv):(Bs L (pre++e::post)).Perm (Vo e++JG L (pre++e::post) pre post):=by
 unfold Bs JG;rw[List.flatMap_append,List.flatMap_cons,List.flatMap_append];refine List.Perm.trans ?_ (List.perm_middle.symm);refine List.Perm.cons _ ?_;rw[<-LC,<-LC];exact List.Perm.append_right _ HP
def Uu {L:Nat} {pre post:List Bv} {e e':Bv} (h1:e'.a=e.a) (h2:e'.p=e.p) (h3:e'.b=e.b):JG L (pre++e'::post) pre post=JG L (pre++e::post) pre post:=by
 rw[JG,JG,RK h1 h2 h3]
def Jq {Z:AE} {X:List At} {L:Nat} {pre post:List Bv} {e:Bv} (h:Sat Z (X++Bs L (pre++e::post))):Sat Z (.box e.b [eU e.k.BO,eU e.k.Dm,eI e.k.low,eI e.k.high,e.vn,.b e.k.whole,.b e.k.AV,e.vs]:: .own e.vn 1 (iL e.k.no):: .own e.vs 1 (iL e.k.AI)::(X++JG L (pre++e::post) pre post)):=by
 have h2:Sat Z (Vo e++(X++JG L (pre++e::post) pre post)):=h.perm ((List.Perm.append_left X (Wj L pre post e)).trans (by rw[<-LC,<-LC];exact HP.append_right _));exact h2
def Dh {Z:AE} {X:List At} {L:Nat} {pre post:List Bv} {e e':Bv} (h1:e'.a=e.a) (h2:e'.p=e.p) (h3:e'.b=e.b) (h:Sat Z (Vo e'++(X++JG L (pre++e::post) pre post))):Sat Z (X++Bs L (pre++e'::post)):=by
 rw[<-Uu h1 h2 h3]at h;exact h.perm ((List.Perm.append_left X (Wj L pre post e')).trans (by rw[<-LC,<-LC];exact HP.append_right _)).symm
def me (w:AF) (us:List Nat) {kf:Int->List Int->Kn} {L:Nat} {es:List Bv} (h:Bj kf es) {a:Int} {p:List Int} (hp:p.length<=2) :
    BL zP 196 [.a (gv w us L),B2 a p] (Bs L es) fun r post=> ∃es' e,nQ kf es es' a p e/\r= .ret (.p e.b 0)/\post=Bs L es':=by
 intro Z hs;refine py kZ ?_;unfold Bs at hs;rcases gF a p es with hn|⟨pre,e,post,rfl,he,hpre⟩
 .have hf:=QZ hp h.len hn
  conv=>whnf
  repeat'((first|clear U K|apply st|(apply zk;intro K U)|refine zY ?_|refine Ni hs 0 rfl rfl (IQ _) hf ?_|refine Hb hs 1 rfl rfl (IQ _) fun Z hs=>?_|refine zo fun nn hnn Z hs=>?_|fail)<;>conv=>whnf)
  simp only[List.set_cons_succ,List.set_cons_zero]at hs;change Sat Z (_:: .map L (Du (B2 a p) (.p nn 0) (Tf es))::_)at hs;rw[YU hp nn (.l [] true) (.l [] true) k0 h.len hn]at hs;have hs2:=Ch (Ch hs 1) 1;refine AJ ⟨_,⟨es++[⟨a,p,nn,.l [] true,.l [] true,k0⟩],⟨a,p,nn,.l [] true,.l [] true,k0⟩,⟨h.add hp hn _ _ _,⟨_,rfl,by simp⟩,by simp,by simp[Bv.is]⟩,rfl,rfl⟩,?_⟩;unfold Bs;rw[List.flatMap_append,List.flatMap_cons,List.flatMap_nil,D8];refine hs2.perm ((List.perm_middle (l₁:=[_,_,_])).trans (.cons _ (HP.trans (List.Perm.append_left _ (List.reverse_perm _).symm))))
 .have hf:=QY hp he h.len hpre
  conv=>whnf
  repeat'((first|clear U K|apply st|(apply zk;intro K U)|refine zY ?_|refine Ni hs 0 rfl rfl (IQ _) hf ?_|fail)<;>conv=>whnf)
  exact AJ ⟨_,⟨_,e,⟨h,.refl _,by simp,he⟩,rfl,rfl⟩,hs⟩
def Mg (a:Int) (p:List Int) (s:Int) (hp:p.length<2):Pure zP 197 [B2 a p,eI s] (B2 a (p++[s])):=by
 refine Pure.of ?_;refine wm kZ ?_;have hs:=Sn
 match p,hp with
 | [],_=>
   conv=>whnf
   repeat'((first|clear U K|apply st|(apply zk;intro K U)|refine zY ?_|refine zs fun Z hs=>?_|refine za (fun hc=>?_) fun hc=>?_|refine zo fun nn hnn Z hs=>?_|fail)<;>conv=>whnf)
   all_goals first
    | exact AJ rfl
    | (exfalso;simp at hc;done)
 | [x],_=>
   conv=>whnf
   repeat'((first|clear U K|apply st|(apply zk;intro K U)|refine zY ?_|refine zs fun Z hs=>?_|refine za (fun hc=>?_) fun hc=>?_|refine zo fun nn hnn Z hs=>?_|fail)<;>conv=>whnf)
   all_goals first
    | exact AJ rfl
    | (exfalso;simp at hc;done)
def zA {b:Nat} {vn vs:V} {k:Kn} (f:Fact) (c:Bool) (hl:f.op=2\/f.op=3\/f.op=4) (hc:f.op=2->0<=f.cls/\f.cls<64) (hm:k.BO<18446744073709551616) (hn:k.Dm<18446744073709551616) (hno:k.no.length<1000000) (hN: -1000000000<=f.n/\f.n<=1000000000) :
    BL zP 198 [.p b 0,.a (xF f++[.b c])] (gR b vn vs k) fun r post=>r= .ret (.t [])/\ ∃vn',post=gR b vn' vs (Bx k f c):=by
 intro Z hs;have hM:=Mx;refine wj kZ ?_;rw[show xF f++[V.b c]= [eI f.op,eI f.arg,.l (iL f.path) false,eI f.cls,eI f.n,.l (f.kids.map EI) false,.b c] from rfl];have hw:IntKind.i64.wrap (f.n - 1)=f.n - 1:=wrap64 (by omega) (by omega);cases c<;>rcases hl with h2|h3|h4
 .have hE:Bx k f false= {k with BO:=k.BO|||2 ^ f.cls.toNat}:=by rw[Bx,if_pos h2,if_neg Bool.false_ne_true]
  rw[hE]
  conv=>whnf
  repeat'((first|clear U K|apply st|(apply zk;intro K U)|refine zY ?_|refine zs fun Z hs=>?_|refine Pure.use (Lb _ _ hm (by omega) (by omega)) ?_|(refine zb (fun hc=>?_) (fun hc=>?_)<;>try exact⟨⟩)|fail)<;>conv=>whnf)
  exact AJ ⟨_,⟨rfl,vn,rfl⟩,hs⟩
 .have hE:Bx k f false= {k with high:=if f.n - 1<k.high then f.n - 1 else k.high,whole:=true}:=by rw[Bx,if_neg (by omega),if_pos h3,if_neg Bool.false_ne_true]
  rw[hE]
  conv=>whnf
  repeat'((first|clear U K|apply st|(apply zk;intro K U)|refine zY ?_|refine zs fun Z hs=>?_|(refine zb (fun hc=>?_) (fun hc=>?_)<;>try exact⟨⟩)|fail)<;>conv=>whnf)
  rw[hw]at hs;exact AJ ⟨_,⟨rfl,vn,rfl⟩,hs⟩
 .have hE:Bx k f false= {k with low:=if f.n > k.low then f.n else k.low,high:=if f.n<k.high then f.n else k.high,whole:=true}:=by rw[Bx,if_neg (by omega),if_neg (by omega),if_neg Bool.false_ne_true]
  rw[hE]
  conv=>whnf
  repeat'((first|clear U K|apply st|(apply zk;intro K U)|refine zY ?_|refine zs fun Z hs=>?_|(refine zb (fun hc=>?_) (fun hc=>?_)<;>try exact⟨⟩)|fail)<;>conv=>whnf)
  exact AJ ⟨_,⟨rfl,vn,rfl⟩,hs⟩
 .have hE:Bx k f true= {k with Dm:=k.Dm|||2 ^ f.cls.toNat}:=by rw[Bx,if_pos h2,if_pos rfl]
  rw[hE]
  conv=>whnf
  repeat'((first|clear U K|apply st|(apply zk;intro K U)|refine zY ?_|refine zs fun Z hs=>?_|refine Pure.use (Lb _ _ hn (by omega) (by omega)) ?_|(refine zb (fun hc=>?_) (fun hc=>?_)<;>try exact⟨⟩)|fail)<;>conv=>whnf)
  exact AJ ⟨_,⟨rfl,vn,rfl⟩,hs⟩
 .have hE:Bx k f true= {k with low:=if f.n > k.low then f.n else k.low}:=by rw[Bx,if_neg (by omega),if_pos h3,if_pos rfl]
  rw[hE]
  conv=>whnf
  repeat'((first|clear U K|apply st|(apply zk;intro K U)|refine zY ?_|refine zs fun Z hs=>?_|(refine zb (fun hc=>?_) (fun hc=>?_)<;>try exact⟨⟩)|fail)<;>conv=>whnf)
  exact AJ ⟨_,⟨rfl,vn,rfl⟩,hs⟩
 .have hE:Bx k f true= {k with no:=k.no++[f.n]}:=by rw[Bx,if_neg (by omega),if_neg (by omega),if_pos rfl]
  rw[hE]
  conv=>whnf
  repeat'((first|clear U K|apply st|(apply zk;intro K U)|refine zY ?_|refine zs fun Z hs=>?_|refine aq fun v Z hs hsl=>?_|(refine zb (fun hc=>?_) (fun hc=>?_)<;>try exact⟨⟩)|fail)<;>conv=>whnf)
  exact AJ ⟨_,⟨rfl,_,rfl⟩,hs⟩
end Go.Gl
