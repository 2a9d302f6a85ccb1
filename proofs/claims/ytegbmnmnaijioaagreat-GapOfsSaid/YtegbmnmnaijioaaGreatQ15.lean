import Derived.Test.YtegbmnmnaijioaaGreatProg
import Derived.KernelRfl
import Derived.Test.YtegbmnmnaijioaaGreatQ6
import Derived.Test.YtegbmnmnaijioaaGreatQ10
import Derived.Test.YtegbmnmnaijioaaGreatQ11
import Derived.Test.YtegbmnmnaijioaaGreatQ12
import Derived.Test.YtegbmnmnaijioaaGreatQ13
import Derived.Test.YtegbmnmnaijioaaGreatQ14
set_option linter.all false
set_option linter.defProp false
set_option maxHeartbeats 8000000
noncomputable section
namespace Go.Gl
open Go.Proofs
attribute [local irreducible] Au Am Ab AR AK AY AQ AS AJ AX AN AP Ao Az Sat AU Ax Ad W
def o7 {p:Prog} (h:(BY p).isSome=true) {x:Ni} (hx:x∈p.methods):(1<=x.kind/\x.kind<=4)/\DM (AL p) x.fact=true/\Bb (AL p) x.fact=true/\Gk x.fact<=p.Cs.getD x.gen.toNat 0:=by
 have:=(Fg h).2 x hx;simp only[P4,A9,Cc]at this;have hf:=this.2.2.2.2.1;simp only[DM,A9,Cc]at hf;exact⟨⟨this.1,this.2.1⟩,this.2.2.2.2.1,hf.2.2,this.2.2.2.2.2⟩
structure Pl where
 ar:List Int
 Zx:Bool
 be:List Int
 pr:List Int
 prt:Bool
 af:List Int
abbrev plV (x:Pl) (g h:Bool):List V:=[.l (iL x.ar) g,.b x.Zx,.l (iL x.be) g,.l (iL x.pr) g,.b x.prt,.l (iL x.af) h]
def CG (p:Prog) (l:List Int) (k:Int):List Int:=l.filter fun m=>(Bd p m).kind==k
def zA:Pl:=⟨[],false,[],[],false,[]⟩
def rR (A:Int->Int->Bool) (p:Prog) (l:List Int):Pl:=
 ⟨(Be A (CG p l 4).length (CG p l 4)).1,(Be A (CG p l 4).length (CG p l 4)).2,DN A (CG p l 2).length (Cx (CG p l 2)),(Be A (CG p l 1).length (CG p l 1)).1,(Be A (CG p l 1).length (CG p l 1)).2,(DN A (CG p l 3).length (Cx (CG p l 3))).reverse⟩
def E9 (A:Int->Int->Bool) (p:Prog) (l:List Int):Pl×Bool:=if(CG p l 1).isEmpty then(zA,false)else(rR A p l,true)
def nj (p:Prog) (l:List Int) (f:Bool) (kd:Int) (hm: ∀x∈l,BM p x=true) (hl:l.length<=16) (h16:p.methods.length<=16):Pure zP 274 [.a (BG p),.l (iL l) f,eI kd] (.l (iL (CG p l kd)) false):=by
 have hM:=Mx;refine wu kZ ?_;have hs:=Sn;refine zz ?_;(repeat clear U K);repeat intro K U
 refine Bw l.length (fun k v=>[(7,v),(8,eI (A6 k))]) (fun k v=>[.own v 1 (iL (CG p (l.take k) kd))]) (fun _ _=>True) (.l [] true) rfl trivial (Dw hs 1) ?_;clear hs;rintro k v Z hk - hs
 have hfl:(CG p (l.take k) kd).length<=16:=by
  have:=Oc (fun m=>(Bd p m).kind==kd) (l.take k);rw[Jd]at this;simp only[CG];omega
 rcases A7 l hk with⟨x,hx,hlt⟩|hke
 .have hst:CG p (l.take (k+1)) kd=if(Bd p x).kind==kd then CG p (l.take k) kd++[x]else CG p (l.take k) kd:=by
   rw[AO hx,CG,List.filter_append];cases hp:(Bd p x).kind==kd<;>simp[CG,hp]
  have hmx:=hm x (Bo hx);have hxm:=CE hmx;simp only[BM,A9,Cc]at hmx;generalize CG p (l.take k) kd=zl at *;have hll:zl.length<AZ/\(zl.length+1)*8<=140737488355328:=by omega
  by_cases hkd:(Bd p x).kind=kd
  .rw[if_pos (DD.2 hkd)]at hst
   conv=>whnf
   repeat'((first|clear U K|apply st|(apply zk;intro K U)|refine zY ?_|refine aq fun v Z hs hsl=>?_|(refine zb (fun hc=>?_) (fun hc=>?_)<;>try exact⟨⟩)|fail)<;>conv=>whnf)
   exact⟨hlt,_,rfl,trivial,by rw[hst];exact hs⟩
  .rw[if_neg (by simpa using hkd)]at hst
   conv=>whnf
   repeat'((first|clear U K|apply st|(apply zk;intro K U)|refine zY ?_|(refine zb (fun hc=>?_) (fun hc=>?_)<;>try exact⟨⟩)|fail)<;>conv=>whnf)
   exact⟨hlt,_,rfl,trivial,by rw[hst];exact hs⟩
 .rw[Aq hke]at hs
  refine zz ?_;(repeat clear U K);repeat intro K U
  exact A8 (hs.GC 0 rfl)
end Go.Gl
namespace Go.Gl
open Go.Proofs
structure QK (p:Prog) (l:List Int):Prop where
 GL: ∀x∈l,BM p x=true
 gen: ∀x∈l,∀y∈l,(Bd p x).gen=(Bd p y).gen
 nodup:l.Nodup
 many:l.length<=16
def HI {p:Prog} {l:List Int} {k x:Int} (h:x∈CG p l k):x∈l/\(Bd p x).kind=k:=by
 have:=JX.1 h;exact⟨this.1,by simpa using this.2⟩
def aw {p:Prog} {l:List Int} {k:Int}:(CG p l k).length<=l.length:=Oc _ _
def QK.of {p:Prog} {l:List Int} (h:QK p l) (k:Int):Ud p (CG p l k)/\(CG p l k).Nodup:=by
 refine⟨⟨fun x hx=>h.GL x (HI hx).1,fun x hx y hy=>?_,Nat.le_trans aw h.many⟩,h.nodup.sublist (List.filter_sublist ..)⟩;rw[Dn,h.gen x (HI hx).1 y (HI hy).1,(HI hx).2,(HI hy).2];simp
def Xq {p:Prog} {l:List Int} {A B:Int->Int->Bool} (h:QK p l) (hq: ∀x∈l,∀y∈l,Dn p x y=true->A x y=B x y):E9 A p l=E9 B p l:=by
 have hk: ∀k,∀x∈CG p l k,∀y∈CG p l k,A x y=B x y:=fun k x hx y hy=>hq x (HI hx).1 y (HI hy).1 ((h.of k).1.alike x hx y hy)
 have hc: ∀k,Be A (CG p l k).length (CG p l k)=Be B (CG p l k).length (CG p l k):=fun k=>NQ _ _ (hk k)
 have hb: ∀k,DN A (CG p l k).length (Cx (CG p l k))=DN B (CG p l k).length (Cx (CG p l k)):=fun k=>SG _ _ fun x hx y hy=>hk k x (Kf.1 hx) y (Kf.1 hy)
 unfold E9 rR;rw[hc 4,hc 1,hb 2,hb 3]
def JY.sub {T:List (List Bool)} {l l':List Int} (h:JY T l) (hs: ∀x∈l',x∈l) (hl:l'.length<=l.length):JY T l':=⟨h.len,h.sq,fun x hx=>h.ins x (hs x hx),Nat.le_trans hl h.many⟩
attribute [local irreducible] Au Am Ab AR AK AY AQ AS AJ AX AN AP Ao Az Sat AU Ax Ad W
def k8 (p:Prog) (T:List (List Bool)) (l:List Int) (f:Bool) (hG:QK p l) (h16:p.methods.length<=16) (hT:JY T l) :
    Pure zP 202 [.a (BG p),rB T,.l (iL l) f] (.t [.a (plV (E9 (Dp T) p l).1 (!(E9 (Dp T) p l).2) (!(E9 (Dp T) p l).2)),.b (E9 (Dp T) p l).2]):=by
 have hM:=Mx;have c1:=nj p l f 1 hG.GL hG.many h16;have c2:=nj p l f 2 hG.GL hG.many h16;have c3:=nj p l f 3 hG.GL hG.many h16;have c4:=nj p l f 4 hG.GL hG.many h16;have htk: ∀k,JY T (CG p l k):=fun k=>hT.sub (fun x hx=>(HI hx).1) aw
 have hts: ∀k,JY T (Cx (CG p l k)):=fun k=>(htk k).sub (fun x hx=>Kf.1 hx) (by rw[TF];exact IW _)
 have d1:=XR T (CG p l 1) false (htk 1);have d4:=XR T (CG p l 4) false (htk 4);have e2:=T2 T (CG p l 2) false (hts 2) (htk 2).many;have e3:=T2 T (CG p l 3) false (hts 3) (htk 3).many;rw[TF]at e2 e3
 have hbl:(DN (Dp T) (CG p l 3).length (Cx (CG p l 3))).length<=16:=by
  have: ∀k l,(DN (Dp T) k l).length=k:=fun k=>by
   induction k with
   | zero=>intro l;rfl
   | succ k ih=>intro l;simp only[DN,Ky,ih]
  rw[this];exact(htk 3).many
 have hpl:E9 (Dp T) p l=if(CG p l 1).isEmpty then(zA,false)else(⟨(Be (Dp T) (CG p l 4).length (CG p l 4)).1,(Be (Dp T) (CG p l 4).length (CG p l 4)).2,DN (Dp T) (CG p l 2).length (Cx (CG p l 2)),(Be (Dp T) (CG p l 1).length (CG p l 1)).1,(Be (Dp T) (CG p l 1).length (CG p l 1)).2,(DN (Dp T) (CG p l 3).length (Cx (CG p l 3))).reverse⟩,true):=rfl
 rw[hpl];have hl1:=(htk 1).many;clear htk hts hpl;generalize DN (Dp T) (CG p l 3).length (Cx (CG p l 3))=xs at *;generalize DN (Dp T) (CG p l 2).length (Cx (CG p l 2))=bs at *;generalize Be (Dp T) (CG p l 4).length (CG p l 4)=q4 at *;generalize Be (Dp T) (CG p l 1).length (CG p l 1)=q1 at *;generalize CG p l 1=l1 at *;obtain⟨r4,t4⟩:=q4;obtain⟨r1,t1⟩:=q1;dsimp only at d1 d4;refine xq kZ ?_;have hs:=Sn;by_cases hz:l1.length=0
 .have he:l1.isEmpty=true:=by simpa using hz
  rw[he];exact zW
 .have he:l1.isEmpty=false:=by cases l1 with
   | nil=>simp at hz
   | cons=>rfl
  rw[he]
  conv=>whnf
  repeat'((first|clear U K|apply st|(apply zk;intro K U)|refine zY ?_|refine zs fun Z hs=>?_|refine c1.use ?_|refine c2.use ?_|refine c3.use ?_|refine c4.use ?_|refine d1.use ?_|refine d4.use ?_|refine e2.use ?_|refine e3.use ?_|(refine zb (fun hc=>?_) (fun hc=>?_)<;>try exact⟨⟩)|refine zo fun nn hnn Z hs=>?_|fail)<;>conv=>whnf)
  rename_i n6 _ _ _ _ _ _ _ _ _ _ _ _ _
  have hwl:IntKind.i64.wrap ((iL xs).length - 1)=(xs.length:Int) - 1:=by
   have e:((iL xs).length:Int)=xs.length:=by simp
   rw[e,wrap64 (by omega) (by omega)]
  refine D1 (fun x:Int×V=>(x.1+1).toNat) (fun x=>[(10,eI x.1)]) (fun x=>[.box nn [.l (iL r4) false,.b t4,.l (iL bs) false,.l (iL r1) false,.b t1,x.2],.box n6 [.l [] true,.b false,.l [] true,.l [] true,.b false,.l [] true],.own x.2 1 (iL ((xs.drop (x.1+1).toNat).reverse))]) (fun x=> -1<=x.1/\x.1<xs.length) (IntKind.i64.wrap ((iL xs).length - 1),.l [] true) rfl ?_ ?_ ?_
  .dsimp only
   rw[hwl];exact⟨by omega,by omega⟩
  .dsimp only
   rw[hwl,List.drop_of_length_le (by omega)];exact Dw hs 1
  clear hs hwl;rintro⟨i,v⟩ Z ⟨hi1,hi2⟩ hs;dsimp only at hi1 hi2 hs;dsimp only;by_cases hneg:i<0
  .obtain rfl:i= -1:=by omega
   rw[show((-1:Int)+1).toNat=0 from rfl,List.drop_zero]at hs
   conv=>whnf
   repeat'((first|clear U K|apply st|(apply zk;intro K U)|refine zY ?_|(refine zb (fun hc=>?_) (fun hc=>?_)<;>try exact⟨⟩)|fail)<;>conv=>whnf)
   have o1:=Hr hs 2 rfl;refine Ih hs 1 rfl rfl rfl (by simp[o1]) (by decide) fun Z hs=>?_
   clear o1;refine zz ?_;(repeat clear U K);repeat intro K U
   exact A8 (.t (.cons (.a (.cons (.refl _) (.cons (.refl _) (.cons (.refl _) (.cons (.refl _) (.cons (.refl _) (.cons (hs.GC 2 rfl) .nil))))))) (.cons (.refl _) .nil)))
  .have hpos:0<=i:=by omega
   obtain⟨x,hx⟩: ∃x,xs[i.toNat]? =some x:=⟨_,Cr (by omega)⟩
   have hd:(xs.drop i.toNat).reverse=(xs.drop (i+1).toNat).reverse++[x]:=by
    rw[drop_cons hx,List.reverse_cons,show(i+1).toNat=i.toNat+1 by omega]
   have hdl:((xs.drop (i+1).toNat).reverse).length<=16:=by
    rw[List.length_reverse,sN];omega
   generalize (xs.drop (i+1).toNat).reverse=zl at *;have hll:zl.length<AZ/\(zl.length+1)*8<=140737488355328:=by omega
   have hwi:IntKind.i64.wrap (i - 1)=i - 1:=wrap64 (by omega) (by omega)
   conv=>whnf
   repeat'((first|clear U K|apply st|(apply zk;intro K U)|refine zY ?_|refine zs fun Z hs=>?_|refine aq fun v Z hs hsl=>?_|(refine zb (fun hc=>?_) (fun hc=>?_)<;>try exact⟨⟩)|fail)<;>conv=>whnf)
   refine⟨(i - 1,v),by dsimp only;omega,by rw[hwi];rfl,⟨by dsimp only;omega,by dsimp only;omega⟩,?_⟩;dsimp only;rw[show(i - 1+1).toNat=i.toNat by omega,hd];exact hs
end Go.Gl
namespace Go.Gl
open Go.Proofs
attribute [local irreducible] Au Am Ab AR AK AY AQ AS AJ AX AN AP Ao Az Sat AU Ax Ad W
def lD {p:Prog} {l:List Int} {k:Nat} {x:Int} (hx:l[k]? =some x) (kd:Int):CG p (l.take (k+1)) kd=if(Bd p x).kind==kd then CG p (l.take k) kd++[x]else CG p (l.take k) kd:=by
 rw[AO hx,CG,List.filter_append];cases hp:(Bd p x).kind==kd<;>simp[CG,hp]
def Mt {p:Prog} {l:List Int} {k:Nat} {kd:Int} (h:l.length<=16):(CG p (l.take k) kd).length<=16:=by
 have:=Oc (fun m=>(Bd p m).kind==kd) (l.take k);rw[Jd]at this;simp only[CG];omega
def te (p:Prog) (L:Nat) (l:List Int) (f:Bool) (h:(BY p).isSome=true) (hG:QK p l) (M:List (Int×Int)) :
    BT zP 124 [UC p L,.l (iL l) f] [.map L (LL p M)] fun r post=>r= .ret (.t [.a (plV (E9 (Ay p) p l).1 true (!(E9 (Ay p) p l).2)),.b (E9 (Ay p) p l).2])/\ ∃M',post= [.map L (LL p M')]:=by
 intro Z hs;have hM:=Mx;have hok:=look_ok h;have hgw:=gx h;have hfm:=qE h;have h16:=hG.many;have hm16:=hok.many;generalize hX:E9 (Ay p) p l=X;refine yd kZ ?_
 conv=>whnf
 repeat'((first|clear U K|apply st|(apply zk;intro K U)|refine zo fun nn hnn Z hs=>?_|fail)<;>conv=>whnf)
 rename_i n4 _ _ _;clear hnn;refine Bw l.length (fun k (_:V×V×V×V)=>[(13,eI (A6 k))]) (fun k x=>[.own x.1 1 (iL (CG p (l.take k) 1)),.own x.2.1 1 (iL (CG p (l.take k) 2)),.own x.2.2.1 1 (iL (CG p (l.take k) 3)),.own x.2.2.2 1 (iL (CG p (l.take k) 4)),.box nn [.l [] true,x.1,x.2.1,x.2.2.1,x.2.2.2],.box n4 [.l [] true,.b false,.l [] true,.l [] true,.b false,.l [] true],.map L (LL p M)]) (fun _ _=>True) (.l [] true,.l [] true,.l [] true,.l [] true) rfl trivial (Cp (Cp (Cp (Cp hs 1) 1) 1) 1) ?_;clear hs;rintro k ⟨v1,v2,v3,v4⟩ Z hk - hs;dsimp only at hs;dsimp only;rcases A7 l hk with⟨x,hx,hlt⟩|hke
 .have hmx:=hG.GL x (Bo hx)
  have hxm:=CE hmx;obtain⟨hkr,-⟩:=o7 h (Bo hxm);have hst:=lD (p:=p) hx;simp only[BM,A9,Cc]at hmx;have l1:(CG p (l.take k) 1).length<=16:=Mt h16;have l2:(CG p (l.take k) 2).length<=16:=Mt h16;have l3:(CG p (l.take k) 3).length<=16:=Mt h16;have l4:(CG p (l.take k) 4).length<=16:=Mt h16;have s1:=hst 1;have s2:=hst 2;have s3:=hst 3;have s4:=hst 4;clear hst;generalize Bd p x=y at *;generalize CG p (l.take k) 1=z1 at *;generalize CG p (l.take k) 2=z2 at *;generalize CG p (l.take k) 3=z3 at *;generalize CG p (l.take k) 4=z4 at *;obtain⟨kd,gn,fc,nd⟩:=y;dsimp only at hkr s1 s2 s3 s4;rcases(show kd=1\/kd=2\/kd=3\/kd=4 by omega)with rfl|rfl|rfl|rfl
  .rw[if_pos (beq_self_eq_true _)]at s1
   rw[if_neg (by decide)]at s2 s3 s4;have hll:z1.length<AZ/\(z1.length+1)*8<=140737488355328:=by omega
   clear l1 l2 l3 l4
   conv=>whnf
   repeat'((first|clear U K|apply st|(apply zk;intro K U)|refine zY ?_|refine zs fun Z hs=>?_|refine aq fun v Z hs hsl=>?_|refine zT (j:=1) ?_ (by decide) (by decide)|fail)<;>conv=>whnf)
   exact⟨hlt,(v,v2,v3,v4),rfl,trivial,by rw[s1,s2,s3,s4];exact hs⟩
  .rw[if_pos (beq_self_eq_true _)]at s2
   rw[if_neg (by decide)]at s1 s3 s4;have hll:z2.length<AZ/\(z2.length+1)*8<=140737488355328:=by omega
   clear l1 l2 l3 l4
   conv=>whnf
   repeat'((first|clear U K|apply st|(apply zk;intro K U)|refine zY ?_|refine zs fun Z hs=>?_|refine aq fun v Z hs hsl=>?_|refine zT (j:=2) ?_ (by decide) (by decide)|fail)<;>conv=>whnf)
   exact⟨hlt,(v1,v,v3,v4),rfl,trivial,by rw[s1,s2,s3,s4];exact hs⟩
  .rw[if_pos (beq_self_eq_true _)]at s3
   rw[if_neg (by decide)]at s1 s2 s4;have hll:z3.length<AZ/\(z3.length+1)*8<=140737488355328:=by omega
   clear l1 l2 l3 l4
   conv=>whnf
   repeat'((first|clear U K|apply st|(apply zk;intro K U)|refine zY ?_|refine zs fun Z hs=>?_|refine aq fun v Z hs hsl=>?_|refine zT (j:=3) ?_ (by decide) (by decide)|fail)<;>conv=>whnf)
   exact⟨hlt,(v1,v2,v,v4),rfl,trivial,by rw[s1,s2,s3,s4];exact hs⟩
  .rw[if_pos (beq_self_eq_true _)]at s4
   rw[if_neg (by decide)]at s1 s2 s3;have hll:z4.length<AZ/\(z4.length+1)*8<=140737488355328:=by omega
   clear l1 l2 l3 l4
   conv=>whnf
   repeat'((first|clear U K|apply st|(apply zk;intro K U)|refine zY ?_|refine zs fun Z hs=>?_|refine aq fun v Z hs hsl=>?_|refine zT (j:=4) ?_ (by decide) (by decide)|fail)<;>conv=>whnf)
   exact⟨hlt,(v1,v2,v3,v),rfl,trivial,by rw[s1,s2,s3,s4];exact hs⟩
 .rw [Aq hke]at hs
  obtain⟨o1,d1⟩:=hG.of 1;obtain⟨o2,d2⟩:=hG.of 2;obtain⟨o3,d3⟩:=hG.of 3;obtain⟨o4,d4⟩:=hG.of 4;have hpl:E9 (Ay p) p l=if(CG p l 1).isEmpty then(zA,false)else(⟨(Be (Ay p) (CG p l 4).length (CG p l 4)).1,(Be (Ay p) (CG p l 4).length (CG p l 4)).2,DN (Ay p) (CG p l 2).length (Cx (CG p l 2)),(Be (Ay p) (CG p l 1).length (CG p l 1)).1,(Be (Ay p) (CG p l 1).length (CG p l 1)).2,(DN (Ay p) (CG p l 3).length (Cx (CG p l 3))).reverse⟩,true):=rfl
  rw[hpl]at hX;clear hpl;have e4:=fun M=>bu p L (CG p l 4) false hok hgw hfm o4 d4 M
  have e2:=fun M=>fT p L (CG p l 2) false hok hgw hfm o2 d2 M
  have e1:=fun M=>bu p L (CG p l 1) false hok hgw hfm o1 d1 M
  have e3:=fun M=>Zq p L (CG p l 3) false hok hgw hfm o3 d3 M
  rw[TE d2]at e2;rw[TE d3]at e3;have hl1:=o1.many
  have hbl:(DN (Ay p) (CG p l 3).length (Cx (CG p l 3))).length<=16:=by
   have: ∀k l,(DN (Ay p) k l).length=k:=fun k=>by
    induction k with
    | zero=>intro l;rfl
    | succ k ih=>intro l;simp only[DN,Ky,ih]
   rw[this];exact o3.many
  clear o1 o2 o3 o4 d1 d2 d3 d4 hG;generalize DN (Ay p) (CG p l 3).length (Cx (CG p l 3))=xs at *;generalize DN (Ay p) (CG p l 2).length (Cx (CG p l 2))=bs at *;generalize Be (Ay p) (CG p l 4).length (CG p l 4)=q4 at *;generalize Be (Ay p) (CG p l 1).length (CG p l 1)=q1 at *;generalize CG p l 1=l1 at *;generalize CG p l 2=l2 at *;generalize CG p l 3=l3 at *;generalize CG p l 4=l4 at *;obtain⟨r4,t4⟩:=q4;obtain⟨r1,t1⟩:=q1;dsimp only at e1 e4;by_cases hz:l1.length=0
  .have he:l1.isEmpty=true:=by simpa using hz
   rw[he,if_pos rfl]at hX;subst hX
   conv=>whnf
   repeat'((first|clear U K|apply st|(apply zk;intro K U)|refine zY ?_|(refine zb (fun hc=>?_) (fun hc=>?_)<;>try exact⟨⟩)|refine zo fun nn hnn Z hs=>?_|fail)<;>conv=>whnf)
   refine Ih hs 6 rfl rfl rfl (by simp) (by decide) fun Z hs=>?_
   refine zz ?_;(repeat clear U K);repeat intro K U
   refine WJ hs 6 rfl ?_;refine zz ?_;(repeat clear U K);repeat intro K U
   exact As (hs.front (j:=7) rfl) (.cons₂ _ (JW _)) (.refl _) fun Z' hs'=>⟨_,⟨rfl,M,rfl⟩,hs'⟩
  .have he:l1.isEmpty=false:=by cases l1 with
    | nil=>simp at hz
    | cons=>rfl
   rw[he,if_neg (by decide)]at hX;subst hX
   conv=>whnf
   repeat'((first|clear U K|apply st|(apply zk;intro K U)|refine zY ?_|(refine zb (fun hc=>?_) (fun hc=>?_)<;>try exact⟨⟩)|refine zo fun nn hnn Z hs=>?_|fail)<;>conv=>whnf)
   obtain⟨Z2,g1,g2,g3⟩:=HC hs 4 rfl;refine Au.Om ((e4 M).use (rest:=_) (g3.front (j:=6) rfl) ?_) g1 (.cons (.refl _) (.cons g2 .nil));clear hs g1 g2 g3;rintro r post Z ⟨rfl,M,rfl⟩ hs
   conv=>whnf
   repeat'((first|clear U K|apply st|(apply zk;intro K U)|refine zY ?_|refine zs fun Z hs=>?_|fail)<;>conv=>whnf)
   obtain⟨Z2,g1,g2,g3⟩:=HC hs 3 rfl;refine Au.Om ((e2 M).use (rest:=_) g3 ?_) g1 (.cons (.refl _) (.cons g2 .nil));clear hs g1 g2 g3;rintro r post Z ⟨rfl,M,rfl⟩ hs
   conv=>whnf
   repeat'((first|clear U K|apply st|(apply zk;intro K U)|refine zY ?_|refine zs fun Z hs=>?_|fail)<;>conv=>whnf)
   obtain⟨Z2,g1,g2,g3⟩:=HC hs 2 rfl;refine Au.Om ((e1 M).use (rest:=_) g3 ?_) g1 (.cons (.refl _) (.cons g2 .nil));clear hs g1 g2 g3;rintro r post Z ⟨rfl,M,rfl⟩ hs
   conv=>whnf
   repeat'((first|clear U K|apply st|(apply zk;intro K U)|refine zY ?_|refine zs fun Z hs=>?_|fail)<;>conv=>whnf)
   obtain⟨Z2,g1,g2,g3⟩:=HC hs 2 rfl;refine Au.Om ((e3 M).use (rest:=_) g3 ?_) g1 (.cons (.refl _) (.cons g2 .nil));clear hs g1 g2 g3;rintro r post Z ⟨v,M,rfl,rfl,hv⟩ hs
   conv=>whnf
   repeat'((first|clear U K|apply st|(apply zk;intro K U)|refine zY ?_|refine zs fun Z hs=>?_|fail)<;>conv=>whnf)
   refine(dT xs v (by omega) hv).use (rest:=_) hs ?_;clear hs;rintro r post Z ⟨rfl,rfl⟩ hs;refine zz ?_;(repeat clear U K);repeat intro K U
   have o1:=Hr hs 0 rfl;refine Ih hs 4 rfl rfl rfl (by simp[o1]) (by decide) fun Z hs=>?_
   clear o1;refine zz ?_;(repeat clear U K);repeat intro K U
   obtain⟨Z2,g1,g2,g3⟩:=HC hs 0 rfl;exact HN g1 (.t (.cons (.a (.cons (.refl _) (.cons (.refl _) (.cons (.refl _) (.cons (.refl _) (.cons (.refl _) (.cons g2 .nil))))))) (.cons (.refl _) .nil))) ⟨_,⟨rfl,M,rfl⟩,g3.less (.cons₂ _ (JW _))⟩
def sK (g:FuncId) (fi ca:List V) (q:Ob->Bool):Prop:= ∀v,Pure zP g (fi++[.a (eOb v)]++ca) (.b (q v))
def sK.use {g:FuncId} {fi ca:List V} {q:Ob->Bool} (h:sK g fi ca q) {v:Ob} {Z:AE} {k kp:V->AE->Prop} (hk:k (.b (q v)) Z):Ao zP (.f (.func g) fi ca) [.a (eOb v)] Z (qk k kp):=BN ((h v).use hk)
end Go.Gl
namespace Go.Gl
open Go.Proofs
def bC {p:Prog} {l:List Int} (hok:EM p) (h:GM p l false=true):QK p l:=by
 rw[GM,A9,EB,Cc]at h;obtain⟨h1,h2⟩:=h
 have hm: ∀x∈l,BM p x=true/\(Bd p x).gen=(Bd p (l.getD 0 0)).gen:=fun x hx=>by
  have:=h1 x hx;simp only[m7,A9,DD]at this;exact⟨this.1,this.2.1⟩
 refine⟨fun x hx=>(hm x hx).1,fun x hx y hy=>(hm x hx).2.trans (hm y hy).2.symm,h2,Nat.le_trans (Qs p.methods.length l h2 fun x hx=>?_) hok.many⟩;have:=(hm x hx).1;simp only[BM,A9,Cc]at this;omega
def gk (x:Pl×Bool):Pl×Int:=if x.2 then(x.1,0)else(zA,5)
def UX (p:Prog) (l:List Int):Pl×Int:=if(BY p).isSome&&GM p l false then gk (E9 (Ay p) p l)else(zA,2)
abbrev plE (x:Pl×Int) (g:Bool):V:= .t [.a (plV x.1 g (x.2 != 0)),eI x.2]
attribute [local irreducible] Au Am Ab AR AK AY AQ AS AJ AX AN AP Ao Az Sat AU Ax Ad W
def y1 (p:Prog) (l:List Int) (f:Bool) (hl:l.length<=1000):Pure zP 133 [.a (BG p),.l (iL l) f] (plE (UX p l) true):=by
 refine Pure.of ?_;have hr:=kx p;generalize hX:UX p l=X;rw[UX]at hX;refine yX kZ ?_;have hs:=Sn
 conv=>whnf
 repeat'((first|clear U K|apply st|(apply zk;intro K U)|refine zY ?_|refine zo fun nn hnn Z hs=>?_|fail)<;>conv=>whnf)
 refine hr.use (rest:=_) hs ?_;clear hs;cases h:(BY p).isSome
 .have c1:=pA l f false
  rw[h,Bool.false_and,if_neg (by decide)]at hX;subst hX;rintro r post Z ⟨rfl,rfl⟩ hs
  conv=>whnf
  repeat'((first|clear U K|apply st|(apply zk;intro K U)|refine zY ?_|refine zs fun Z hs=>?_|refine zC ?_|fail)<;>conv=>whnf)
  exact AI (by rfl)
 .rintro r post Z ⟨L,rfl,rfl⟩ hs
  have c1:=uH p L l f false hl;cases hb:GM p l false<;>rw[hb]at c1 hX
  .rw[Bool.and_false,if_neg (by decide)]at hX
   subst hX
   conv=>whnf
   repeat'((first|clear U K|apply st|(apply zk;intro K U)|refine zY ?_|refine zs fun Z hs=>?_|refine zC ?_|fail)<;>conv=>whnf)
   exact AI (by rfl)
  .have c3:=te p L l f h (bC (look_ok h) hb) []
   rw[h,Bool.and_self,if_pos rfl]at hX;generalize E9 (Ay p) p l=x at *;obtain⟨x,b⟩:=x;cases b
   all_goals
    subst hX
    conv=>whnf
    repeat'((first|clear U K|apply st|(apply zk;intro K U)|refine zY ?_|refine zC ?_|fail)<;>conv=>whnf)
    refine c3.use (rest:=_) hs ?_;clear hs;rintro r post Z ⟨rfl,M,rfl⟩ hs
    conv=>whnf
    repeat'((first|clear U K|apply st|(apply zk;intro K U)|refine zY ?_|refine zs fun Z hs=>?_|refine zo fun nn hnn Z hs=>?_|fail)<;>conv=>whnf)
    exact AI (by rfl)
end Go.Gl
namespace Go.Gl
open Go.Proofs
structure Wid (w w':AH) (ps:List Int):Prop where
 par:w'.parents=w.parents++[ps]
 own:w'.owner=w.owner++[3+(w.parents.length:Int)]
variable {w w':AH} {ps:List Int}
def Wid.ol (h:Wid w w' ps):w'.owner.length=w.owner.length+1:=by rw[h.own];simp
def Cy (ms:List Int) (bs:List Bool):List Int:=((ms.zip bs).filter fun x=>x.2).map fun x=>x.1
def AAk {w:AH} (hw:KG w) {cs:List Int} (hcs: ∀c∈cs,1<=c/\c<3+(w.parents.length:Int)): ∀l,(∀x∈l,Dj w x)->(SZ w cs l=true↔ ∃M,zx w cs M/\ ∀x∈l,GS w M x):=fun l hl=>by
 rw[<-tK hw hcs fun x hx=>KQ (hl x hx)];exact Wl hw fun x hx=>KQ (hl x hx)
structure Gro (w w':AH) (ps:List Int):Prop where
 par:w'.parents=w.parents++[ps]
 own:w'.owner=w.owner
section
variable {w w':AH} {ps:List Int}
def Gro.B4 (h:Gro w w' ps) (s:Int):B4 w' s=B4 w s:=by rw[Gl.B4,Gl.B4,h.own]
end
end Go.Gl
namespace Go.Gl
open Go.Proofs
attribute [local irreducible] Au Am Ab AR AK AY AQ AS AJ AX AN AP Ao Az Sat AU Ax Ad W
def cU (p:Prog) (gen:Int) (k:Nat):List Int:=(BV k).filter fun m=>(Bd p m).gen==gen
def Es (p:Prog) (gen:Int):List Int:=cU p gen p.methods.length
def XC (p:Prog) (gen:Int) (k:Nat):cU p gen (k+1)=if(Bd p (k:Int)).gen==gen then cU p gen k++[(k:Int)]else cU p gen k:=by
 rw[cU,J7,List.filter_append];cases hp:(Bd p (k:Int)).gen==gen<;>simp[cU,hp]
def Ps (p:Prog) (gen:Int) (k:Nat):(cU p gen k).length<=k:=by
 have:=Oc (fun m=>(Bd p m).gen==gen) (BV k)
 rwa [DQ]at this
def VH (p:Prog) (gen:Int) (m:Int):(Es p gen).contains m=(BM p m&&(Bd p m).gen==gen):=by
 rw[IZ,List.contains_iff_mem,Es,cU,JX,C7,A9,BM];simp only[A9,Cc]
def bA {p:Prog} {k:Nat} {x:Ni} (hx:p.methods[k]? =some x):Bd p (k:Int)=x:=by
 have hlt:=(JC.1 hx).1;have:=CE (p:=p) (m:=k) (by simp[BM];omega);rw[GB,hx]at this;exact(Option.some.inj this).symm
def gG (p:Prog) (gen:Int) (l:List Int) (i:Nat):Bool:=BM p (l.getD i 0)&&((Bd p (l.getD i 0)).gen==gen&& !(decide (0<i)&&decide (l.getD (i - 1) 0≥l.getD i 0)))
def Sa (p:Prog) (gen:Int) (l:List Int):Bool:=(List.range l.length).all (gG p gen l)
def oI {p:Prog} {gen:Int} {l:List Int} (h: ∀i,i<l.length->gG p gen l i=true):Sa p gen l=true:=by
 rw[Sa,EB];exact fun i hi=>h i (List.mem_range.1 hi)
def aP {p:Prog} {gen:Int} {l:List Int} (h:Sa p gen l=true): ∀i (hi:i+1<l.length),l[i]<l[i+1]:=fun i hi=>by
 rw[Sa,EB]at h;have:=h (i+1) (List.mem_range.2 hi);simp only[gG,A9,Bool.not_eq_true',Bool.and_eq_false_iff,decide_eq_false_iff_not,Nat.add_sub_cancel,C4,Cr hi,Cr (show i<l.length by omega),Option.getD_some]at this;omega
def Ws {p:Prog} {gen:Int} {l:List Int} (h:Sa p gen l=true): ∀x∈l,BM p x=true/\(Bd p x).gen=gen:=fun x hx=>by
 rw[Sa,EB]at h;obtain⟨i,hi,rfl⟩:=List.mem_iff_getElem.1 hx;have:=h i (List.mem_range.2 hi);simp only[gG,A9,C4,Cr hi,Option.getD_some,DD]at this;exact⟨this.1,this.2.1⟩
def OA {p:Prog} {gen:Int} {l:List Int} (h:Sa p gen l=true):GM p l false=true:=by
 have hm:=Ws h;rw[GM,A9,EB,Cc];refine⟨fun x hx=>?_,?_⟩
 .have h0:l.getD 0 0∈l:=by
   cases l with
   | nil=>cases hx
   | cons y r=>exact List.mem_cons_self ..
  rw[m7,(hm x hx).1,(hm x hx).2,(hm _ h0).2];simp
 .have hq: ∀(i d:Nat) (hd:i+d+1<l.length),l[i]<l[i+d+1]:=fun i d=>by
   induction d with
   | zero=>exact fun hd=>aP h i hd
   | succ d ih=>exact fun hd=>Int.lt_trans (ih (by omega)) (aP h (i+d+1) hd)
  have hp:List.Pairwise (· < ·) l:=List.pairwise_iff_getElem.2 fun i j hi hj hij=>by
   obtain⟨d,rfl⟩: ∃d,j=i+d+1:=⟨j - i - 1,by omega⟩
   exact hq i d hj
  exact hp.imp fun h e=>by omega
def kq {p:Prog} {gen:Int} {l:List Int} (h:Sa p gen l=true):l.length<=p.methods.length:=by
 have h1:=OA h;rw[GM,A9,Cc]at h1;refine Qs p.methods.length l h1.2 fun x hx=>?_
 have:=(Ws h x hx).1;simp only[BM,A9,Cc]at this;omega
def Ec (p:Prog) (gen:Int):Bool:=(BY p).isSome&&Sd p gen
def stO (x:Pl×Bool):Int:=if x.2 then(if x.1.ar.isEmpty&&(x.1.Zx||x.1.pr.isEmpty)then 3 else if x.1.Zx||x.1.prt then 2 else 1)else 4
def Zt (p:Prog) (l:List Int):Int:=stO (E9 (Ay p) p l)
def Xe (p:Prog) (gen:Int) (h16:p.methods.length<=16):Pure zP 89 [.a (BG p),eI gen] (.l (iL (Es p gen)) false):=by
 refine Pure.fit (by kernel_rfl) fun hf=>?_
 have hP:=Ju hf.1;have hM:=Mx;refine AAz kZ ?_;have hs:=Sn;refine zz ?_;(repeat clear U K);repeat intro K U
 refine Bw p.methods.length (fun k v=>[(5,v),(11,eI (A6 k))]) (fun k v=>[.own v 1 (iL (cU p gen k))]) (fun _ _=>True) (.l [] true) rfl trivial (Dw hs 1) ?_;clear hs;rintro k v Z hk - hs;have hal:=Ps p gen k;rcases A7 p.methods hk with⟨x,hx,hlt⟩|hke
 .have hck:A6 k=k:=Ae (by omega)
  have hxe:=bA hx;have hst:=XC p gen k;rw[hxe]at hst;generalize cU p gen k=zl at *;have hll:zl.length<AZ/\(zl.length+1)*8<=140737488355328:=by omega
  by_cases hg:x.gen=gen
  .rw[if_pos (DD.2 hg)]at hst
   conv=>whnf
   repeat'((first|clear U K|apply st|(apply zk;intro K U)|refine zY ?_|refine zs fun Z hs=>?_|refine aq fun v Z hs hsl=>?_|(refine zb (fun hc=>?_) (fun hc=>?_)<;>try exact⟨⟩)|refine zo fun nn hnn Z hs=>?_|fail)<;>conv=>whnf)
   exact⟨hlt,_,rfl,trivial,by rw[hst,<-hck];exact hs.less (Ku _ _)⟩
  .rw[if_neg (by simpa using hg)]at hst
   conv=>whnf
   repeat'((first|clear U K|apply st|(apply zk;intro K U)|refine zY ?_|refine zs fun Z hs=>?_|(refine zb (fun hc=>?_) (fun hc=>?_)<;>try exact⟨⟩)|refine zo fun nn hnn Z hs=>?_|fail)<;>conv=>whnf)
   exact⟨hlt,_,rfl,trivial,by rw[hst];exact hs.less (Ku _ _)⟩
 .rw[hke]at hs
  refine zz ?_;(repeat clear U K);repeat intro K U
  exact A8 (hs.GC 0 rfl)
def y3 (p:Prog) (gen:Int):Pure zP 28 [.a (BG p),eI gen] (eI (if Ec p gen then 0 else 2)):=by
 have c1:=tc p;have c2:=AAs p gen;rw[Ec];cases h1:(BY p).isSome<;>rw[h1]at c1<;>cases h2:Sd p gen<;>rw[h2]at c2
 all_goals
  refine ABH kZ ?_;have hs:=Sn;exact zW
def AAb (p:Prog) (gen:Int) (h16:p.methods.length<=16):Pure zP 64 [.a (BG p),eI gen] (eI (if(Es p gen).length<=8 then 0 else 3)):=by
 have c1:=Xe p gen h16;have hl:=Ps p gen p.methods.length;rw[<-Es]at hl;generalize Es p gen=ms at *;have e1:((iL ms).length:Int)=ms.length:=by simp
 refine ABB kZ ?_;have hs:=Sn
 conv=>whnf
 repeat'((first|clear U K|apply st|(apply zk;intro K U)|refine zY ?_|refine zC ?_|(refine zd (fun hc=>?_) (fun hc=>?_)<;>try exact⟨⟩)|fail)<;>conv=>whnf)
 .exact AF (by rw[if_neg (by omega)])
 .exact AF (by rw[if_pos (by omega)])
end Go.Gl
namespace Go.Gl
open Go.Proofs
def Un (p:Prog) (gen:Int):List Fact:=(Es p gen).map fun m=>(Bd p m).fact
def K0 (p:Prog) (gen:Int) (tog:List Fact->Bool):List (List Int×Int):=(GU (ng tog (Un p gen)) (Es p gen).length []).map fun bs=>(Cy (Es p gen) bs,Zt p (Cy (Es p gen) bs))
end Go.Gl
namespace Go.Gl
open Go.Proofs
attribute [local irreducible] Au Am Ab AR AK AY AQ AS AJ AX AN AP Ao Az Sat AU Ax Ad W
abbrev zI (p:Prog) (ms:List Int) (op:Bool) (cs:List Int) (g:Bool) (T:List (List Bool)):List V:=BG p++(A0 (AL p)++[.l (iL ms) false,.b op,.l (iL cs) g,rB T])
structure gD (p:Prog) (ms:List Int) (op:Bool) (cs:List Int):Prop where
 ok:EM p
 GL: ∀m∈ms,BM p m=true
 sV:ms.length<=8
 cls:op=false->(∀c∈cs,1<=c/\c<3+((AL p).parents.length:Int))/\cs.length<=3
def SY (p:Prog) (op:Bool) (cs:List Int) (l:List Fact):Bool:=if op then G5 (AL p) l else SZ (AL p) cs l
def Ov (p:Prog) (ms:List Int) (op:Bool) (cs:List Int) (g:Bool) (T:List (List Bool)) (h:gD p ms op cs) (l:List Fact) (hl: ∀x∈l,Dj (AL p) x) (hln:l.length<=1000000):Pure zP 299 [.a (zI p ms op cs g T),.l (facts l) false] (.b (SY p op cs l)):=by
 obtain⟨q1,q2,q3,q4⟩:=IA hl;cases op
 .have hc:=h.cls rfl
  have c1:=ny (AL p) l cs g q1 hln h.ok.zQ q2 q3 q4 hc.1 hc.2;refine jM kZ ?_;have hs:=Sn;exact zW
 .have c1:=Ow (AL p) l q1 hln h.ok.zQ q2 q3 q4
  refine jM kZ ?_;have hs:=Sn;exact zW
abbrev Vz (p:Prog) (ms:List Int):List Fact:=ms.map fun m=>(Bd p m).fact
def yn (p:Prog) (ms:List Int) (op:Bool) (cs:List Int) (g:Bool) (T:List (List Bool)) (h:gD p ms op cs) (bs:List Bool) (hbs:bs.length<=ms.length) (fb:Bool): ∀(d at_:Nat) (l:List Fact),at_+d=bs.length->(∀x∈l,Dj (AL p) x)->l.length<=12*at_->
    Pure zP 240 [.a (zI p ms op cs g T),.l (facts l) false,eI at_,.l (bL bs) fb] (.b (JZ (SY p op cs) ((QE ((Vz p ms).zip bs)).drop at_) l)):=by
 have hM:=Mx;have hfew:=h.sV;have ebl:((bL bs).length:Int)=bs.length:=by simp
 intro d
 induction d with
 | zero=>
   intro at_ l hat hl hln;have c1:=Ov p ms op cs g T h l hl (by omega);have hz:(QE ((Vz p ms).zip bs)).drop at_= []:=List.drop_of_length_le (by simp[QE];omega);rw[hz,JZ];cases ht:SY p op cs l<;>rw[ht]at c1
   all_goals
    refine Yo kZ ?_;have hs:=Sn
    conv=>whnf
    repeat'((first|clear U K|apply st|(apply zk;intro K U)|refine zY ?_|refine zC ?_|(refine zb (fun hc=>?_) (fun hc=>?_)<;>try exact⟨⟩)|fail)<;>conv=>whnf)
    all_goals try(exfalso;simp at hc;omega)
    all_goals exact AF rfl
 | succ d ih=>
   intro at_ l hat hl hln;have c1:=Ov p ms op cs g T h l hl (by omega);obtain⟨m,hm⟩: ∃m,ms[at_]? =some m:=⟨_,Cr (by omega)⟩
   obtain⟨b,hb⟩: ∃b,bs[at_]? =some b:=⟨_,Cr (by omega)⟩
   have hmm:=h.GL m (Bo hm);have hmP:=CE hmm;have hfa:=h.ok.facts _ (Bo hmP)
   have hzk:(QE ((Vz p ms).zip bs))[at_]? =some (BE (Bd p m).fact (!b)):=by
    have hz:((Vz p ms).zip bs)[at_]? =some ((Bd p m).fact,b):=List.getElem?_zip_eq_some.2 ⟨by rw[Je,hm];rfl,hb⟩;rw[QE,Je,hz];rfl
   rw[drop_cons hzk,JZ];cases ht:SY p op cs l<;>rw[ht]at c1
   .refine Yo kZ ?_
    have hs:=Sn;exact zW
   rw[EA];have har:=Bl _ hfa.1;have hlits:=C3 _ hfa.1 (!b);have hcl:=D8 _ har (!b);have hall:=jj _ har (by omega) (!b);have hp2:2 ^ lv (Bd p m).fact<=2 ^ 12:=Nat.pow_le_pow_right (by omega) hfa.2;have hn':=hfa.2;simp only[BM,A9,Cc]at hmm;have hm2:ms[((at_:Nat):Int).toNat]? =some m:=by rw[GB];exact hm
   have hb2:bs[((at_:Nat):Int).toNat]? =some b:=by rw[GB];exact hb
   clear hfa har;refine Pure.of ?_;generalize hV:((BE (Bd p m).fact (!b)).any fun c=>JZ (SY p op cs) ((QE ((Vz p ms).zip bs)).drop (at_+1)) (l++c))=R;generalize Bd p m=x at *;refine Yo kZ ?_;have hs:=Sn
   conv=>whnf
   repeat'((first|clear U K|apply st|(apply zk;intro K U)|refine zY ?_|refine zC ?_|(refine zb (fun hc=>?_) (fun hc=>?_)<;>try exact⟨⟩)|fail)<;>conv=>whnf)
   all_goals try(exfalso;simp at hc;omega)
   refine hall.use (rest:=[]) (by simpa using hs) ?_;clear hs;rintro r post Z ⟨v,rfl,rfl⟩ hs;generalize BE x.fact (!b)=css at *;refine zz ?_;(repeat clear U K);repeat intro K U
   refine Bw css.length (fun k (_:Unit)=>[(37,eI (A6 k))]) (fun _ _=>[.own v 1 (mw css)]) (fun k _=>R=(css.drop k).any fun c=>JZ (SY p op cs) ((QE ((Vz p ms).zip bs)).drop (at_+1)) (l++c)) () rfl hV.symm hs ?_;clear hs hV;rintro k - Z hk hR hs;rcases A7 css hk with⟨c,hck,hlt⟩|hke
   .rw[drop_cons hck,PV]at hR
    have hcm:=Bo hck;have hcl2:=hcl.2 c hcm;have c2:=ih (at_+1) (l++c) (by omega) (fun y hy=>(Du.1 hy).elim (hl y) (hlits c hcm y)) (by rw[NW];omega);generalize JZ (SY p op cs) ((QE ((Vz p ms).zip bs)).drop (at_+1)) (l++c)=B at *;have hwi:IntKind.i64.wrap ((at_:Int)+1)=((at_+1:Nat):Int):=by rw[wrap64 (by omega) (by omega)];omega
    rw[<-hwi]at c2;cases B
    all_goals
     refine zz ?_;(repeat clear U K);repeat intro K U
     refine FV (Cp hs 6) 0 (xs:=([]:List Fact)) (ys:=l) (enc:=FY) rfl (by simp only[List.length_nil];omega) Ii fun v' Z hs=>?_
     refine zz ?_;(repeat clear U K);repeat intro K U
     refine FV hs 0 (xs:=[]++l) (ys:=c) (enc:=FY) rfl (by simp only[List.nil_append];omega) Ii fun v' Z hs=>?_
     rw[List.nil_append]at hs
     conv=>whnf
     repeat'((first|apply st|refine zY ?_|refine rk ?_ ?_|exact fun s e=>by cases e;rfl|fail)<;>conv=>whnf)
     refine Pure.L7 c2 (.cons (.refl _) (.cons (hs.GC 0 rfl) (.cons (.refl _) (.cons (.refl _) .nil)))) rfl ?_;refine zz ?_;(repeat clear U K);repeat intro K U
    .exact⟨hlt,(),rfl,by rw[hR];rfl,hs.less (Ku _ _)⟩
    .exact AI (by rw[hR];rfl)
   .rw[Ai hke]at hR
    refine zz ?_;(repeat clear U K);repeat intro K U
    all_goals exact AI (by rw[hR];rfl)
def iQ (ar:List Int) (Zx:Bool) (be pr:List Int) (prt:Bool) (af:List Int):stO (⟨ar,Zx,be,pr,prt,af⟩,true)=if decide (ar.length=0)&&(Zx||decide (pr.length=0))then 3 else if Zx||prt then 2 else 1:=by
 rw[stO,if_pos rfl];cases ar<;>cases pr<;>simp
def kQ (p:Prog) (T:List (List Bool)) (l:List Int) (f:Bool) (hG:QK p l) (h16:p.methods.length<=16) (hT:JY T l):Pure zP 135 [.a (BG p),rB T,.l (iL l) f] (eI (stO (E9 (Dp T) p l))):=by
 have c1:=k8 p T l f hG h16 hT;generalize E9 (Dp T) p l=x at *;obtain⟨⟨ar,Zx,be,pr,prt,af⟩,b⟩:=x;dsimp only at c1;cases b
 .refine jX kZ ?_
  have hs:=Sn;exact zW
 rw[iQ];cases ha:decide (ar.length=0)<;>cases hp:decide (pr.length=0)<;>cases Zx<;>cases prt
 all_goals
  first|replace ha:=of_decide_eq_true ha|replace ha:=of_decide_eq_false ha
  first|replace hp:=of_decide_eq_true hp|replace hp:=of_decide_eq_false hp
  refine jX kZ ?_;have hs:=Sn;exact zW
end Go.Gl
namespace Go.Gl
open Go.Proofs
def O3 {ms:List Int} {bs:List Bool} {k:Nat} {m:Int} {b:Bool} (hm:ms[k]? =some m) (hb:bs[k]? =some b):Cy ms (bs.take (k+1))=Cy ms (bs.take k)++(if b then [m]else []):=by
 have hz : ms.zip (bs.take (k+1))=ms.zip (bs.take k)++[(m,b)]:=by
  have h1:(ms.zip bs)[k]? =some (m,b):=List.getElem?_zip_eq_some.2 ⟨hm,hb⟩
  have e: ∀(a:List Int) (c:List Bool) (j:Nat),a.zip (c.take j)=(a.zip c).take j:=fun a=>by
   induction a with
   | nil=>intro c j;simp
   | cons x r ih=>
     intro c j;cases j with
     | zero=>simp
     | succ j=>
       cases c with
       | nil=>simp
       | cons y q=>simp[ih q j]
  rw[e,e,List.take_add_one,h1];rfl
 rw[Cy,Cy,hz,List.filter_append,SN];cases b<;>rfl
def Rr (ms:List Int) (bs:List Bool):(Cy ms bs).length<=bs.length:=by
 rw[Cy,B2];refine Nat.le_trans (Oc _ _) ?_;rw[List.length_zip];exact Nat.min_le_right _ _
def Fh {E:List Bool->Bool}: ∀(k:Nat) (pre:List Bool),(GU E k pre).length<=2 ^ k
 | 0,pre=>by
   rw[GU];split<;>simp
 | k+1,pre=>by
   rw[GU];have h1:=Fh (E:=E) k (pre++[false]);have h2:=Fh (E:=E) k (pre++[true]);split
   .rw[NW,Nat.pow_succ];omega
   .simp
attribute [local irreducible] Au Am Ab AR AK AY AQ AS AJ AX AN AP Ao Az Sat AU Ax Ad W
abbrev YL (x:List Int×Int):List V:=[.l (iL x.1) false,eI x.2]
def bN:EX YL 2:=fun x=>⟨rfl,fun v hv=>by
 rcases GR.1 hv with rfl|hv
 .rfl
 .rw[KF.1 hv];rfl⟩
end Go.Gl
namespace Go.Gl
open Go.Proofs
def bQ {Z Z2:AE} {v v':V} (h:Fw Z Z2 v v'): ∀fi ca:List V,DV Z Z2 (fi++[v]++ca) (fi++[v']++ca)
 | [],ca=> .cons h (bR ca)
 | x::r,ca=> .cons (.refl _) (bQ h r ca)
where bR: ∀ca:List V,DV Z Z2 ca ca
 | []=> .nil
 | x::r=> .cons (.refl _) (bR r)
def ABK {Z:AE} {sz:Nat} {es:List (List V)} {f:Bool} (he: ∀e∈es,e.length=sz) {K:V->AE->Prop} (hk:K (.l es true) Z):AQ Z sz (.l es f) none (some (.i .i64 (es.length:Int))) (some (.i .i64 (es.length:Int))) K:=by
 refine⟨he,?_⟩;simp only[Of];refine⟨Int.le_refl _,Int.natCast_nonneg _,Int.le_refl _,trivial,?_⟩;simpa using hk
attribute [local irreducible] Au Am Ab AR AK AY AQ AS AJ AX AN AP Ao Az Sat AU Ax Ad W
def ABL (ls:List Fact) (b:Bool) (hl:ls.length<=1000000):Pure zP 279 [.l (Dx ls) b] (.l (Dx ls) true):=by
 have hM:=Mx;refine wi kZ ?_;have hs:=Sn;refine zz ?_;(repeat clear U K);repeat intro K U
 refine ABK (fun x hx=>by obtain⟨y,_,rfl⟩:=IX.1 hx;rfl) ?_;exact zW
def aF (g:FuncId) (fi ca:List V) (H:List At) (kf:List Fact->Bool) (D:List Fact->Prop):Prop:= ∀l b,D l-> ∀Z,Sat Z H->Au zP g (fi++[L6 l b]++ca) Z fun r Z'=>r= .ret (.b (kf l))/\Sat Z' H
def kB (f:Fact):Prop:= ∀(c:Bool) (g:FuncId) (fi ca:List V) (H:List At) (kf:List Fact->Bool) (D:List Fact->Prop) (l:List Fact) (b:Bool),
 aF g fi ca H kf D->(∀x∈CZ f c,D (l++x))->l.length+lv f<=500000-> ∀Z,Sat Z H->Au zP 209 [.a (xF f),.b c,L6 l b,.f (.func g) fi ca] Z fun r Z'=>r= .ret (.b ((CZ f c).any fun x=>kf (l++x)))/\Sat Z' H
def mb (A B:List (List Fact)) (kf:List Fact->Bool) (l:List Fact):((WG A B).any fun x=>kf (l++x))=A.any fun x=>B.any fun y=>kf (l++x++y):=by
 rw[IZ,IY,IY];constructor
 .rintro⟨z,hz,h⟩
  obtain⟨x,hx,y,hy,rfl⟩:=Ff.1 hz;exact⟨x,hx,IY.2 ⟨y,hy,by rw[PD];exact h⟩⟩
 .rintro⟨x,hx,h⟩
  obtain⟨y,hy,h⟩:=IY.1 h;exact⟨x++y,Ff.2 ⟨x,hx,y,hy,rfl⟩,by rw[<-PD];exact h⟩
def od {f k0 k1:Fact} (hk:f.kids= [k0,k1]) (hc1:kB k1) {c:Bool} {g:FuncId} {fi ca:List V} {H:List At} {kf:List Fact->Bool} {D:List Fact->Prop} (hT:aF g fi ca H kf D) :
    aF 278 [] [.rp (xF f),.rp [.b c],.rp [.f (.func g) fi ca]] H (fun m=>(CZ k1 c).any fun y=>kf (m++y)) (fun m=>(∀y∈CZ k1 c,D (m++y))/\m.length+lv k1<=500000):=by
 rintro m b ⟨hd,hml⟩ Z hs;have h1:f.kids[(1:Int).toNat]? =some k1:=by rw[hk];rfl
 show Au zP 278 [L6 m b,.rp (xF f),.rp [.b c],.rp [.f (.func g) fi ca]] Z _;refine wj kZ ?_;refine zz ?_;(repeat clear U K);repeat intro K U
 refine Au.mono (hc1 c g fi ca H kf D m b hT hd hml Z hs) ?_;clear hs;rintro r Z ⟨rfl,hs⟩;refine zz ?_;(repeat clear U K);repeat intro K U
 exact AI ⟨rfl,hs⟩
def mQ {w : AH} (f:Fact):Bb w f=true->lv f<=100->kB f:=by
 have hM:=Mx
 induction f using Fact.ind with
 | h f ih=>
   intro hn hv c g fi ca H kf D l b hT hd hll Z hs;have har:=Bl _ hn
   have hnk: ∀k∈f.kids,Bb w k=true:=by
    rw[CM,A9,EB]at hn;exact hn.2
   have hop:f.op=1\/f.op=5\/CI f=true\/f.op=6\/f.op=7:=by
    rw[CM,A9]at hn;have h1:=hn.1;simp only[DE,YF,A9]at h1;rw[Mu];simp only[A9,Cc];have h2:=h1.1;split at h2
    .omega
    .split at h2
     .omega
     .simp only[Fm,DD]at h2
      omega
   refine xj kZ ?_;have hcs:=Kr f c;rw[QP]at hcs;rcases hop with h1|h5|hl|h67
   .rw[if_pos h1]at hcs
    rw[hcs]at hd ⊢;cases c
    .rw[if_neg (by decide)]at hd ⊢
     have h0:=hT l b (by simpa using hd [] (.head _)) Z hs
     conv=>whnf
     repeat'((first|clear U K|apply st|(apply zk;intro K U)|refine zY ?_|(refine zb (fun hc=>?_) (fun hc=>?_)<;>try exact⟨⟩)|fail)<;>conv=>whnf)
     all_goals try(exfalso;omega)
     refine BN (Au.mono h0 ?_);clear hs h0;rintro r Z ⟨rfl,hs⟩;refine zz ?_;(repeat clear U K);repeat intro K U
     exact AI ⟨by simp,hs⟩
    .rw[if_pos rfl]at hd ⊢
     conv=>whnf
     repeat'((first|clear U K|apply st|(apply zk;intro K U)|refine zY ?_|(refine zb (fun hc=>?_) (fun hc=>?_)<;>try exact⟨⟩)|fail)<;>conv=>whnf)
     all_goals try(exfalso;omega)
     exact AI ⟨rfl,hs⟩
   .obtain⟨k,hk,-⟩:=FH har h5
    have hkm:k∈f.kids:=by rw[hk];exact .head _
    have hve:lv f=lv k:=by
     rw[Jq f,YJ,if_pos h5,hk];rfl
    have hvk:lv k<=100:=by omega
    rw[if_neg (by omega),if_pos h5,hk]at hcs;have hcs2:CZ f c=CZ k (!c):=hcs;have h0:f.kids[(0:Int).toNat]? =some k:=by rw[hk];rfl
    rw[hcs2]at hd ⊢
    conv=>whnf
    repeat'((first|clear U K|apply st|(apply zk;intro K U)|refine zY ?_|(refine zb (fun hc=>?_) (fun hc=>?_)<;>try exact⟨⟩)|fail)<;>conv=>whnf)
    all_goals try(exfalso;omega)
    refine Au.mono (ih k hkm (hnk k hkm) hvk (!c) g fi ca H kf D l b hT hd (by omega) Z hs) ?_;clear hs;rintro r Z ⟨rfl,hs⟩;refine zz ?_;(repeat clear U K);repeat intro K U
    exact AI ⟨rfl,hs⟩
   .have hlo:=Ft hl
    rw[if_neg (by omega),if_neg (by omega),if_neg (by omega)]at hcs;have hcs2:CZ f c= [[if c then EV f else f]]:=by rw[hcs];cases c<;>rfl
    rw[hcs2]at hd ⊢;have c1:=ABL l b (by omega);have hd2:=hd _ (.head _);have e:Jb (if c then EV f else f)=xF f++[.b c]:=TW hl c
    conv=>whnf
    repeat'((first|clear U K|apply st|(apply zk;intro K U)|refine zY ?_|refine rk ?_ ?_|exact fun s e=>by cases e;rfl|refine zC ?_|(refine zb (fun hc=>?_) (fun hc=>?_)<;>try exact⟨⟩)|fail)<;>conv=>whnf)
    all_goals try(exfalso;omega)
    have hrow:([xF f++[.b c]]:List (List V))= [if c then EV f else f].map Jb:=by rw[E3,List.map_nil,e]
    refine(?_:AK 88 Z 7 (.l (Dx l) true) (.l [xF f++[.b c]] true) _);rw[hrow];refine FV (enc:=Jb) (gw hs (es:=Dx l) (sz:=7) (fun x hx=>by obtain⟨y,_,rfl⟩:=IX.1 hx;rfl)) 0 (xs:=l) (ys:=[if c then EV f else f]) rfl (b:=88) (by simp;omega) Ug (fun v Z hs=>?_)
    conv=>whnf
    repeat'((first|apply st|refine rk ?_ ?_|exact fun s e=>by cases e;rfl|fail)<;>conv=>whnf)
    obtain⟨Z2,q1,q2,q3⟩:=HC hs 0 rfl;refine BN (Au.Om (Au.mono (hT (l++[if c then EV f else f]) false hd2 Z2 q3) ?_) q1 (bQ q2 fi ca));clear hs q1 q2 q3;rintro r Z ⟨rfl,hs⟩;refine zz ?_;(repeat clear U K);repeat intro K U
    exact AI ⟨by simp,hs⟩
   .obtain⟨k0,k1,hk,-,-⟩:=FG har h67
    have hkm0:k0∈f.kids:=by rw[hk];exact .head _
    have hkm1:k1∈f.kids:=by rw[hk];exact .tail _ (.head _)
    have hve:lv f=lv k0+lv k1:=by
     rw[Jq f,YJ,if_neg (by omega),if_pos h67,hk];rfl
    have hvk:lv k0+lv k1<=100:=by omega
    rw[if_neg (by omega),if_neg (by omega),if_pos h67,hk]at hcs;have h0:f.kids[(0:Int).toNat]? =some k0:=by rw[hk];rfl
    have h1:f.kids[(1:Int).toNat]? =some k1:=by rw[hk];rfl
    have i0:=ih k0 hkm0 (hnk k0 hkm0) (by omega);have i1:=ih k1 hkm1 (hnk k1 hkm1) (by omega);by_cases hap:(c != (f.op==7))=true
    .rw [if_pos hap]at hcs
     have hcs2:CZ f c=CZ k0 c++CZ k1 c:=hcs;rw[hcs2]at hd ⊢;rw[List.any_append];have hd3:=fun x hx=>hd x (PW _ hx)
     have hd4:=fun x hx=>hd x (Od _ hx)
     clear hcs hcs2 hd
     have h6b:(f.op==6)=c:=by
      rcases h67 with h6|h7
      .rw[h6]at hap ⊢;cases c<;>simp_all
      .rw[h7]at hap ⊢;cases c<;>simp_all
     rcases h67 with h6|h7
     all_goals
      cases c
      all_goals
       conv=>whnf
       repeat'((first|clear U K|apply st|(apply zk;intro K U)|refine zY ?_|(rw[h6b])|(refine zb (fun hc=>?_) (fun hc=>?_)<;>try exact⟨⟩)|fail)<;>conv=>whnf)
       all_goals try(exfalso;simp_all;done)
       all_goals try(exfalso;omega)
     .refine Au.mono (i0 true g fi ca H kf D l b hT hd3 (by omega) Z hs) ?_
      clear hs;rintro r Z ⟨rfl,hs⟩;generalize hB0:((CZ k0 true).any fun x=>kf (l++x))=B0;cases B0
      .refine zz ?_;(repeat clear U K);repeat intro K U
       refine Au.mono (i1 true g fi ca H kf D l b hT hd4 (by omega) Z hs) ?_;clear hs;rintro r Z ⟨rfl,hs⟩;refine zz ?_;(repeat clear U K);repeat intro K U
       exact AI ⟨by rw[hB0];rfl,hs⟩
      .refine zz ?_;(repeat clear U K);repeat intro K U
       exact AI ⟨by rw[hB0];rfl,hs⟩
     .refine Au.mono (i0 false g fi ca H kf D l b hT hd3 (by omega) Z hs) ?_
      clear hs;rintro r Z ⟨rfl,hs⟩;generalize hB0:((CZ k0 false).any fun x=>kf (l++x))=B0;cases B0
      .refine zz ?_;(repeat clear U K);repeat intro K U
       refine Au.mono (i1 false g fi ca H kf D l b hT hd4 (by omega) Z hs) ?_;clear hs;rintro r Z ⟨rfl,hs⟩;refine zz ?_;(repeat clear U K);repeat intro K U
       exact AI ⟨by rw[hB0];rfl,hs⟩
      .refine zz ?_;(repeat clear U K);repeat intro K U
       exact AI ⟨by rw[hB0];rfl,hs⟩
    .rw [if_neg hap]at hcs
     have hcs2:CZ f c=WG (CZ k0 c) (CZ k1 c):=hcs;rw[hcs2]at hd ⊢;rw[mb];have hlx:=SA k0 (Bl _ (hnk k0 hkm0)) c;have hT2:=od hk i1 (c:=c) hT;have hd5: ∀x∈CZ k0 c,(∀y∈CZ k1 c,D (l++x++y))/\(l++x).length+lv k1<=500000:=fun x hx=>⟨fun y hy=>by rw[PD];exact hd _ (Ff.2 ⟨x,hx,y,hy,rfl⟩),by have:=hlx x hx;rw[NW];omega⟩
     have h6b:(f.op==6)= !c:=by
      rcases h67 with h6|h7
      .rw[h6]at hap ⊢;cases c<;>simp_all
      .rw[h7]at hap ⊢;cases c<;>simp_all
     have hrun:=fun Z hs=>i0 c 278 [] [.rp (xF f),.rp [.b c],.rp [.f (.func g) fi ca]] H _ _ l b hT2 hd5 (by omega) Z hs
     clear hcs hcs2 hd hd5 hT2;generalize ((CZ k0 c).any fun x=>(CZ k1 c).any fun y=>kf (l++x++y))=B0 at *;rcases h67 with h6|h7
     all_goals
      cases c
      all_goals
       conv=>whnf
       repeat'((first|clear U K|apply st|(apply zk;intro K U)|refine zY ?_|(rw[h6b])|(refine zb (fun hc=>?_) (fun hc=>?_)<;>try exact⟨⟩)|fail)<;>conv=>whnf)
       all_goals try(exfalso;simp_all;done)
       all_goals try(exfalso;omega)
     all_goals
      refine Au.mono (hrun Z hs) ?_;clear hs;rintro r Z ⟨rfl,hs⟩;refine zz ?_;(repeat clear U K);repeat intro K U
      exact AI ⟨rfl,hs⟩
end Go.Gl
namespace Go.Gl
open Go.Proofs
attribute [local irreducible] Au Am Ab AR AK AY AQ AS AJ AX AN AP Ao Az Sat AU Ax Ad W
def jB:EX (fun b:Bool=>[V.b b]) 1:=fun x=>⟨rfl,fun v hv=>by rw[KF.1 hv];rfl⟩
abbrev PK (p:Prog) (ms:List Int) (op:Bool) (cs:List Int):List Bool->Bool:=ng (SY p op cs) (Vz p ms)
def b7 (p:Prog) (ms:List Int) (op:Bool) (cs:List Int) (g:Bool) (T:List (List Bool)) (h:gD p ms op cs) (bs:List Bool) (hbs:bs.length<=ms.length) (fb:Bool) :
    Pure zP 240 [.a (zI p ms op cs g T),.l [] true,eI 0,.l (bL bs) fb] (.b (PK p ms op cs bs)):=by
 have:=yn p ms op cs g T h bs hbs fb bs.length 0 [] (by omega) (fun x hx=>by cases hx) (by simp);exact Pure.arg this (.cons (.refl _) (.cons (.l (fun h=>by cases h) .nil) (.cons (.refl _) (.cons (.refl _) .nil))))
def oG (p : Prog) (ms:List Int) (op:Bool) (cs:List Int) (g:Bool) (T:List (List Bool)) (h:gD p ms op cs): ∀(d:Nat) (bs:List Bool) (fb:Bool),bs.length+d=ms.length->
    BT zP 161 [.a (zI p ms op cs g T),.l (bL bs) fb] [] fun r post=> ∃v,r= .ret v/\post= [.own v 1 (EK ((GU (PK p ms op cs) d bs).map (Cy ms)))]:=by
 have hM:=Mx;have hfew:=h.sV;intro d
 induction d with
 | zero=>
   intro bs fb hbd Z hs;have ebl:((bL bs).length:Int)=bs.length:=by simp
   have eml:((iL ms).length:Int)=ms.length:=by simp
   have c1:=b7 p ms op cs g T h bs (by omega) fb;rw[GU];cases hB:PK p ms op cs bs<;>rw[hB]at c1
   .refine Us kZ ?_
    conv=>whnf
    repeat'((first|clear U K|apply st|(apply zk;intro K U)|refine zY ?_|refine zC ?_|fail)<;>conv=>whnf)
    exact AI ⟨_,⟨_,rfl,rfl⟩,Dw hs 1⟩
   .refine Us kZ ?_
    conv=>whnf
    repeat'((first|clear U K|apply st|(apply zk;intro K U)|refine zY ?_|refine zC ?_|(refine zb (fun hc=>?_) (fun hc=>?_)<;>try exact⟨⟩)|fail)<;>conv=>whnf)
    all_goals try(exfalso;simp at hc;omega)
    refine Bw bs.length (fun k v=>[(5,v),(21,eI (A6 k))]) (fun k v=>[.own v 1 (iL (Cy ms (bs.take k)))]) (fun _ _=>True) (.l [] true) rfl trivial (by simpa[Cy]using Dw hs 1) ?_;clear hs;rintro k v Z hk - hs;have hal:=Rr ms (bs.take k);rw[Jd]at hal;rcases A7 bs hk with⟨b,hb,hlt⟩|hke
    .have hck:A6 k=k:=Ae (by omega)
     obtain⟨m,hm⟩: ∃m,ms[k]? =some m:=⟨_,Cr (by omega)⟩
     have hst:=O3 hm hb;have hm2:ms[(A6 k).toNat]? =some m:=by rw[hck,GB];exact hm
     generalize Cy ms (bs.take k)=zl at *;have hll:zl.length<AZ/\(zl.length+1)*8<=140737488355328:=by omega
     cases b
     .rw[if_neg (by decide),GA]at hst
      refine zz ?_;(repeat clear U K);repeat intro K U
      exact⟨hlt,_,rfl,trivial,by rw[hst];exact hs⟩
     .rw[if_pos rfl]at hst
      conv=>whnf
      repeat'((first|clear U K|apply st|(apply zk;intro K U)|refine zY ?_|refine aq fun v Z hs hsl=>?_|fail)<;>conv=>whnf)
      exact⟨hlt,_,rfl,trivial,by rw[hst];exact hs⟩
    .rw[List.take_of_length_le (Nat.le_of_eq hke.symm)]at hs
     conv=>whnf
     repeat'((first|(refine sqz ?_;intro K U)|(apply si;intro A B hA hB)|(refine hA _ _ ?_;clear hB B hA A)|(apply U;clear U K)|refine⟨rfl,?_⟩|fail)<;>conv=>whnf)
     refine AAt hs 0 rfl (fun Z2 h=> .cons (.refl _) (.cons h (.cons (.refl _) (.cons (.refl _) (.cons (.refl _) (.cons (.refl _) .nil)))))) fun Z hs=>?_
     refine zz ?_;(repeat clear U K);repeat intro K U
     exact Md hs (.refl _ _ _) (by simp)
 | succ d ih=>
   intro bs fb hbd Z hs;have ebl:((bL bs).length:Int)=bs.length:=by simp
   have eml:((iL ms).length:Int)=ms.length:=by simp
   have c1:=b7 p ms op cs g T h bs (by omega) fb;rw[GU];cases hB:PK p ms op cs bs<;>rw[hB]at c1
   .refine Us kZ ?_
    conv=>whnf
    repeat'((first|clear U K|apply st|(apply zk;intro K U)|refine zY ?_|refine zC ?_|fail)<;>conv=>whnf)
    exact AI ⟨_,⟨_,rfl,rfl⟩,Dw hs 1⟩
   .have i1:=ih (bs++[false]) false (by simp;omega)
    have i2:=ih (bs++[true]) false (by simp;omega);have n1:=Fh (E:=PK p ms op cs) d (bs++[false]);have n2:=Fh (E:=PK p ms op cs) d (bs++[true]);have hd8:2 ^ d<=2 ^ 8:=Nat.pow_le_pow_right (by omega) (by omega);rw[if_pos rfl,SN];generalize GU (PK p ms op cs) d (bs++[false])=A1 at *;generalize GU (PK p ms op cs) d (bs++[true])=A2 at *;refine Us kZ ?_
    conv=>whnf
    repeat'((first|clear U K|apply st|(apply zk;intro K U)|refine zY ?_|refine zC ?_|(refine zb (fun hc=>?_) (fun hc=>?_)<;>try exact⟨⟩)|fail)<;>conv=>whnf)
    all_goals try(exfalso;simp at hc;omega)
    refine FV (Cp hs 1) 0 (xs:=([]:List Bool)) (ys:=bs) (enc:=fun b:Bool=>[V.b b]) rfl (by simp only[List.length_nil];omega) jB fun v' Z hs=>?_
    rw[List.nil_append]at hs
    conv=>whnf
    repeat'((first|apply st|refine zY ?_|refine rk ?_ ?_|exact fun s e=>by cases e;rfl|refine aq fun v Z hs hsl=>?_|fail)<;>conv=>whnf)
    obtain⟨Z2,g1,g2,g3⟩:=HC hs 0 rfl;refine Au.Om (i1.use (rest:=[]) g3 ?_) g1 (.cons (.refl _) (.cons g2 .nil));clear hs g1 g2 g3;rintro r post Z ⟨v8,rfl,rfl⟩ hs;refine zz ?_;(repeat clear U K);repeat intro K U
    refine FV (Cp hs 1) 0 (xs:=([]:List Bool)) (ys:=bs) (enc:=fun b:Bool=>[V.b b]) rfl (by simp only[List.length_nil];omega) jB fun v' Z hs=>?_
    rw[List.nil_append]at hs
    conv=>whnf
    repeat'((first|apply st|refine zY ?_|refine rk ?_ ?_|exact fun s e=>by cases e;rfl|refine aq fun v Z hs hsl=>?_|fail)<;>conv=>whnf)
    obtain⟨Z2,g1,g2,g3⟩:=HC hs 0 rfl;refine Au.Om (i2.use (rest:=[_]) g3 ?_) g1 (.cons (.refl _) (.cons g2 .nil));clear hs g1 g2 g3;rintro r post Z ⟨v9,rfl,rfl⟩ hs;refine zz ?_;(repeat clear U K);repeat intro K U
    refine Pq hs 1 0 rfl rfl (by simp only[B2];omega) (by simp) (by simp[CO]) fun v' Z hs=>?_
    refine zz ?_;(repeat clear U K);repeat intro K U
    exact AI ⟨_,⟨_,rfl,rfl⟩,by simpa[SN]using hs.less (Ku _ _)⟩
end Go.Gl
namespace Go.Gl
open Go.Proofs
def Dr (f:Fact) (c:Bool) (j:Nat) (a:Int) (p:List Int) (k:Kn):Kn:=
 if f.arg=a/\Bc f.path p=true then(if p.length<j then m6 (Bz k c) (f.path.getD p.length 0)else if p.length=j then Bz k c else k)else k
def pZ (f:Fact) (c:Bool) (a:Int) (p:List Int) (k:Kn):Dr f c 0 a p k=if a=f.arg/\p= []then Bz k c else k:=by
 unfold Dr;by_cases h:f.arg=a/\Bc f.path p=true
 .rw[if_pos h,if_neg (by omega)]
  by_cases hp:p.length=0
  .rw[if_pos hp,if_pos ⟨h.1.symm,YE.1 hp⟩]
  .rw[if_neg hp,if_neg (fun h'=>hp (by rw[h'.2];rfl))]
 .rw[if_neg h,if_neg]
  rintro⟨rfl,rfl⟩;exact h ⟨rfl,B1.2 ⟨f.path,by simp⟩⟩
def pb (f:Fact) (c:Bool) {j:Nat} (hj:j<f.path.length) (a:Int) (p:List Int) (k:Kn):Dr f c (j+1) a p k=if a=f.arg/\p=f.path.take (j+1)then Bz (Dr f c j a p k) c else if a=f.arg/\p=f.path.take j then m6 (Dr f c j a p k) (f.path.getD j 0)else Dr f c j a p k:=by
 unfold Dr;by_cases h:f.arg=a/\Bc f.path p=true
 .rw [if_pos h,if_pos h]
  obtain⟨h1,h2⟩:=h;rw[HQ]at h2;obtain⟨h2,h3⟩:=h2;have l1:p=f.path.take (j+1)↔p.length=j+1:=⟨fun e=>by rw[e,Jd];omega,fun e=>by rw[e]at h3;exact h3⟩
  have l2:p=f.path.take j↔p.length=j:=⟨fun e=>by rw[e,Jd];omega,fun e=>by rw[e]at h3;exact h3⟩
  have n1:p.length≠j+1-> ¬(a=f.arg/\p=f.path.take (j+1)):=fun h h'=>h (l1.1 h'.2)
  have n2:p.length≠j-> ¬(a=f.arg/\p=f.path.take j):=fun h h'=>h (l2.1 h'.2)
  by_cases q1:p.length<j
  .rw[if_pos (show p.length<j+1 by omega),if_neg (n1 (by omega)),if_neg (n2 (by omega)),if_pos q1]
  .by_cases q2:p.length=j
   .rw[if_pos (show p.length<j+1 by omega),if_neg (n1 (by omega)),if_pos (show a=f.arg/\p=f.path.take j from⟨h1.symm,l2.2 q2⟩),if_neg q1,if_pos q2,q2]
   .by_cases q3:p.length=j+1
    .rw[if_neg (show¬p.length<j+1 by omega),if_pos q3,if_pos (show a=f.arg/\p=f.path.take (j+1) from⟨h1.symm,l1.2 q3⟩),if_neg q1,if_neg q2]
    .rw[if_neg (show¬p.length<j+1 by omega),if_neg q3,if_neg (n1 q3),if_neg (n2 q2),if_neg q1,if_neg q2]
 .rw[if_neg h,if_neg h,if_neg,if_neg]
  .rintro⟨rfl,rfl⟩
   exact h ⟨rfl,B1.2 ⟨f.path.drop j,by rw[List.take_append_drop]⟩⟩
  .rintro⟨rfl,rfl⟩
   exact h ⟨rfl,B1.2 ⟨f.path.drop (j+1),by rw[List.take_append_drop]⟩⟩
def uZ (a : Int) (p:List Int) (k:Kn) (l:Fact):H2 a p k l=if a=(Af l).1.arg/\p=(Af l).1.path then By (Dr (Af l).1 (Af l).2 (Af l).1.path.length a p k) (Af l).1 (Af l).2 else Dr (Af l).1 (Af l).2 (Af l).1.path.length a p k:=by
 unfold H2 Dr;by_cases h:(Af l).1.arg=a/\Bc (Af l).1.path p=true
 .rw [if_pos h,if_pos h]
  obtain⟨h1,h2⟩:=h;rw[HQ]at h2;obtain⟨h2,h3⟩:=h2;by_cases hp:(Af l).1.path=p
  .rw[if_pos hp,if_pos ⟨h1.symm,hp.symm⟩,if_neg (by rw[hp];omega),if_pos (by rw[hp])]
  .have hne:p.length<(Af l).1.path.length:=by
    rcases Nat.lt_or_ge p.length (Af l).1.path.length with h'|h'
    .exact h'
    .rw[List.take_of_length_le h']at h3
     exact absurd h3.symm hp
   rw[if_neg hp,if_neg (fun h=>hp h.2.symm),if_pos hne]
 .rw[if_neg h,if_neg h,if_neg]
  rintro⟨rfl,rfl⟩;exact h ⟨rfl,KC _⟩
def pR (ls:List Fact) (l:Fact) (a:Int) (p:List Int):kg (ls++[l]) a p=H2 a p (kg ls a p) l:=by
 rw[kg,List.foldl_append];rfl
def Xa (l:List Int) (s:Int):(UT l s).length<=l.length+1:=by
 unfold UT;split
 .omega
 .simp
def iu (a:Int) (p:List Int): ∀(ls:List Fact) (k:Kn),(ls.foldl (H2 a p) k).no.length<=k.no.length+ls.length/\(ls.foldl (H2 a p) k).AG.length<=k.AG.length+ls.length
 | [],k=>⟨IW _,IW _⟩
 | l ::r,k=>by
   obtain⟨h1,h2⟩:=iu a p r (H2 a p k l)
   have h3:(H2 a p k l).no.length<=k.no.length+1/\(H2 a p k l).AG.length<=k.AG.length+1:=by
    unfold H2
    repeat' split
    .have:=SH (Bz k (Af l).2) (Af l).1 (Af l).2
     rw[IV];simp only[Bz]at this ⊢;omega
    .have:=Xa k.AG ((Af l).1.path.getD p.length 0)
     simp only[m6,Bz]at this ⊢;omega
    .omega
   rw[List.foldl_cons,Ky];omega
def pS {n:Nat} {ls:List Fact} (h:G6 n ls) (a:Int) (p:List Int):(kg ls a p).BU<2 ^ n/\(kg ls a p).Dt<2 ^ n:=by
 obtain⟨-,-,-,c4,c5,-⟩:=Mf (bG ls a p);have hc2:G6 n (ls.filter (Fo a p)):=fun l hl=>h l (JX.1 hl).1
 rw[c4,c5];exact⟨MT hc2,ia hc2⟩
abbrev js:AV:=(.seq [2,3] (.C9 [⟨(some 2),.PM (.t 0),none⟩,
 ⟨(some 3),.PM (.t 1),none⟩,
 ⟨(some 4),.mv (.c .pn),none⟩])
 (.seq [2,3,5,6] (.C9 [⟨(some 8),.GO 1 (.t 2),none⟩,
  ⟨(some 9),.load none (.t 8),none⟩,
  ⟨(some 10),.load (some 4) (.t 3),none⟩,
  ⟨(some 11),.lookup (.a [.i64,.i64,.i64,.i64]) .pn true (.t 9) (.t 10),none⟩,
  ⟨(some 7),.mv (.t 11),none⟩,
  ⟨(some 12),.extract 0 (.t 7),none⟩,
  ⟨(some 13),.extract 1 (.t 7),none⟩,
  ⟨(some 5),.mv (.t 12),none⟩,
  ⟨(some 6),.mv (.t 13),none⟩])
 (.seq [5] (.seq [2,3,5,15] (.C9 [⟨(some 14),.mv (.t 6),none⟩,
  ⟨(some 15),.not (.t 14),none⟩])
 (.cond (.t 15)
 (.seq [2,3,5] (.C9 [⟨(some 16),.build [(.i .u64 0),(.i .u64 0),(.i .i64 0),(.i .i64 0),(.l [] true),(.b false),(.b false),(.l [] true)] [(2,1,(.c (.i .i64 (-1000000000)))),(3,1,(.c (.i .i64 1000000000)))],none⟩,
  ⟨(some 17),.box (.t 16),none⟩,
  ⟨(some 5),.mv (.t 17),none⟩])
 (.C9 [⟨(some 18),.GO 1 (.t 2),none⟩,
  ⟨(some 19),.load none (.t 18),none⟩,
  ⟨(some 20),.load (some 4) (.t 3),none⟩,
  ⟨(some 21),.mv (.t 5),none⟩,
  ⟨none,.Ef (.a [.i64,.i64,.i64,.i64]) (.t 19) (.t 20) (.t 21),none⟩]))
 .skip))
 (.seq [4] (.C9 [⟨(some 22),.mv (.t 5),none⟩,
  ⟨(some 4),.mv (.t 22),none⟩])
 .ret))))
def oS:Tryz.f213.body.bind (res Tryz.prog Tryz.f213.ntmps [] [2,3])=some (erase js):=by kernel_rfl
def qZ {args:List V} (hn:args.length<=23) {Z:AE} {Q:R->AE->Prop} (h:W Tryz.prog js (gZ [4] Q) (BA 0 args) Z):Au Tryz.prog 213 args Z Q:=
 Lt Tryz.func213 (by kernel_rfl) oS rfl hn (nE h)
end Go.Gl
namespace Go.Gl
open Go.Proofs
attribute [local irreducible] Au Am Ab AR AK AY AQ AS AJ AX AN AP Ao Az Sat AU Ax Ad W
def AAH (s c:Nat) (hs0:s<18446744073709551616) (hc:c<64):Pure zP 212 [eU s,eI c] (eU (s|||2 ^ c)):=by
 refine xh kZ ?_;have hs:=Sn
 conv=>whnf
 repeat'((first|clear U K|apply st|(apply zk;intro K U)|fail)<;>conv=>whnf)
 refine⟨Int.natCast_nonneg _,?_⟩;refine zv ?_;(repeat clear U K);repeat intro K U
 exact AF (by rw[GB,U1 hc,It hs0 (Ie hc)])
def hasG (s c:Nat) (hs0:s<18446744073709551616) (hc:c<64):Pure zP 159 [eU s,eI c] (.b (s.testBit c)):=by
 refine yG kZ ?_;have hs:=Sn
 conv=>whnf
 repeat'((first|clear U K|apply st|(apply zk;intro K U)|fail)<;>conv=>whnf)
 refine⟨Int.natCast_nonneg _,?_⟩;refine zv ?_;(repeat clear U K);repeat intro K U
 refine AF ?_;rw[GB,U0 hc];have h1:s >>> c<18446744073709551616:=by rw[Nat.shiftRight_eq_div_pow];exact Nat.lt_of_le_of_lt (Nat.div_le_self _ _) hs0
 have h2:bits .and .u64 ((s >>> c:Nat):Int) 1=((s >>> c&&&1:Nat):Int):=F7 h1 (show 1<_ by decide);rw[h2];simp only[Nat.testBit,Nat.and_comm 1];congr 1;rcases Nat.mod_two_eq_zero_or_one (s >>> c)with h|h<;>simp[Nat.and_one_is_mod,h]
def QW (s:Nat) (c:Int) (hs0:s<18446744073709551616) (h0:0<=c) (hc:c<64):Pure zP 212 [eU s,eI c] (eU (s|||2 ^ c.toNat)):=by
 have:=AAH s c.toNat hs0 (by omega);rw[Int.toNat_of_nonneg h0]at this;exact this
def gu (s:Nat) (c:Int) (hs0:s<18446744073709551616) (h0:0<=c) (hc:c<64):Pure zP 159 [eU s,eI c] (.b (s.testBit c.toNat)):=by
 have:=hasG s c.toNat hs0 (by omega);rw[Int.toNat_of_nonneg h0]at this;exact this
abbrev gW (w:AH) (us:List Nat):List V:=[.l (EK w.parents) false,.l (iL w.owner) false,.l (us.map fun u=>[eU u]) false]
abbrev gv (w:AH) (us:List Nat) (L:Nat):List V:=[.rp (gW w us),.m L]
abbrev gz (b:Nat) (vn vs:V) (k:Kn):List At:=[.box b [eU k.BU,eU k.Dt,eI k.low,eI k.high,vn,.b k.whole,.b k.Ah,vs],.own vn 1 (iL k.no),.own vs 1 (iL k.AG)]
abbrev WN (e:B5):List At:=gz e.b e.vn e.vs e.k
def CA (L:Nat) (es:List B5):List At:= .map L (UE es)::es.flatMap WN
def JJ (L:Nat) (es pre post:List B5):List At:= .map L (UE es)::(pre++post).flatMap WN
def W9 (L:Nat) (pre post:List B5) (e:B5):(CA L (pre++e::post)).Perm (WN e++JJ L (pre++e::post) pre post):=by
 unfold CA JJ;rw[List.flatMap_append,List.flatMap_cons,List.flatMap_append];refine List.Perm.trans ?_ (List.perm_middle.symm);refine List.Perm.cons _ ?_;rw[<-PD,<-PD];exact List.Perm.append_right _ NV
def VT {L:Nat} {pre post:List B5} {e e':B5} (h1:e'.a=e.a) (h2:e'.p=e.p) (h3:e'.b=e.b):JJ L (pre++e'::post) pre post=JJ L (pre++e::post) pre post:=by
 rw[JJ,JJ,Rt h1 h2 h3]
def K4 {Z:AE} {X:List At} {L:Nat} {pre post:List B5} {e:B5} (h:Sat Z (X++CA L (pre++e::post))):Sat Z (.box e.b [eU e.k.BU,eU e.k.Dt,eI e.k.low,eI e.k.high,e.vn,.b e.k.whole,.b e.k.Ah,e.vs]:: .own e.vn 1 (iL e.k.no):: .own e.vs 1 (iL e.k.AG)::(X++JJ L (pre++e::post) pre post)):=by
 have h2:Sat Z (WN e++(X++JJ L (pre++e::post) pre post)):=h.perm ((List.Perm.append_left X (W9 L pre post e)).trans (by rw[<-PD,<-PD];exact NV.append_right _));exact h2
def D4 {Z:AE} {X:List At} {L:Nat} {pre post:List B5} {e e':B5} (h1:e'.a=e.a) (h2:e'.p=e.p) (h3:e'.b=e.b) (h:Sat Z (WN e'++(X++JJ L (pre++e::post) pre post))):Sat Z (X++CA L (pre++e'::post)):=by
 rw[<-VT h1 h2 h3]at h;exact h.perm ((List.Perm.append_left X (W9 L pre post e')).trans (by rw[<-PD,<-PD];exact NV.append_right _)).symm
def rE (w:AH) (us:List Nat) {kf:Int->List Int->Kn} {L:Nat} {es:List B5} (h:B9 kf es) {a:Int} {p:List Int} (hp:p.length<=2) :
    BT zP 213 [.a (gv w us L),Cd a p] (CA L es) fun r post=> ∃es' e,nk kf es es' a p e/\r= .ret (.p e.b 0)/\post=CA L es':=by
 intro Z hs;refine qZ kZ ?_;unfold CA at hs;rcases gl a p es with hn|⟨pre,e,post,rfl,he,hpre⟩
 .have hf:=Qx hp h.len hn
  conv=>whnf
  repeat'((first|clear U K|apply st|(apply zk;intro K U)|refine zY ?_|refine Nr hs 0 rfl rfl (ID _) hf ?_|refine Iq hs 1 rfl rfl (ID _) fun Z hs=>?_|refine zo fun nn hnn Z hs=>?_|fail)<;>conv=>whnf)
  simp only[List.set_cons_succ,List.set_cons_zero]at hs;change Sat Z (_:: .map L (DX (Cd a p) (.p nn 0) (UE es))::_)at hs;rw[Yf hp nn (.l [] true) (.l [] true) k0 h.len hn]at hs;have hs2:=Cp (Cp hs 1) 1;refine AI ⟨_,⟨es++[⟨a,p,nn,.l [] true,.l [] true,k0⟩],⟨a,p,nn,.l [] true,.l [] true,k0⟩,⟨h.add hp hn _ _ _,⟨_,rfl,by simp⟩,by simp,by simp[B5.is]⟩,rfl,rfl⟩,?_⟩;unfold CA;rw[List.flatMap_append,List.flatMap_cons,List.flatMap_nil,GA];refine hs2.perm ((List.perm_middle (l₁:=[_,_,_])).trans (.cons _ (NV.trans (List.Perm.append_left _ (List.reverse_perm _).symm))))
 .have hf:=Qw hp he h.len hpre
  conv=>whnf
  repeat'((first|clear U K|apply st|(apply zk;intro K U)|refine zY ?_|refine Nr hs 0 rfl rfl (ID _) hf ?_|fail)<;>conv=>whnf)
  exact AI ⟨_,⟨_,e,⟨h,.refl _,by simp,he⟩,rfl,rfl⟩,hs⟩
def Px (a:Int) (p:List Int) (s:Int) (hp:p.length<2):Pure zP 214 [Cd a p,eI s] (Cd a (p++[s])):=by
 refine Pure.of ?_;refine xg kZ ?_;have hs:=Sn
 match p,hp with
 | [],_=>
   conv=>whnf
   repeat'((first|clear U K|apply st|(apply zk;intro K U)|refine zY ?_|refine zs fun Z hs=>?_|refine za (fun hc=>?_) fun hc=>?_|refine zo fun nn hnn Z hs=>?_|fail)<;>conv=>whnf)
   all_goals first
    | exact AI rfl
    | (exfalso;simp at hc;done)
 | [x],_=>
   conv=>whnf
   repeat'((first|clear U K|apply st|(apply zk;intro K U)|refine zY ?_|refine zs fun Z hs=>?_|refine za (fun hc=>?_) fun hc=>?_|refine zo fun nn hnn Z hs=>?_|fail)<;>conv=>whnf)
   all_goals first
    | exact AI rfl
    | (exfalso;simp at hc;done)
def AAM {b:Nat} {vn vs:V} {k:Kn} (f:Fact) (c:Bool) (hl:f.op=2\/f.op=3\/f.op=4) (hc:f.op=2->0<=f.cls/\f.cls<64) (hm:k.BU<18446744073709551616) (hn:k.Dt<18446744073709551616) (hno:k.no.length<1000000) (hN: -1000000000<=f.n/\f.n<=1000000000) :
    BT zP 215 [.p b 0,.a (xF f++[.b c])] (gz b vn vs k) fun r post=>r= .ret (.t [])/\ ∃vn',post=gz b vn' vs (By k f c):=by
 intro Z hs;have hM:=Mx;refine xf kZ ?_;rw[show xF f++[V.b c]= [eI f.op,eI f.arg,.l (iL f.path) false,eI f.cls,eI f.n,.l (f.kids.map FY) false,.b c] from rfl];have hw:IntKind.i64.wrap (f.n - 1)=f.n - 1:=wrap64 (by omega) (by omega);cases c<;>rcases hl with h2|h3|h4
 .have hE:By k f false= {k with BU:=k.BU|||2 ^ f.cls.toNat}:=by rw[By,if_pos h2,if_neg Bool.false_ne_true]
  rw[hE]
  conv=>whnf
  repeat'((first|clear U K|apply st|(apply zk;intro K U)|refine zY ?_|refine zs fun Z hs=>?_|refine Pure.use (QW _ _ hm (by omega) (by omega)) ?_|(refine zb (fun hc=>?_) (fun hc=>?_)<;>try exact⟨⟩)|fail)<;>conv=>whnf)
  exact AI ⟨_,⟨rfl,vn,rfl⟩,hs⟩
 .have hE:By k f false= {k with high:=if f.n - 1<k.high then f.n - 1 else k.high,whole:=true}:=by rw[By,if_neg (by omega),if_pos h3,if_neg Bool.false_ne_true]
  rw[hE]
  conv=>whnf
  repeat'((first|clear U K|apply st|(apply zk;intro K U)|refine zY ?_|refine zs fun Z hs=>?_|(refine zb (fun hc=>?_) (fun hc=>?_)<;>try exact⟨⟩)|fail)<;>conv=>whnf)
  rw[hw]at hs;exact AI ⟨_,⟨rfl,vn,rfl⟩,hs⟩
 .have hE:By k f false= {k with low:=if f.n > k.low then f.n else k.low,high:=if f.n<k.high then f.n else k.high,whole:=true}:=by rw[By,if_neg (by omega),if_neg (by omega),if_neg Bool.false_ne_true]
  rw[hE]
  conv=>whnf
  repeat'((first|clear U K|apply st|(apply zk;intro K U)|refine zY ?_|refine zs fun Z hs=>?_|(refine zb (fun hc=>?_) (fun hc=>?_)<;>try exact⟨⟩)|fail)<;>conv=>whnf)
  exact AI ⟨_,⟨rfl,vn,rfl⟩,hs⟩
 .have hE:By k f true= {k with Dt:=k.Dt|||2 ^ f.cls.toNat}:=by rw[By,if_pos h2,if_pos rfl]
  rw[hE]
  conv=>whnf
  repeat'((first|clear U K|apply st|(apply zk;intro K U)|refine zY ?_|refine zs fun Z hs=>?_|refine Pure.use (QW _ _ hn (by omega) (by omega)) ?_|(refine zb (fun hc=>?_) (fun hc=>?_)<;>try exact⟨⟩)|fail)<;>conv=>whnf)
  exact AI ⟨_,⟨rfl,vn,rfl⟩,hs⟩
 .have hE:By k f true= {k with low:=if f.n > k.low then f.n else k.low}:=by rw[By,if_neg (by omega),if_pos h3,if_pos rfl]
  rw[hE]
  conv=>whnf
  repeat'((first|clear U K|apply st|(apply zk;intro K U)|refine zY ?_|refine zs fun Z hs=>?_|(refine zb (fun hc=>?_) (fun hc=>?_)<;>try exact⟨⟩)|fail)<;>conv=>whnf)
  exact AI ⟨_,⟨rfl,vn,rfl⟩,hs⟩
 .have hE:By k f true= {k with no:=k.no++[f.n]}:=by rw[By,if_neg (by omega),if_neg (by omega),if_pos rfl]
  rw[hE]
  conv=>whnf
  repeat'((first|clear U K|apply st|(apply zk;intro K U)|refine zY ?_|refine zs fun Z hs=>?_|refine aq fun v Z hs hsl=>?_|(refine zb (fun hc=>?_) (fun hc=>?_)<;>try exact⟨⟩)|fail)<;>conv=>whnf)
  exact AI ⟨_,⟨rfl,_,rfl⟩,hs⟩
end Go.Gl
namespace Go.Gl
open Go.Proofs
def Sat.flip {Z:AE} {X AB:List At} (h:Sat Z (X++AB)):Sat Z (AB++X):=h.perm NV
def pc (f:Fact) (c:Bool) (j:Nat) (a:Int) (p:List Int) (k:Kn):(Dr f c j a p k).BU=k.BU:=by unfold Dr;(repeat' split)<;>rfl
def uY (f:Fact) (c:Bool) (j:Nat) (a:Int) (p:List Int) (k:Kn):(Dr f c j a p k).Dt=k.Dt:=by unfold Dr;(repeat' split)<;>rfl
def AAr (f:Fact) (c:Bool) (j:Nat) (a:Int) (p:List Int) (k:Kn):(Dr f c j a p k).no=k.no:=by unfold Dr;(repeat' split)<;>rfl
def lj (f:Fact) (c:Bool) (j:Nat) (a:Int) (p:List Int) (k:Kn):(Dr f c j a p k).AG.length<=k.AG.length+1:=by
 unfold Dr
 repeat' split
 .exact Xa _ _
 all_goals simp[Bz]
def AAq {m:Nat} {k:Kn} (h:cT m k) (f:Fact) (c:Bool) (j:Nat) (a:Int) (p:List Int):cT (m+1) (Dr f c j a p k):=by
 obtain⟨h1,h2,h3,h4⟩:=h;refine⟨by rw[pc];exact h1,by rw[uY];exact h2,by rw[AAr];omega,?_⟩;have:=lj f c j a p k;omega
def ir {ls:List Fact} (h:N1 ls) (a:Int) (p:List Int):cT ls.length (kg ls a p):=by
 have hc:G6 64 ls:=fun l hl ho=>(h l hl).cls ho
 obtain⟨h1,h2⟩:=pS hc a p;obtain⟨h3,h4⟩:=iu a p ls k0;exact⟨by simpa using h1,by simpa using h2,by simpa[kg,k0]using h3,by simpa[kg,k0]using h4⟩
def AAi:B9 (kg []) []:=⟨fun x hx=>(by cases hx),fun a p _=>rfl,.nil,fun x hx=>(by cases hx)⟩
attribute [local irreducible] Au Am Ab AR AK AY AQ AS AJ AX AN AP Ao Az Sat AU Ax Ad W
abbrev Jh (y:Fact×Bool):List V:=[eI y.1.op,eI y.1.arg,.l (iL y.1.path) false,eI y.1.cls,eI y.1.n,.l (y.1.kids.map FY) false,.b y.2]
def AAd (w:AH) (us:List Nat) (ls:List Fact) (ps:List (Fact×Bool)) (hps:ps=ls.map Af) (b:Bool) (h:N1 ls) (hlen:ls.length<900) :
    BT zP 142 [.rp (gW w us),.l (ps.map Jh) b] [] fun r post=> ∃L es,r= .ret (.a (gv w us L))/\B9 (kg ls) es/\post=CA L es:=by
 intro Z hs;have hM:=Mx;have hpl:ps.length=ls.length:=by rw[hps,B2]
 refine yR kZ ?_
 conv=>whnf
 repeat'((first|apply st|(apply sq;intro K U)|(apply si;intro A B hA hB)|(refine hA _ _ ?_;clear hB B hA A)|(apply U;clear U K)|refine snb fun Z hs=>?_|(intro nn hnn;generalize hg:B3 _ nn _=Z;refine alF hg fun hs=>?_;clear hg)|fail)<;>conv=>whnf)
 rename_i n4 _ _ _ L _ _ _ _ _;generalize nn=n5 at *;refine Bw ps.length (fun k (x:List B5)=>[(17,eI (A6 k))]) (fun k x=> .box n5 (gv w us L):: .box n4 [.pn,.mn]::CA L x) (fun k x=>B9 (kg (ls.take k)) x) [] rfl AAi (hs.perm (.cons _ (.swap _ _ _))) ?_;clear hs hnn;rintro k es Z hk hinv hs;rcases A7 ps hk with⟨y,hy,hlt⟩|hke
 .obtain ⟨l,hlk⟩: ∃l,ls[k]? =some l:=⟨_,Cr (by omega)⟩
  have hyl:y=Af l:=by
   rw[hps,Je,hlk]at hy;exact(Option.some.inj hy).symm
  have hlm:l∈ls:=Bo hlk;have htk:ls.take (k+1)=ls.take k++[l]:=AO hlk;have hbk: ∀a p,cT (ls.take k).length (kg (ls.take k) a p):=ir fun x hx=>h x (List.mem_of_mem_take hx)
  obtain⟨l1,l2,l3,l4⟩:=h l hlm;have hkl:(ls.take k).length<900:=by rw[Jd];omega
  have hend: ∀a p,kg (ls.take (k+1)) a p=if a=(Af l).1.arg/\p=(Af l).1.path then By (Dr (Af l).1 (Af l).2 (Af l).1.path.length a p (kg (ls.take k) a p)) (Af l).1 (Af l).2 else Dr (Af l).1 (Af l).2 (Af l).1.path.length a p (kg (ls.take k) a p):=fun a p=>by
   rw[htk,pR];exact uZ a p (kg (ls.take k) a p) l
  generalize kg (ls.take k)=kf at *;rw[<-hyl]at l1 l2 l3 l4 hend;clear hyl;obtain⟨f,c⟩:=y;dsimp only at l1 l2 l3 l4 hend;generalize (ls.take k).length=m at *
  conv=>whnf
  repeat'((first|apply st|(apply sq;intro K U)|(apply si;intro A B hA hB)|(refine hA _ _ ?_;clear hB B hA A)|(apply U;clear U K)|refine⟨rfl,?_⟩|refine⟨kZ,?_⟩|refine ix ?_|refine ld ?_|refine snb fun Z hs=>?_|(refine zG (fun hc=>?_)<;>(try rw[hc])<;>clear hc)|(intro nn hnn;generalize hg:B3 _ nn _=Z;refine alF hg fun hs=>?_;clear hg)|fail)<;>conv=>whnf)
  rename_i n7 _ _ _ _ _ _ _;generalize nn=n8 at *;replace hs:Sat Z ([.box n8 (GD f.arg []),.box n7 (Jh (f,c)),.box n5 (gv w us L),.box n4 [.pn,.mn]]++CA L es):=hs;refine(rE w us hinv (a:=f.arg) (p:=[]) (by simp)).use (rest:=[.box n8 (GD f.arg []),.box n7 (Jh (f,c)),.box n5 (gv w us L),.box n4 [.pn,.mn]]) hs.flip ?_;clear hs;rintro r post Z ⟨es1,e1,got,rfl,rfl⟩ hs;have hek:=got.k;obtain⟨hea,hep⟩:=Gn.1 got.is;obtain⟨pre,post,rfl⟩:=List.append_of_mem got.mem;replace hs:=K4 (X:=[.box n8 (GD f.arg []),.box n7 (Jh (f,c)),.box n5 (gv w us L),.box n4 [.pn,.mn]]) hs.flip;cases hnd:e1.k.Ah<;>rw[hnd]at hs
  all_goals
   conv=>whnf
   repeat'((first|apply st|(apply sq;intro K U)|(apply si;intro A B hA hB)|(refine hA _ _ ?_;clear hB B hA A)|(apply U;clear U K)|refine ld ?_|refine s1b fun Z hs=>?_|fail)<;>conv=>whnf)
   obtain⟨e2,es2,hP,hQ,hR⟩: ∃(e2:B5) (es2:List B5),(B9 (fun a p=>Dr f c 0 a p (kf a p)) es2/\e2∈es2/\e2.is f.arg (f.path.take 0)=true)/\e2.b=e1.b/\Sat Z ([.box n8 (GD f.arg (f.path.take 0)),.box n7 (Jh (f,c)),.box n5 (gv w us L),.box n4 [.pn,.mn]]++CA L es2):=by
    refine⟨⟨e1.a,e1.p,e1.b,e1.vn,e1.vs,Bz e1.k c⟩,_,⟨(got.inv.change e1.b e1.vn e1.vs (Bz e1.k c)).congr fun a p=>?_,Od _ (.head _),got.is⟩,rfl,?_⟩
    .rw[pZ,NY,hea,hep,hek]
     by_cases ha:a=f.arg/\p= []
     .rw[if_pos ha,if_pos ha,ha.1,ha.2]
     .rw[if_neg ha,if_neg ha]
    .refine D4 (X:=[.box n8 (GD f.arg []),.box n7 (Jh (f,c)),.box n5 (gv w us L),.box n4 [.pn,.mn]]) (e:=e1) rfl rfl rfl ?_
     first
      | (rw[Kk c hnd];exact hs)
      | (rw[I0 c hnd];exact hs)
   rw[<-hQ];clear hs hnd got hek hea hep;refine Bw f.path.length (fun j (x:List B5×B5)=>[(44,eI (A6 j)),(9,.p x.2.b 0)]) (fun j x=>[.box n8 (GD f.arg (f.path.take j)),.box n7 (Jh (f,c)),.box n5 (gv w us L),.box n4 [.pn,.mn]]++CA L x.1) (fun j x=>B9 (fun a p=>Dr f c j a p (kf a p)) x.1/\x.2∈x.1/\x.2.is f.arg (f.path.take j)=true) (es2,e2) rfl hP hR ?_;clear hP hR;generalize e2.b=b0 at *;clear hQ e2 es2;rintro j ⟨es2,e2⟩ Z hj ⟨hinv2,hmem,his⟩ hs;simp only at hinv2 hmem his hs
   have hek:e2.k=Dr f c j f.arg (f.path.take j) (kf f.arg (f.path.take j)):=by
    have:=hinv2.val e2 hmem;obtain⟨h1,h2⟩:=Gn.1 his;rw[this,h1,h2]
   have hok:cT (m+1) e2.k:=by rw[hek];exact AAq (hbk _ _) f c j _ _
   obtain⟨hea,hep⟩:=Gn.1 his;obtain⟨pre2,post2,rfl⟩:=List.append_of_mem hmem;replace hs:=K4 (X:=[.box n8 (GD f.arg (f.path.take j)),.box n7 (Jh (f,c)),.box n5 (gv w us L),.box n4 [.pn,.mn]]) hs;have hck:A6 j=j:=Ae (by omega);rcases A7 f.path hj with⟨s,hsj,hjlt⟩|hje
   .have hct:=fun b=>C1 e2.k.AG b s
    have hk4:=hok.2.2.2;have hsl0:m6 e2.k s= {e2.k with AG:=UT e2.k.AG s}:=rfl
    have hne:f.path.take j++[s]≠f.path.take j:=by
     intro e;have:=congrArg List.length e;simp at this
    have hgd:f.path.getD j 0=s:=by rw[C4,hsj];rfl
    have htk2:f.path.take (j+1)=f.path.take j++[s]:=AO hsj;cases hcB:e2.k.AG.contains s
    all_goals
     rw[hcB]at hct
     conv=>whnf
     repeat'((first|apply st|(apply sq;intro K U)|(apply si;intro A B hA hB)|(refine hA _ _ ?_;clear hB B hA A)|(apply U;clear U K)|refine⟨rfl,?_⟩|refine⟨kZ,?_⟩|refine ix ?_|refine ld ?_|refine s1b fun Z hs=>?_|refine snb fun Z hs=>?_|refine aq fun v Z hs hsl=>?_|refine cft ?_|refine cff ?_|(refine zG (fun hc=>?_)<;>(try rw[hc])<;>clear hc)|refine Pure.use (Px f.arg (f.path.take j) s (by rw[Jd];omega)) ?_|refine Pure.L7 (hct false) (.cons (hs.GC 2 rfl) (.cons (.refl _) .nil)) rfl ?_|fail)<;>conv=>whnf)
    have hs3: ∃vs3,Sat Z ([.box n8 (GD f.arg (f.path.take j++[s])),.box n7 (Jh (f,c)),.box n5 (gv w us L),.box n4 [.pn,.mn]]++CA L (pre2++⟨e2.a,e2.p,e2.b,e2.vn,vs3,m6 e2.k s⟩::post2)):=⟨_,D4 (X:=[.box n8 (GD f.arg (f.path.take j++[s])),.box n7 (Jh (f,c)),.box n5 (gv w us L),.box n4 [.pn,.mn]]) (e:=e2) rfl rfl rfl (by rw[hsl0,UT,if_neg (by rw[hcB];decide)];exact hs)⟩
    rotate_left
    have hs3: ∃vs3,Sat Z ([.box n8 (GD f.arg (f.path.take j++[s])),.box n7 (Jh (f,c)),.box n5 (gv w us L),.box n4 [.pn,.mn]]++CA L (pre2++⟨e2.a,e2.p,e2.b,e2.vn,vs3,m6 e2.k s⟩::post2)):=⟨e2.vs,D4 (X:=[.box n8 (GD f.arg (f.path.take j++[s])),.box n7 (Jh (f,c)),.box n5 (gv w us L),.box n4 [.pn,.mn]]) (e:=e2) rfl rfl rfl (by rw[hsl0,UT,if_pos hcB];exact hs)⟩
    all_goals
     clear hs;obtain⟨vs3,hs⟩:=hs3;have hinv3:=hinv2.change e2.b e2.vn vs3 (m6 e2.k s);refine(rE w us hinv3 (a:=f.arg) (p:=f.path.take j++[s]) (by rw[NW,Jd];simp;omega)).use (rest:=[.box n8 (GD f.arg (f.path.take j++[s])),.box n7 (Jh (f,c)),.box n5 (gv w us L),.box n4 [.pn,.mn]]) hs.flip ?_;clear hs;rintro r post Z ⟨es4,e4,got,rfl,rfl⟩ hs;have hek4:=got.k;obtain⟨hea4,hep4⟩:=Gn.1 got.is;obtain⟨pre4,post4,rfl⟩:=List.append_of_mem got.mem;replace hs:=K4 (X:=[.box n8 (GD f.arg (f.path.take j++[s])),.box n7 (Jh (f,c)),.box n5 (gv w us L),.box n4 [.pn,.mn]]) hs.flip;cases hnd:e4.k.Ah<;>rw[hnd]at hs
     all_goals
      conv=>whnf
      repeat'((first|apply st|(apply si;intro A B hA hB)|(refine hA _ _ ?_;clear hB B hA A)|(apply U;clear U K)|refine⟨rfl,?_⟩|refine ld ?_|refine s1b fun Z hs=>?_|clear U K)<;>conv=>whnf)
      refine⟨hjlt,(pre4++⟨e4.a,e4.p,e4.b,e4.vn,e4.vs,Bz e4.k c⟩::post4,⟨e4.a,e4.p,e4.b,e4.vn,e4.vs,Bz e4.k c⟩),rfl,⟨(got.inv.change e4.b e4.vn e4.vs (Bz e4.k c)).congr fun a p=>?_,Od _ (.head _),by rw[htk2];exact got.is⟩,?_⟩
      .rw[pb f c hjlt,NY,hea4,hep4,htk2,hgd]
       by_cases h1:a=f.arg/\p=f.path.take j++[s]
       .rw[if_pos h1,if_pos h1,hek4,NY,hea,hep,if_neg (fun h=>hne h.2),h1.1,h1.2]
       .rw[if_neg h1,if_neg h1,NY,hea,hep]
        by_cases h2:a=f.arg/\p=f.path.take j
        .rw[if_pos h2,if_pos h2,hek,h2.1,h2.2]
        .rw[if_neg h2,if_neg h2]
      .rw[htk2]
       refine D4 (X:=[.box n8 (GD f.arg (f.path.take j++[s])),.box n7 (Jh (f,c)),.box n5 (gv w us L),.box n4 [.pn,.mn]]) (e:=e4) rfl rfl rfl ?_
       first
        | (rw[Kk c hnd];exact hs)
        | (rw[I0 c hnd];exact hs)
   .have etk:f.path.take j=f.path:=Aq hje
    rw[etk]at his hs hek hep
    conv=>whnf
    repeat'((first|apply st|(apply sq;intro K U)|(apply si;intro A B hA hB)|(refine hA _ _ ?_;clear hB B hA A)|(apply U;clear U K)|refine⟨rfl,?_⟩|refine⟨kZ,?_⟩|refine ld ?_|(refine fcn (fun hc=>?_)<;>(try rw[hc])<;>clear hc)|clear U K)<;>conv=>whnf)
    refine(AAM f c l1 l3 hok.1 hok.2.1 (by have:=hok.2.2.1;omega) l4).use (rest:=[.box n8 (GD f.arg f.path),.box n7 (Jh (f,c)),.box n5 (gv w us L),.box n4 [.pn,.mn]]++JJ L (pre2++e2::post2) pre2 post2) hs ?_;clear hs;rintro r post Z ⟨rfl,vn',rfl⟩ hs;have hs2:=D4 (X:=[.box n8 (GD f.arg f.path),.box n7 (Jh (f,c)),.box n5 (gv w us L),.box n4 [.pn,.mn]]) (e:=e2) (e':=⟨e2.a,e2.p,e2.b,vn',e2.vs,By e2.k f c⟩) rfl rfl rfl hs;clear hs;have hs:=hs2;clear hs2
    conv=>whnf
    repeat'((first|(apply si;intro A B hA hB)|(refine hA _ _ ?_;clear hB B hA A)|(apply U;clear U K)|refine⟨rfl,?_⟩|clear U K)<;>conv=>whnf)
    refine⟨hlt,_,rfl,(hinv2.change e2.b vn' e2.vs (By e2.k f c)).congr fun a p=>?_,hs.less ((Ku _ _).trans (Ku _ _))⟩;rw[hend,NY,hea,hep,hek,<-hje];by_cases h1:a=f.arg/\p=f.path
    .rw[if_pos h1,if_pos h1,h1.1,h1.2]
    .rw[if_neg h1,if_neg h1]
 .have etk:ls.take k=ls:=Aq (by omega)
  rw[etk]at hinv
  conv=>whnf
  repeat'((first|apply st|(apply sq;intro K U)|(apply si;intro A B hA hB)|(refine hA _ _ ?_;clear hB B hA A)|(apply U;clear U K)|refine⟨rfl,?_⟩|refine⟨kZ,?_⟩|refine ld ?_|refine snb fun Z hs=>?_|(refine fcn (fun hc=>?_)<;>(try rw[hc])<;>clear hc)|clear U K)<;>conv=>whnf)
  exact AI ⟨CA L es,⟨L,es,rfl,hinv,rfl⟩,hs.less ((Ku _ _).trans (Ku _ _))⟩
end Go.Gl
