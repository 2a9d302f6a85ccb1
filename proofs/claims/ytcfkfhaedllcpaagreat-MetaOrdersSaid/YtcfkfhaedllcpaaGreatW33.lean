import Derived.Test.YtcfkfhaedllcpaaGreatW14
import Derived.Test.YtcfkfhaedllcpaaGreatW23
import Derived.Test.YtcfkfhaedllcpaaGreatW24
import Derived.Test.YtcfkfhaedllcpaaGreatW25
import Derived.Test.YtcfkfhaedllcpaaGreatW30
import Derived.Test.YtcfkfhaedllcpaaGreatW31
import Derived.Test.YtcfkfhaedllcpaaGreatW32
set_option linter.all false
set_option linter.defProp false
set_option maxHeartbeats 8000000
noncomputable section
namespace Go.Gl
open Go.Proofs
structure PC (p:Prog) (l:List Int):Prop where
 IW: ∀x∈l,BO p x=true
 gen: ∀x∈l,∀y∈l,(Bi p x).gen=(Bi p y).gen
 nodup:l.Nodup
 many:l.length<=16
def Gd {p:Prog} {l:List Int} {k x:Int} (h:x∈Bw p l k):x∈l/\(Bi p x).kind=k:=by
 have:=LH.1 h;exact⟨this.1,by simpa using this.2⟩
def Tu {p:Prog} {l:List Int} {k:Int}:(Bw p l k).length<=l.length:=Qs _ _
def PC.of {p:Prog} {l:List Int} (h:PC p l) (k:Int):TU p (Bw p l k)/\(Bw p l k).Nodup:=by
 refine⟨⟨fun x hx=>h.IW x (Gd hx).1,fun x hx y hy=>?_,Nat.le_trans Tu h.many⟩,h.nodup.sublist (List.filter_sublist ..)⟩;rw[DC,h.gen x (Gd hx).1 y (Gd hy).1,(Gd hx).2,(Gd hy).2];simp
def WZ {p:Prog} {l:List Int} {A B:Int->Int->Bool} (h:PC p l) (hq: ∀x∈l,∀y∈l,DC p x y=true->A x y=B x y):CJ A p l=CJ B p l:=by
 have hk: ∀k,∀x∈Bw p l k,∀y∈Bw p l k,A x y=B x y:=fun k x hx y hy=>hq x (Gd hx).1 y (Gd hy).1 ((h.of k).1.alike x hx y hy)
 have hc: ∀k,BQ A (Bw p l k).length (Bw p l k)=BQ B (Bw p l k).length (Bw p l k):=fun k=>MY _ _ (hk k)
 have hb: ∀k,C9 A (Bw p l k).length (Cl (Bw p l k))=C9 B (Bw p l k).length (Cl (Bw p l k)):=fun k=>Qn _ _ fun x hx y hy=>hk k x (Jn.1 hx) y (Jn.1 hy)
 unfold CJ Yr;rw[hc 4,hc 1,hb 2,hb 3]
def Jy.sub {T:List (List Bool)} {l l':List Int} (h:Jy T l) (hs: ∀x∈l',x∈l) (hl:l'.length<=l.length):Jy T l':=⟨h.len,h.sq,fun x hx=>h.ins x (hs x hx),Nat.le_trans hl h.many⟩
attribute [local irreducible] A3 Aq Af AR AJ Ad AQ AT AK Ac AM AN Ax A5 Sat AX A4 Ah W
def iG (p:Prog) (T:List (List Bool)) (l:List Int) (f:Bool) (hG:PC p l) (h16:p.methods.length<=16) (hT:Jy T l) :
    Pure zP 74 [.a (A9 p),vU T,.l (iL l) f] (.t [.a (xv (CJ (DY T) p l).1 (!(CJ (DY T) p l).2) (!(CJ (DY T) p l).2)),.b (CJ (DY T) p l).2]):=by
 have hM:=Mx;have c1:=kY p l f 1 hG.IW hG.many h16;have c2:=kY p l f 2 hG.IW hG.many h16;have c3:=kY p l f 3 hG.IW hG.many h16;have c4:=kY p l f 4 hG.IW hG.many h16;have htk: ∀k,Jy T (Bw p l k):=fun k=>hT.sub (fun x hx=>(Gd hx).1) Tu
 have hts: ∀k,Jy T (Cl (Bw p l k)):=fun k=>(htk k).sub (fun x hx=>Jn.1 hx) (by rw[Rw];exact Io _)
 have d1:=V9 T (Bw p l 1) false (htk 1);have d4:=V9 T (Bw p l 4) false (htk 4);have e2:=Ss T (Bw p l 2) false (hts 2) (htk 2).many;have e3:=Ss T (Bw p l 3) false (hts 3) (htk 3).many;rw[Rw]at e2 e3
 have hbl:(C9 (DY T) (Bw p l 3).length (Cl (Bw p l 3))).length<=16:=by
  have: ∀k l,(C9 (DY T) k l).length=k:=fun k=>by
   induction k with
   | zero=>intro l;rfl
   | succ k ih=>intro l;simp only[C9,LF,ih]
  rw[this];exact(htk 3).many
 have hpl:CJ (DY T) p l=if(Bw p l 1).isEmpty then(vX,false)else(⟨(BQ (DY T) (Bw p l 4).length (Bw p l 4)).1,(BQ (DY T) (Bw p l 4).length (Bw p l 4)).2,C9 (DY T) (Bw p l 2).length (Cl (Bw p l 2)),(BQ (DY T) (Bw p l 1).length (Bw p l 1)).1,(BQ (DY T) (Bw p l 1).length (Bw p l 1)).2,(C9 (DY T) (Bw p l 3).length (Cl (Bw p l 3))).reverse⟩,true):=rfl
 rw[hpl];have hl1:=(htk 1).many;clear htk hts hpl;generalize C9 (DY T) (Bw p l 3).length (Cl (Bw p l 3))=xs at *;generalize C9 (DY T) (Bw p l 2).length (Cl (Bw p l 2))=bs at *;generalize BQ (DY T) (Bw p l 4).length (Bw p l 4)=q4 at *;generalize BQ (DY T) (Bw p l 1).length (Bw p l 1)=q1 at *;generalize Bw p l 1=l1 at *;obtain⟨r4,t4⟩:=q4;obtain⟨r1,t1⟩:=q1;dsimp only at d1 d4;refine xT kZ ?_;have hs:=Sn;by_cases hz:l1.length=0
 .have he:l1.isEmpty=true:=by simpa using hz
  rw[he];exact zW
 .have he:l1.isEmpty=false:=by cases l1 with
   | nil=>simp at hz
   | cons=>rfl
  rw[he]
  conv=>whnf
  repeat'((first|clear U K|apply st|(apply zk;intro K U)|refine zY ?_|refine zs fun Z hs=>?_|refine c1.use ?_|refine c2.use ?_|refine c3.use ?_|refine c4.use ?_|refine d1.use ?_|refine d4.use ?_|refine e2.use ?_|refine e3.use ?_|(refine zb (fun hc=>?_) (fun hc=>?_)<;>try exact⟨⟩)|refine zo fun nn hnn Z hs=>?_|fail)<;>conv=>whnf)
  rename_i n6 _ _ _ _ _ _ _ _ _ _ _ _ _
  have hwl:IntKind.i64.wrap ((iL xs).length - 1)=(xs.length:Int) - 1:=by
   have e:((iL xs).length:Int)=xs.length:=by simp
   rw[e,wrap64 (by omega) (by omega)]
  refine Dz (fun x:Int×V=>(x.1+1).toNat) (fun x=>[(10,eI x.1)]) (fun x=>[.box nn [.l (iL r4) false,.b t4,.l (iL bs) false,.l (iL r1) false,.b t1,x.2],.box n6 [.l [] true,.b false,.l [] true,.l [] true,.b false,.l [] true],.own x.2 1 (iL ((xs.drop (x.1+1).toNat).reverse))]) (fun x=> -1<=x.1/\x.1<xs.length) (IntKind.i64.wrap ((iL xs).length - 1),.l [] true) rfl ?_ ?_ ?_
  .dsimp only
   rw[hwl];exact⟨by omega,by omega⟩
  .dsimp only
   rw[hwl,List.drop_of_length_le (by omega)];exact El hs 1
  clear hs hwl;rintro⟨i,v⟩ Z ⟨hi1,hi2⟩ hs;dsimp only at hi1 hi2 hs;dsimp only;by_cases hneg:i<0
  .obtain rfl:i= -1:=by omega
   rw[show((-1:Int)+1).toNat=0 from rfl,List.drop_zero]at hs
   conv=>whnf
   repeat'((first|clear U K|apply st|(apply zk;intro K U)|refine zY ?_|(refine zb (fun hc=>?_) (fun hc=>?_)<;>try exact⟨⟩)|fail)<;>conv=>whnf)
   have o1:=Gq hs 2 rfl;refine Hv hs 1 rfl rfl rfl (by simp[o1]) (by decide) fun Z hs=>?_
   clear o1;refine zz ?_;(repeat clear U K);repeat intro K U
   exact Ap (.t (.cons (.a (.cons (.refl _) (.cons (.refl _) (.cons (.refl _) (.cons (.refl _) (.cons (.refl _) (.cons (hs.GW 2 rfl) .nil))))))) (.cons (.refl _) .nil)))
  .have hpos:0<=i:=by omega
   obtain⟨x,hx⟩: ∃x,xs[i.toNat]? =some x:=⟨_,Cy (by omega)⟩
   have hd:(xs.drop i.toNat).reverse=(xs.drop (i+1).toNat).reverse++[x]:=by
    rw[drop_cons hx,List.reverse_cons,show(i+1).toNat=i.toNat+1 by omega]
   have hdl:((xs.drop (i+1).toNat).reverse).length<=16:=by
    rw[List.length_reverse,pF];omega
   generalize (xs.drop (i+1).toNat).reverse=zl at *;have hll:zl.length<AY/\(zl.length+1)*8<=140737488355328:=by omega
   have hwi:IntKind.i64.wrap (i - 1)=i - 1:=wrap64 (by omega) (by omega)
   conv=>whnf
   repeat'((first|clear U K|apply st|(apply zk;intro K U)|refine zY ?_|refine zs fun Z hs=>?_|refine aq fun v Z hs hsl=>?_|(refine zb (fun hc=>?_) (fun hc=>?_)<;>try exact⟨⟩)|fail)<;>conv=>whnf)
   refine⟨(i - 1,v),by dsimp only;omega,by rw[hwi];rfl,⟨by dsimp only;omega,by dsimp only;omega⟩,?_⟩;dsimp only;rw[show(i - 1+1).toNat=i.toNat by omega,hd];exact hs
end Go.Gl
namespace Go.Gl
open Go.Proofs
attribute [local irreducible] A3 Aq Af AR AJ Ad AQ AT AK Ac AM AN Ax A5 Sat AX A4 Ah W
def iM {p:Prog} {l:List Int} {k:Nat} {x:Int} (hx:l[k]? =some x) (kd:Int):Bw p (l.take (k+1)) kd=if(Bi p x).kind==kd then Bw p (l.take k) kd++[x]else Bw p (l.take k) kd:=by
 rw[AL hx,Bw,List.filter_append];cases hp:(Bi p x).kind==kd<;>simp[Bw,hp]
def L4 {p:Prog} {l:List Int} {k:Nat} {kd:Int} (h:l.length<=16):(Bw p (l.take k) kd).length<=16:=by
 have:=Qs (fun m=>(Bi p m).kind==kd) (l.take k);rw[Mf]at this;simp only[Bw];omega
def qX (p:Prog) (L:Nat) (l:List Int) (f:Bool) (h:(BK p).isSome=true) (hG:PC p l) (M:List (Int×Int)) :
    Bc zP 99 [S3 p L,.l (iL l) f] [.map L (KH p M)] fun r post=>r= .ret (.t [.a (xv (CJ (Ae p) p l).1 true (!(CJ (Ae p) p l).2)),.b (CJ (Ae p) p l).2])/\ ∃M',post= [.map L (KH p M')]:=by
 intro Z hs;have hM:=Mx;have hok:=look_ok h;have hgw:=xK h;have hfm:=mo h;have h16:=hG.many;have hm16:=hok.many;generalize hX:CJ (Ae p) p l=X;refine xO kZ ?_
 conv=>whnf
 repeat'((first|clear U K|apply st|(apply zk;intro K U)|refine zo fun nn hnn Z hs=>?_|fail)<;>conv=>whnf)
 rename_i n4 _ _ _;clear hnn;refine B0 l.length (fun k (_:V×V×V×V)=>[(13,eI (A8 k))]) (fun k x=>[.own x.1 1 (iL (Bw p (l.take k) 1)),.own x.2.1 1 (iL (Bw p (l.take k) 2)),.own x.2.2.1 1 (iL (Bw p (l.take k) 3)),.own x.2.2.2 1 (iL (Bw p (l.take k) 4)),.box nn [.l [] true,x.1,x.2.1,x.2.2.1,x.2.2.2],.box n4 [.l [] true,.b false,.l [] true,.l [] true,.b false,.l [] true],.map L (KH p M)]) (fun _ _=>True) (.l [] true,.l [] true,.l [] true,.l [] true) rfl trivial (Cf (Cf (Cf (Cf hs 1) 1) 1) 1) ?_;clear hs;rintro k ⟨v1,v2,v3,v4⟩ Z hk - hs;dsimp only at hs;dsimp only;rcases BC l hk with⟨x,hx,hlt⟩|hke
 .have hmx:=hG.IW x (B1 hx)
  have hxm:=B9 hmx;obtain⟨hkr,-⟩:=lz h (B1 hxm);have hst:=iM (p:=p) hx;simp only[BO,BD,CN]at hmx;have l1:(Bw p (l.take k) 1).length<=16:=L4 h16;have l2:(Bw p (l.take k) 2).length<=16:=L4 h16;have l3:(Bw p (l.take k) 3).length<=16:=L4 h16;have l4:(Bw p (l.take k) 4).length<=16:=L4 h16;have s1:=hst 1;have s2:=hst 2;have s3:=hst 3;have s4:=hst 4;clear hst;generalize Bi p x=y at *;generalize Bw p (l.take k) 1=z1 at *;generalize Bw p (l.take k) 2=z2 at *;generalize Bw p (l.take k) 3=z3 at *;generalize Bw p (l.take k) 4=z4 at *;obtain⟨kd,gn,fc,nd⟩:=y;dsimp only at hkr s1 s2 s3 s4;rcases(show kd=1\/kd=2\/kd=3\/kd=4 by omega)with rfl|rfl|rfl|rfl
  .rw[if_pos (beq_self_eq_true _)]at s1
   rw[if_neg (by decide)]at s2 s3 s4;have hll:z1.length<AY/\(z1.length+1)*8<=140737488355328:=by omega
   clear l1 l2 l3 l4
   conv=>whnf
   repeat'((first|clear U K|apply st|(apply zk;intro K U)|refine zY ?_|refine zs fun Z hs=>?_|refine aq fun v Z hs hsl=>?_|refine n8 (j:=1) ?_ (by decide) (by decide)|fail)<;>conv=>whnf)
   exact⟨hlt,(v,v2,v3,v4),rfl,trivial,by rw[s1,s2,s3,s4];exact hs⟩
  .rw[if_pos (beq_self_eq_true _)]at s2
   rw[if_neg (by decide)]at s1 s3 s4;have hll:z2.length<AY/\(z2.length+1)*8<=140737488355328:=by omega
   clear l1 l2 l3 l4
   conv=>whnf
   repeat'((first|clear U K|apply st|(apply zk;intro K U)|refine zY ?_|refine zs fun Z hs=>?_|refine aq fun v Z hs hsl=>?_|refine n8 (j:=2) ?_ (by decide) (by decide)|fail)<;>conv=>whnf)
   exact⟨hlt,(v1,v,v3,v4),rfl,trivial,by rw[s1,s2,s3,s4];exact hs⟩
  .rw[if_pos (beq_self_eq_true _)]at s3
   rw[if_neg (by decide)]at s1 s2 s4;have hll:z3.length<AY/\(z3.length+1)*8<=140737488355328:=by omega
   clear l1 l2 l3 l4
   conv=>whnf
   repeat'((first|clear U K|apply st|(apply zk;intro K U)|refine zY ?_|refine zs fun Z hs=>?_|refine aq fun v Z hs hsl=>?_|refine n8 (j:=3) ?_ (by decide) (by decide)|fail)<;>conv=>whnf)
   exact⟨hlt,(v1,v2,v,v4),rfl,trivial,by rw[s1,s2,s3,s4];exact hs⟩
  .rw[if_pos (beq_self_eq_true _)]at s4
   rw[if_neg (by decide)]at s1 s2 s3;have hll:z4.length<AY/\(z4.length+1)*8<=140737488355328:=by omega
   clear l1 l2 l3 l4
   conv=>whnf
   repeat'((first|clear U K|apply st|(apply zk;intro K U)|refine zY ?_|refine zs fun Z hs=>?_|refine aq fun v Z hs hsl=>?_|refine n8 (j:=4) ?_ (by decide) (by decide)|fail)<;>conv=>whnf)
   exact⟨hlt,(v1,v2,v3,v),rfl,trivial,by rw[s1,s2,s3,s4];exact hs⟩
 .rw [Au hke]at hs
  obtain⟨o1,d1⟩:=hG.of 1;obtain⟨o2,d2⟩:=hG.of 2;obtain⟨o3,d3⟩:=hG.of 3;obtain⟨o4,d4⟩:=hG.of 4;have hpl:CJ (Ae p) p l=if(Bw p l 1).isEmpty then(vX,false)else(⟨(BQ (Ae p) (Bw p l 4).length (Bw p l 4)).1,(BQ (Ae p) (Bw p l 4).length (Bw p l 4)).2,C9 (Ae p) (Bw p l 2).length (Cl (Bw p l 2)),(BQ (Ae p) (Bw p l 1).length (Bw p l 1)).1,(BQ (Ae p) (Bw p l 1).length (Bw p l 1)).2,(C9 (Ae p) (Bw p l 3).length (Cl (Bw p l 3))).reverse⟩,true):=rfl
  rw[hpl]at hX;clear hpl;have e4:=fun M=>Z5 p L (Bw p l 4) false hok hgw hfm o4 d4 M
  have e2:=fun M=>dK p L (Bw p l 2) false hok hgw hfm o2 d2 M
  have e1:=fun M=>Z5 p L (Bw p l 1) false hok hgw hfm o1 d1 M
  have e3:=fun M=>Yd p L (Bw p l 3) false hok hgw hfm o3 d3 M
  rw[Rv d2]at e2;rw[Rv d3]at e3;have hl1:=o1.many
  have hbl:(C9 (Ae p) (Bw p l 3).length (Cl (Bw p l 3))).length<=16:=by
   have: ∀k l,(C9 (Ae p) k l).length=k:=fun k=>by
    induction k with
    | zero=>intro l;rfl
    | succ k ih=>intro l;simp only[C9,LF,ih]
   rw[this];exact o3.many
  clear o1 o2 o3 o4 d1 d2 d3 d4 hG;generalize C9 (Ae p) (Bw p l 3).length (Cl (Bw p l 3))=xs at *;generalize C9 (Ae p) (Bw p l 2).length (Cl (Bw p l 2))=bs at *;generalize BQ (Ae p) (Bw p l 4).length (Bw p l 4)=q4 at *;generalize BQ (Ae p) (Bw p l 1).length (Bw p l 1)=q1 at *;generalize Bw p l 1=l1 at *;generalize Bw p l 2=l2 at *;generalize Bw p l 3=l3 at *;generalize Bw p l 4=l4 at *;obtain⟨r4,t4⟩:=q4;obtain⟨r1,t1⟩:=q1;dsimp only at e1 e4;by_cases hz:l1.length=0
  .have he:l1.isEmpty=true:=by simpa using hz
   rw[he,if_pos rfl]at hX;subst hX
   conv=>whnf
   repeat'((first|clear U K|apply st|(apply zk;intro K U)|refine zY ?_|(refine zb (fun hc=>?_) (fun hc=>?_)<;>try exact⟨⟩)|refine zo fun nn hnn Z hs=>?_|fail)<;>conv=>whnf)
   refine Hv hs 6 rfl rfl rfl (by simp) (by decide) fun Z hs=>?_
   refine zz ?_;(repeat clear U K);repeat intro K U
   refine U6 hs 6 rfl ?_;refine zz ?_;(repeat clear U K);repeat intro K U
   exact Ak (hs.front (j:=7) rfl) (.cons₂ _ (KG _)) (.refl _) fun Z' hs'=>⟨_,⟨rfl,M,rfl⟩,hs'⟩
  .have he:l1.isEmpty=false:=by cases l1 with
    | nil=>simp at hz
    | cons=>rfl
   rw[he,if_neg (by decide)]at hX;subst hX
   conv=>whnf
   repeat'((first|clear U K|apply st|(apply zk;intro K U)|refine zY ?_|(refine zb (fun hc=>?_) (fun hc=>?_)<;>try exact⟨⟩)|refine zo fun nn hnn Z hs=>?_|fail)<;>conv=>whnf)
   obtain⟨Z2,g1,g2,g3⟩:=IZ hs 4 rfl;refine A3.I4 ((e4 M).use (rest:=_) (g3.front (j:=6) rfl) ?_) g1 (.cons (.refl _) (.cons g2 .nil));clear hs g1 g2 g3;rintro r post Z ⟨rfl,M,rfl⟩ hs
   conv=>whnf
   repeat'((first|clear U K|apply st|(apply zk;intro K U)|refine zY ?_|refine zs fun Z hs=>?_|fail)<;>conv=>whnf)
   obtain⟨Z2,g1,g2,g3⟩:=IZ hs 3 rfl;refine A3.I4 ((e2 M).use (rest:=_) g3 ?_) g1 (.cons (.refl _) (.cons g2 .nil));clear hs g1 g2 g3;rintro r post Z ⟨rfl,M,rfl⟩ hs
   conv=>whnf
   repeat'((first|clear U K|apply st|(apply zk;intro K U)|refine zY ?_|refine zs fun Z hs=>?_|fail)<;>conv=>whnf)
   obtain⟨Z2,g1,g2,g3⟩:=IZ hs 2 rfl;refine A3.I4 ((e1 M).use (rest:=_) g3 ?_) g1 (.cons (.refl _) (.cons g2 .nil));clear hs g1 g2 g3;rintro r post Z ⟨rfl,M,rfl⟩ hs
   conv=>whnf
   repeat'((first|clear U K|apply st|(apply zk;intro K U)|refine zY ?_|refine zs fun Z hs=>?_|fail)<;>conv=>whnf)
   obtain⟨Z2,g1,g2,g3⟩:=IZ hs 2 rfl;refine A3.I4 ((e3 M).use (rest:=_) g3 ?_) g1 (.cons (.refl _) (.cons g2 .nil));clear hs g1 g2 g3;rintro r post Z ⟨v,M,rfl,rfl,hv⟩ hs
   conv=>whnf
   repeat'((first|clear U K|apply st|(apply zk;intro K U)|refine zY ?_|refine zs fun Z hs=>?_|fail)<;>conv=>whnf)
   refine(FJ xs v (by omega) hv).use (rest:=_) hs ?_;clear hs;rintro r post Z ⟨rfl,rfl⟩ hs;refine zz ?_;(repeat clear U K);repeat intro K U
   have o1:=Gq hs 0 rfl;refine Hv hs 4 rfl rfl rfl (by simp[o1]) (by decide) fun Z hs=>?_
   clear o1;refine zz ?_;(repeat clear U K);repeat intro K U
   obtain⟨Z2,g1,g2,g3⟩:=IZ hs 0 rfl;exact Gg g1 (.t (.cons (.a (.cons (.refl _) (.cons (.refl _) (.cons (.refl _) (.cons (.refl _) (.cons (.refl _) (.cons g2 .nil))))))) (.cons (.refl _) .nil))) ⟨_,⟨rfl,M,rfl⟩,g3.less (.cons₂ _ (KG _))⟩
end Go.Gl
namespace Go.Gl
open Go.Proofs
def Ty {p:Prog} {l:List Int} (hok:EH p) (h:D8 p l false=true):PC p l:=by
 rw[D8,BD,E3,CN]at h;obtain⟨h1,h2⟩:=h
 have hm: ∀x∈l,BO p x=true/\(Bi p x).gen=(Bi p (l.getD 0 0)).gen:=fun x hx=>by
  have:=h1 x hx;simp only[aW,BD,EU]at this;exact⟨this.1,this.2.1⟩
 refine⟨fun x hx=>(hm x hx).1,fun x hx y hy=>(hm x hx).2.trans (hm y hy).2.symm,h2,Nat.le_trans (Vh p.methods.length l h2 fun x hx=>?_) hok.many⟩;have:=(hm x hx).1;simp only[BO,BD,CN]at this;omega
def Yq (x:Pl×Bool):Pl×Int:=if x.2 then(x.1,0)else(vX,5)
def FE (p:Prog) (l:List Int):Pl×Int:=if(BK p).isSome&&D8 p l false then Yq (CJ (Ae p) p l)else(vX,2)
abbrev plE (x:Pl×Int) (g:Bool):V:= .t [.a (xv x.1 g (x.2 != 0)),eI x.2]
attribute [local irreducible] A3 Aq Af AR AJ Ad AQ AT AK Ac AM AN Ax A5 Sat AX A4 Ah W
def vQ (p:Prog) (l:List Int) (f:Bool) (hl:l.length<=1000):Pure zP 47 [.a (A9 p),.l (iL l) f] (plE (FE p l) true):=by
 refine Pure.of ?_;have hr:=iB p;generalize hX:FE p l=X;rw[FE]at hX;refine xY kZ ?_;have hs:=Sn
 conv=>whnf
 repeat'((first|clear U K|apply st|(apply zk;intro K U)|refine zY ?_|refine zo fun nn hnn Z hs=>?_|fail)<;>conv=>whnf)
 refine hr.use (rest:=_) hs ?_;clear hs;cases h:(BK p).isSome
 .have c1:=l6 l f false
  rw[h,Bool.false_and,if_neg (by decide)]at hX;subst hX;rintro r post Z ⟨rfl,rfl⟩ hs
  conv=>whnf
  repeat'((first|clear U K|apply st|(apply zk;intro K U)|refine zY ?_|refine zs fun Z hs=>?_|refine zC ?_|fail)<;>conv=>whnf)
  exact AU (by rfl)
 .rintro r post Z ⟨L,rfl,rfl⟩ hs
  have c1:=qz p L l f false hl;cases hb:D8 p l false<;>rw[hb]at c1 hX
  .rw[Bool.and_false,if_neg (by decide)]at hX
   subst hX
   conv=>whnf
   repeat'((first|clear U K|apply st|(apply zk;intro K U)|refine zY ?_|refine zs fun Z hs=>?_|refine zC ?_|fail)<;>conv=>whnf)
   exact AU (by rfl)
  .have c3:=qX p L l f h (Ty (look_ok h) hb) []
   rw[h,Bool.and_self,if_pos rfl]at hX;generalize CJ (Ae p) p l=x at *;obtain⟨x,b⟩:=x;cases b
   all_goals
    subst hX
    conv=>whnf
    repeat'((first|clear U K|apply st|(apply zk;intro K U)|refine zY ?_|refine zC ?_|fail)<;>conv=>whnf)
    refine c3.use (rest:=_) hs ?_;clear hs;rintro r post Z ⟨rfl,M,rfl⟩ hs
    conv=>whnf
    repeat'((first|clear U K|apply st|(apply zk;intro K U)|refine zY ?_|refine zs fun Z hs=>?_|refine zo fun nn hnn Z hs=>?_|fail)<;>conv=>whnf)
    exact AU (by rfl)
end Go.Gl
namespace Go.Gl
open Go.Proofs
def IY (c:XA) (x:Pl):List Int:=if c.ord=2 then(if x.prt then []else x.pr.reverse)else x.pr
def Dc (c:XA) (x:Pl):List Int×Bool:=if 0<c.pick/\c.pick<(IY c x).length then((IY c x).take c.pick.toNat,false)else(IY c x,x.prt)
def Yu (p:Prog) (q:W4) (l:List Int):(List Int×Bool)×Int:=
 if Kg p q then(if(FE p l).2=0 then(Dc (q.EY.getD (Bi p (l.getD 0 0)).gen.toNat ⟨0,0,0⟩) (FE p l).1,0)else(([],false),(FE p l).2))else(([],false),2)
def Sm {α:Type} {l:List α} {k:Nat} (h:k=l.length):l.drop k= []:=by rw[h];exact List.drop_length
def Z4 {x:XA} (h1:x.ord=1\/x.ord=2) (h2:JZ x.fold=true) (h3:0<=x.pick) (h4:x.pick<=16):TH x=true:=by
 have e1:1<=x.ord/\x.ord<=2:=by omega
 simp only[TH,h2,BD,CN];exact⟨e1,trivial,h3,h4⟩
def u9 {x:XA} (h: ¬(x.ord=1\/x.ord=2)\/ ¬0<=x.pick\/ ¬x.pick<=16):TH x=false:=by
 rw[Bool.eq_false_iff];intro hc;simp only[TH,BD,CN]at hc;omega
def vA {x:XA} (h:JZ x.fold=false):TH x=false:=by
 rw[TH,h,Bool.false_and,Bool.and_false]
def XR {p:Prog} {q:W4} (h: ¬q.EY.length=p.Br.length\/ ¬q.DI.length<=4\/ ¬q.cls.length=p.AH.length):ON p q=false:=by
 rw[Bool.eq_false_iff];intro hc;have:=Vs hc;omega
def lQ {p:Prog} {q:W4} (h1:q.EY.length=p.Br.length) (h2:q.DI.length<=4) (h3:q.cls.length=p.AH.length):ON p q=(q.EY.all TH&&(Nr p 0 q.DI&&q.cls.all (ny q.DI.length))):=by
 rw[ON,Yx,decide_eq_true h1,decide_eq_true h2,decide_eq_true h3];rfl
attribute [local irreducible] A3 Aq Af AR AJ Ad AQ AT AK Ac AM AN Ax A5 Sat AX A4 Ah W
end Go.Gl
namespace Go.Gl
open Go.Proofs
attribute [local irreducible] A3 Aq Af AR AJ Ad AQ AT AK Ac AM AN Ax A5 Sat AX A4 Ah W
def JJ {p:Prog} (h:(BK p).isSome=true):p.Br.length<=8/\p.AH.length<=10/\Gt (ew p)=true:=by
 obtain⟨hh,-⟩:=EZ h;simp only[Cw,BD,CN]at hh;have h10:=gI h;have h8:p.Br.length<=8:=hh.2.1;refine⟨h8,h10,?_⟩;simp[Gt,ew];omega
def IQ:XA:=⟨1,0,1⟩
abbrev uV (p:Prog):V:= .a [.l ((List.replicate p.Br.length IQ).map Ho) false,.l [] true,.l (iL (List.replicate p.AH.length (-1))) false]
abbrev u0V:V:= .a [.l [] true,.l [] true,.l [] true]
def yF (p:Prog):V:=if(BK p).isSome then .t [uV p,eI 0]else .t [u0V,eI 2]
def Pa {α:Type} (k:Nat) (x:α):List.replicate (k+1) x=List.replicate k x++[x]:=List.replicate_succ'
def mM (f:Int):Pure zP 51 [eI f] (.b (JZ f)):=by
 refine xX kZ ?_;have hs:=Sn
 conv=>whnf
 repeat'((first|apply st|(apply sq;intro K U)|(apply si;intro A B hA hB)|(refine hA _ _ ?_;clear hB B hA A)|(apply U;clear U K)|refine⟨rfl,?_⟩|(constructor<;>intro hc<;>(try rw[hc])<;>(replace hc:=bp hc))|fail)<;>conv=>whnf)
 all_goals exact AF (by simp[JZ, *]<;>omega)
def eV (p:Prog) (hp:p.Br.length<=AY) (g k:Int):Pure zP 138 [eI g,eI k,.rp (A9 p)] (.b (Nu p g k)):=by
 have hM:=Mx;by_cases h1:g= -1
 .subst h1
  refine Xe kZ ?_;have hs:=Sn
  conv=>whnf
  repeat'((first|apply st|(apply sq;intro K U)|(apply si;intro A B hA hB)|(refine hA _ _ ?_;clear hB B hA A)|(apply U;clear U K)|refine⟨rfl,?_⟩|(constructor<;>intro hc<;>(try rw[hc])<;>(replace hc:=bp hc)<;>(try simp(disch:=omega) only[BU,wrap64,AO]at hc)<;>try(exfalso;omega))|fail)<;>conv=>whnf)
  all_goals first
   | exact AF rfl
   | (exfalso;omega)
   | (exfalso;simp at hc;done)
 rw[Nu,show(g== -1)=false by simpa using h1,Bool.false_or];by_cases h2:0<=g/\g<(p.Br.length:Int)
 rotate_left
 .have h3:dy p g=false:=by
   rw[Bool.eq_false_iff];intro hc;rw[dy,BD,CN,CN]at hc;exact h2 hc
  rw[h3,Bool.false_and];refine Xe kZ ?_;have hs:=Sn
  conv=>whnf
  repeat'((first|apply st|(apply sq;intro K U)|(apply si;intro A B hA hB)|(refine hA _ _ ?_;clear hB B hA A)|(apply U;clear U K)|refine⟨rfl,?_⟩|(constructor<;>intro hc<;>(try rw[hc])<;>(replace hc:=bp hc)<;>(try simp(disch:=omega) only[BU,wrap64,AO]at hc)<;>try(exfalso;omega))|fail)<;>conv=>whnf)
  all_goals first
   | exact AF rfl
   | (exfalso;omega)
   | (exfalso;simp at hc;done)
 .have h3:dy p g=true:=by rw[dy,BD,CN,CN];exact h2
  obtain⟨x,hx⟩: ∃x,p.Br[g.toNat]? =some x:=⟨_,Cy (by omega)⟩
  rw[h3,show p.Br.getD g.toNat 0=x by rw[DH,hx];rfl,G7];refine Xe kZ ?_;have hs:=Sn
  conv=>whnf
  repeat'((first|apply st|(apply sq;intro K U)|(apply si;intro A B hA hB)|(refine hA _ _ ?_;clear hB B hA A)|(apply U;clear U K)|refine⟨rfl,?_⟩|refine nz ?_|(constructor<;>intro hc<;>(try rw[hc])<;>(replace hc:=bp hc)<;>(try simp(disch:=omega) only[BU,wrap64,AO]at hc)<;>try(exfalso;omega))|fail)<;>conv=>whnf)
  all_goals first
   | exact AF rfl
   | (exfalso;omega)
   | (exfalso;simp at hc;done)
   | exact AF (by simp[*])
def badM (q:W4) (hq:Gt q=true) (m:Int):Pure zP 140 [eI m,.rp (Mp q)] (.b (!ny q.DI.length m)):=by
 have hM:=Mx;have⟨q1,q2,q3⟩:=NI hq;have e2:((q.DI.map kS).length:Int)=q.DI.length:=by simp
 by_cases h1: -1<=m
 .rw [ny,decide_eq_true h1,G7]
  by_cases h2:m<(q.DI.length:Int)
  .rw[decide_eq_true h2]
   refine Xd kZ ?_;have hs:=Sn
   conv=>whnf
   repeat'((first|apply st|(apply sq;intro K U)|(apply si;intro A B hA hB)|(refine hA _ _ ?_;clear hB B hA A)|(apply U;clear U K)|refine⟨rfl,?_⟩|(constructor<;>intro hc<;>(try rw[hc])<;>(replace hc:=bp hc)<;>try(exfalso;omega))|fail)<;>conv=>whnf)
   all_goals first
    | exact AF rfl
    | (exfalso;omega)
    | exact AF (by rw[e2];simp;omega)
  .rw[decide_eq_false h2]
   refine Xd kZ ?_;have hs:=Sn
   conv=>whnf
   repeat'((first|apply st|(apply sq;intro K U)|(apply si;intro A B hA hB)|(refine hA _ _ ?_;clear hB B hA A)|(apply U;clear U K)|refine⟨rfl,?_⟩|(constructor<;>intro hc<;>(try rw[hc])<;>(replace hc:=bp hc)<;>try(exfalso;omega))|fail)<;>conv=>whnf)
   all_goals first
    | exact AF rfl
    | (exfalso;omega)
    | exact AF (by rw[e2];simp;omega)
 .rw[ny,decide_eq_false h1,Bool.false_and]
  refine Xd kZ ?_;have hs:=Sn
  conv=>whnf
  repeat'((first|apply st|(apply sq;intro K U)|(apply si;intro A B hA hB)|(refine hA _ _ ?_;clear hB B hA A)|(apply U;clear U K)|refine⟨rfl,?_⟩|(constructor<;>intro hc<;>(try rw[hc])<;>(replace hc:=bp hc)<;>try(exfalso;omega))|fail)<;>conv=>whnf)
  all_goals first
   | exact AF rfl
   | (exfalso;omega)
def xM (p : Prog) (q:W4) (hq:Gt q=true):Pure zP 81 [.a (A9 p),.a (Mp q)] (.b (ON p q)):=by
 refine Pure.fit (by kernel_rfl) fun hf=>?_
 have⟨p1,p2,p3,p4⟩:=Fk hf.1;have⟨q1,q2,q3⟩:=NI hq;have hM:=Mx;have e1:((q.EY.map Ho).length:Int)=q.EY.length:=by simp
 have e2:((q.DI.map kS).length:Int)=q.DI.length:=by simp
 have e3:((p.AH.map Q6).length:Int)=p.AH.length:=by simp
 by_cases g1:q.EY.length=p.Br.length
 rotate_left
 .rw[XR (.inl g1)]
  refine Y1 kZ ?_;have hs:=Sn
  conv=>whnf
  repeat'((first|apply st|(apply sq;intro K U)|(apply si;intro A B hA hB)|(refine hA _ _ ?_;clear hB B hA A)|(apply U;clear U K)|refine⟨rfl,?_⟩|(constructor<;>intro hc<;>(try rw[hc])<;>(replace hc:=bp hc)<;>(try simp(disch:=omega) only[BU,wrap64,AO]at hc)<;>try(exfalso;omega))|clear U K)<;>conv=>whnf)
  all_goals first|exact AF rfl|(exfalso;omega)
 by_cases g2:q.DI.length<=4
 rotate_left
 .rw[XR (.inr (.inl g2))]
  refine Y1 kZ ?_;have hs:=Sn
  conv=>whnf
  repeat'((first|apply st|(apply sq;intro K U)|(apply si;intro A B hA hB)|(refine hA _ _ ?_;clear hB B hA A)|(apply U;clear U K)|refine⟨rfl,?_⟩|(constructor<;>intro hc<;>(try rw[hc])<;>(replace hc:=bp hc)<;>(try simp(disch:=omega) only[BU,wrap64,AO]at hc)<;>try(exfalso;omega))|clear U K)<;>conv=>whnf)
  all_goals first|exact AF rfl|(exfalso;omega)
 by_cases g3:q.cls.length=p.AH.length
 rotate_left
 .rw[XR (.inr (.inr g3))]
  refine Y1 kZ ?_;have hs:=Sn
  conv=>whnf
  repeat'((first|apply st|(apply sq;intro K U)|(apply si;intro A B hA hB)|(refine hA _ _ ?_;clear hB B hA A)|(apply U;clear U K)|refine⟨rfl,?_⟩|(constructor<;>intro hc<;>(try rw[hc])<;>(replace hc:=bp hc)<;>(try simp(disch:=omega) only[BU,wrap64,AO]at hc)<;>try(exfalso;omega))|clear U K)<;>conv=>whnf)
  all_goals first|exact AF rfl|(exfalso;omega)
 have hR0:=lQ g1 g2 g3;refine Y1 kZ ?_;have hs:=Sn
 conv=>whnf
 repeat'((first|apply st|(apply sq;intro K U)|(apply si;intro A B hA hB)|(refine hA _ _ ?_;clear hB B hA A)|(apply U;clear U K)|refine⟨rfl,?_⟩|(constructor<;>intro hc<;>(try rw[hc])<;>(replace hc:=bp hc)<;>(try simp(disch:=omega) only[BU,wrap64,AO]at hc)<;>try(exfalso;omega))|fail)<;>conv=>whnf)
 all_goals try(exfalso;omega)
 refine B0 q.EY.length (fun k (_:Unit)=>[(35,eI (A8 k))]) (fun _ _=>[]) (fun k _=>ON p q=((q.EY.drop k).all TH&&(Nr p 0 q.DI&&q.cls.all (ny q.DI.length)))) () rfl hR0 hs ?_;clear hs hR0;rintro k - Z hk hR hs;have hck:A8 k=k:=AO (by omega);rcases BC q.EY hk with⟨x,hx,hlt⟩|hke
 .rw [drop_cons hx,LC]at hR
  have c1:=mM x.fold;cases h1:JZ x.fold<;>rw[h1]at c1
  all_goals
   conv=>whnf
   repeat'((first|apply st|(apply sq;intro K U)|(apply si;intro A B hA hB)|(refine hA _ _ ?_;clear hB B hA A)|(apply U;clear U K)|refine⟨rfl,?_⟩|refine⟨kZ,?_⟩|refine ix ?_|refine ld ?_|refine Ug fun Z hs=>?_|refine bA ?_|refine Mq ?_|(refine Uc (fun hc=>?_)<;>(try rw[hc])<;>clear hc)|refine c1.use ?_|(constructor<;>intro hc<;>(try rw[hc])<;>(replace hc:=bp hc))|(intro nn hnn;generalize hg:Bd _ nn _=Z;refine RX hg fun hs=>?_;clear hg)|clear U K)<;>conv=>whnf)
   all_goals try simp only[Bool.not_true,Bool.not_false,cond_false,cond_true,CN,decide_eq_false_iff_not]at *
   all_goals first
    | exact⟨hlt,(),rfl,by rw[hR,Z4 (by omega) h1 (by omega) (by omega),G7],hs.less (KG _)⟩
    | exact AF (by rw[hR,vA h1];rfl)
    | exact AF (by rw[hR,u9 (by omega)];rfl)
    | (exfalso;omega)
 rw[Sm hke,List.all_nil,G7]at hR
 conv=>whnf
 repeat'((first|apply st|(apply sq;intro K U)|(apply si;intro A B hA hB)|(refine hA _ _ ?_;clear hB B hA A)|(apply U;clear U K)|refine⟨rfl,?_⟩|(refine de (fun hc=>?_)<;>(try rw[hc])<;>clear hc)|clear U K)<;>conv=>whnf)
 all_goals try(exfalso;omega)
 refine B0 q.DI.length (fun k (_:Unit)=>[(68,eI (A8 k))]) (fun _ _=>[]) (fun k _=>ON p q=(Nr p k (q.DI.drop k)&&q.cls.all (ny q.DI.length))) () rfl hR hs ?_;clear hs hR;rintro k2 - Z hk2 hR hs;have hck2:A8 k2=k2:=AO (by omega);rcases BC q.DI hk2 with⟨x,hx,hlt⟩|hke2
 .rw [drop_cons hx,Nr,wM]at hR
  have c1:=eV p p2 x.rd 2;have c2:=eV p p2 x.wr 2;have c3:=eV p p2 x.xy 1;generalize Nu p x.rd 2=b1 at *;generalize Nu p x.wr 2=b2 at *;generalize Nu p x.xy 1=b3 at *;by_cases h1: -1<=x.of/\x.of<(k2:Int)
  .rw [decide_eq_true h1.1,decide_eq_true h1.2]at hR
   cases b1<;>cases b2<;>cases b3
   all_goals
    conv=>whnf
    repeat'((first|apply st|(apply sq;intro K U)|(apply si;intro A B hA hB)|(refine hA _ _ ?_;clear hB B hA A)|(apply U;clear U K)|refine⟨rfl,?_⟩|refine⟨kZ,?_⟩|refine ix ?_|refine ld ?_|refine Ug fun Z hs=>?_|refine df ?_|refine Ox ?_|refine bA ?_|refine Mq ?_|(refine Uc (fun hc=>?_)<;>(try rw[hc])<;>clear hc)|refine c1.use ?_|refine c2.use ?_|refine c3.use ?_|refine By ?_|(constructor<;>intro hc<;>(try rw[hc])<;>(replace hc:=bp hc)<;>(try simp(disch:=omega) only[BU,wrap64,AO]at hc)<;>try(exfalso;omega))|(intro nn hnn;generalize hg:Bd _ nn _=Z;refine RX hg fun hs=>?_;clear hg)|clear U K)<;>conv=>whnf)
    all_goals try simp only[Bool.not_true,Bool.not_false,cond_false,cond_true,CN,decide_eq_false_iff_not]at *
    all_goals first
     | exact⟨hlt,(),rfl,by simpa using hR,hs.less (KG _)⟩
     | exact AF (by rw[hR];rfl)
     | (exfalso;omega)
  .have hd:(decide (-1<=x.of)&&decide (x.of<(k2:Int)))=false:=by
    rw[Bool.eq_false_iff];intro hc;simp only[BD,CN]at hc;exact h1 hc
   rw[hd,Bool.false_and,Bool.false_and]at hR
   conv=>whnf
   repeat'((first|apply st|(apply sq;intro K U)|(apply si;intro A B hA hB)|(refine hA _ _ ?_;clear hB B hA A)|(apply U;clear U K)|refine⟨rfl,?_⟩|refine⟨kZ,?_⟩|refine ix ?_|refine ld ?_|refine Ug fun Z hs=>?_|(refine Uc (fun hc=>?_)<;>(try rw[hc])<;>clear hc)|(constructor<;>intro hc<;>(try rw[hc])<;>(replace hc:=bp hc)<;>(try simp(disch:=omega) only[BU,wrap64,AO]at hc)<;>try(exfalso;omega))|(intro nn hnn;generalize hg:Bd _ nn _=Z;refine RX hg fun hs=>?_;clear hg)|clear U K)<;>conv=>whnf)
   all_goals first
    | exact AF (by rw[hR];rfl)
    | (exfalso;omega)
 rw[Sm hke2,Nr,G7]at hR;have c4:Pure zP 139 [.l (iL q.cls) false,.f (.func 140) [] [.rp (Mp q)]] (.b (q.cls.any fun c=> !ny q.DI.length c)):=Im false fun y _=>badM q hq y
 rw[List.all_eq_not_any_not]at hR
 conv=>whnf
 repeat'((first|apply st|(apply sq;intro K U)|(apply si;intro A B hA hB)|(refine hA _ _ ?_;clear hB B hA A)|(apply U;clear U K)|refine⟨rfl,?_⟩|(refine de (fun hc=>?_)<;>(try rw[hc])<;>clear hc)|refine c4.use ?_|clear U K)<;>conv=>whnf)
 all_goals first
  | exact AF (by rw[hR])
  | (exfalso;omega)
def CheckM (p:Prog) (q:W4) (hq:Gt q=true):Pure zP 31 [.a (A9 p),.a (Mp q)] (eI (if Kg p q then 0 else 2)):=by
 have c1:=P3 p;have c2:=xM p q hq;rw[Kg];cases h1:(BK p).isSome<;>cases h2:ON p q<;>rw[h1]at c1<;>rw[h2]at c2
 all_goals
  first|rw[if_pos rfl]at c1|rw[if_neg (by decide)]at c1
  refine xZ kZ ?_;have hs:=Sn
  conv=>whnf
  repeat'((first|apply st|(apply sq;intro K U)|(apply si;intro A B hA hB)|(refine hA _ _ ?_;clear hB B hA A)|(apply U;clear U K)|refine⟨rfl,?_⟩|refine⟨kZ,?_⟩|refine df ?_|refine Ox ?_|refine c1.use ?_|refine c2.use ?_|(constructor<;>intro hc<;>(try rw[hc])<;>(replace hc:=bp hc)<;>(try simp(disch:=omega) only[BU,wrap64,AO]at hc)<;>try(exfalso;omega))|clear U K)<;>conv=>whnf)
  all_goals exact AF rfl
end Go.Gl
namespace Go.Gl
variable {P:Program} {Z:AE}
def LR.fz {L:Nat} {args:List V} {Q Q':R->AE->Prop} (h:LR P L args Z Q) (hq: ∀r Z',Q r Z'->(∃b,r= .ret (.b b))/\ ∃Z2,pR Z' Z2/\Q' r Z2):LR P L args Z Q':=by
 intro F w cs hR hv;obtain⟨f,tmps,assign,body,h1,h2⟩:=h F w cs hR hv;refine⟨f,tmps,assign,body,h1,h2.mono fun e w' ⟨r,Z',hq1,hr,hR',hA⟩=>?_⟩;obtain⟨⟨b,rfl⟩,Z2,hf,hq2⟩:=hq r Z' hq1;obtain⟨c,rfl,hc⟩:=hr;exact⟨_,Z2,hq2,⟨c,rfl,by simp only[Ab]at hc ⊢;exact hc⟩,hR'.fz hf,hA.trans (Bu.fz w' hf)⟩
end Go.Gl
namespace Go.Gl
open Go.Proofs
attribute [local irreducible] A3 Aq Af AR AJ Ad AQ AT AK Ac AM AN Ax A5 Sat AX A4 Ah W
end Go.Gl
