import Derived.Test.YtcfkfhaedllcpaaGreatV14
import Derived.Test.YtcfkfhaedllcpaaGreatV24
import Derived.Test.YtcfkfhaedllcpaaGreatV25
import Derived.Test.YtcfkfhaedllcpaaGreatV26
import Derived.Test.YtcfkfhaedllcpaaGreatV31
import Derived.Test.YtcfkfhaedllcpaaGreatV32
import Derived.Test.YtcfkfhaedllcpaaGreatV33
set_option linter.all false
set_option linter.defProp false
set_option maxHeartbeats 8000000
noncomputable section
namespace Go.Gl
open Go.Proofs
structure PO (p:Prog) (l:List Int):Prop where
 Ip: ∀x∈l,BQ p x=true
 gen: ∀x∈l,∀y∈l,(Bf p x).gen=(Bf p y).gen
 nodup:l.Nodup
 many:l.length<=16
def Gx {p:Prog} {l:List Int} {k x:Int} (h:x∈B0 p l k):x∈l/\(Bf p x).kind=k:=by
 have:=LX.1 h;exact⟨this.1,by simpa using this.2⟩
def UC {p:Prog} {l:List Int} {k:Int}:(B0 p l k).length<=l.length:=Q8 _ _
def PO.of {p:Prog} {l:List Int} (h:PO p l) (k:Int):Tm p (B0 p l k)/\(B0 p l k).Nodup:=by
 refine⟨⟨fun x hx=>h.Ip x (Gx hx).1,fun x hx y hy=>?_,Nat.le_trans UC h.many⟩,h.nodup.sublist (List.filter_sublist ..)⟩;rw[DH,h.gen x (Gx hx).1 y (Gx hy).1,(Gx hx).2,(Gx hy).2];simp
def Ww {p:Prog} {l:List Int} {A B:Int->Int->Bool} (h:PO p l) (hq: ∀x∈l,∀y∈l,DH p x y=true->A x y=B x y):Ce A p l=Ce B p l:=by
 have hk: ∀k,∀x∈B0 p l k,∀y∈B0 p l k,A x y=B x y:=fun k x hx y hy=>hq x (Gx hx).1 y (Gx hy).1 ((h.of k).1.alike x hx y hy)
 have hc: ∀k,BR A (B0 p l k).length (B0 p l k)=BR B (B0 p l k).length (B0 p l k):=fun k=>Mp _ _ (hk k)
 have hb: ∀k,DE A (B0 p l k).length (Co (B0 p l k))=DE B (B0 p l k).length (Co (B0 p l k)):=fun k=>Q2 _ _ fun x hx y hy=>hk k x (J4.1 hx) y (J4.1 hy)
 unfold Ce ZF;rw[hc 4,hc 1,hb 2,hb 3]
def KG.sub {T:List (List Bool)} {l l':List Int} (h:KG T l) (hs: ∀x∈l',x∈l) (hl:l'.length<=l.length):KG T l':=⟨h.len,h.sq,fun x hx=>h.ins x (hs x hx),Nat.le_trans hl h.many⟩
attribute [local irreducible] A6 Ar Ah AR AI Ae AQ AT AK Ad AN AO Ay A7 Sat AY A5 Ai W
def jD (p:Prog) (T:List (List Bool)) (l:List Int) (f:Bool) (hG:PO p l) (h16:p.methods.length<=16) (hT:KG T l) :
    Pure zP 74 [.a (BK p),xA T,.l (iL l) f] (.t [.a (zK (Ce (Dd T) p l).1 (!(Ce (Dd T) p l).2) (!(Ce (Dd T) p l).2)),.b (Ce (Dd T) p l).2]):=by
 have hM:=Mx;have c1:=lq p l f 1 hG.Ip hG.many h16;have c2:=lq p l f 2 hG.Ip hG.many h16;have c3:=lq p l f 3 hG.Ip hG.many h16;have c4:=lq p l f 4 hG.Ip hG.many h16;have htk: ∀k,KG T (B0 p l k):=fun k=>hT.sub (fun x hx=>(Gx hx).1) UC
 have hts: ∀k,KG T (Co (B0 p l k)):=fun k=>(htk k).sub (fun x hx=>J4.1 hx) (by rw[SE];exact I3 _)
 have d1:=Wa T (B0 p l 1) false (htk 1);have d4:=Wa T (B0 p l 4) false (htk 4);have e2:=S8 T (B0 p l 2) false (hts 2) (htk 2).many;have e3:=S8 T (B0 p l 3) false (hts 3) (htk 3).many;rw[SE]at e2 e3
 have hbl:(DE (Dd T) (B0 p l 3).length (Co (B0 p l 3))).length<=16:=by
  have: ∀k l,(DE (Dd T) k l).length=k:=fun k=>by
   induction k with
   | zero=>intro l;rfl
   | succ k ih=>intro l;simp only[DE,JD,ih]
  rw[this];exact(htk 3).many
 have hpl:Ce (Dd T) p l=if(B0 p l 1).isEmpty then(xD,false)else(⟨(BR (Dd T) (B0 p l 4).length (B0 p l 4)).1,(BR (Dd T) (B0 p l 4).length (B0 p l 4)).2,DE (Dd T) (B0 p l 2).length (Co (B0 p l 2)),(BR (Dd T) (B0 p l 1).length (B0 p l 1)).1,(BR (Dd T) (B0 p l 1).length (B0 p l 1)).2,(DE (Dd T) (B0 p l 3).length (Co (B0 p l 3))).reverse⟩,true):=rfl
 rw[hpl];have hl1:=(htk 1).many;clear htk hts hpl;generalize DE (Dd T) (B0 p l 3).length (Co (B0 p l 3))=xs at *;generalize DE (Dd T) (B0 p l 2).length (Co (B0 p l 2))=bs at *;generalize BR (Dd T) (B0 p l 4).length (B0 p l 4)=q4 at *;generalize BR (Dd T) (B0 p l 1).length (B0 p l 1)=q1 at *;generalize B0 p l 1=l1 at *;obtain⟨r4,t4⟩:=q4;obtain⟨r1,t1⟩:=q1;dsimp only at d1 d4;refine yh kZ ?_;have hs:=Sn;by_cases hz:l1.length=0
 .have he:l1.isEmpty=true:=by simpa using hz
  rw[he];exact zW
 .have he:l1.isEmpty=false:=by cases l1 with
   | nil=>simp at hz
   | cons=>rfl
  rw[he]
  conv=>whnf
  repeat'((first|clear U K|apply st|(apply zk;intro K U)|refine zY ?_|refine zs fun Z hs=>?_|refine c1.use ?_|refine c2.use ?_|refine c3.use ?_|refine c4.use ?_|refine d1.use ?_|refine d4.use ?_|refine e2.use ?_|refine e3.use ?_|(refine zb (fun hc=>?_) (fun hc=>?_)<;>try exact⟨⟩)|refine zo fun nn hnn Z hs=>?_|fail)<;>conv=>whnf)
  rename_i n6 _ _ _ _ _ _ _ _ _ _ _ _ _
  have hwl:IntKind.i64.wrap ((iL xs).length - 1)=(xs.length:Int) - 1:=by
   have e:((iL xs).length:Int)=xs.length:=by simp
   rw[e,wrap64 (by omega) (by omega)]
  refine DF (fun x:Int×V=>(x.1+1).toNat) (fun x=>[(10,eI x.1)]) (fun x=>[.box nn [.l (iL r4) false,.b t4,.l (iL bs) false,.l (iL r1) false,.b t1,x.2],.box n6 [.l [] true,.b false,.l [] true,.l [] true,.b false,.l [] true],.own x.2 1 (iL ((xs.drop (x.1+1).toNat).reverse))]) (fun x=> -1<=x.1/\x.1<xs.length) (IntKind.i64.wrap ((iL xs).length - 1),.l [] true) rfl ?_ ?_ ?_
  .dsimp only
   rw[hwl];exact⟨by omega,by omega⟩
  .dsimp only
   rw[hwl,List.drop_of_length_le (by omega)];exact FA hs 1
  clear hs hwl;rintro⟨i,v⟩ Z ⟨hi1,hi2⟩ hs;dsimp only at hi1 hi2 hs;dsimp only;by_cases hneg:i<0
  .obtain rfl:i= -1:=by omega
   rw[show((-1:Int)+1).toNat=0 from rfl,List.drop_zero]at hs
   conv=>whnf
   repeat'((first|clear U K|apply st|(apply zk;intro K U)|refine zY ?_|(refine zb (fun hc=>?_) (fun hc=>?_)<;>try exact⟨⟩)|fail)<;>conv=>whnf)
   have o1:=H5 hs 2 rfl;refine JZ hs 1 rfl rfl rfl (by simp[o1]) (by decide) fun Z hs=>?_
   clear o1;refine zz ?_;(repeat clear U K);repeat intro K U
   exact Ab (.t (.cons (.a (.cons (.refl _) (.cons (.refl _) (.cons (.refl _) (.cons (.refl _) (.cons (.refl _) (.cons (hs.HP 2 rfl) .nil))))))) (.cons (.refl _) .nil)))
  .have hpos:0<=i:=by omega
   obtain⟨x,hx⟩: ∃x,xs[i.toNat]? =some x:=⟨_,Cw (by omega)⟩
   have hd:(xs.drop i.toNat).reverse=(xs.drop (i+1).toNat).reverse++[x]:=by
    rw[drop_cons hx,List.reverse_cons,show(i+1).toNat=i.toNat+1 by omega]
   have hdl:((xs.drop (i+1).toNat).reverse).length<=16:=by
    rw[List.length_reverse,lH];omega
   generalize (xs.drop (i+1).toNat).reverse=zl at *;have hll:zl.length<AX/\(zl.length+1)*8<=140737488355328:=by omega
   have hwi:IntKind.i64.wrap (i - 1)=i - 1:=wrap64 (by omega) (by omega)
   conv=>whnf
   repeat'((first|clear U K|apply st|(apply zk;intro K U)|refine zY ?_|refine zs fun Z hs=>?_|refine aq fun v Z hs hsl=>?_|(refine zb (fun hc=>?_) (fun hc=>?_)<;>try exact⟨⟩)|fail)<;>conv=>whnf)
   refine⟨(i - 1,v),by dsimp only;omega,by rw[hwi];rfl,⟨by dsimp only;omega,by dsimp only;omega⟩,?_⟩;dsimp only;rw[show(i - 1+1).toNat=i.toNat by omega,hd];exact hs
end Go.Gl
namespace Go.Gl
open Go.Proofs
attribute [local irreducible] A6 Ar Ah AR AI Ae AQ AT AK Ad AN AO Ay A7 Sat AY A5 Ai W
def jJ {p:Prog} {l:List Int} {k:Nat} {x:Int} (hx:l[k]? =some x) (kd:Int):B0 p (l.take (k+1)) kd=if(Bf p x).kind==kd then B0 p (l.take k) kd++[x]else B0 p (l.take k) kd:=by
 rw[AL hx,B0,List.filter_append];cases hp:(Bf p x).kind==kd<;>simp[B0,hp]
def MN {p:Prog} {l:List Int} {k:Nat} {kd:Int} (h:l.length<=16):(B0 p (l.take k) kd).length<=16:=by
 have:=Q8 (fun m=>(Bf p m).kind==kd) (l.take k);rw[LY]at this;simp only[B0];omega
def rQ (p:Prog) (L:Nat) (l:List Int) (f:Bool) (h:(BW p).isSome=true) (hG:PO p l) (M:List (Int×Int)) :
    Be zP 99 [TI p L,.l (iL l) f] [.map L (Ki p M)] fun r post=>r= .ret (.t [.a (zK (Ce (Af p) p l).1 true (!(Ce (Af p) p l).2)),.b (Ce (Af p) p l).2])/\ ∃M',post= [.map L (Ki p M')]:=by
 intro Z hs;have hM:=Mx;have hok:=look_ok h;have hgw:=yX h;have hfm:=nv h;have h16:=hG.many;have hm16:=hok.many;generalize hX:Ce (Af p) p l=X;refine yc kZ ?_
 conv=>whnf
 repeat'((first|clear U K|apply st|(apply zk;intro K U)|refine zo fun nn hnn Z hs=>?_|fail)<;>conv=>whnf)
 rename_i n4 _ _ _;clear hnn;refine By l.length (fun k (_:V×V×V×V)=>[(13,eI (A9 k))]) (fun k x=>[.own x.1 1 (iL (B0 p (l.take k) 1)),.own x.2.1 1 (iL (B0 p (l.take k) 2)),.own x.2.2.1 1 (iL (B0 p (l.take k) 3)),.own x.2.2.2 1 (iL (B0 p (l.take k) 4)),.box nn [.l [] true,x.1,x.2.1,x.2.2.1,x.2.2.2],.box n4 [.l [] true,.b false,.l [] true,.l [] true,.b false,.l [] true],.map L (Ki p M)]) (fun _ _=>True) (.l [] true,.l [] true,.l [] true,.l [] true) rfl trivial (Ci (Ci (Ci (Ci hs 1) 1) 1) 1) ?_;clear hs;rintro k ⟨v1,v2,v3,v4⟩ Z hk - hs;dsimp only at hs;dsimp only;rcases A3 l hk with⟨x,hx,hlt⟩|hke
 .have hmx:=hG.Ip x (Bz hx)
  have hxm:=CA hmx;obtain⟨hkr,-⟩:=m5 h (Bz hxm);have hst:=jJ (p:=p) hx;simp only[BQ,BD,CD]at hmx;have l1:(B0 p (l.take k) 1).length<=16:=MN h16;have l2:(B0 p (l.take k) 2).length<=16:=MN h16;have l3:(B0 p (l.take k) 3).length<=16:=MN h16;have l4:(B0 p (l.take k) 4).length<=16:=MN h16;have s1:=hst 1;have s2:=hst 2;have s3:=hst 3;have s4:=hst 4;clear hst;generalize Bf p x=y at *;generalize B0 p (l.take k) 1=z1 at *;generalize B0 p (l.take k) 2=z2 at *;generalize B0 p (l.take k) 3=z3 at *;generalize B0 p (l.take k) 4=z4 at *;obtain⟨kd,gn,fc,nd⟩:=y;dsimp only at hkr s1 s2 s3 s4;rcases(show kd=1\/kd=2\/kd=3\/kd=4 by omega)with rfl|rfl|rfl|rfl
  .rw[if_pos (beq_self_eq_true _)]at s1
   rw[if_neg (by decide)]at s2 s3 s4;have hll:z1.length<AX/\(z1.length+1)*8<=140737488355328:=by omega
   clear l1 l2 l3 l4
   conv=>whnf
   repeat'((first|clear U K|apply st|(apply zk;intro K U)|refine zY ?_|refine zs fun Z hs=>?_|refine aq fun v Z hs hsl=>?_|refine eQ (j:=1) ?_ (by decide) (by decide)|fail)<;>conv=>whnf)
   exact⟨hlt,(v,v2,v3,v4),rfl,trivial,by rw[s1,s2,s3,s4];exact hs⟩
  .rw[if_pos (beq_self_eq_true _)]at s2
   rw[if_neg (by decide)]at s1 s3 s4;have hll:z2.length<AX/\(z2.length+1)*8<=140737488355328:=by omega
   clear l1 l2 l3 l4
   conv=>whnf
   repeat'((first|clear U K|apply st|(apply zk;intro K U)|refine zY ?_|refine zs fun Z hs=>?_|refine aq fun v Z hs hsl=>?_|refine eQ (j:=2) ?_ (by decide) (by decide)|fail)<;>conv=>whnf)
   exact⟨hlt,(v1,v,v3,v4),rfl,trivial,by rw[s1,s2,s3,s4];exact hs⟩
  .rw[if_pos (beq_self_eq_true _)]at s3
   rw[if_neg (by decide)]at s1 s2 s4;have hll:z3.length<AX/\(z3.length+1)*8<=140737488355328:=by omega
   clear l1 l2 l3 l4
   conv=>whnf
   repeat'((first|clear U K|apply st|(apply zk;intro K U)|refine zY ?_|refine zs fun Z hs=>?_|refine aq fun v Z hs hsl=>?_|refine eQ (j:=3) ?_ (by decide) (by decide)|fail)<;>conv=>whnf)
   exact⟨hlt,(v1,v2,v,v4),rfl,trivial,by rw[s1,s2,s3,s4];exact hs⟩
  .rw[if_pos (beq_self_eq_true _)]at s4
   rw[if_neg (by decide)]at s1 s2 s3;have hll:z4.length<AX/\(z4.length+1)*8<=140737488355328:=by omega
   clear l1 l2 l3 l4
   conv=>whnf
   repeat'((first|clear U K|apply st|(apply zk;intro K U)|refine zY ?_|refine zs fun Z hs=>?_|refine aq fun v Z hs hsl=>?_|refine eQ (j:=4) ?_ (by decide) (by decide)|fail)<;>conv=>whnf)
   exact⟨hlt,(v1,v2,v3,v),rfl,trivial,by rw[s1,s2,s3,s4];exact hs⟩
 .rw [Ap hke]at hs
  obtain⟨o1,d1⟩:=hG.of 1;obtain⟨o2,d2⟩:=hG.of 2;obtain⟨o3,d3⟩:=hG.of 3;obtain⟨o4,d4⟩:=hG.of 4;have hpl:Ce (Af p) p l=if(B0 p l 1).isEmpty then(xD,false)else(⟨(BR (Af p) (B0 p l 4).length (B0 p l 4)).1,(BR (Af p) (B0 p l 4).length (B0 p l 4)).2,DE (Af p) (B0 p l 2).length (Co (B0 p l 2)),(BR (Af p) (B0 p l 1).length (B0 p l 1)).1,(BR (Af p) (B0 p l 1).length (B0 p l 1)).2,(DE (Af p) (B0 p l 3).length (Co (B0 p l 3))).reverse⟩,true):=rfl
  rw[hpl]at hX;clear hpl;have e4:=fun M=>ae p L (B0 p l 4) false hok hgw hfm o4 d4 M
  have e2:=fun M=>dw p L (B0 p l 2) false hok hgw hfm o2 d2 M
  have e1:=fun M=>ae p L (B0 p l 1) false hok hgw hfm o1 d1 M
  have e3:=fun M=>Y1 p L (B0 p l 3) false hok hgw hfm o3 d3 M
  rw[SD d2]at e2;rw[SD d3]at e3;have hl1:=o1.many
  have hbl:(DE (Af p) (B0 p l 3).length (Co (B0 p l 3))).length<=16:=by
   have: ∀k l,(DE (Af p) k l).length=k:=fun k=>by
    induction k with
    | zero=>intro l;rfl
    | succ k ih=>intro l;simp only[DE,JD,ih]
   rw[this];exact o3.many
  clear o1 o2 o3 o4 d1 d2 d3 d4 hG;generalize DE (Af p) (B0 p l 3).length (Co (B0 p l 3))=xs at *;generalize DE (Af p) (B0 p l 2).length (Co (B0 p l 2))=bs at *;generalize BR (Af p) (B0 p l 4).length (B0 p l 4)=q4 at *;generalize BR (Af p) (B0 p l 1).length (B0 p l 1)=q1 at *;generalize B0 p l 1=l1 at *;generalize B0 p l 2=l2 at *;generalize B0 p l 3=l3 at *;generalize B0 p l 4=l4 at *;obtain⟨r4,t4⟩:=q4;obtain⟨r1,t1⟩:=q1;dsimp only at e1 e4;by_cases hz:l1.length=0
  .have he:l1.isEmpty=true:=by simpa using hz
   rw[he,if_pos rfl]at hX;subst hX
   conv=>whnf
   repeat'((first|clear U K|apply st|(apply zk;intro K U)|refine zY ?_|(refine zb (fun hc=>?_) (fun hc=>?_)<;>try exact⟨⟩)|refine zo fun nn hnn Z hs=>?_|fail)<;>conv=>whnf)
   refine JZ hs 6 rfl rfl rfl (by simp) (by decide) fun Z hs=>?_
   refine zz ?_;(repeat clear U K);repeat intro K U
   refine VP hs 6 rfl ?_;refine zz ?_;(repeat clear U K);repeat intro K U
   exact Am (hs.front (j:=7) rfl) (.cons₂ _ (Jm _)) (.refl _) fun Z' hs'=>⟨_,⟨rfl,M,rfl⟩,hs'⟩
  .have he:l1.isEmpty=false:=by cases l1 with
    | nil=>simp at hz
    | cons=>rfl
   rw[he,if_neg (by decide)]at hX;subst hX
   conv=>whnf
   repeat'((first|clear U K|apply st|(apply zk;intro K U)|refine zY ?_|(refine zb (fun hc=>?_) (fun hc=>?_)<;>try exact⟨⟩)|refine zo fun nn hnn Z hs=>?_|fail)<;>conv=>whnf)
   obtain⟨Z2,g1,g2,g3⟩:=JR hs 4 rfl;refine A6.VN ((e4 M).use (rest:=_) (g3.front (j:=6) rfl) ?_) g1 (.cons (.refl _) (.cons g2 .nil));clear hs g1 g2 g3;rintro r post Z ⟨rfl,M,rfl⟩ hs
   conv=>whnf
   repeat'((first|clear U K|apply st|(apply zk;intro K U)|refine zY ?_|refine zs fun Z hs=>?_|fail)<;>conv=>whnf)
   obtain⟨Z2,g1,g2,g3⟩:=JR hs 3 rfl;refine A6.VN ((e2 M).use (rest:=_) g3 ?_) g1 (.cons (.refl _) (.cons g2 .nil));clear hs g1 g2 g3;rintro r post Z ⟨rfl,M,rfl⟩ hs
   conv=>whnf
   repeat'((first|clear U K|apply st|(apply zk;intro K U)|refine zY ?_|refine zs fun Z hs=>?_|fail)<;>conv=>whnf)
   obtain⟨Z2,g1,g2,g3⟩:=JR hs 2 rfl;refine A6.VN ((e1 M).use (rest:=_) g3 ?_) g1 (.cons (.refl _) (.cons g2 .nil));clear hs g1 g2 g3;rintro r post Z ⟨rfl,M,rfl⟩ hs
   conv=>whnf
   repeat'((first|clear U K|apply st|(apply zk;intro K U)|refine zY ?_|refine zs fun Z hs=>?_|fail)<;>conv=>whnf)
   obtain⟨Z2,g1,g2,g3⟩:=JR hs 2 rfl;refine A6.VN ((e3 M).use (rest:=_) g3 ?_) g1 (.cons (.refl _) (.cons g2 .nil));clear hs g1 g2 g3;rintro r post Z ⟨v,M,rfl,rfl,hv⟩ hs
   conv=>whnf
   repeat'((first|clear U K|apply st|(apply zk;intro K U)|refine zY ?_|refine zs fun Z hs=>?_|fail)<;>conv=>whnf)
   refine(J7 xs v (by omega) hv).use (rest:=_) hs ?_;clear hs;rintro r post Z ⟨rfl,rfl⟩ hs;refine zz ?_;(repeat clear U K);repeat intro K U
   have o1:=H5 hs 0 rfl;refine JZ hs 4 rfl rfl rfl (by simp[o1]) (by decide) fun Z hs=>?_
   clear o1;refine zz ?_;(repeat clear U K);repeat intro K U
   obtain⟨Z2,g1,g2,g3⟩:=JR hs 0 rfl;exact G0 g1 (.t (.cons (.a (.cons (.refl _) (.cons (.refl _) (.cons (.refl _) (.cons (.refl _) (.cons (.refl _) (.cons g2 .nil))))))) (.cons (.refl _) .nil))) ⟨_,⟨rfl,M,rfl⟩,g3.less (.cons₂ _ (Jm _))⟩
end Go.Gl
namespace Go.Gl
open Go.Proofs
def UG {p:Prog} {l:List Int} (hok:EM p) (h:Ed p l false=true):PO p l:=by
 rw[Ed,BD,Er,CD]at h;obtain⟨h1,h2⟩:=h
 have hm: ∀x∈l,BQ p x=true/\(Bf p x).gen=(Bf p (l.getD 0 0)).gen:=fun x hx=>by
  have:=h1 x hx;simp only[bP,BD,EZ]at this;exact⟨this.1,this.2.1⟩
 refine⟨fun x hx=>(hm x hx).1,fun x hx y hy=>(hm x hx).2.trans (hm y hy).2.symm,h2,Nat.le_trans (V3 p.methods.length l h2 fun x hx=>?_) hok.many⟩;have:=(hm x hx).1;simp only[BQ,BD,CD]at this;omega
def VM (x:Pl×Bool):Pl×Int:=if x.2 then(x.1,0)else(xD,5)
def FO (p:Prog) (l:List Int):Pl×Int:=if(BW p).isSome&&Ed p l false then VM (Ce (Af p) p l)else(xD,2)
abbrev plE (x:Pl×Int) (g:Bool):V:= .t [.a (zK x.1 g (x.2 != 0)),eI x.2]
attribute [local irreducible] A6 Ar Ah AR AI Ae AQ AT AK Ad AN AO Ay A7 Sat AY A5 Ai W
def wz (p:Prog) (l:List Int) (f:Bool) (hl:l.length<=1000):Pure zP 47 [.a (BK p),.l (iL l) f] (plE (FO p l) true):=by
 refine Pure.of ?_;have hr:=iy p;generalize hX:FO p l=X;rw[FO]at hX;refine yw kZ ?_;have hs:=Sn
 conv=>whnf
 repeat'((first|clear U K|apply st|(apply zk;intro K U)|refine zY ?_|refine zo fun nn hnn Z hs=>?_|fail)<;>conv=>whnf)
 refine hr.use (rest:=_) hs ?_;clear hs;cases h:(BW p).isSome
 .have c1:=m7 l f false
  rw[h,Bool.false_and,if_neg (by decide)]at hX;subst hX;rintro r post Z ⟨rfl,rfl⟩ hs
  conv=>whnf
  repeat'((first|clear U K|apply st|(apply zk;intro K U)|refine zY ?_|refine zs fun Z hs=>?_|refine zC ?_|fail)<;>conv=>whnf)
  exact AU (by rfl)
 .rintro r post Z ⟨L,rfl,rfl⟩ hs
  have c1:=sF p L l f false hl;cases hb:Ed p l false<;>rw[hb]at c1 hX
  .rw[Bool.and_false,if_neg (by decide)]at hX
   subst hX
   conv=>whnf
   repeat'((first|clear U K|apply st|(apply zk;intro K U)|refine zY ?_|refine zs fun Z hs=>?_|refine zC ?_|fail)<;>conv=>whnf)
   exact AU (by rfl)
  .have c3:=rQ p L l f h (UG (look_ok h) hb) []
   rw[h,Bool.and_self,if_pos rfl]at hX;generalize Ce (Af p) p l=x at *;obtain⟨x,b⟩:=x;cases b
   all_goals
    subst hX
    conv=>whnf
    repeat'((first|clear U K|apply st|(apply zk;intro K U)|refine zY ?_|refine zC ?_|fail)<;>conv=>whnf)
    refine c3.use (rest:=_) hs ?_;clear hs;rintro r post Z ⟨rfl,M,rfl⟩ hs
    conv=>whnf
    repeat'((first|clear U K|apply st|(apply zk;intro K U)|refine zY ?_|refine zs fun Z hs=>?_|refine zo fun nn hnn Z hs=>?_|fail)<;>conv=>whnf)
    exact AU (by rfl)
end Go.Gl
namespace Go.Gl
open Go.Proofs
def Ir (c:ec) (x:Pl):List Int:=if c.ord=2 then(if x.prt then []else x.pr.reverse)else x.pr
def Ee (c:ec) (x:Pl):List Int×Bool:=if 0<c.pick/\c.pick<(Ir c x).length then((Ir c x).take c.pick.toNat,false)else(Ir c x,x.prt)
def PQ (p:Prog) (q:RN) (l:List Int):(List Int×Bool)×Int:=
 if Jb p q then(if(FO p l).2=0 then(Ee (q.Cf.getD (Bf p (l.getD 0 0)).gen.toNat ⟨0,0,0⟩) (FO p l).1,0)else(([],false),(FO p l).2))else(([],false),2)
def Hw {α:Type} {l:List α} {k:Nat} (h:k=l.length):l.drop k= []:=by rw[h];exact List.drop_length
def aZ {x:ec} (h1:x.ord=1\/x.ord=2) (h2:C1 x.fold=true) (h3:0<=x.pick) (h4:x.pick<=16):RX x=true:=by
 have e1:1<=x.ord/\x.ord<=2:=by omega
 simp only[RX,h2,BD,CD];exact⟨e1,trivial,h3,h4⟩
def gy {x:ec} (h: ¬(x.ord=1\/x.ord=2)\/ ¬0<=x.pick\/ ¬x.pick<=16):RX x=false:=by
 rw[Bool.eq_false_iff];intro hc;simp only[RX,BD,CD]at hc;omega
def gz {x:ec} (h:C1 x.fold=false):RX x=false:=by
 rw[RX,h,Bool.false_and,Bool.and_false]
def NC {p:Prog} {q:RN} (h: ¬q.Cf.length=p.CW.length\/ ¬q.Bv.length<=4\/ ¬q.cls.length=p.AJ.length):Kj p q=false:=by
 rw[Bool.eq_false_iff];intro hc;have:=P1 hc;omega
def Zp {p:Prog} {q:RN} (h1:q.Cf.length=p.CW.length) (h2:q.Bv.length<=4) (h3:q.cls.length=p.AJ.length):Kj p q=(q.Cf.all RX&&(JQ p 0 q.Bv&&q.cls.all (eN q.Bv.length))):=by
 rw[Kj,fW,decide_eq_true h1,decide_eq_true h2,decide_eq_true h3];rfl
attribute [local irreducible] A6 Ar Ah AR AI Ae AQ AT AK Ad AN AO Ay A7 Sat AY A5 Ai W
def Z7 (f:Int):Pure zP 59 [eI f] (.b (C1 f)):=by
 refine ym kZ ?_;have hs:=Sn
 conv=>whnf
 repeat'((first|apply st|(apply sq;intro K U)|(apply si;intro A B hA hB)|(refine hA _ _ ?_;clear hB B hA A)|(apply U;clear U K)|refine⟨rfl,?_⟩|(constructor<;>intro hc<;>(try rw[hc])<;>(replace hc:=bp hc))|fail)<;>conv=>whnf)
 all_goals exact AF (by simp[C1, *]<;>omega)
def fU (p:Prog) (g k:Int):Pure zP 100 [.a (BK p),eI g,eI k] (.b (Ha p g k)):=by
 refine Pure.fit (by kernel_rfl) fun hf=>?_
 have⟨p1,p2,p3,p4⟩:=Ev hf.1;have hM:=Mx;have c1:=yW p g;by_cases h1:g= -1
 .subst h1
  refine X2 kZ ?_;have hs:=Sn
  conv=>whnf
  repeat'((first|apply st|(apply sq;intro K U)|(apply si;intro A B hA hB)|(refine hA _ _ ?_;clear hB B hA A)|(apply U;clear U K)|refine⟨rfl,?_⟩|(constructor<;>intro hc<;>(try rw[hc])<;>(replace hc:=bp hc)<;>(try simp(disch:=omega) only[BL,wrap64,AM]at hc)<;>try(exfalso;omega))|fail)<;>conv=>whnf)
  all_goals first
   | exact AF rfl
   | (exfalso;omega)
   | (exfalso;simp at hc;done)
 rw[Ha,show(g== -1)=false by simpa using h1,Bool.false_or];cases h2:TZ p g<;>rw[h2]at c1
 .refine X2 kZ ?_
  have hs:=Sn
  conv=>whnf
  repeat'((first|apply st|(apply sq;intro K U)|(apply si;intro A B hA hB)|(refine hA _ _ ?_;clear hB B hA A)|(apply U;clear U K)|refine⟨rfl,?_⟩|refine⟨kZ,?_⟩|refine c1.use ?_|(constructor<;>intro hc<;>(try rw[hc])<;>(replace hc:=bp hc)<;>try(exfalso;omega))|fail)<;>conv=>whnf)
  all_goals first
   | exact AF rfl
   | (exfalso;omega)
   | (exfalso;simp at hc;done)
 .rw[TZ,BD,CD,CD]at h2
  obtain⟨x,hx⟩: ∃x,p.CW[g.toNat]? =some x:=⟨_,Cw (by omega)⟩
  rw[show p.CW.getD g.toNat 0=x by rw[DL,hx];rfl,GJ];refine X2 kZ ?_;have hs:=Sn
  conv=>whnf
  repeat'((first|apply st|(apply sq;intro K U)|(apply si;intro A B hA hB)|(refine hA _ _ ?_;clear hB B hA A)|(apply U;clear U K)|refine⟨rfl,?_⟩|refine⟨kZ,?_⟩|refine Y7 ?_|refine c1.use ?_|(constructor<;>intro hc<;>(try rw[hc])<;>(replace hc:=bp hc)<;>try(exfalso;omega))|fail)<;>conv=>whnf)
  all_goals first
   | exact AF rfl
   | (exfalso;omega)
   | (exfalso;simp at hc;done)
   | exact AF (by simp[*])
def wy (p : Prog) (q:RN) (hq:Ew q=true):Pure zP 49 [.a (BK p),.a (JK q)] (.b (Kj p q)):=by
 refine Pure.fit (by kernel_rfl) fun hf=>?_
 have⟨p1,p2,p3,p4⟩:=Ev hf.1;have⟨q1,q2,q3⟩:=GD hq;have hM:=Mx;have e1:((q.Cf.map Ta).length:Int)=q.Cf.length:=by simp
 have e2:((q.Bv.map VB).length:Int)=q.Bv.length:=by simp
 have e3:((p.AJ.map PG).length:Int)=p.AJ.length:=by simp
 by_cases g1:q.Cf.length=p.CW.length
 rotate_left
 .rw[NC (.inl g1)]
  refine ZR kZ ?_;have hs:=Sn
  conv=>whnf
  repeat'((first|apply st|(apply sq;intro K U)|(apply si;intro A B hA hB)|(refine hA _ _ ?_;clear hB B hA A)|(apply U;clear U K)|refine⟨rfl,?_⟩|(constructor<;>intro hc<;>(try rw[hc])<;>(replace hc:=bp hc)<;>(try simp(disch:=omega) only[BL,wrap64,AM]at hc)<;>try(exfalso;omega))|clear U K)<;>conv=>whnf)
  all_goals first|exact AF rfl|(exfalso;omega)
 by_cases g2:q.Bv.length<=4
 rotate_left
 .rw[NC (.inr (.inl g2))]
  refine ZR kZ ?_;have hs:=Sn
  conv=>whnf
  repeat'((first|apply st|(apply sq;intro K U)|(apply si;intro A B hA hB)|(refine hA _ _ ?_;clear hB B hA A)|(apply U;clear U K)|refine⟨rfl,?_⟩|(constructor<;>intro hc<;>(try rw[hc])<;>(replace hc:=bp hc)<;>(try simp(disch:=omega) only[BL,wrap64,AM]at hc)<;>try(exfalso;omega))|clear U K)<;>conv=>whnf)
  all_goals first|exact AF rfl|(exfalso;omega)
 by_cases g3:q.cls.length=p.AJ.length
 rotate_left
 .rw[NC (.inr (.inr g3))]
  refine ZR kZ ?_;have hs:=Sn
  conv=>whnf
  repeat'((first|apply st|(apply sq;intro K U)|(apply si;intro A B hA hB)|(refine hA _ _ ?_;clear hB B hA A)|(apply U;clear U K)|refine⟨rfl,?_⟩|(constructor<;>intro hc<;>(try rw[hc])<;>(replace hc:=bp hc)<;>(try simp(disch:=omega) only[BL,wrap64,AM]at hc)<;>try(exfalso;omega))|clear U K)<;>conv=>whnf)
  all_goals first|exact AF rfl|(exfalso;omega)
 have hR0:=Zp g1 g2 g3;refine ZR kZ ?_;have hs:=Sn
 conv=>whnf
 repeat'((first|apply st|(apply sq;intro K U)|(apply si;intro A B hA hB)|(refine hA _ _ ?_;clear hB B hA A)|(apply U;clear U K)|refine⟨rfl,?_⟩|(constructor<;>intro hc<;>(try rw[hc])<;>(replace hc:=bp hc)<;>(try simp(disch:=omega) only[BL,wrap64,AM]at hc)<;>try(exfalso;omega))|fail)<;>conv=>whnf)
 all_goals try(exfalso;omega)
 refine By q.Cf.length (fun k (_:Unit)=>[(5,eI (A9 k))]) (fun _ _=>[]) (fun k _=>Kj p q=((q.Cf.drop k).all RX&&(JQ p 0 q.Bv&&q.cls.all (eN q.Bv.length)))) () rfl hR0 hs ?_;clear hs hR0;rintro k - Z hk hR hs;have hck:A9 k=k:=AM (by omega);rcases A3 q.Cf hk with⟨x,hx,hlt⟩|hke
 .rw [drop_cons hx,KK]at hR
  have c1:=Z7 x.fold;cases h1:C1 x.fold<;>rw[h1]at c1
  all_goals
   conv=>whnf
   repeat'((first|apply st|(apply sq;intro K U)|(apply si;intro A B hA hB)|(refine hA _ _ ?_;clear hB B hA A)|(apply U;clear U K)|refine⟨rfl,?_⟩|refine⟨kZ,?_⟩|refine ix ?_|refine ld ?_|refine Gk fun Z hs=>?_|refine Od ?_|refine Gn ?_|(refine OY (fun hc=>?_)<;>(try rw[hc])<;>clear hc)|refine c1.use ?_|(constructor<;>intro hc<;>(try rw[hc])<;>(replace hc:=bp hc))|(intro nn hnn;generalize hg:BV _ nn _=Z;refine G5 hg fun hs=>?_;clear hg)|clear U K)<;>conv=>whnf)
   all_goals try simp only[Bool.not_true,Bool.not_false,cond_false,cond_true,CD,decide_eq_false_iff_not]at *
   all_goals first
    | exact⟨hlt,(),rfl,by rw[hR,aZ (by omega) h1 (by omega) (by omega),GJ],hs.less (Jm _)⟩
    | exact AF (by rw[hR,gz h1];rfl)
    | exact AF (by rw[hR,gy (by omega)];rfl)
    | (exfalso;omega)
 rw[Hw hke,List.all_nil,GJ]at hR
 conv=>whnf
 repeat'((first|apply st|(apply sq;intro K U)|(apply si;intro A B hA hB)|(refine hA _ _ ?_;clear hB B hA A)|(apply U;clear U K)|refine⟨rfl,?_⟩|(refine XQ (fun hc=>?_)<;>(try rw[hc])<;>clear hc)|clear U K)<;>conv=>whnf)
 all_goals try(exfalso;omega)
 refine By q.Bv.length (fun k (_:Unit)=>[(7,eI (A9 k))]) (fun _ _=>[]) (fun k _=>Kj p q=(JQ p k (q.Bv.drop k)&&q.cls.all (eN q.Bv.length))) () rfl hR hs ?_;clear hs hR;rintro k2 - Z hk2 hR hs;have hck2:A9 k2=k2:=AM (by omega);rcases A3 q.Bv hk2 with⟨x,hx,hlt⟩|hke2
 .rw [drop_cons hx,JQ,qX]at hR
  have c1:=fU p x.rd 2;have c2:=fU p x.wr 2;have c3:=fU p x.xG 1;generalize Ha p x.rd 2=b1 at *;generalize Ha p x.wr 2=b2 at *;generalize Ha p x.xG 1=b3 at *;by_cases h1: -1<=x.of/\x.of<(k2:Int)
  .rw [decide_eq_true h1.1,decide_eq_true h1.2]at hR
   cases b1<;>cases b2<;>cases b3
   all_goals
    conv=>whnf
    repeat'((first|apply st|(apply sq;intro K U)|(apply si;intro A B hA hB)|(refine hA _ _ ?_;clear hB B hA A)|(apply U;clear U K)|refine⟨rfl,?_⟩|refine⟨kZ,?_⟩|refine ix ?_|refine ld ?_|refine Gk fun Z hs=>?_|refine Uy ?_|refine Rp ?_|refine Od ?_|refine Gn ?_|(refine OY (fun hc=>?_)<;>(try rw[hc])<;>clear hc)|refine c1.use ?_|refine c2.use ?_|refine c3.use ?_|(constructor<;>intro hc<;>(try rw[hc])<;>(replace hc:=bp hc)<;>(try simp(disch:=omega) only[BL,wrap64,AM]at hc)<;>try(exfalso;omega))|(intro nn hnn;generalize hg:BV _ nn _=Z;refine G5 hg fun hs=>?_;clear hg)|clear U K)<;>conv=>whnf)
    all_goals first
     | exact⟨hlt,(),rfl,by simpa using hR,hs.less (Jm _)⟩
     | exact AF (by rw[hR];rfl)
     | (exfalso;omega)
  .have hd:(decide (-1<=x.of)&&decide (x.of<(k2:Int)))=false:=by
    rw[Bool.eq_false_iff];intro hc;simp only[BD,CD]at hc;exact h1 hc
   rw[hd,Bool.false_and,Bool.false_and,Bool.false_and]at hR
   conv=>whnf
   repeat'((first|apply st|(apply sq;intro K U)|(apply si;intro A B hA hB)|(refine hA _ _ ?_;clear hB B hA A)|(apply U;clear U K)|refine⟨rfl,?_⟩|refine⟨kZ,?_⟩|refine ix ?_|refine ld ?_|refine Gk fun Z hs=>?_|(refine OY (fun hc=>?_)<;>(try rw[hc])<;>clear hc)|(constructor<;>intro hc<;>(try rw[hc])<;>(replace hc:=bp hc)<;>(try simp(disch:=omega) only[BL,wrap64,AM]at hc)<;>try(exfalso;omega))|(intro nn hnn;generalize hg:BV _ nn _=Z;refine G5 hg fun hs=>?_;clear hg)|clear U K)<;>conv=>whnf)
   all_goals first
    | exact AF (by rw[hR])
    | (exfalso;omega)
 rw[Hw hke2,JQ,GJ]at hR
 conv=>whnf
 repeat'((first|apply st|(apply sq;intro K U)|(apply si;intro A B hA hB)|(refine hA _ _ ?_;clear hB B hA A)|(apply U;clear U K)|refine⟨rfl,?_⟩|(refine XQ (fun hc=>?_)<;>(try rw[hc])<;>clear hc)|clear U K)<;>conv=>whnf)
 all_goals try(exfalso;omega)
 refine By q.cls.length (fun k (_:Unit)=>[(9,eI (A9 k))]) (fun _ _=>[]) (fun k _=>Kj p q=(q.cls.drop k).all (eN q.Bv.length)) () rfl hR hs ?_;clear hs hR;rintro k3 - Z hk3 hR hs;have hck3:A9 k3=k3:=AM (by omega);rcases A3 q.cls hk3 with⟨x,hx,hlt⟩|hke3
 .rw [drop_cons hx,KK,eN]at hR
  by_cases h1: -1<=x/\x<(q.Bv.length:Int)
  .rw[decide_eq_true h1.1,decide_eq_true h1.2,Bool.and_self,GJ]at hR
   conv=>whnf
   repeat'((first|apply st|(apply sq;intro K U)|(apply si;intro A B hA hB)|(refine hA _ _ ?_;clear hB B hA A)|(apply U;clear U K)|apply dr|refine⟨rfl,?_⟩|refine ix ?_|(refine OY (fun hc=>?_)<;>(try rw[hc])<;>clear hc)|(constructor<;>intro hc<;>(try rw[hc])<;>(replace hc:=bp hc)<;>(try simp(disch:=omega) only[BL,wrap64,AM]at hc)<;>try(exfalso;omega))|clear U K)<;>conv=>whnf)
   all_goals first
    | exact⟨hlt,(),rfl,hR,hs⟩
    | (exfalso;omega)
  .have hd:(decide (-1<=x)&&decide (x<(q.Bv.length:Int)))=false:=by
    rw[Bool.eq_false_iff];intro hc;simp only[BD,CD]at hc;exact h1 hc
   rw[hd,Bool.false_and]at hR
   conv=>whnf
   repeat'((first|apply st|(apply sq;intro K U)|(apply si;intro A B hA hB)|(refine hA _ _ ?_;clear hB B hA A)|(apply U;clear U K)|apply dr|refine⟨rfl,?_⟩|refine ix ?_|(refine OY (fun hc=>?_)<;>(try rw[hc])<;>clear hc)|(constructor<;>intro hc<;>(try rw[hc])<;>(replace hc:=bp hc)<;>(try simp(disch:=omega) only[BL,wrap64,AM]at hc)<;>try(exfalso;omega))|clear U K)<;>conv=>whnf)
   all_goals first
    | exact AF (by rw[hR])
    | (exfalso;omega)
 rw[Hw hke3,List.all_nil]at hR
 conv=>whnf
 repeat'((first|apply st|(apply sq;intro K U)|(apply si;intro A B hA hB)|(refine hA _ _ ?_;clear hB B hA A)|(apply U;clear U K)|refine⟨rfl,?_⟩|(refine XQ (fun hc=>?_)<;>(try rw[hc])<;>clear hc)|clear U K)<;>conv=>whnf)
 all_goals first
  | exact AF (by rw[hR])
  | (exfalso;omega)
end Go.Gl
namespace Go.Gl
open Go.Proofs
attribute [local irreducible] A6 Ar Ah AR AI Ae AQ AT AK Ad AN AO Ay A7 Sat AY A5 Ai W
end Go.Gl
