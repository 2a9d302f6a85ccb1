import Derived.Test.YtnidfcmdimehdaaGreatU14
import Derived.Test.YtnidfcmdimehdaaGreatU21
import Derived.Test.YtnidfcmdimehdaaGreatU23
import Derived.Test.YtnidfcmdimehdaaGreatU25
import Derived.Test.YtnidfcmdimehdaaGreatU34
import Derived.Test.YtnidfcmdimehdaaGreatU35
set_option linter.all false
set_option linter.defProp false
set_option maxHeartbeats 8000000
noncomputable section
namespace Go.Gl
open Go.Proofs
def wq {Z:AD} {l:List At} {i:Nat} {v:V} {sz:Nat} {es:List (List V)} (hs:Sat Z l) (hi:l[i]? =some (.own v sz es)) (he: ∀e∈es,e.length=sz) {K:V->AD->Prop} (hk: ∀v' Z',Sat Z' (l.set i (.own v' sz es))->((Bd v').isSome=true\/(v'= .l es true/\v= .l es true))->K v' Z'):AP Z sz v none (some (.i .i64 (es.length:Int))) (some (.i .i64 (es.length:Int))) K:=by
 rcases hs.get hi with⟨rfl,_⟩|⟨n,cap,rfl,hn⟩
 .refine⟨he,?_⟩
  simp only[OD];refine⟨Int.le_refl _,Int.natCast_nonneg _,Int.le_refl _,trivial,?_⟩
  have hset:l.set i (.own (.l es true) sz es)=l:=by
   refine List.ext_getElem? fun j=>?_
   by_cases hj:i=j
   .subst hj
    rw[List.getElem?_set_self (JA.1 hi).1,hi]
   .rw[List.getElem?_set_ne hj]
  have:=hk (.l es true) Z (by rw[hset];exact hs) (.inr ⟨rfl,rfl⟩);simpa using this
 .unfold AP
  simp only[OD];refine⟨Int.le_refl _,Int.natCast_nonneg _,Int.le_refl _,trivial,trivial,trivial,?_⟩;rw[hn];refine⟨rfl,rfl,rfl,.inr (hk _ _ ?_ (.inl rfl))⟩;refine hs.change hi (fun b hb ha=>FG hb fun m hm=>?_) (fun b hb ha m hm=>?_) (.inr ⟨n,es.length,rfl,D3 _ _ _⟩)
  .rw[Cg]
   intro e;subst e;exact ha m rfl hm
  .cases hm
   exact ha _ rfl
attribute [local irreducible] As Af AV AQ AI AU AP AR AJ AT AM AN Ag Ar Sat AS Ap AX W
def oR (xs:List Int) (v:V) (hl:xs.length<=AZ) (hv:(Bd v).isSome=true\/(v= .l [] true/\xs= [])):BL zP 262 [v] [.own v 1 (iL xs)] fun r post=> ∃v',r= .ret v'/\post= [.own v' 1 (iL xs)]/\((Bd v').isSome=true\/(v'= .l [] true/\xs= [])):=by
 intro Z hs;have hg:=DJ Bg xs;refine gT kZ ?_;refine zz ?_;(repeat clear U K);repeat intro K U
 refine wq (i:=0) hs rfl hg.1 fun v' Z hs hv'=>?_
 refine zz ?_;(repeat clear U K);repeat intro K U
 refine Aj hs (List.Sublist.refl _) (.refl _) fun Z' hs'=>⟨_,⟨v',rfl,rfl,?_⟩,hs'⟩
 rcases hv' with h|⟨h1,h2⟩
 .exact .inl h
 .rcases hv with h|⟨h3,h4⟩
  .rw[h2]at h;cases h
  .subst h4
   exact .inr ⟨h1,rfl⟩
def Vg (xs ys:List Int) (k:Nat):Prop:=ys.length=xs.length/\ ∀t,t<xs.length->ys[t]? =if t<k\/xs.length - k<=t then xs[xs.length - 1 - t]? else xs[t]?
def se (xs:List Int):Vg xs xs 0:=⟨rfl,fun t ht=>by rw[if_neg (by omega)]⟩
def jx {xs ys:List Int} {k:Nat} (h:Vg xs ys k) (hk:xs.length<=2*k+1):ys=xs.reverse:=by
 refine List.ext_getElem? fun t=>?_
 rcases Nat.lt_or_ge t xs.length with ht|ht
 .rw[h.2 t ht,List.getElem?_reverse ht]
  split
  .rfl
  .congr 1;omega
 .rw[List.getElem?_eq_none (by rw[h.1];exact ht),List.getElem?_eq_none (by rw[List.length_reverse];exact ht)]
def cw {xs ys:List Int} {k:Nat} {a b:Int} (h:Vg xs ys k) (hk:2*k+1<xs.length) (ha:ys[k]? =some a) (hb:ys[xs.length - 1 - k]? =some b):Vg xs ((ys.set k b).set (xs.length - 1 - k) a) (k+1):=by
 have h1:=h.2 k (by omega);have h2:=h.2 (xs.length - 1 - k) (by omega);rw[if_neg (by omega),ha]at h1;rw[if_neg (by omega),hb]at h2;refine⟨by rw[List.length_set,List.length_set];exact h.1,fun t ht=>?_⟩;have hl:=h.1;by_cases e1:t=xs.length - 1 - k
 .subst e1
  rw[List.getElem?_set_self (by rw[List.length_set];omega),if_pos (by omega),show xs.length - 1 - (xs.length - 1 - k)=k by omega,h1]
 .rw[List.getElem?_set_ne (fun e=>e1 e.symm)]
  by_cases e2:t=k
  .subst e2
   rw[List.getElem?_set_self (by omega),if_pos (by omega),h2]
  .rw[List.getElem?_set_ne (fun e=>e2 e.symm),h.2 t ht]
   by_cases e3:t<k\/xs.length - k<=t
   .rw[if_pos e3,if_pos (by omega)]
   .rw[if_neg e3,if_neg (by omega)]
end Go.Gl
namespace Go.Gl
open Go.Proofs
attribute [local irreducible] As Af AV AQ AI AU AP AR AJ AT AM AN Ag Ar Sat AS Ap AX W
def cC (xs:List Int) (v:V) (hl:xs.length<=1000) (hv:(Bd v).isSome=true\/(v= .l [] true/\xs= [])):BL zP 220 [v] [.own v 1 (iL xs)] fun r post=>r= .ret (.t [])/\post= [.own v 1 (iL xs.reverse)]:=by
 intro Z hs;have hM:=Mx;have e0:((iL xs).length:Int)=xs.length:=by simp
 have hw0:IntKind.i64.wrap (((iL xs).length:Int) - 1)=(xs.length:Int) - 1:=by rw[e0,wrap64 (by omega) (by omega)]
 refine uk kZ ?_;refine zz ?_;(repeat clear U K);repeat intro K U
 refine DD (fun(x:Int×Int×List Int)=>(x.2.1+1).toNat) (fun x=>[(2,eI x.1),(3,eI x.2.1)]) (fun x=>[.own v 1 (iL x.2.2)]) (fun x=> ∃k:Nat,x.1=k/\x.2.1=(xs.length:Int) - 1 - k/\2*k<=xs.length+1/\Vg xs x.2.2 k) (0,IntKind.i64.wrap (((iL xs).length:Int) - 1),xs) rfl ⟨0,rfl,by rw[hw0];simp,by omega,se xs⟩ hs ?_;clear hs;rintro⟨i,j,ys⟩ Z ⟨k,hi,hj,hk,hh⟩ hs;dsimp only at hi hj hh hs;dsimp only;have hyl:=hh.1;by_cases hij:i<j
 .have hsv:(Bd v).isSome=true:=by
   rcases hv with h|⟨h1,h2⟩
   .exact h
   .rw[h2]at hj;simp at hj;omega
  have hwi:IntKind.i64.wrap (i+1)=i+1:=wrap64 (by omega) (by omega);have hwj:IntKind.i64.wrap (j - 1)=j - 1:=wrap64 (by omega) (by omega);obtain⟨a,ha⟩: ∃a,ys[i.toNat]? =some a:=⟨_,CQ (by omega)⟩
  obtain⟨b,hb⟩: ∃b,ys[j.toNat]? =some b:=⟨_,CQ (by omega)⟩
  conv=>whnf
  repeat'((first|clear U K|apply st|(apply zk;intro K U)|refine zY ?_|refine zs fun Z hs=>?_|refine oset (fun Z hs=>?_) (h1:=by rw[List.length_set];omega)|(refine zb (fun hc=>?_) (fun hc=>?_)<;>try exact⟨⟩)|fail)<;>conv=>whnf)
  have hik:i.toNat=k:=by omega
  have hjk:j.toNat=xs.length - 1 - k:=by omega
  refine⟨(IntKind.i64.wrap (i+1),IntKind.i64.wrap (j - 1),(ys.set i.toNat b).set j.toNat a),by dsimp only;rw[hwj];omega,rfl,⟨k+1,by dsimp only;rw[hwi];omega,by dsimp only;rw[hwj];omega,by omega,?_⟩,hs⟩;dsimp only;rw[hik]at ha ⊢;rw[hjk]at hb ⊢;exact cw hh (by omega) ha hb
 .have he:=jx hh (by omega)
  conv=>whnf
  repeat'((first|clear U K|apply st|(apply zk;intro K U)|refine zY ?_|(refine zb (fun hc=>?_) (fun hc=>?_)<;>try exact⟨⟩)|fail)<;>conv=>whnf)
  subst he;exact Aj hs (List.Sublist.refl _) (.refl _) fun Z' hs'=>⟨_,⟨rfl,rfl⟩,hs'⟩
def ZG (p:Prog) (L:Nat) (l:List Int) (f:Bool) (hok:EN p) (hgw:CS (AG p)) (hfm: ∀x∈p.methods,Bv (AG p) x.fact=true) (hl:T4 p l) (hnd:l.Nodup) (M:List (Int×Int)) :
    BL zP 219 [Tb p L,.l (iL l) f] [.map L (LK p M)] fun r post=> ∃v M',r= .ret v/\post= [.own v 1 (iL (DM (Az p) l.length (l.mergeSort Hq))),.map L (LK p M')]/\((Bd v).isSome=true\/(v= .l [] true/\DM (Az p) l.length (l.mergeSort Hq)= [])):=by
 intro Z hs;have hM:=Mx;have h16:=hl.many;have hml:(l.mergeSort Hq).length=l.length:=List.length_mergeSort _;have c1:=SY l f;have c2:=Sc l f (by omega);refine gZ kZ ?_
 conv=>whnf
 repeat'((first|clear U K|apply st|(apply zk;intro K U)|refine zY ?_|refine zs fun Z hs=>?_|refine zC ?_|refine zo fun nn hnn Z hs=>?_|fail)<;>conv=>whnf)
 clear c1 c2 hnn
 refine DD (fun(x:List Int×Bool×V×List Int×List (Int×Int))=>x.1.length) (fun x=>[(5,x.2.2.1)]) (fun x=>[.box nn [.l (iL x.1) x.2.1],.own x.2.2.1 1 (iL x.2.2.2.1),.map L (LK p x.2.2.2.2)])
  (fun x=>(∀y∈x.1,BG p y=true)/\x.1.Nodup/\x.2.2.2.1.length+x.1.length<=16/\DM (Az p) l.length (l.mergeSort Hq)=x.2.2.2.1++DM (Az p) x.1.length x.1/\((Bd x.2.2.1).isSome=true\/(x.2.2.1= .l [] true/\x.2.2.2.1= []))) (l.mergeSort Hq,false,.l [] true,[],M) rfl ⟨fun y hy=>hl.FH y (List.mem_mergeSort.1 hy),(List.mergeSort_perm l Hq).symm.nodup hnd,by simpa[hml]using h16,by simp[hml],.inr ⟨rfl,rfl⟩⟩ ((CM hs 1).perm (.swap _ _ _)) ?_
 clear hs;rintro⟨l',f',v,out,M⟩ Z ⟨hme,hn,hlen,hm,hv⟩ hs;dsimp only at hme hn hlen hm hv hs;dsimp only;have hll:out.length<AZ/\(out.length+1)*8<=140737488355328:=by omega
 by_cases hz:l'.length=0
 .rw[hz]at hm
  simp only[DM,EU]at hm
  conv=>whnf
  repeat'((first|clear U K|apply st|(apply zk;intro K U)|refine zY ?_|(refine zb (fun hc=>?_) (fun hc=>?_)<;>try exact⟨⟩)|fail)<;>conv=>whnf)
  refine(oR out v (by omega) hv).use (rest:=[_,_]) (hs.perm (.swap _ _ _)) ?_;clear hs;rintro r post Z ⟨v',rfl,rfl,hv'⟩ hs;refine zz ?_;(repeat clear U K);repeat intro K U
  rw[hm];exact Aj hs (.cons₂ _ (HU _ _)) (.refl _) fun Z' hs'=>⟨_,⟨v',M,rfl,rfl,hv'⟩,hs'⟩
 .obtain⟨n,hnn⟩: ∃n,l'.length=n+1:=⟨l'.length - 1,by omega⟩
  have hne:l'≠[]:=fun e=>hz (by rw[e];rfl)
  obtain⟨i,hi⟩:=Sw hok hne hme;have hil:i<l'.length:=by simpa using List.mem_of_find?_eq_some hi
  obtain⟨x,hx⟩: ∃x,l'[i]? =some x:=⟨_,CQ hil⟩
  rw[hnn,DM,hi,Option.getD_some,B5 hx]at hm;have c3:=Nl l' f' x (by omega);rw[GR hn hx]at c3;have hel:=List.length_eraseIdx_of_lt hil
  conv=>whnf
  repeat'((first|clear U K|apply st|(apply zk;intro K U)|refine zY ?_|(refine zb (fun hc=>?_) (fun hc=>?_)<;>try exact⟨⟩)|fail)<;>conv=>whnf)
  refine(I9 265 [] [.p nn 0,.rp [Tb p L]] (fun M=>[.box nn [.l (iL l') f'],.map L (LK p M)]) _ _ (Zl p L nn l' f' hok hgw hfm hme) l' f' M (Hf fun y hy _=>hme y hy)).use (rest:=[.own v 1 (iL out)]) (hs.perm (.cons _ (.swap _ _ _))) ?_;clear hs;rintro r post Z ⟨rfl,rfl⟩ hs;rw[ai,hi];generalize (Bc _ l' 0 M).2=M2 at hs;dsimp only
  conv=>whnf
  repeat'((first|clear U K|apply st|(apply zk;intro K U)|refine zY ?_|refine zs fun Z hs=>?_|refine aq fun v Z hs hsl=>?_|refine zC ?_|fail)<;>conv=>whnf)
  refine⟨(l'.eraseIdx i,true,v,out++[x],M2),by dsimp only;omega,rfl,⟨fun y hy=>hme y (List.mem_of_mem_eraseIdx hy),hn.sublist (List.eraseIdx_sublist _ _),by simp;omega,?_,.inl hsl⟩,hs.perm (.cons _ (.swap _ _ _))⟩;dsimp only;rw[hm,hel,show l'.length - 1=n by omega];simp
end Go.Gl
namespace Go.Gl
open Go.Proofs
structure Pp (p:Prog) (l:List Int):Prop where
 FH: ∀x∈l,BG p x=true
 gen: ∀x∈l,∀y∈l,(BK p x).gen=(BK p y).gen
 nodup:l.Nodup
 many:l.length<=16
def HI {p:Prog} {l:List Int} {k x:Int} (h:x∈B7 p l k):x∈l/\(BK p x).kind=k:=by
 have:=Ia.1 h;exact⟨this.1,by simpa using this.2⟩
def Z7 {p:Prog} {l:List Int} {k:Int}:(B7 p l k).length<=l.length:=NI _ _
def Pp.of {p:Prog} {l:List Int} (h:Pp p l) (k:Int):T4 p (B7 p l k)/\(B7 p l k).Nodup:=by
 refine⟨⟨fun x hx=>h.FH x (HI hx).1,fun x hx y hy=>?_,Nat.le_trans Z7 h.many⟩,h.nodup.sublist (List.filter_sublist ..)⟩;rw[Dk,h.gen x (HI hx).1 y (HI hy).1,(HI hx).2,(HI hy).2];simp
def XH {p:Prog} {l:List Int} {A B:Int->Int->Bool} (h:Pp p l) (hq: ∀x∈l,∀y∈l,Dk p x y=true->A x y=B x y):FF A p l=FF B p l:=by
 have hk: ∀k,∀x∈B7 p l k,∀y∈B7 p l k,A x y=B x y:=fun k x hx y hy=>hq x (HI hx).1 y (HI hy).1 ((h.of k).1.alike x hx y hy)
 have hc: ∀k,BW A (B7 p l k).length (B7 p l k)=BW B (B7 p l k).length (B7 p l k):=fun k=>M9 _ _ (hk k)
 have hb: ∀k,DM A (B7 p l k).length (Cp (B7 p l k))=DM B (B7 p l k).length (Cp (B7 p l k)):=fun k=>Rb _ _ fun x hx y hy=>hk k x (Kc.1 hx) y (Kc.1 hy)
 unfold FF pH;rw[hc 4,hc 1,hb 2,hb 3]
def JX.sub {T:List (List Bool)} {l l':List Int} (h:JX T l) (hs: ∀x∈l',x∈l) (hl:l'.length<=l.length):JX T l':=⟨h.len,h.sq,fun x hx=>h.ins x (hs x hx),Nat.le_trans hl h.many⟩
attribute [local irreducible] As Af AV AQ AI AU AP AR AJ AT AM AN Ag Ar Sat AS Ap AX W
def jR (p:Prog) (T:List (List Bool)) (l:List Int) (f:Bool) (hG:Pp p l) (h16:p.methods.length<=16) (hT:JX T l) :
    Pure zP 177 [.a (A3 p),ov T,.l (iL l) f] (.t [.a (plV (FF (Dl T) p l).1 (!(FF (Dl T) p l).2) (!(FF (Dl T) p l).2)),.b (FF (Dl T) p l).2]):=by
 have hM:=Mx;have c1:=lz p l f 1 hG.FH hG.many h16;have c2:=lz p l f 2 hG.FH hG.many h16;have c3:=lz p l f 3 hG.FH hG.many h16;have c4:=lz p l f 4 hG.FH hG.many h16;have htk: ∀k,JX T (B7 p l k):=fun k=>hT.sub (fun x hx=>(HI hx).1) Z7
 have hts: ∀k,JX T (Cp (B7 p l k)):=fun k=>(htk k).sub (fun x hx=>Kc.1 hx) (by rw[Se];exact G0 _)
 have d1:=Wn T (B7 p l 1) false (htk 1);have d4:=Wn T (B7 p l 4) false (htk 4);have e2:=TP T (B7 p l 2) false (hts 2) (htk 2).many;have e3:=TP T (B7 p l 3) false (hts 3) (htk 3).many;rw[Se]at e2 e3
 have hbl:(DM (Dl T) (B7 p l 3).length (Cp (B7 p l 3))).length<=16:=by
  have: ∀k l,(DM (Dl T) k l).length=k:=fun k=>by
   induction k with
   | zero=>intro l;rfl
   | succ k ih=>intro l;simp only[DM,JU,ih]
  rw[this];exact(htk 3).many
 have hpl:FF (Dl T) p l=if(B7 p l 1).isEmpty then(xP,false)else(⟨(BW (Dl T) (B7 p l 4).length (B7 p l 4)).1,(BW (Dl T) (B7 p l 4).length (B7 p l 4)).2,DM (Dl T) (B7 p l 2).length (Cp (B7 p l 2)),(BW (Dl T) (B7 p l 1).length (B7 p l 1)).1,(BW (Dl T) (B7 p l 1).length (B7 p l 1)).2,(DM (Dl T) (B7 p l 3).length (Cp (B7 p l 3))).reverse⟩,true):=rfl
 rw[hpl];have hl1:=(htk 1).many;clear htk hts hpl;generalize DM (Dl T) (B7 p l 3).length (Cp (B7 p l 3))=xs at *;generalize DM (Dl T) (B7 p l 2).length (Cp (B7 p l 2))=bs at *;generalize BW (Dl T) (B7 p l 4).length (B7 p l 4)=q4 at *;generalize BW (Dl T) (B7 p l 1).length (B7 p l 1)=q1 at *;generalize B7 p l 1=l1 at *;obtain⟨r4,t4⟩:=q4;obtain⟨r1,t1⟩:=q1;dsimp only at d1 d4;refine vN kZ ?_;have hs:=Sn;by_cases hz:l1.length=0
 .have he:l1.isEmpty=true:=by simpa using hz
  rw[he];exact zW
 .have he:l1.isEmpty=false:=by cases l1 with
   | nil=>simp at hz
   | cons=>rfl
  rw[he]
  conv=>whnf
  repeat'((first|clear U K|apply st|(apply zk;intro K U)|refine zY ?_|refine zs fun Z hs=>?_|refine c1.use ?_|refine c2.use ?_|refine c3.use ?_|refine c4.use ?_|refine d1.use ?_|refine d4.use ?_|refine e2.use ?_|refine e3.use ?_|(refine zb (fun hc=>?_) (fun hc=>?_)<;>try exact⟨⟩)|refine zo fun nn hnn Z hs=>?_|fail)<;>conv=>whnf)
  rename_i n6 _ _ _ _ _ _ _ _ _ _ _ _ _
  have hwl:IntKind.i64.wrap ((iL xs).length - 1)=(xs.length:Int) - 1:=by
   have e:((iL xs).length:Int)=xs.length:=by simp
   rw[e,wrap64 (by omega) (by omega)]
  refine DD (fun x:Int×V=>(x.1+1).toNat) (fun x=>[(10,eI x.1)]) (fun x=>[.box nn [.l (iL r4) false,.b t4,.l (iL bs) false,.l (iL r1) false,.b t1,x.2],.box n6 [.l [] true,.b false,.l [] true,.l [] true,.b false,.l [] true],.own x.2 1 (iL ((xs.drop (x.1+1).toNat).reverse))]) (fun x=> -1<=x.1/\x.1<xs.length) (IntKind.i64.wrap ((iL xs).length - 1),.l [] true) rfl ?_ ?_ ?_
  .dsimp only
   rw[hwl];exact⟨by omega,by omega⟩
  .dsimp only
   rw[hwl,List.drop_of_length_le (by omega)];exact Ce hs 1
  clear hs hwl;rintro⟨i,v⟩ Z ⟨hi1,hi2⟩ hs;dsimp only at hi1 hi2 hs;dsimp only;by_cases hneg:i<0
  .obtain rfl:i= -1:=by omega
   rw[show((-1:Int)+1).toNat=0 from rfl,List.drop_zero]at hs
   conv=>whnf
   repeat'((first|clear U K|apply st|(apply zk;intro K U)|refine zY ?_|(refine zb (fun hc=>?_) (fun hc=>?_)<;>try exact⟨⟩)|fail)<;>conv=>whnf)
   have o1:=F8 hs 2 rfl;refine FN hs 1 rfl rfl rfl (by simp[o1]) (by decide) fun Z hs=>?_
   clear o1;refine zz ?_;(repeat clear U K);repeat intro K U
   exact AY (.t (.cons (.a (.cons (.refl _) (.cons (.refl _) (.cons (.refl _) (.cons (.refl _) (.cons (.refl _) (.cons (hs.Ic 2 rfl) .nil))))))) (.cons (.refl _) .nil)))
  .have hpos:0<=i:=by omega
   obtain⟨x,hx⟩: ∃x,xs[i.toNat]? =some x:=⟨_,CQ (by omega)⟩
   have hd:(xs.drop i.toNat).reverse=(xs.drop (i+1).toNat).reverse++[x]:=by
    rw[drop_cons hx,List.reverse_cons,show(i+1).toNat=i.toNat+1 by omega]
   have hdl:((xs.drop (i+1).toNat).reverse).length<=16:=by
    rw[List.length_reverse,lB];omega
   generalize (xs.drop (i+1).toNat).reverse=zl at *;have hll:zl.length<AZ/\(zl.length+1)*8<=140737488355328:=by omega
   have hwi:IntKind.i64.wrap (i - 1)=i - 1:=wrap64 (by omega) (by omega)
   conv=>whnf
   repeat'((first|clear U K|apply st|(apply zk;intro K U)|refine zY ?_|refine zs fun Z hs=>?_|refine aq fun v Z hs hsl=>?_|(refine zb (fun hc=>?_) (fun hc=>?_)<;>try exact⟨⟩)|fail)<;>conv=>whnf)
   refine⟨(i - 1,v),by dsimp only;omega,by rw[hwi];rfl,⟨by dsimp only;omega,by dsimp only;omega⟩,?_⟩;dsimp only;rw[show(i - 1+1).toNat=i.toNat by omega,hd];exact hs
end Go.Gl
namespace Go.Gl
open Go.Proofs
attribute [local irreducible] As Af AV AQ AI AU AP AR AJ AT AM AN Ag Ar Sat AS Ap AX W
def jW {p:Prog} {l:List Int} {k:Nat} {x:Int} (hx:l[k]? =some x) (kd:Int):B7 p (l.take (k+1)) kd=if(BK p x).kind==kd then B7 p (l.take k) kd++[x]else B7 p (l.take k) kd:=by
 rw[AO hx,B7,List.filter_append];cases hp:(BK p x).kind==kd<;>simp[B7,hp]
def Mh {p:Prog} {l:List Int} {k:Nat} {kd:Int} (h:l.length<=16):(B7 p (l.take k) kd).length<=16:=by
 have:=NI (fun m=>(BK p m).kind==kd) (l.take k);rw[Ib]at this;simp only[B7];omega
def rf (p:Prog) (L:Nat) (l:List Int) (f:Bool) (h:(BQ p).isSome=true) (hG:Pp p l) (M:List (Int×Int)) :
    BL zP 171 [Tb p L,.l (iL l) f] [.map L (LK p M)] fun r post=>r= .ret (.t [.a (plV (FF (Az p) p l).1 true (!(FF (Az p) p l).2)),.b (FF (Az p) p l).2])/\ ∃M',post= [.map L (LK p M')]:=by
 intro Z hs;have hM:=Mx;have hok:=look_ok h;have hgw:=Jr h;have hfm:=nv h;have h16:=hG.many;have hm16:=hok.many;generalize hX:FF (Az p) p l=X;refine vR kZ ?_
 conv=>whnf
 repeat'((first|clear U K|apply st|(apply zk;intro K U)|refine zo fun nn hnn Z hs=>?_|fail)<;>conv=>whnf)
 rename_i n4 _ _ _;clear hnn;refine Ba l.length (fun k (_:V×V×V×V)=>[(13,eI (Au k))]) (fun k x=>[.own x.1 1 (iL (B7 p (l.take k) 1)),.own x.2.1 1 (iL (B7 p (l.take k) 2)),.own x.2.2.1 1 (iL (B7 p (l.take k) 3)),.own x.2.2.2 1 (iL (B7 p (l.take k) 4)),.box nn [.l [] true,x.1,x.2.1,x.2.2.1,x.2.2.2],.box n4 [.l [] true,.b false,.l [] true,.l [] true,.b false,.l [] true],.map L (LK p M)]) (fun _ _=>True) (.l [] true,.l [] true,.l [] true,.l [] true) rfl trivial (CM (CM (CM (CM hs 1) 1) 1) 1) ?_;clear hs;rintro k ⟨v1,v2,v3,v4⟩ Z hk - hs;dsimp only at hs;dsimp only;rcases Aw l hk with⟨x,hx,hlt⟩|hke
 .have hmx:=hG.FH x (BY hx)
  have hxm:=Br hmx;obtain⟨hkr,-⟩:=m7 h (BY hxm);have hst:=jW (p:=p) hx;simp only[BG,A7,CF]at hmx;have l1:(B7 p (l.take k) 1).length<=16:=Mh h16;have l2:(B7 p (l.take k) 2).length<=16:=Mh h16;have l3:(B7 p (l.take k) 3).length<=16:=Mh h16;have l4:(B7 p (l.take k) 4).length<=16:=Mh h16;have s1:=hst 1;have s2:=hst 2;have s3:=hst 3;have s4:=hst 4;clear hst;generalize BK p x=y at *;generalize B7 p (l.take k) 1=z1 at *;generalize B7 p (l.take k) 2=z2 at *;generalize B7 p (l.take k) 3=z3 at *;generalize B7 p (l.take k) 4=z4 at *;obtain⟨kd,gn,fc,nd⟩:=y;dsimp only at hkr s1 s2 s3 s4;rcases(show kd=1\/kd=2\/kd=3\/kd=4 by omega)with rfl|rfl|rfl|rfl
  .rw[if_pos (beq_self_eq_true _)]at s1
   rw[if_neg (by decide)]at s2 s3 s4;have hll:z1.length<AZ/\(z1.length+1)*8<=140737488355328:=by omega
   clear l1 l2 l3 l4
   conv=>whnf
   repeat'((first|clear U K|apply st|(apply zk;intro K U)|refine zY ?_|refine zs fun Z hs=>?_|refine aq fun v Z hs hsl=>?_|refine xh (j:=1) ?_ (by decide) (by decide)|fail)<;>conv=>whnf)
   exact⟨hlt,(v,v2,v3,v4),rfl,trivial,by rw[s1,s2,s3,s4];exact hs⟩
  .rw[if_pos (beq_self_eq_true _)]at s2
   rw[if_neg (by decide)]at s1 s3 s4;have hll:z2.length<AZ/\(z2.length+1)*8<=140737488355328:=by omega
   clear l1 l2 l3 l4
   conv=>whnf
   repeat'((first|clear U K|apply st|(apply zk;intro K U)|refine zY ?_|refine zs fun Z hs=>?_|refine aq fun v Z hs hsl=>?_|refine xh (j:=2) ?_ (by decide) (by decide)|fail)<;>conv=>whnf)
   exact⟨hlt,(v1,v,v3,v4),rfl,trivial,by rw[s1,s2,s3,s4];exact hs⟩
  .rw[if_pos (beq_self_eq_true _)]at s3
   rw[if_neg (by decide)]at s1 s2 s4;have hll:z3.length<AZ/\(z3.length+1)*8<=140737488355328:=by omega
   clear l1 l2 l3 l4
   conv=>whnf
   repeat'((first|clear U K|apply st|(apply zk;intro K U)|refine zY ?_|refine zs fun Z hs=>?_|refine aq fun v Z hs hsl=>?_|refine xh (j:=3) ?_ (by decide) (by decide)|fail)<;>conv=>whnf)
   exact⟨hlt,(v1,v2,v,v4),rfl,trivial,by rw[s1,s2,s3,s4];exact hs⟩
  .rw[if_pos (beq_self_eq_true _)]at s4
   rw[if_neg (by decide)]at s1 s2 s3;have hll:z4.length<AZ/\(z4.length+1)*8<=140737488355328:=by omega
   clear l1 l2 l3 l4
   conv=>whnf
   repeat'((first|clear U K|apply st|(apply zk;intro K U)|refine zY ?_|refine zs fun Z hs=>?_|refine aq fun v Z hs hsl=>?_|refine xh (j:=4) ?_ (by decide) (by decide)|fail)<;>conv=>whnf)
   exact⟨hlt,(v1,v2,v3,v),rfl,trivial,by rw[s1,s2,s3,s4];exact hs⟩
 .rw [Ak hke]at hs
  obtain⟨o1,d1⟩:=hG.of 1;obtain⟨o2,d2⟩:=hG.of 2;obtain⟨o3,d3⟩:=hG.of 3;obtain⟨o4,d4⟩:=hG.of 4;have hpl:FF (Az p) p l=if(B7 p l 1).isEmpty then(xP,false)else(⟨(BW (Az p) (B7 p l 4).length (B7 p l 4)).1,(BW (Az p) (B7 p l 4).length (B7 p l 4)).2,DM (Az p) (B7 p l 2).length (Cp (B7 p l 2)),(BW (Az p) (B7 p l 1).length (B7 p l 1)).1,(BW (Az p) (B7 p l 1).length (B7 p l 1)).2,(DM (Az p) (B7 p l 3).length (Cp (B7 p l 3))).reverse⟩,true):=rfl
  rw[hpl]at hX;clear hpl;have e4:=fun M=>bB p L (B7 p l 4) false hok hgw hfm o4 d4 M
  have e2:=fun M=>dd p L (B7 p l 2) false hok hgw hfm o2 d2 M
  have e1:=fun M=>bB p L (B7 p l 1) false hok hgw hfm o1 d1 M
  have e3:=fun M=>ZG p L (B7 p l 3) false hok hgw hfm o3 d3 M
  rw[Sd d2]at e2;rw[Sd d3]at e3;have hl1:=o1.many
  have hbl:(DM (Az p) (B7 p l 3).length (Cp (B7 p l 3))).length<=16:=by
   have: ∀k l,(DM (Az p) k l).length=k:=fun k=>by
    induction k with
    | zero=>intro l;rfl
    | succ k ih=>intro l;simp only[DM,JU,ih]
   rw[this];exact o3.many
  clear o1 o2 o3 o4 d1 d2 d3 d4 hG;generalize DM (Az p) (B7 p l 3).length (Cp (B7 p l 3))=xs at *;generalize DM (Az p) (B7 p l 2).length (Cp (B7 p l 2))=bs at *;generalize BW (Az p) (B7 p l 4).length (B7 p l 4)=q4 at *;generalize BW (Az p) (B7 p l 1).length (B7 p l 1)=q1 at *;generalize B7 p l 1=l1 at *;generalize B7 p l 2=l2 at *;generalize B7 p l 3=l3 at *;generalize B7 p l 4=l4 at *;obtain⟨r4,t4⟩:=q4;obtain⟨r1,t1⟩:=q1;dsimp only at e1 e4;by_cases hz:l1.length=0
  .have he:l1.isEmpty=true:=by simpa using hz
   rw[he,if_pos rfl]at hX;subst hX
   conv=>whnf
   repeat'((first|clear U K|apply st|(apply zk;intro K U)|refine zY ?_|(refine zb (fun hc=>?_) (fun hc=>?_)<;>try exact⟨⟩)|refine zo fun nn hnn Z hs=>?_|fail)<;>conv=>whnf)
   refine FN hs 6 rfl rfl rfl (by simp) (by decide) fun Z hs=>?_
   refine zz ?_;(repeat clear U K);repeat intro K U
   refine Vh hs 6 rfl ?_;refine zz ?_;(repeat clear U K);repeat intro K U
   exact Aj (hs.front (j:=7) rfl) (.cons₂ _ (Ie _)) (.refl _) fun Z' hs'=>⟨_,⟨rfl,M,rfl⟩,hs'⟩
  .have he:l1.isEmpty=false:=by cases l1 with
    | nil=>simp at hz
    | cons=>rfl
   rw[he,if_neg (by decide)]at hX;subst hX
   conv=>whnf
   repeat'((first|clear U K|apply st|(apply zk;intro K U)|refine zY ?_|(refine zb (fun hc=>?_) (fun hc=>?_)<;>try exact⟨⟩)|refine zo fun nn hnn Z hs=>?_|fail)<;>conv=>whnf)
   obtain⟨Z2,g1,g2,g3⟩:=Gb hs 4 rfl;refine As.OH ((e4 M).use (rest:=_) (g3.front (j:=6) rfl) ?_) g1 (.cons (.refl _) (.cons g2 .nil));clear hs g1 g2 g3;rintro r post Z ⟨rfl,M,rfl⟩ hs
   conv=>whnf
   repeat'((first|clear U K|apply st|(apply zk;intro K U)|refine zY ?_|refine zs fun Z hs=>?_|fail)<;>conv=>whnf)
   obtain⟨Z2,g1,g2,g3⟩:=Gb hs 3 rfl;refine As.OH ((e2 M).use (rest:=_) g3 ?_) g1 (.cons (.refl _) (.cons g2 .nil));clear hs g1 g2 g3;rintro r post Z ⟨rfl,M,rfl⟩ hs
   conv=>whnf
   repeat'((first|clear U K|apply st|(apply zk;intro K U)|refine zY ?_|refine zs fun Z hs=>?_|fail)<;>conv=>whnf)
   obtain⟨Z2,g1,g2,g3⟩:=Gb hs 2 rfl;refine As.OH ((e1 M).use (rest:=_) g3 ?_) g1 (.cons (.refl _) (.cons g2 .nil));clear hs g1 g2 g3;rintro r post Z ⟨rfl,M,rfl⟩ hs
   conv=>whnf
   repeat'((first|clear U K|apply st|(apply zk;intro K U)|refine zY ?_|refine zs fun Z hs=>?_|fail)<;>conv=>whnf)
   obtain⟨Z2,g1,g2,g3⟩:=Gb hs 2 rfl;refine As.OH ((e3 M).use (rest:=_) g3 ?_) g1 (.cons (.refl _) (.cons g2 .nil));clear hs g1 g2 g3;rintro r post Z ⟨v,M,rfl,rfl,hv⟩ hs
   conv=>whnf
   repeat'((first|clear U K|apply st|(apply zk;intro K U)|refine zY ?_|refine zs fun Z hs=>?_|fail)<;>conv=>whnf)
   refine(cC xs v (by omega) hv).use (rest:=_) hs ?_;clear hs;rintro r post Z ⟨rfl,rfl⟩ hs;refine zz ?_;(repeat clear U K);repeat intro K U
   have o1:=F8 hs 0 rfl;refine FN hs 4 rfl rfl rfl (by simp[o1]) (by decide) fun Z hs=>?_
   clear o1;refine zz ?_;(repeat clear U K);repeat intro K U
   obtain⟨Z2,g1,g2,g3⟩:=Gb hs 0 rfl;exact Ft g1 (.t (.cons (.a (.cons (.refl _) (.cons (.refl _) (.cons (.refl _) (.cons (.refl _) (.cons (.refl _) (.cons g2 .nil))))))) (.cons (.refl _) .nil))) ⟨_,⟨rfl,M,rfl⟩,g3.less (.cons₂ _ (Ie _))⟩
end Go.Gl
namespace Go.Gl
open Go.Proofs
def aG {p:Prog} {l:List Int} (hok:EN p) (h:GI p l false=true):Pp p l:=by
 rw[GI,A7,DT,CF]at h;obtain⟨h1,h2⟩:=h
 have hm: ∀x∈l,BG p x=true/\(BK p x).gen=(BK p (l.getD 0 0)).gen:=fun x hx=>by
  have:=h1 x hx;simp only[lL,A7,Cd]at this;exact⟨this.1,this.2.1⟩
 refine⟨fun x hx=>(hm x hx).1,fun x hx y hy=>(hm x hx).2.trans (hm y hy).2.symm,h2,Nat.le_trans (QK p.methods.length l h2 fun x hx=>?_) hok.many⟩;have:=(hm x hx).1;simp only[BG,A7,CF]at this;omega
def fA (x:Pl×Bool):Pl×Int:=if x.2 then(x.1,0)else(xP,5)
def Ty (p:Prog) (l:List Int):Pl×Int:=if(BQ p).isSome&&GI p l false then fA (FF (Az p) p l)else(xP,2)
abbrev plE (x:Pl×Int) (g:Bool):V:= .t [.a (plV x.1 g (x.2 != 0)),eI x.2]
attribute [local irreducible] As Af AV AQ AI AU AP AR AJ AT AM AN Ag Ar Sat AS Ap AX W
def xK (p:Prog) (l:List Int) (f:Bool) (hl:l.length<=1000):Pure zP 106 [.a (A3 p),.l (iL l) f] (plE (Ty p l) true):=by
 refine Pure.of ?_;have hr:=jL p;generalize hX:Ty p l=X;rw[Ty]at hX;refine wb kZ ?_;have hs:=Sn
 conv=>whnf
 repeat'((first|clear U K|apply st|(apply zk;intro K U)|refine zY ?_|refine zo fun nn hnn Z hs=>?_|fail)<;>conv=>whnf)
 refine hr.use (rest:=_) hs ?_;clear hs;cases h:(BQ p).isSome
 .have c1:=m9 l f false
  rw[h,Bool.false_and,if_neg (by decide)]at hX;subst hX;rintro r post Z ⟨rfl,rfl⟩ hs
  conv=>whnf
  repeat'((first|clear U K|apply st|(apply zk;intro K U)|refine zY ?_|refine zs fun Z hs=>?_|refine zC ?_|fail)<;>conv=>whnf)
  exact AH (by rfl)
 .rintro r post Z ⟨L,rfl,rfl⟩ hs
  have c1:=sQ p L l f false hl;cases hb:GI p l false<;>rw[hb]at c1 hX
  .rw[Bool.and_false,if_neg (by decide)]at hX
   subst hX
   conv=>whnf
   repeat'((first|clear U K|apply st|(apply zk;intro K U)|refine zY ?_|refine zs fun Z hs=>?_|refine zC ?_|fail)<;>conv=>whnf)
   exact AH (by rfl)
  .have c3:=rf p L l f h (aG (look_ok h) hb) []
   rw[h,Bool.and_self,if_pos rfl]at hX;generalize FF (Az p) p l=x at *;obtain⟨x,b⟩:=x;cases b
   all_goals
    subst hX
    conv=>whnf
    repeat'((first|clear U K|apply st|(apply zk;intro K U)|refine zY ?_|refine zC ?_|fail)<;>conv=>whnf)
    refine c3.use (rest:=_) hs ?_;clear hs;rintro r post Z ⟨rfl,M,rfl⟩ hs
    conv=>whnf
    repeat'((first|clear U K|apply st|(apply zk;intro K U)|refine zY ?_|refine zs fun Z hs=>?_|refine zo fun nn hnn Z hs=>?_|fail)<;>conv=>whnf)
    exact AH (by rfl)
end Go.Gl
namespace Go.Gl
open Go.Proofs
attribute [local irreducible] As Af AV AQ AI AU AP AR AJ AT AM AN Ag Ar Sat AS Ap AX W
def fg (ar:List Int) (ZN:Bool) (be pr:List Int) (prt:Bool) (af:List Int):xd (⟨ar,ZN,be,pr,prt,af⟩,true)=if decide (ar.length=0)&&(ZN||decide (pr.length=0))then 3 else if ZN||prt then 2 else 1:=by
 rw[xd,if_pos rfl];cases ar<;>cases pr<;>simp
def iv (p:Prog) (T:List (List Bool)) (l:List Int) (f:Bool) (hG:Pp p l) (h16:p.methods.length<=16) (hT:JX T l):Pure zP 113 [.a (A3 p),ov T,.l (iL l) f] (eI (xd (FF (Dl T) p l))):=by
 have c1:=jR p T l f hG h16 hT;generalize FF (Dl T) p l=x at *;obtain⟨⟨ar,ZN,be,pr,prt,af⟩,b⟩:=x;dsimp only at c1;cases b
 .refine gq kZ ?_
  have hs:=Sn;exact zW
 rw[fg];cases ha:decide (ar.length=0)<;>cases hp:decide (pr.length=0)<;>cases ZN<;>cases prt
 all_goals
  first|replace ha:=of_decide_eq_true ha|replace ha:=of_decide_eq_false ha
  first|replace hp:=of_decide_eq_true hp|replace hp:=of_decide_eq_false hp
  refine gq kZ ?_;have hs:=Sn;exact zW
abbrev On (p:Prog) (gen:Int):List V:=A3 p++[eI gen,.l (iL (Bo p gen)) false]
abbrev xi:List V:=[.l [] true,eI 0,.l [] true,.l [] true,.l [] true,eI 0,eI 0,.l [] true]
def AAB (p:Prog) (gen:Int):Pure zP 87 [.a (A3 p),eI gen] (.t [.a (if B9 p gen then On p gen else xi),.b (B9 p gen)]):=by
 refine Pure.fit (by kernel_rfl) fun hf=>?_
 have hP:=H6 hf.1;have⟨p1,p2,p3,p4⟩:=F0 hf.1;have hM:=Mx;have c1:=W7 p;rw[B9];cases h1:(BQ p).isSome<;>rw[h1]at c1
 .rw[if_neg (by decide)]at c1
  refine fM kZ ?_;have hs:=Sn;exact zW
 rw[if_pos rfl]at c1;have h16:=(look_ok h1).many;cases h2:R2 p gen
 .simp only[R2,Bool.and_eq_false_iff,decide_eq_false_iff_not]at h2
  refine fM kZ ?_;have hs:=Sn
  conv=>whnf
  repeat'((first|clear U K|apply st|(apply zk;intro K U)|refine zY ?_|refine zs fun Z hs=>?_|refine zC ?_|(refine zb (fun hc=>?_) (fun hc=>?_)<;>try exact⟨⟩)|refine zo fun nn hnn Z hs=>?_|fail)<;>conv=>whnf)
  all_goals first
   | exact AF rfl
   | (exfalso;simp at *;omega)
 have h2r:=h2;simp only[R2,A7,CF]at h2r;refine fM kZ ?_;have hs:=Sn
 conv=>whnf
 repeat'((first|clear U K|apply st|(apply zk;intro K U)|refine zY ?_|refine zs fun Z hs=>?_|refine zC ?_|(refine zb (fun hc=>?_) (fun hc=>?_)<;>try exact⟨⟩)|refine zo fun nn hnn Z hs=>?_|fail)<;>conv=>whnf)
 rename_i n4 _ _ _ _ _ _ _;refine Ba p.methods.length (fun k (_:V)=>[(30,eI (Au k))]) (fun k v=>[.box nn (A3 p++[eI gen,v]),.box n4 xi,.own v 1 (iL (bS p gen k))]) (fun _ _=>True) (.l [] true) rfl trivial (Ce hs 1) ?_;clear hs;rintro k v Z hk - hs;have hal:=PL p gen k;rcases Aw p.methods hk with⟨x,hx,hlt⟩|hke
 .have hck:Au k=k:=AW (by omega)
  have hxe:=aE hx;have hst:=Wb p gen k;rw[hxe]at hst;generalize bS p gen k=zl at *;have hll:zl.length<AZ/\(zl.length+1)*8<=140737488355328:=by omega
  by_cases hg:x.gen=gen
  .rw[if_pos (Cd.2 hg)]at hst
   conv=>whnf
   repeat'((first|clear U K|apply st|(apply zk;intro K U)|refine zY ?_|refine zs fun Z hs=>?_|refine aq fun v Z hs hsl=>?_|(refine zb (fun hc=>?_) (fun hc=>?_)<;>try exact⟨⟩)|refine zo fun nn hnn Z hs=>?_|fail)<;>conv=>whnf)
   exact⟨hlt,_,rfl,trivial,by rw[hst,<-hck];exact hs.less (HU _ _)⟩
  .rw[if_neg (by simpa using hg)]at hst
   conv=>whnf
   repeat'((first|clear U K|apply st|(apply zk;intro K U)|refine zY ?_|refine zs fun Z hs=>?_|(refine zb (fun hc=>?_) (fun hc=>?_)<;>try exact⟨⟩)|refine zo fun nn hnn Z hs=>?_|fail)<;>conv=>whnf)
   exact⟨hlt,_,rfl,trivial,by rw[hst];exact hs.less (HU _ _)⟩
 .rw[hke]at hs
  refine zz ?_;(repeat clear U K);repeat intro K U
  have o1:=F8 hs 2 rfl;refine FN hs 1 rfl rfl rfl (by simp[A3,o1]) (by decide) fun Z hs=>?_
  clear o1;refine zz ?_;(repeat clear U K);repeat intro K U
  exact AY (.t (.cons (.a (.cons (.refl _) (.cons (.refl _) (.cons (.refl _) (.cons (.refl _) (.cons (.refl _) (.cons (.refl _) (.cons (.refl _) (.cons (hs.Ic 2 rfl) .nil))))))))) (.cons (.refl _) .nil)))
def yT (p:Prog) (gen:Int):Pure zP 88 [.a (On p gen)] (eI (if(Bo p gen).length<=8 then 0 else 3)):=by
 have e1:((iL (Bo p gen)).length:Int)=(Bo p gen).length:=by simp
 refine yy kZ ?_;have hs:=Sn
 conv=>whnf
 repeat'((first|clear U K|apply st|(apply zk;intro K U)|refine zY ?_|(refine zd (fun hc=>?_) (fun hc=>?_)<;>try exact⟨⟩)|fail)<;>conv=>whnf)
 .exact AF (by rw[if_neg (by omega)])
 .exact AF (by rw[if_pos (by omega)])
def xn (p : Prog) (gen:Int) (l:List Int) (f:Bool):Pure zP 72 [.a (On p gen),.l (iL l) f] (.b (G5 p gen l)):=by
 refine Pure.fit (by kernel_rfl) fun hf=>?_
 have hl:=Nc hf.2.1;have hM:=Mx;refine y6 kZ ?_;have hs:=Sn;refine zz ?_;(repeat clear U K);repeat intro K U
 refine Ba l.length (fun i (_:Unit)=>[(9,eI (Au i))]) (fun _ _=>[]) (fun i _=> ∀k,k<i->Rt p gen l k=true) () rfl (fun k h=>by omega) hs ?_;clear hs;rintro i - Z hi ho hs;rcases Aw l hi with⟨x,hx,hlt⟩|hie
 .have hci:Au i=i:=AW (by omega)
  have hx0:=B5 hx;have hbad:=fun h=>jJ (p:=p) (gen:=gen) hlt h
  have hgood:Rt p gen l i=true-> ∀k,k<i+1->Rt p gen l k=true:=fun h k hk=>by
   rcases Nat.lt_or_ge k i with h1|h1
   .exact ho k h1
   .rw[show k=i by omega];exact h
  rw[Rt,hx0,<-Bool.and_assoc,<-MQ]at hbad hgood;have c1:=CP (Bo p gen) false x;cases hmx:(Bo p gen).contains x<;>rw[hmx]at c1 hbad hgood
  .conv=>whnf
   repeat'((first|clear U K|apply st|(apply zk;intro K U)|refine zY ?_|refine zC ?_|fail)<;>conv=>whnf)
   all_goals exact AF (by rw[hbad rfl])
  .rcases Nat.eq_zero_or_pos i with h0|h0
   .subst h0
    conv=>whnf
    repeat'((first|clear U K|apply st|(apply zk;intro K U)|refine zY ?_|refine zC ?_|(refine zb (fun hc=>?_) (fun hc=>?_)<;>try exact⟨⟩)|fail)<;>conv=>whnf)
    all_goals try(exfalso;simp[hci]at hc;done)
    all_goals exact⟨hlt,(),rfl,hgood (by simp),hs⟩
   .obtain⟨z,hz⟩: ∃z,l[i - 1]? =some z:=⟨_,CQ (by omega)⟩
    have hz0:=B5 hz;rw[hz0]at hbad hgood;have hwi:IntKind.i64.wrap ((i:Int) - 1)=((i - 1:Nat):Int):=by rw[wrap64 (by omega) (by omega)];omega
    have hw0:0<=IntKind.i64.wrap (Au i - 1):=by rw[hci,hwi];omega
    have hwz:l[(IntKind.i64.wrap (Au i - 1)).toNat]? =some z:=by rw[hci,hwi];simpa using hz
    clear hwi;by_cases hzx:z≥x
    .conv=>whnf
     repeat'((first|clear U K|apply st|(apply zk;intro K U)|refine zY ?_|refine zC ?_|(refine zb (fun hc=>?_) (fun hc=>?_)<;>try exact⟨⟩)|fail)<;>conv=>whnf)
     all_goals try(exfalso;simp at hc;omega)
     all_goals exact AF (by rw[hbad (by simp[h0,hzx])])
    .conv=>whnf
     repeat'((first|clear U K|apply st|(apply zk;intro K U)|refine zY ?_|refine zC ?_|(refine zb (fun hc=>?_) (fun hc=>?_)<;>try exact⟨⟩)|fail)<;>conv=>whnf)
     all_goals try(exfalso;simp at hc;omega)
     all_goals exact⟨hlt,(),rfl,hgood (by simp;omega),hs⟩
 .have hsb:G5 p gen l=true:=Zm fun k hk=>ho k (by omega)
  refine zz ?_;(repeat clear U K);repeat intro K U
  all_goals exact AF (by rw[hsb])
def fU (a b c:Bool):Pure zP 107 [.b a,.b b,.b c] (eI (if a then 4 else if b then 3 else if c then 2 else 1)):=by
 cases a<;>cases b<;>cases c
 all_goals
  refine wa kZ ?_;have hs:=Sn;exact zW
def len0 (l:List Int):(((iL l).length:Int)==0)=decide (l.length=0):=by
 rw[Bh,KF,Cd,CF];omega
def Tu (p:Prog) (gen:Int) (l:List Int) (f:Bool) (h:B9 p gen=true) (hB:G5 p gen l=true):Pure zP 51 [.a (On p gen),.l (iL l) f] (eI (NG p l)):=by
 rw[B9,A7]at h;have hok:=look_ok h.1;have c1:=xK p l f (Nat.le_trans (jI hB) (Nat.le_trans hok.many (by decide)));rw[Ty,h.1,Nr hB,Bool.and_self,if_pos rfl]at c1;rw[NG];clear h hok hB;generalize FF (Az p) p l=x at *;obtain⟨⟨ar,ZN,be,pr,prt,af⟩,b⟩:=x;cases b
 .rw[show fA (⟨ar,ZN,be,pr,prt,af⟩,false)=(xP,5) from rfl]at c1
  refine po kZ ?_;have hs:=Sn
  conv=>whnf
  repeat'((first|clear U K|apply st|(apply zk;intro K U)|refine zY ?_|refine zs fun Z hs=>?_|refine c1.use ?_|refine Pure.use (fU _ _ _) ?_|(refine zb (fun hc=>?_) (fun hc=>?_)<;>try exact⟨⟩)|refine zo fun nn hnn Z hs=>?_|fail)<;>conv=>whnf)
  all_goals exact AF rfl
 rw[show fA (⟨ar,ZN,be,pr,prt,af⟩,true)=(⟨ar,ZN,be,pr,prt,af⟩,0) from rfl]at c1;rw[fg];cases ha:decide (ar.length=0)<;>cases hp:decide (pr.length=0)<;>cases ZN<;>cases prt
 all_goals
  first|replace ha:=of_decide_eq_true ha|replace ha:=of_decide_eq_false ha
  first|replace hp:=of_decide_eq_true hp|replace hp:=of_decide_eq_false hp
  refine po kZ ?_;have hs:=Sn
  conv=>whnf
  repeat'((first|clear U K|apply st|(apply zk;intro K U)|refine zY ?_|refine zs fun Z hs=>?_|refine c1.use ?_|refine Pure.use (fU _ _ _) ?_|(refine zb (fun hc=>?_) (fun hc=>?_)<;>try exact⟨⟩)|refine zo fun nn hnn Z hs=>?_|fail)<;>conv=>whnf)
  all_goals first|exact AF rfl|exact AF (by simp only[len0];simp[ha,hp])
def GZ (p:Prog) (gen:Int) (b:Bool):Int:=if B9 p gen then(if b then(if(Bo p gen).length<=8 then 0 else 3)else 2)else 2
abbrev Xw (p:Prog) (gen:Int) (b:Bool):List V:=if B9 p gen&&b then On p gen else xi
def DA {p:Prog} {gen:Int} (h:B9 p gen=false) (b:Bool):Xw p gen b=xi/\GZ p gen b=2:=by rw[Xw,GZ,h];exact⟨rfl,rfl⟩
def HA {p:Prog} {gen:Int}:Xw p gen false=xi/\GZ p gen false=2:=by
 rw[Xw,GZ,Bool.and_false];exact⟨rfl,by split<;>rfl⟩
def C6 {p:Prog} {gen:Int} (h:B9 p gen=true):Xw p gen true=On p gen/\GZ p gen true=if(Bo p gen).length<=8 then 0 else 3:=by rw[Xw,GZ,h];exact⟨rfl,rfl⟩
def Jy (p:Prog) (gen:Int) (k:Nat) (ca:List V) (b:Bool) (c2:B9 p gen=true->Pure zP k (.a (On p gen)::ca) (.b b)):Pure zP 31 [.a (A3 p),eI gen,.f (.func k) [] ca] (.t [.a (Xw p gen b),eI (GZ p gen b)]):=by
 have c1:=AAB p gen;have c3:=yT p gen;cases h1:B9 p gen<;>rw[h1]at c1
 .rw[(DA h1 b).1,(DA h1 b).2]
  rw[if_neg (by decide)]at c1;refine fP kZ ?_;have hs:=Sn;exact zW
 replace c2:=c2 h1;rw[if_pos rfl]at c1;cases b
 .rw[HA.1,HA.2]
  refine fP kZ ?_;have hs:=Sn
  conv=>whnf
  repeat'((first|clear U K|apply st|(apply zk;intro K U)|refine zY ?_|refine zs fun Z hs=>?_|refine c1.use ?_|refine A6 (c2.use ?_)|refine zo fun nn hnn Z hs=>?_|fail)<;>conv=>whnf)
  all_goals exact AF rfl
 .rw[(C6 h1).1,(C6 h1).2]
  refine fP kZ ?_;have hs:=Sn
  conv=>whnf
  repeat'((first|clear U K|apply st|(apply zk;intro K U)|refine zY ?_|refine rk ?_ ?_|exact fun s e=>by cases e;rfl|refine zs fun Z hs=>?_|refine c1.use ?_|refine A6 (c2.use ?_)|refine c3.use ?_|refine zo fun nn hnn Z hs=>?_|fail)<;>conv=>whnf)
  all_goals exact AF rfl
def da (p:Prog) (gen:Int) (l:List Int) (f:Bool):Pure zP 97 [.a (On p gen),.rp [.l (iL l) f]] (.b (G5 p gen l)):=by
 have c1:=xn p gen l f;refine yn kZ ?_;have hs:=Sn;exact zW
def xE (p:Prog) (gen:Int) (l:List Int) (f:Bool):Pure zP 38 [.a (A3 p),eI gen,.l (iL l) f] (.t [eI (Tt p gen l).1,eI (Tt p gen l).2]):=by
 have c1:=Jy p gen 97 [.rp [.l (iL l) f]] (G5 p gen l) fun _=>da p gen l f
 rw[Tt];cases h1:B9 p gen
 .rw[(DA h1 _).1,(DA h1 _).2]at c1
  rw[if_neg (by decide)];refine ZX kZ ?_;have hs:=Sn;exact zW
 rw[if_pos rfl];cases h2:G5 p gen l<;>rw[h2]at c1
 .rw[HA.1,HA.2]at c1
  rw[if_neg (by decide)];refine ZX kZ ?_;have hs:=Sn;exact zW
 rw[(C6 h1).1,(C6 h1).2]at c1;rw[if_pos rfl];have c2:=Tu p gen l f h1 h2;by_cases h3:(Bo p gen).length<=8
 .rw[if_pos h3]at c1 ⊢
  refine ZX kZ ?_;have hs:=Sn;exact zW
 .rw[if_neg h3]at c1 ⊢
  refine ZX kZ ?_;have hs:=Sn;exact zW
end Go.Gl
