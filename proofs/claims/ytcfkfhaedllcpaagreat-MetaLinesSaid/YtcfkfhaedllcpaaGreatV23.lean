import Derived.Test.YtcfkfhaedllcpaaGreatV14
import Derived.Test.YtcfkfhaedllcpaaGreatV15
import Derived.Test.YtcfkfhaedllcpaaGreatV19
import Derived.Test.YtcfkfhaedllcpaaGreatV21
import Derived.Test.YtcfkfhaedllcpaaGreatV22
set_option linter.all false
set_option linter.defProp false
set_option maxHeartbeats 8000000
noncomputable section
namespace Go.Gl
abbrev Ea (a:Int) (p:List Int):V:= .a [eI a,eI (p.length:Int),eI (p.getD 0 0),eI (p.getD 1 0)]
structure C0 where
 a:Int
 p:List Int
 b:Nat
 vn:V
 vs:V
 k:Kn
abbrev C0.is (e:C0) (a:Int) (p:List Int):Bool:=e.a==a&&e.p==p
abbrev entC (b:Nat) (vn vs:V) (k:Kn):At:= .box b [eI k.low,eI k.high,vn,eU k.B5,eU k.Gq,.b k.whole,.b k.A0,vs]
abbrev qh (b:Nat) (vn vs:V) (k:Kn):List At:=[entC b vn vs k,.own vn 1 (iL k.no),.own vs 1 (iL k.AG)]
abbrev VS (e:C0):List At:=qh e.b e.vn e.vs e.k
def XP (es:List C0):List (V×V):=es.map fun e=>(Ea e.a e.p,.p e.b 0)
def B9 (L:Nat) (es:List C0):List At:= .map L (XP es)::es.flatMap VS
def HW (L:Nat) (es pre post:List C0):List At:= .map L (XP es)::(pre++post).flatMap VS
def Ky {e:C0} {a:Int} {p:List Int}:e.is a p=true↔e.a=a/\e.p=p:=by simp[C0.is]
def O0 {e:C0} {a:Int} {p:List Int}:e.is a p=false↔ ¬(e.a=a/\e.p=p):=by rw[<-Ky,Bool.not_eq_true]
def Tn {a a':Int} {p p':List Int} (h:p.length<=2) (h':p'.length<=2):Dj (Ea a p) (Ea a' p')=(a==a'&&p==p'):=by
 have e:Dj (Ea a p) (Ea a' p')=(a==a'&&((p.length:Int)==p'.length&&(p.getD 0 0==p'.getD 0 0&&(p.getD 1 0==p'.getD 1 0)))):=by
  simp[Dj,Bq,Ea]
 rw[e];congr 1
 match p,h,p',h' with
 | [],_,[],_=>rfl
 | [],_,[_],_=>simp
 | [],_,[_,_],_=>simp<;>omega
 | [_],_,[],_=>simp
 | [x],_,[y],_=>simp
 | [_],_,[_,_],_=>simp<;>omega
 | [_,_],_,[],_=>simp<;>omega
 | [_,_],_,[_],_=>simp<;>omega
 | [x,y],_,[z,u],_=>simp
def Px (es:List C0): ∀kv∈XP es,BO (.a [.i64,.i64,.i64,.i64]) kv.1=true:=by
 intro kv h;obtain⟨e,_,rfl⟩:=Mt.1 h;rfl
def WB {a:Int} {p:List Int} (hp:p.length<=2): ∀ {es:List C0},(∀e∈es,e.p.length<=2)->(∀e∈es,e.is a p=false)->Ca (Ea a p) (XP es)=none
 | [],_,_=>rfl
 | e ::r,hl,h=>by
   have he:=h e (.head _);rw[XP,E8,Ca,Tn hp (hl e (.head _))]
   have:(a==e.a&&p==e.p)=false:=by
    rw[<-he,C0.is,KO];simp only[BD,EZ];exact⟨fun⟨h1,h2⟩=>⟨h1.symm,h2.symm⟩,fun⟨h1,h2⟩=>⟨h1.symm,h2.symm⟩⟩
   rw[this,cond_false];exact WB hp (fun x hx=>hl x (.tail _ hx)) (fun x hx=>h x (.tail _ hx))
def gQ {a:Int} {p:List Int} (hp:p.length<=2) (b:Nat) (vn vs:V) (k:Kn): ∀ {es:List C0},(∀e∈es,e.p.length<=2)->(∀e∈es,e.is a p=false)->Da (Ea a p) (.p b 0) (XP es)=XP (es++[⟨a,p,b,vn,vs,k⟩])
 | [],_,_=>rfl
 | e ::r,hl,h=>by
   have he:=h e (.head _);have ih:=gQ hp b vn vs k (fun x hx=>hl x (.tail _ hx)) (fun x hx=>h x (.tail _ hx));simp only[XP]at ih;rw[XP,E8,Da,Tn hp (hl e (.head _))]
   have:(a==e.a&&p==e.p)=false:=by
    rw[<-he,C0.is,KO];simp only[BD,EZ];exact⟨fun⟨h1,h2⟩=>⟨h1.symm,h2.symm⟩,fun⟨h1,h2⟩=>⟨h1.symm,h2.symm⟩⟩
   rw[this,cond_false,ih];rfl
def WA {a:Int} {p:List Int} (hp:p.length<=2) {e:C0} (he:e.is a p=true) {post:List C0}: ∀ {pre:List C0},(∀x∈pre++e::post,x.p.length<=2)->(∀x∈pre,x.is a p=false)->Ca (Ea a p) (XP (pre++e::post))=some (.p e.b 0)
 | [],hl,_=>by
   rw[List.nil_append,XP,E8,Ca,Tn hp (hl e (.head _))];obtain⟨h1,h2⟩:=Ky.1 he;rw[h1,h2];simp
 | x ::r,hl,h=>by
   have hx:=h x (.head _);rw[List.cons_append,XP,E8,Ca,Tn hp (hl x (.head _))]
   have:(a==x.a&&p==x.p)=false:=by
    rw[<-hx,C0.is,KO];simp only[BD,EZ];exact⟨fun⟨h1,h2⟩=>⟨h1.symm,h2.symm⟩,fun⟨h1,h2⟩=>⟨h1.symm,h2.symm⟩⟩
   rw[this,cond_false];exact WA hp he (fun y hy=>hl y (.tail _ hy)) (fun y hy=>h y (.tail _ hy))
def pJ (a : Int) (p:List Int): ∀(es:List C0),(∀e∈es,e.is a p=false)\/ ∃pre e post,es=pre++e::post/\e.is a p=true/\ ∀x∈pre,x.is a p=false
 | []=> .inl fun _ h=>by cases h
 | e ::r=>by
   cases h:e.is a p with
   | true=>exact .inr ⟨[],e,r,rfl,h,fun _ h=>by cases h⟩
   | false=>
     rcases pJ a p r with h1|⟨pre,x,post,rfl,h1,h2⟩
     .exact .inl fun x hx=>by
       rcases GK.1 hx with rfl|hx
       .exact h
       .exact h1 x hx
     .exact .inr ⟨e::pre,x,post,rfl,h1,fun y hy=>by
       rcases GK.1 hy with rfl|hy
       .exact h
       .exact h2 y hy⟩
def WH (L:Nat) (pre post:List C0) (e:C0):(B9 L (pre++e::post)).Perm (VS e++HW L (pre++e::post) pre post):=by
 unfold B9 HW;rw[List.flatMap_append,List.flatMap_cons,List.flatMap_append];refine List.Perm.trans ?_ (List.perm_middle.symm);refine List.Perm.cons _ ?_;rw[<-XO,<-XO];exact List.Perm.append_right _ Rn
def YW {pre post:List C0} {e e':C0} (h1:e'.a=e.a) (h2:e'.p=e.p) (h3:e'.b=e.b):XP (pre++e'::post)=XP (pre++e::post):=by
 simp only[XP,Uw,E8,h1,h2,h3]
def Ua {L:Nat} {pre post:List C0} {e e':C0} (h1:e'.a=e.a) (h2:e'.p=e.p) (h3:e'.b=e.b):HW L (pre++e'::post) pre post=HW L (pre++e::post) pre post:=by
 rw[HW,HW,YW h1 h2 h3]
structure Dv (kf:Int->List Int->Kn) (es:List C0):Prop where
 val: ∀e∈es,e.k=kf e.a e.p
 eM: ∀a p,(∀e∈es,e.is a p=false)->kf a p=k0
 one:es.Pairwise fun e e'=>e.is e'.a e'.p=false
 len: ∀e∈es,e.p.length<=2
def R3 (es:List C0):Prop:= ∀e∈es,∀s∈e.k.AG,∃e'∈es,e'.is e.a (e.p++[s])=true
def Dv.congr {kf kf':Int->List Int->Kn} {es:List C0} (h:Dv kf es) (e: ∀a p,kf a p=kf' a p):Dv kf' es:=
 ⟨fun x hx=>(h.val x hx).trans (e _ _),fun a p hp=>(e a p).symm.trans (h.eM a p hp),h.one,h.len⟩
def Dv.add {kf:Int->List Int->Kn} {es:List C0} (h:Dv kf es) {a:Int} {p:List Int} (hp:p.length<=2) (hn: ∀e∈es,e.is a p=false) (b:Nat) (vn vs:V):Dv kf (es++[⟨a,p,b,vn,vs,k0⟩]):=by
 refine⟨fun x hx=>?_,fun a' p' h'=>h.eM a' p' fun x hx=>h' x (Q9 _ hx),?_,fun x hx=>?_⟩
 .rcases FC.1 hx with hx|hx
  .exact h.val x hx
  .rw[LV.1 hx];exact(h.eM a p hn).symm
 .rw[List.pairwise_append]
  exact⟨h.one,List.pairwise_singleton _ _,fun x hx y hy=>by rw[LV.1 hy];exact hn x hx⟩
 .rcases FC.1 hx with hx|hx
  .exact h.len x hx
  .rw[LV.1 hx];exact hp
def R3.add {es:List C0} (h:R3 es) {a:Int} {p:List Int} (b:Nat) (vn vs:V):R3 (es++[⟨a,p,b,vn,vs,k0⟩]):=by
 intro e he s hs;rcases FC.1 he with he|he
 .obtain⟨e',h1,h2⟩:=h e he s hs
  exact⟨e',Q9 _ h1,h2⟩
 .rw[LV.1 he]at hs
  cases hs
def U0 (kf:Int->List Int->Kn) (a:Int) (p:List Int) (k:Kn):Int->List Int->Kn:=fun a' p'=>if a'=a/\p'=p then k else kf a' p'
def Dv.change {kf:Int->List Int->Kn} {pre post:List C0} {e:C0} (h:Dv kf (pre++e::post)) (b:Nat) (vn vs:V) (k:Kn):Dv (U0 kf e.a e.p k) (pre++⟨e.a,e.p,b,vn,vs,k⟩::post):=by
 have h1:=h.one;rw[List.pairwise_append,List.pairwise_cons]at h1;obtain⟨o1,⟨o2,o3⟩,o4⟩:=h1;refine⟨fun x hx=>?_,fun a p hp=>?_,?_,fun x hx=>?_⟩
 .rw [U0]
  rcases FC.1 hx with hx|hx
  .rw[if_neg]
   .exact h.val x (Q9 _ hx)
   .have:=o4 x hx e (.head _)
    rw[O0]at this;exact this
  .rcases GK.1 hx with rfl|hx
   .rw[if_pos ⟨rfl,rfl⟩]
   .rw[if_neg]
    .exact h.val x (N1 _ (.tail _ hx))
    .have:=o2 x hx
     rw[O0]at this;exact fun⟨q1,q2⟩=>this ⟨q1.symm,q2.symm⟩
 .have he:=O0.1 (hp _ (N1 _ (.head _)))
  rw[U0,if_neg (fun⟨q1,q2⟩=>he ⟨q1.symm,q2.symm⟩)];refine h.eM a p fun x hx=>?_
  rcases FC.1 hx with hx|hx
  .exact hp x (Q9 _ hx)
  .rcases GK.1 hx with rfl|hx
   .exact O0.2 he
   .exact hp x (N1 _ (.tail _ hx))
 .rw[List.pairwise_append,List.pairwise_cons]
  refine⟨o1,⟨o2,o3⟩,fun x hx y hy=>?_⟩;rcases GK.1 hy with rfl|hy
  .exact o4 x hx e (.head _)
  .exact o4 x hx y (.tail _ hy)
 .rcases FC.1 hx with hx|hx
  .exact h.len x (Q9 _ hx)
  .rcases GK.1 hx with rfl|hx
   .exact h.len e (N1 _ (.head _))
   .exact h.len x (N1 _ (.tail _ hx))
def R3.change {pre post:List C0} {e:C0} (h:R3 (pre++e::post)) (b:Nat) (vn vs:V) (k:Kn) (hs: ∀s∈k.AG,s∈e.k.AG\/ ∃e'∈pre++e::post,e'.is e.a (e.p++[s])=true):R3 (pre++⟨e.a,e.p,b,vn,vs,k⟩::post):=by
 have mov: ∀ {a p},(∃e'∈pre++e::post,e'.is a p=true)-> ∃e'∈pre++(⟨e.a,e.p,b,vn,vs,k⟩:C0)::post,e'.is a p=true:=by
  rintro a p ⟨x,hx,h'⟩;rcases FC.1 hx with hx|hx
  .exact⟨x,Q9 _ hx,h'⟩
  .rcases GK.1 hx with rfl|hx
   .exact⟨_,N1 _ (.head _),h'⟩
   .exact⟨x,N1 _ (.tail _ hx),h'⟩
 intro x hx s hxs;rcases FC.1 hx with hx|hx
 .exact mov (h x (Q9 _ hx) s hxs)
 .rcases GK.1 hx with rfl|hx
  .rcases hs s hxs with h'|h'
   .exact mov (h e (N1 _ (.head _)) s h')
   .exact mov h'
  .exact mov (h x (N1 _ (.tail _ hx)) s hxs)
def Db (f:Fact) (c:Bool) (j:Nat) (a:Int) (p:List Int) (k:Kn):Kn:=
 if f.arg=a/\Br f.path p=true then(if p.length<j then lA (Dg k c) (f.path.getD p.length 0)else if p.length=j then Dg k c else k)else k
def OU {path p:List Int}:Br path p=true↔p.length<=path.length/\p=path.take p.length:=by
 rw[CT];constructor
 .rintro⟨t,rfl⟩
  exact⟨by simp,by simp⟩
 .rintro⟨h1,h2⟩
  exact⟨path.drop p.length,by conv=>rhs;rw[h2,LY,Nat.min_eq_left h1,List.take_append_drop]⟩
def nG (f:Fact) (c:Bool) (a:Int) (p:List Int) (k:Kn):Db f c 0 a p k=if a=f.arg/\p= []then Dg k c else k:=by
 unfold Db;by_cases h:f.arg=a/\Br f.path p=true
 .rw[if_pos h,if_neg (by omega)]
  by_cases hp:p.length=0
  .rw[if_pos hp,if_pos ⟨h.1.symm,Y5.1 hp⟩]
  .rw[if_neg hp,if_neg (fun h'=>hp (by rw[h'.2];rfl))]
 .rw[if_neg h,if_neg]
  rintro⟨rfl,rfl⟩;exact h ⟨rfl,CT.2 ⟨f.path,by simp⟩⟩
def nH (f:Fact) (c:Bool) {j:Nat} (hj:j<f.path.length) (a:Int) (p:List Int) (k:Kn):Db f c (j+1) a p k=if a=f.arg/\p=f.path.take (j+1)then Dg (Db f c j a p k) c else if a=f.arg/\p=f.path.take j then lA (Db f c j a p k) (f.path.getD j 0)else Db f c j a p k:=by
 unfold Db;by_cases h:f.arg=a/\Br f.path p=true
 .rw [if_pos h,if_pos h]
  obtain⟨h1,h2⟩:=h;rw[OU]at h2;obtain⟨h2,h3⟩:=h2;have l1:p=f.path.take (j+1)↔p.length=j+1:=⟨fun e=>by rw[e,LY];omega,fun e=>by rw[e]at h3;exact h3⟩
  have l2:p=f.path.take j↔p.length=j:=⟨fun e=>by rw[e,LY];omega,fun e=>by rw[e]at h3;exact h3⟩
  have n1:p.length≠j+1-> ¬(a=f.arg/\p=f.path.take (j+1)):=fun h h'=>h (l1.1 h'.2)
  have n2:p.length≠j-> ¬(a=f.arg/\p=f.path.take j):=fun h h'=>h (l2.1 h'.2)
  by_cases q1:p.length<j
  .rw[if_pos (show p.length<j+1 by omega),if_neg (n1 (by omega)),if_neg (n2 (by omega)),if_pos q1]
  .by_cases q2:p.length=j
   .rw[if_pos (show p.length<j+1 by omega),if_neg (n1 (by omega)),if_pos (show a=f.arg/\p=f.path.take j from⟨h1.symm,l2.2 q2⟩),if_neg q1,if_pos q2,q2]
   .by_cases q3:p.length=j+1
    .rw[if_neg (show¬p.length<j+1 by omega),if_pos q3,if_pos (show a=f.arg/\p=f.path.take (j+1) from⟨h1.symm,l1.2 q3⟩),if_neg q1,if_neg q2]
    .rw[if_neg (show¬p.length<j+1 by omega),if_neg q3,if_neg (n1 q3),if_neg (n2 q2),if_neg q1,if_neg q2]
 .rw[if_neg h,if_neg h,if_neg,if_neg]
  .rintro⟨rfl,rfl⟩
   exact h ⟨rfl,CT.2 ⟨f.path.drop j,by rw[List.take_append_drop]⟩⟩
  .rintro⟨rfl,rfl⟩
   exact h ⟨rfl,CT.2 ⟨f.path.drop (j+1),by rw[List.take_append_drop]⟩⟩
def sP (a : Int) (p:List Int) (k:Kn) (l:Fact):DA a p k l=if a=(Av l).1.arg/\p=(Av l).1.path then Cn (Db (Av l).1 (Av l).2 (Av l).1.path.length a p k) (Av l).1 (Av l).2 else Db (Av l).1 (Av l).2 (Av l).1.path.length a p k:=by
 unfold DA Db;by_cases h:(Av l).1.arg=a/\Br (Av l).1.path p=true
 .rw [if_pos h,if_pos h]
  obtain⟨h1,h2⟩:=h;rw[OU]at h2;obtain⟨h2,h3⟩:=h2;by_cases hp:(Av l).1.path=p
  .rw[if_pos hp,if_pos ⟨h1.symm,hp.symm⟩,if_neg (by rw[hp];omega),if_pos (by rw[hp])]
  .have hne:p.length<(Av l).1.path.length:=by
    rcases Nat.lt_or_ge p.length (Av l).1.path.length with h'|h'
    .exact h'
    .rw[List.take_of_length_le h']at h3
     exact absurd h3.symm hp
   rw[if_neg hp,if_neg (fun h=>hp h.2.symm),if_pos hne]
 .rw[if_neg h,if_neg h,if_neg]
  rintro⟨rfl,rfl⟩;exact h ⟨rfl,OV _⟩
def nJ (ls:List Fact) (l:Fact) (a:Int) (p:List Int):kn (ls++[l]) a p=DA a p (kn ls a p) l:=by
 rw[kn,List.foldl_append];rfl
def TE (l:List Int) (s:Int):(JX l s).length<=l.length+1:=by
 unfold JX;split
 .omega
 .rw[List.length_mergeSort];simp
def Y2 (k:Kn) (f:Fact) (b:Bool):(Cn k f b).no.length<=k.no.length+1:=by
 unfold Cn
 repeat' split
 all_goals simp
def gS (a:Int) (p:List Int): ∀(ls:List Fact) (k:Kn),(ls.foldl (DA a p) k).no.length<=k.no.length+ls.length/\(ls.foldl (DA a p) k).AG.length<=k.AG.length+ls.length
 | [],k=>⟨I3 _,I3 _⟩
 | l ::r,k=>by
   obtain⟨h1,h2⟩:=gS a p r (DA a p k l)
   have h3:(DA a p k l).no.length<=k.no.length+1/\(DA a p k l).AG.length<=k.AG.length+1:=by
    unfold DA
    repeat' split
    .have:=Y2 (Dg k (Av l).2) (Av l).1 (Av l).2
     rw[S9];simp only[Dg]at this ⊢;omega
    .have:=TE k.AG ((Av l).1.path.getD p.length 0)
     simp only[lA,Dg]at this ⊢;omega
    .omega
   rw[List.foldl_cons,JD];omega
def nK {n:Nat} {ls:List Fact} (h:JM n ls) (a:Int) (p:List Int):(kn ls a p).B5<2 ^ n/\(kn ls a p).Gq<2 ^ n:=by
 have hc:=Oz ls a p;simp only[FL,Prod.mk.injEq]at hc;have hc2:JM n (ls.filter (G4 a p)):=fun l hl=>h l (LX.1 hl).1
 rw[hc.2.2.2.1,hc.2.2.2.2.1];exact⟨UD hc2,rY hc2⟩
end Go.Gl
namespace Go.Gl
open Go.Proofs
attribute [local irreducible] A6 Ar Ah AR AI Ae AQ AT AK Ad AN AO Ay A7 Sat AY A5 Ai W
def lr (s c:Nat) (hs0:s<18446744073709551616) (hc:c<64):Pure zP 326 [.a [eU s],eI c] (.a [eU (s|||2 ^ c)]):=by
 refine uB kZ ?_;have hs:=Sn
 conv=>whnf
 repeat'((first|clear U K|apply st|(apply zk;intro K U)|refine zY ?_|refine zs fun Z hs=>?_|refine⟨Int.natCast_nonneg _,?_⟩|refine zo fun nn hnn Z hs=>?_|fail)<;>conv=>whnf)
 refine AF ?_;simp only[JC,Ze hc,L9 hs0 (Kt hc)];rfl
def yE (s t:Nat) (hs0:s<18446744073709551616) (ht0:t<18446744073709551616):Pure zP 327 [.a [eU s],.a [eU t]] (.a [eU (s|||t)]):=by
 refine uA kZ ?_;have hs:=Sn
 conv=>whnf
 repeat'((first|clear U K|apply st|(apply zk;intro K U)|refine zY ?_|refine zs fun Z hs=>?_|refine zo fun nn hnn Z hs=>?_|fail)<;>conv=>whnf)
 refine AF ?_;simp only[L9 hs0 ht0];rfl
def Vh (s:Nat) (c:Int) (hs0:s<18446744073709551616) (h0:0<=c) (hc:c<64):Pure zP 326 [.a [eU s],eI c] (.a [eU (s|||2 ^ c.toNat)]):=by
 have:=lr s c.toNat hs0 (by omega);rw[Int.toNat_of_nonneg h0]at this;exact this
def Lk {a b:Nat} (ha:a<18446744073709551616) (hb:b<18446744073709551616):a|||b<18446744073709551616:=by
 have:=Nat.or_lt_two_pow (n:=64) (x:=a) (y:=b) (by simpa using ha) (by simpa using hb);simpa using this
def I6 (g:List (List Int)):List (List Int×Bool):=[([],true),([],true),([],true)]++g.map fun l=>(l,false)
def jA (g:List (List Int)):(I6 g).length=3+g.length:=by simp[I6];omega
def Zo (g:List (List Int)) {k:Nat} (hk:k<3+g.length): ∃b,(I6 g)[k]? =some (Aw g (k:Int),b):=by
 unfold I6 Aw;by_cases h3:k<3
 .rw[if_pos (by omega),k7 (by simpa using h3)]
  refine⟨true,?_⟩;rcases k with _|_|_|k
  .rfl
  .rfl
  .rfl
  .omega
 .rw[if_neg (by omega),List.getElem?_append_right (by simp;omega)]
  refine⟨false,?_⟩;simp only[JD,List.length_nil,Mu];have e:((k:Int) - 3).toNat=k - (0+1+1+1):=by omega
  rw[e,DL,Cw (by omega)];rfl
def nV:FI (fun u:Nat=>[eU u]) 1:=fun x=>⟨rfl,fun v hv=>by simp at hv;subst hv;rfl⟩
def yD {α:Type} {a b c d:α}: [a,b,c,d].Perm [b,d,a,c]:=by
 have h1: [a,b,c,d].Perm [b,a,c,d]:= .swap _ _ _;have h2: [a,c,d].Perm [d,a,c]:=Rn (l₁:=[a,c]) (l₂:=[d]);exact h1.trans (h2.cons b)
def mg (g:List (List Int)) (f f2:Bool) (c:Int) (hg:Dh g=true) (hc0:0<=c) (hc1:c<3+g.length) :
    Be zP 297 [.l (Ek g) f,.l (iL [c]) f2] [] fun r post=> ∃n mm vp vu us M,r= .ret (.t [.p n 0,.b true])/\post=gH n mm vp vu (I6 g) us M/\Iz g (3+g.length) M:=by
 intro Z hs;refine A6.fit (by kernel_rfl) fun hf=>?_
 have⟨g1,g2⟩:=Ts hf.1;have hM:=Mx;have hG:=Ds hg;have hgl:=hG.1;have hfn:=aN g f;rw[hg]at hfn;have hc2: [c][0]? =some c:=rfl;have hpl:=jA g;refine uR kZ ?_
 conv=>whnf
 repeat'((first|clear U K|apply st|(apply zk;intro K U)|refine zY ?_|refine hfn.use ?_|fail)<;>conv=>whnf)
 refine By 1 (fun k (_:Unit)=>[(20,eI (A9 k))]) (fun _ _=>[]) (fun _ _=>True) () rfl trivial hs ?_;clear hs;rintro k - Z hk - hs;have hkk:k=0\/k=1:=by omega
 rcases hkk with rfl|rfl
 .conv=>whnf
  repeat'((first|clear U K|apply st|(apply zk;intro K U)|refine zY ?_|(refine zb (fun hc=>?_) (fun hc=>?_)<;>try exact⟨⟩)|fail)<;>conv=>whnf)
  all_goals try(exfalso;omega)
  exact⟨(),rfl,trivial,hs⟩
 .have hke:1= [c].length:=rfl
  refine zz ?_;(repeat clear U K);repeat intro K U
  rw[show IntKind.i64.wrap (3+((Ek g).length:Nat))=((3+g.length:Nat):Int) by rw[BL,wrap64 (by omega) (by omega)];omega];refine lX (n:=3) hs (by omega) (by omega) fun vp Z hs hv=>?_
  obtain⟨idp,rfl⟩:=hv
  conv=>whnf
  repeat'((first|clear U K|apply st|(apply zk;intro K U)|refine zY ?_|refine zo fun nn hnn Z hs=>?_|fail)<;>conv=>whnf)
  obtain⟨mm,hs⟩: ∃mm,Sat Z [.box nn [.sl idp 3 (3+g.length),.l [] true,.m mm],.map mm [],.own (.sl idp 3 (3+g.length)) 1 (List.replicate 3 [.l [] true])]:=⟨_,hs⟩
  generalize nn=n0 at *;have hgr:=C8 C7 g;refine hAppend hs 2 rfl (by simp;omega) hgr.1 hgr.2 fun vp Z hs=>?_
  have hps:List.replicate 3 [.l [] true]++Ek g=pL (I6 g):=by simp[pL,I6,List.replicate,Ek]
  rw[hps]at hs;clear hps;have hs1p:=H5 hs 2 rfl
  conv=>whnf
  repeat'((first|clear U K|apply st|(apply zk;intro K U)|refine zY ?_|refine zs fun Z hs=>?_|fail)<;>conv=>whnf)
  replace hs:Sat Z [.box n0 [vp,.l [] true,.m mm],.map mm [],.own vp 1 (pL (I6 g))]:=hs;refine By (I6 g).length (fun k (_:V×List Nat)=>[(55,eI (A9 k))]) (fun _ x=>[.own x.1 1 (x.2.map fun u=>[eU u]),.box n0 [vp,x.1,.m mm],.map mm [],.own vp 1 (pL (I6 g))]) (fun k x=>x.2.length=k/\ ∀u∈x.2,u<18446744073709551616) (.l [] true,[]) rfl ⟨rfl,fun u hu=>by cases hu⟩ (Ci hs 1) ?_;clear hs;rintro k ⟨vu,us⟩ Z hk ⟨hul,hus⟩ hs;dsimp only at hul hus hs;rcases A3 (I6 g) hk with⟨⟨l,lb⟩,hl,hlt⟩|hke2
  .have hck:A9 k=k:=AM (by omega)
   obtain⟨b',hpa⟩:=Zo g (k:=k) (by omega);have hle:l=Aw g (k:Int):=by rw[hl]at hpa;exact(Prod.mk.inj (Option.some.inj hpa)).1
   have hll:=Cz hG (k:Int);rw[<-hle]at hll;have hlm: ∀p∈l,3<=p/\p<(k:Int):=fun p hp=>DV hG (by rw[<-hle];exact hp)
   have hs1:(0|||2 ^ (A9 k).toNat)<18446744073709551616:=by
    rw[Nat.zero_or,hck,JC];exact Kt (by omega)
   have hs1u:=H5 hs 0 rfl;have hl':(I6 g)[(A9 k).toNat]? =some (l,lb):=by rw[hck,JC];exact hl
   conv=>whnf
   repeat'((first|clear U K|apply st|(apply zk;intro K U)|refine zY ?_|refine zs fun Z hs=>?_|refine Pure.use (Vh 0 (A9 k) (by decide) (by omega) (by omega)) ?_|refine Pure.use (Vh _ _ (by first|omega|exact hs1) (by omega) (by omega)) ?_|refine zo fun nn hnn Z hs=>?_|fail)<;>conv=>whnf)
   have hs0:(0|||2 ^ (A9 k).toNat|||2 ^ Int.toNat 0)<18446744073709551616:=Lk hs1 (by decide);generalize (0|||2 ^ (A9 k).toNat|||2 ^ Int.toNat 0)=s0 at *;refine By l.length (fun j (_:Nat)=>[(66,eI (A9 j))]) (fun _ s=>[.box nn [eU s],.own vu 1 (us.map fun u=>[eU u]),.box n0 [vp,vu,.m mm],.map mm [],.own vp 1 (pL (I6 g))]) (fun _ s=>s<18446744073709551616) s0 rfl hs0 hs ?_;clear hs hs0;rintro j s Z hj hsb hs;rcases A3 l hj with⟨p,hp,hjlt⟩|hje
   .obtain⟨hp3,hpk⟩:=hlm p (Bz hp)
    obtain⟨u,hu⟩: ∃u,us[p.toNat]? =some u:=⟨_,Cw (by omega)⟩
    have hub:=hus u (Bz hu)
    conv=>whnf
    repeat'((first|clear U K|apply st|(apply zk;intro K U)|refine zY ?_|refine zs fun Z hs=>?_|refine Pure.use (yE _ _ hsb hub) ?_|fail)<;>conv=>whnf)
    exact⟨hjlt,s|||u,rfl,Lk hsb hub,hs⟩
   .refine zz ?_;(repeat clear U K);repeat intro K U
    refine Gc (F0 hs 1 (enc:=fun u:Nat=>[eU u]) (xs:=us) (x:=s) rfl (by omega) nV fun vu' Z hs hsl=>?_);have hs2u:=H5 hs 1 rfl
    conv=>whnf
    repeat'((first|clear U K|apply st|(apply zk;intro K U)|refine zY ?_|refine zs fun Z hs=>?_|fail)<;>conv=>whnf)
    refine⟨hlt,(vu',us++[s]),rfl,⟨by simp[hul],fun u hu=>?_⟩,hs.less (LW _ _)⟩;rcases FC.1 hu with hu|hu
    .exact hus u hu
    .rw[LV.1 hu];exact hsb
  .have hs1u:=H5 hs 0 rfl
   refine zz ?_;(repeat clear U K);repeat intro K U
   replace hs:Sat Z (gH n0 mm vp vu (I6 g) us []):=hs.perm yD;refine By (I6 g).length (fun k (_:List Ord)=>[(96,eI (A9 k))]) (fun _ M=>gH n0 mm vp vu (I6 g) us M) (fun k M=>Iz g k M) [] rfl Iz.nil hs ?_;clear hs;rintro k M Z hk hkn hs;rcases A3 (I6 g) hk with⟨⟨l,lb⟩,hl,hlt⟩|hke3
   .have hck:A9 k=k:=AM (by omega)
    obtain⟨b',hpa⟩:=Zo g (k:=k) (by omega);have hle:l=Aw g (k:Int):=by rw[hl]at hpa;exact(Prod.mk.inj (Option.some.inj hpa)).1
    have hll:=Cz hG (k:Int);rw[<-hle]at hll;have hlm: ∀p∈l,3<=p/\p<(k:Int):=fun p hp=>DV hG (by rw[<-hle];exact hp)
    have hlo:=cr hG hkn hll (fun x hx=>by have:=hlm x hx;omega);have hord:=jF n0 mm vp vu (I6 g) us M (A9 k) l lb (by omega) (by rw[hck,JC];exact hl) hll (fun c=>by have:=(ML hG hkn c).1;omega) (fun e he=>by have:=hkn.keys e he;omega) hlo.1 hlo.2;refine zz ?_;(repeat clear U K);repeat intro K U
    refine hord.use (rest:=[]) (by simpa using hs) ?_;clear hs;rintro r post Z ⟨rfl,M',rfl,hM'⟩ hs;rw[I4]at hs;rw[hck]at hM';refine zz ?_;(repeat clear U K);repeat intro K U
    exact⟨hlt,M',rfl,hkn.step hle (fun p hp=>by have:=hlm p hp;omega) (by omega) hM',hs⟩
   .refine zz ?_;(repeat clear U K);repeat intro K U
    exact Am hs (List.Sublist.refl _) (.refl _) fun Z' hs'=>⟨_,⟨_,_,_,_,_,_,rfl,rfl,by rw[<-hpl,<-hke3];exact hkn⟩,hs'⟩
def wW {M:List Ord} {c:Int} {Z:AE} {fx:List At} (hs:Sat Z (fx++M.map eR)) (hl:(B4 M c).length<=AX) (hne:B4 M c≠[]) {k kp:V->AE->Prop} (hk: ∀Z',Sat Z' (fx++M.map eR)->k (.l (iL (B4 M c)) false) Z'):A6 zP 25 [JF M c] Z (qk k kp):=by
 rcases Pm M c with⟨h1,h2⟩|⟨j,hj⟩
 .exact absurd h1 hne
 .have hj':(fx++M.map eR)[fx.length+j]? =some (At.own (JF M c) 1 (iL (B4 M c))):=by
   rw[List.getElem?_append_right (by omega),Nat.add_sub_cancel_left,hj]
  have hcl:Be zP 25 [JF M c] [.own (JF M c) 1 (iL (B4 M c))] fun r post=>r= .ret (.l (iL (B4 M c)) false)/\post= [.own (JF M c) 1 (iL (B4 M c))]:=by
   clear hk hj' hj;generalize JF M c=v at *;generalize B4 M c=l at *;intro Z hs;refine fe kZ ?_;have hgr:=C8 Bc l
   have hend: ∀ {Z:AE} {w u:V},Sat Z [.own w 1 (iL l),.own u 1 (iL l)]->Ar Z w fun r Z'=> ∃post,(r= .ret (.l (iL l) false)/\post= [.own u 1 (iL l)])/\Sat Z' post:=fun hs=>by
    obtain⟨Z2,h1,h2,h3⟩:=JR hs 0 rfl;exact G0 h1 h2 ⟨_,⟨rfl,rfl⟩,h3⟩
   have hM:=Mx;rcases hs.get (i:=0) rfl with⟨rfl,_⟩|⟨n,cap,rfl,hn⟩
   .conv=>whnf
    repeat'((first|clear U K|apply st|(apply zk;intro K U)|fail)<;>conv=>whnf)
    refine⟨fun e=>absurd (List.map_eq_nil_iff.1 e) hne,fun _=>?_⟩;refine zz ?_;(repeat clear U K);repeat intro K U
    replace hs:=Ci hs 1;refine UO hs 0 1 rfl rfl (by simp;omega) hgr.1 hgr.2 fun w Z hs=>?_
    refine zz ?_;(repeat clear U K);repeat intro K U
    exact hend hs
   .refine zz ?_;(repeat clear U K);repeat intro K U
    replace hs:=Ci hs 1;refine UO hs 0 1 rfl rfl (by simp;omega) hgr.1 hgr.2 fun w Z hs=>?_
    refine zz ?_;(repeat clear U K);repeat intro K U
    exact hend hs
  refine hcl.pB (Φ:=fun r=>r= .ret (.l (iL (B4 M c)) false)) hs hj' ?_;rintro r Z' rfl hs';exact hk Z' hs'
def sI (g:List (List Int)) (f:Bool) (c:Int) (hg:Dh g=true) (hc0:0<=c) (hc1:c<3+g.length) :
    Pure zP 261 [.l (Ek g) f,eI c] (if((B3 g).getD c.toNat []).isEmpty then .t [.l [] true,eI 7]else .t [.l (iL ((B3 g).getD c.toNat [])) false,eI 0]):=by
 have hop:=mg g f true c hg hc0 hc1;refine uj kZ ?_;have hs:=Sn;have hM:=Mx;have hG:=Ds hg
 conv=>whnf
 repeat'((first|clear U K|apply st|(apply zk;intro K U)|fail)<;>conv=>whnf)
 refine hop.use (rest:=[]) hs ?_;clear hs;rintro r post Z ⟨n,mm,vp,vu,us,M,rfl,rfl,hkn⟩ hs;rw[I4]at hs;have hol:=(ML hG hkn c).1;have hor:=hkn.ep c hc0 (by omega);by_cases hne:B4 M c= []
 .have hl0:(B4 M c).length=0:=by rw[hne];rfl
  conv=>whnf
  repeat'((first|clear U K|apply st|(apply zk;intro K U)|refine zY ?_|refine zy ?_|refine Pn (fx:=_::_::_::_:: []) hs (by omega) ?_|(refine zb (fun hc=>?_) (fun hc=>?_)<;>try exact⟨⟩)|fail)<;>conv=>whnf)
  all_goals try(exfalso;omega)
  rw[<-hor,hne];exact AF rfl
 .have hl0:0<(B4 M c).length:=List.length_pos_iff.2 hne
  conv=>whnf
  repeat'((first|clear U K|apply st|(apply zk;intro K U)|refine zY ?_|refine zy ?_|refine Pn (fx:=_::_::_::_:: []) hs (by omega) ?_|(refine zb (fun hc=>?_) (fun hc=>?_)<;>try exact⟨⟩)|fail)<;>conv=>whnf)
  all_goals try(exfalso;omega)
  refine wW (fx:=_::_::_::_:: []) hs (by omega) hne fun Z hs=>?_
  refine zz ?_;(repeat clear U K);repeat intro K U
  rw[<-hor]
  have:(B4 M c).isEmpty=false:=by
   cases h:(B4 M c).isEmpty
   .rfl
   .exact absurd (List.isEmpty_iff.1 h) hne
  rw[this];exact AF rfl
def fX (g:List (List Int)):Prop:=g.length<=60/\ ∀(i:Nat) (l:List Int),g[i]? =some l->l.length<=63/\l.Nodup/\ ∀c∈l,(3:Int)<=c/\c<3+(i:Int)
def jo {g:List (List Int)} (h:Is g):fX g:=⟨by have:=h.1;omega,fun i l hi=>by
 obtain⟨h1,h2,h3⟩:=h.2 i l hi
 exact⟨by omega,h2,h3⟩⟩
def dD {g:List (List Int)} (h:fX g):ordered g:=fun c p hp=>by
 unfold par at hp;split at hp
 .cases hp
 .rename_i h3
  rw[DL]at hp;cases hx:g[c - 3]? with
  | none=>rw[hx]at hp;cases hp
  | some l=>
    rw[hx]at hp;have:=(h.2 _ _ hx).2.2 p hp;omega
def D2 (w:AH):Prop:=fX w.parents/\w.owner.length<=40/\ ∀o∈w.owner,(3:Int)<=o/\o<3+(w.parents.length:Int)
def XX (us:List Nat) (l:List Int) (s:Nat):Nat:=l.foldl (fun s c=>s|||us.getD c.toNat 0) s
def Cd (g:List (List Int)):Nat->List Nat
 | 0=>[1,3,5]
 | k+1=>Cd g k++[XX (Cd g k) (g.getD k []) (1|||2 ^ (3+k))]
def Es (g:List (List Int)):List Nat:=Cd g g.length
def lV (us:List Nat):List V:=us.map eU++List.replicate (63 - us.length) (eU 0)
def wC (w:AH) (us:List Nat):List V:=A1 w++lV us
def GC (g:List (List Int)): ∀k,(Cd g k).length=3+k
 | 0=>rfl
 | k+1=>by simp[Cd,GC g k];omega
def fo (w:AH) {us:List Nat} (h:us.length<=63):(wC w us).length=65:=by
 simp only[wC,A1,lV,Ro,JD,List.length_nil,BL,List.length_replicate];omega
def fm (w:AH) (us:List Nat) (s:Nat) (h:us.length<63):(wC w us).set (2+us.length) (eU s)=wC w (us++[s]):=by
 simp only[wC,lV];rw[List.set_append_right _ _ (by simp[A1])];congr 1;have e:2+us.length - (A1 w).length=us.length:=by simp[A1]
 rw[e,List.set_append_right _ _ (by simp)];rw[BL,Nat.sub_self,Uw,XO];congr 1;rw[show 63 - us.length=(63 - (us++[s]).length)+1 by simp;omega,List.replicate_succ];rfl
def pA (w:AH) (us:List Nat) {i:Nat} (h:i<us.length):(wC w us)[2+i]? =some (eU (us.getD i 0)):=by
 simp only[wC,lV];rw[List.getElem?_append_right (by simp[A1]),show 2+i - (A1 w).length=i by simp[A1],k7 (by simpa using h),Mu,Cw h,DL,Cw h];rfl
def xQ (us:List Nat):Prop:= ∀u∈us,u<18446744073709551616
def Th {us:List Nat} (h:xQ us) (i:Nat):us.getD i 0<18446744073709551616:=by
 rw[DL];cases hx:us[i]? with
 | none=>simp
 | some x=>exact h x (Bz hx)
def T6 {us:List Nat} (h:xQ us): ∀(l:List Int) (s:Nat),s<18446744073709551616->XX us l s<18446744073709551616
 | [],_,hs=>hs
 | c::r,s,hs=>T6 h r _ (Lk hs (Th h _))
def MC (g:List (List Int)): ∀k,k<=60->xQ (Cd g k)
 | 0,_=>by intro u hu;simp[Cd]at hu;omega
 | k+1,hk=>by
   intro u hu;simp only[Cd,FC,LV]at hu;rcases hu with hu|rfl
   .exact MC g k (by omega) u hu
   .exact T6 (MC g k (by omega)) _ _ (Lk (by decide) (Kt (by omega)))
def rV (w:AH) (us:List Nat) (c:Int) {n:Nat} (hM:w.parents.length<=60):Be zP 331 [.p n 0,eI c] [.box n (wC w us)] fun r post=>r= .ret (.b (decide (3<=c)&&decide (c<3+(w.parents.length:Int))))/\post= [.box n (wC w us)]:=by
 intro Z hs;have hw:IntKind.i64.wrap (3+((Ek w.parents).length:Nat))=3+(w.parents.length:Int):=by rw[BL,wrap64 (by omega) (by omega)]
 refine tw kZ ?_
 conv=>whnf
 repeat'((first|apply st|(apply sq;intro K U)|(apply si;intro A B hA hB)|(refine hA _ _ ?_;clear hB B hA A)|(apply U;clear U K)|refine⟨rfl,?_⟩|refine ld ?_|(constructor<;>intro hc<;>(try rw[hc])<;>(replace hc:=bp hc))|fail)<;>conv=>whnf)
 .refine AU ⟨_,⟨?_,rfl⟩,hs⟩
  rw[hw,decide_eq_true (show 3<=c by omega)];rfl
 .refine AU ⟨_,⟨?_,rfl⟩,hs⟩
  rw[decide_eq_false (show¬3<=c by omega)];rfl
def kK (w:AH) (us:List Nat) (c:Int) (hM:w.parents.length<=60):Pure zP 367 [.rp (wC w us),eI c] (.b (RY w c)):=by
 have hw:IntKind.i64.wrap (3+((Ek w.parents).length:Nat))=3+(w.parents.length:Int):=by rw[BL,wrap64 (by omega) (by omega)]
 refine tb kZ ?_;have hs:=Sn
 conv=>whnf
 repeat'((first|apply st|(apply sq;intro K U)|(apply si;intro A B hA hB)|(refine hA _ _ ?_;clear hB B hA A)|(apply U;clear U K)|refine⟨rfl,?_⟩|(constructor<;>intro hc<;>(try rw[hc])<;>(replace hc:=bp hc))|fail)<;>conv=>whnf)
 .refine AF ?_
  rw[hw,RY,decide_eq_true (show 0<=c by omega)];rfl
 .refine AF ?_
  rw[RY,decide_eq_false (show¬0<=c by omega)];rfl
def mD (w:AH) (us:List Nat) (c:Int) (hM:w.owner.length<=60):Pure zP 385 [.rp (wC w us),eI c] (.b (Im w c)):=by
 refine tS kZ ?_;have hs:=Sn
 conv=>whnf
 repeat'((first|apply st|(apply sq;intro K U)|(apply si;intro A B hA hB)|(refine hA _ _ ?_;clear hB B hA A)|(apply U;clear U K)|refine⟨rfl,?_⟩|(constructor<;>intro hc<;>(try rw[hc])<;>(replace hc:=bp hc))|fail)<;>conv=>whnf)
 .refine AF ?_
  rw[Im,decide_eq_true (show 0<=c by omega),BL];rfl
 .refine AF ?_
  rw[Im,decide_eq_false (show¬0<=c by omega)];rfl
def mZ (w:AH) (us:List Nat) (l:List Int) (f:Bool) (hM:w.owner.length<=60):Pure zP 366 [.rp (wC w us),.l (iL l) f] (.b (FE w l)):=by
 have hall:=og (g:=385) (fi:=[.rp (wC w us)]) (ca:=[]) (f:=Im w) (xs:=l) f (fun y _=>mD w us y hM);refine tc kZ ?_;have hs:=Sn
 conv=>whnf
 repeat'((first|apply st|(apply sq;intro K U)|(apply si;intro A B hA hB)|(refine hA _ _ ?_;clear hB B hA A)|(apply U;clear U K)|refine⟨rfl,?_⟩|(constructor<;>intro hc<;>(try rw[hc])<;>(replace hc:=bp hc)<;>(try simp(disch:=omega) only[BL,wrap64,AM]at hc))|refine Pure.use (by assumption) ?_|fail)<;>conv=>whnf)
 .refine AF ?_
  rw[FE,decide_eq_true (show l.length<=2 by omega),Bool.and_true];rfl
 .refine AF ?_
  rw[FE,decide_eq_false (show¬l.length<=2 by omega),Bool.and_false];rfl
def He (s:Nat) (c:Int) (hs0:s<18446744073709551616) (h0:0<=c) (hc:c<64):Pure zP 329 [eU s,eI c] (eU (s|||2 ^ c.toNat)):=by
 have:=ZY s c.toNat hs0 (by omega);rw[Int.toNat_of_nonneg h0]at this;exact this
def up3 {k:Nat} (h:k<3):([1,3,5]:List Nat).take k++[1|||2 ^ k]= [1,3,5].take (k+1):=by
 rcases k with _|_|_|k
 .rfl
 .rfl
 .rfl
 .omega
def mh (w : AH) (hw:D2 w):Pure zP 298 [.a (A1 w)] (.t [.rp (wC w (Es w.parents)),.b true]):=by
 obtain⟨⟨hl,hrow⟩,ho,how⟩:=hw;have hM:=Mx;refine Pure.of ?_;refine uQ kZ ?_;have hs:=Sn;have hi1:((Ek w.parents).length:Int)<=60:=by rw[BL];omega
 have hi2:((iL w.owner).length:Int)<=40:=by rw[BL];omega
 conv=>whnf
 repeat'((first|apply st|(apply sq;intro K U)|(apply si;intro A B hA hB)|(refine hA _ _ ?_;clear hB B hA A)|(apply U;clear U K)|refine⟨rfl,?_⟩|refine⟨kZ,?_⟩|(constructor<;>intro hc<;>(try rw[hc])<;>(replace hc:=bp hc)<;>(try simp(disch:=omega) only[BL,wrap64,AM]at hc)<;>try(exfalso;omega))|(intro nn hnn;generalize hg:BV _ nn _=Z;refine G5 hg fun hs=>?_;clear hg)|fail)<;>conv=>whnf)
 generalize nn=n0 at *;refine By 3 (fun k (_:Unit)=>[(24,eI (A9 k))]) (fun k _=>[.box n0 (wC w ([1,3,5].take k))]) (fun k _=>True) () rfl trivial hs ?_;clear hs;rintro k - Z hk - hs;have hck:A9 k=k:=AM (by omega);have hlen:(([1,3,5]:List Nat).take k).length=k:=by simp;omega
 by_cases hlt:k<3
 .have hst:=fm w ([1,3,5].take k) (1|||2 ^ k) (by omega)
  rw[hlen,up3 hlt]at hst
  conv=>whnf
  repeat'((first|apply st|(apply sq;intro K U)|(apply si;intro A B hA hB)|(refine hA _ _ ?_;clear hB B hA A)|(apply U;clear U K)|apply dr|refine⟨rfl,?_⟩|refine eQ ?_|refine Pure.use (He 1 _ (by decide) (by omega) (by omega)) ?_|(constructor<;>intro hc<;>(try rw[hc])<;>(replace hc:=bp hc)<;>(try simp(disch:=omega) only[BL,wrap64,AM]at hc)<;>try(exfalso;omega))|fail)<;>conv=>whnf)
  refine Ly hs 0 rfl rfl (by rw[fo w (by omega)];omega) fun Z hs=>?_
  conv=>whnf
  repeat'((first|(apply si;intro A B hA hB)|(refine hA _ _ ?_;clear hB B hA A)|(apply U;clear U K)|apply dr|refine⟨rfl,?_⟩|clear U K)<;>conv=>whnf)
  refine⟨hlt,(),rfl,trivial,?_⟩;rw[hck,JC,Nat.mul_one,G3]at hs;simp only[List.set_cons_zero]at hs;rw[hst]at hs;exact hs
 .have hke:k=3:=by omega
  subst hke;clear hk hck hlen hlt
  conv=>whnf
  repeat'((first|apply st|(apply sq;intro K U)|(apply si;intro A B hA hB)|(refine hA _ _ ?_;clear hB B hA A)|(apply U;clear U K)|refine⟨rfl,?_⟩|(constructor<;>intro hc<;>(try rw[hc])<;>(replace hc:=bp hc)<;>(try simp(disch:=omega) only[BL,wrap64,AM]at hc)<;>try(exfalso;omega))|clear U K)<;>conv=>whnf)
  refine By w.parents.length (fun k (_:Unit)=>[(38,eI (A9 k))]) (fun k _=>[.box n0 (wC w (Cd w.parents k))]) (fun k _=>True) () rfl trivial hs ?_;clear hs;rintro k - Z hk - hs;have hck:A9 k=k:=AM (by omega);have hul:=GC w.parents k;have huo:=MC w.parents k (by omega);have hw3:IntKind.i64.wrap (3+(k:Int))=3+(k:Int):=wrap64 (by omega) (by omega);rcases A3 w.parents hk with⟨row,hr,hlt⟩|hke
  .obtain⟨r1,r2,r3⟩:=hrow k row hr
   rw[<-hck]at hw3
   conv=>whnf
   repeat'((first|apply st|(apply sq;intro K U)|(apply si;intro A B hA hB)|(refine hA _ _ ?_;clear hB B hA A)|(apply U;clear U K)|refine⟨rfl,?_⟩|refine ix ?_|(refine OY (fun hc=>?_)<;>(try rw[hc])<;>clear hc)|refine Pure.use (He 1 _ (by decide) (by omega) (by omega)) ?_|fail)<;>conv=>whnf)
   have hbig:xQ (Cd w.parents k):=huo;have hst0:IntKind.i64.wrap (3+A9 k)=3+(k:Int):=by rw[hck];exact wrap64 (by omega) (by omega)
   have hs0lt:1|||2 ^ (3+k)<18446744073709551616:=Lk (by decide) (Kt (by omega))
   have hs0e:1|||2 ^ (IntKind.i64.wrap (3+A9 k)).toNat=1|||2 ^ (3+k):=by rw[hst0,show(3+(k:Int)).toNat=3+k by omega]
   rw[hs0e];refine By row.length (fun j (s:Nat)=>[(48,eI (A9 j)),(8,eU s)]) (fun _ _=>[.box n0 (wC w (Cd w.parents k))]) (fun j s=>s=XX (Cd w.parents k) (row.take j) (1|||2 ^ (3+k))) (1|||2 ^ (3+k)) rfl rfl hs ?_;clear hs;rintro j s Z hj hse hs;rcases A3 row hj with⟨c,hcj,hjlt⟩|hje
   .obtain⟨q1,q2⟩:=r3 c (Bz hcj)
    have hload:(wC w (Cd w.parents k))[0+2+c.toNat*1]? =some (eU ((Cd w.parents k).getD c.toNat 0)):=by
     have:=pA w (Cd w.parents k) (i:=c.toNat) (by omega);rw[<-this];congr 1;omega
    have hnc:(row.take j).contains c=false:=by
     rw[<-Bool.not_eq_true,List.contains_iff_mem];intro hm;obtain⟨i,hi,he⟩:=List.mem_iff_getElem.1 hm;have hi':i<j:=by rw[LY]at hi;omega
     rw[List.getElem_take]at he;have hcj':=(Ii.1 hcj).2;exact absurd ((List.getElem_inj r2).1 (he.trans hcj'.symm)) (by omega)
    have hct: ∀b,Pure zP 206 [.l (iL (row.take j)) b,eI c] (.b false):=fun b=>by
     have:=Dt (row.take j) b c
     rwa [hnc]at this
    conv=>whnf
    repeat'((first|apply st|(apply sq;intro K U)|(apply si;intro A B hA hB)|(refine hA _ _ ?_;clear hB B hA A)|(apply U;clear U K)|refine⟨rfl,?_⟩|refine ix ?_|refine zF ?_|refine eQ ?_|refine ld ?_|refine Rp ?_|(refine OY (fun hc=>?_)<;>(try rw[hc])<;>clear hc)|refine Pure.use (hct _) ?_|(rw[hload])|(constructor<;>intro hc<;>(try rw[hc])<;>(replace hc:=bp hc)<;>(try simp(disch:=omega) only[BL,wrap64,AM]at hc)<;>try(exfalso;omega))|clear U K)<;>conv=>whnf)
    refine⟨hjlt,s|||(Cd w.parents k).getD c.toNat 0,?_,?_,hs⟩
    .have hsl:s<18446744073709551616:=by rw[hse];exact T6 huo _ _ hs0lt
     rw[L9 hsl (Th huo _)];rfl
    .rw[hse,AL hcj]
     simp only[XX,List.foldl_append];rfl
   .conv=>whnf
    repeat'((first|apply st|(apply sq;intro K U)|(apply si;intro A B hA hB)|(refine hA _ _ ?_;clear hB B hA A)|(apply U;clear U K)|refine⟨rfl,?_⟩|refine eQ ?_|(refine XQ (fun hc=>?_)<;>(try rw[hc])<;>clear hc)|clear U K)<;>conv=>whnf)
    refine Ly hs 0 rfl rfl (by rw[fo w (by omega),hst0];omega) fun Z hs=>?_
    conv=>whnf
    repeat'((first|(apply si;intro A B hA hB)|(refine hA _ _ ?_;clear hB B hA A)|(apply U;clear U K)|refine⟨rfl,?_⟩|clear U K)<;>conv=>whnf)
    refine⟨hlt,(),rfl,trivial,?_⟩
    have e:Cd w.parents (k+1)=Cd w.parents k++[s]:=by
     rw[hse,Cd,DL,hr,hje,List.take_length];rfl
    have hst:=fm w (Cd w.parents k) s (by omega);rw[e,<-hst];have e2:0+2+(IntKind.i64.wrap (3+A9 k)).toNat*1=2+(Cd w.parents k).length:=by rw[hst0,hul];omega
    rw[e2]at hs;exact hs
  .have hown:=iD 331 [.p n0 0] [] (fun _=>[.box n0 (wC w (Cd w.parents k))]) (VL fun c=>decide (3<=c)&&decide (c<3+(w.parents.length:Int))) (fun _ _=>True) (fun y s _ Z hs=>Bh (A6.mono (rV w (Cd w.parents k) y (by omega) Z hs) (by
    rintro r Z' ⟨post,⟨h1,h2⟩,h3⟩;subst h2
    exact⟨h1,h3⟩))) w.owner false () (HD fun _ _ _=>trivial)
   rw[KB]at hown
   have hall:(w.owner.all fun c=>decide (3<=c)&&decide (c<3+(w.parents.length:Int)))=true:=by
    rw[Er];intro o hoo;have:=how o hoo;simp only[BD,CD];exact this
   rw[hall]at hown
   conv=>whnf
   repeat'((first|apply st|(apply sq;intro K U)|(apply si;intro A B hA hB)|(refine hA _ _ ?_;clear hB B hA A)|(apply U;clear U K)|refine⟨rfl,?_⟩|(refine XQ (fun hc=>?_)<;>(try rw[hc])<;>clear hc)|clear U K)<;>conv=>whnf)
   refine hown.use (rest:=[]) hs ?_;rintro r post Z ⟨rfl,rfl⟩ hs
   conv=>whnf
   repeat'((first|apply st|(refine hA _ _ ?_;clear hB B hA A)|(apply U;clear U K)|fail)<;>conv=>whnf)
   rw[hke]at hs;exact G0 (Z2:=emp) (fun n o ho=>by cases ho) (.t (.cons (hs.frzB 0 rfl (.refl _ _ _)) (.cons (.refl _) .nil))) rfl
end Go.Gl
