import Derived.Test.YtcfkfhaedllcpaaGreatW14
import Derived.Test.YtcfkfhaedllcpaaGreatW15
import Derived.Test.YtcfkfhaedllcpaaGreatW18
import Derived.Test.YtcfkfhaedllcpaaGreatW20
import Derived.Test.YtcfkfhaedllcpaaGreatW21
set_option linter.all false
set_option linter.defProp false
set_option maxHeartbeats 8000000
noncomputable section
namespace Go.Gl
abbrev EV (a:Int) (p:List Int):V:= .a [eI a,eI (p.length:Int),eI (p.getD 0 0),eI (p.getD 1 0)]
structure Cx where
 a:Int
 p:List Int
 b:Nat
 vn:V
 vs:V
 k:Kn
abbrev Cx.is (e:Cx) (a:Int) (p:List Int):Bool:=e.a==a&&e.p==p
abbrev yf (b:Nat) (vn vs:V) (k:Kn):At:= .box b [eI k.low,eI k.high,vn,eU k.B3,eU k.GV,.b k.whole,.b k.A0,vs]
abbrev px (b:Nat) (vn vs:V) (k:Kn):List At:=[yf b vn vs k,.own vn 1 (iL k.no),.own vs 1 (iL k.AG)]
abbrev U9 (e:Cx):List At:=px e.b e.vn e.vs e.k
def Wy (es:List Cx):List (V×V):=es.map fun e=>(EV e.a e.p,.p e.b 0)
def B8 (L:Nat) (es:List Cx):List At:= .map L (Wy es)::es.flatMap U9
def HF (L:Nat) (es pre post:List Cx):List At:= .map L (Wy es)::(pre++post).flatMap U9
def Kc {e:Cx} {a:Int} {p:List Int}:e.is a p=true↔e.a=a/\e.p=p:=by simp[Cx.is]
def Ol {e:Cx} {a:Int} {p:List Int}:e.is a p=false↔ ¬(e.a=a/\e.p=p):=by rw[<-Kc,Bool.not_eq_true]
def TV {a a':Int} {p p':List Int} (h:p.length<=2) (h':p'.length<=2):Df (EV a p) (EV a' p')=(a==a'&&p==p'):=by
 have e:Df (EV a p) (EV a' p')=(a==a'&&((p.length:Int)==p'.length&&(p.getD 0 0==p'.getD 0 0&&(p.getD 1 0==p'.getD 1 0)))):=by
  simp[Df,Bo,EV]
 rw[e];congr 1
 match p,h,p',h' with
 | [],_,[],_=>rfl
 | [],_,[_],_=>simp
 | [],_,[_,_],_=>simp<;>omega
 | [_],_,[],_=>simp
 | [x],_,[y],_=>simp
 | [_],_,[_,_],_=>simp<;>omega
 | [_,_],_,[],_=>simp<;>omega
 | [_,_],_,[_],_=>simp<;>omega
 | [x,y],_,[z,u],_=>simp
def Pj (es:List Cx): ∀kv∈Wy es,BN (.a [.i64,.i64,.i64,.i64]) kv.1=true:=by
 intro kv h;obtain⟨e,_,rfl⟩:=Mg.1 h;rfl
def Vo {a:Int} {p:List Int} (hp:p.length<=2): ∀ {es:List Cx},(∀e∈es,e.p.length<=2)->(∀e∈es,e.is a p=false)->CZ (EV a p) (Wy es)=none
 | [],_,_=>rfl
 | e ::r,hl,h=>by
   have he:=h e (.head _);rw[Wy,Ex,CZ,TV hp (hl e (.head _))]
   have:(a==e.a&&p==e.p)=false:=by
    rw[<-he,Cx.is,J1];simp only[BD,EU];exact⟨fun⟨h1,h2⟩=>⟨h1.symm,h2.symm⟩,fun⟨h1,h2⟩=>⟨h1.symm,h2.symm⟩⟩
   rw[this,cond_false];exact Vo hp (fun x hx=>hl x (.tail _ hx)) (fun x hx=>h x (.tail _ hx))
def fW {a:Int} {p:List Int} (hp:p.length<=2) (b:Nat) (vn vs:V) (k:Kn): ∀ {es:List Cx},(∀e∈es,e.p.length<=2)->(∀e∈es,e.is a p=false)->DV (EV a p) (.p b 0) (Wy es)=Wy (es++[⟨a,p,b,vn,vs,k⟩])
 | [],_,_=>rfl
 | e ::r,hl,h=>by
   have he:=h e (.head _);have ih:=fW hp b vn vs k (fun x hx=>hl x (.tail _ hx)) (fun x hx=>h x (.tail _ hx));simp only[Wy]at ih;rw[Wy,Ex,DV,TV hp (hl e (.head _))]
   have:(a==e.a&&p==e.p)=false:=by
    rw[<-he,Cx.is,J1];simp only[BD,EU];exact⟨fun⟨h1,h2⟩=>⟨h1.symm,h2.symm⟩,fun⟨h1,h2⟩=>⟨h1.symm,h2.symm⟩⟩
   rw[this,cond_false,ih];rfl
def Vn {a:Int} {p:List Int} (hp:p.length<=2) {e:Cx} (he:e.is a p=true) {post:List Cx}: ∀ {pre:List Cx},(∀x∈pre++e::post,x.p.length<=2)->(∀x∈pre,x.is a p=false)->CZ (EV a p) (Wy (pre++e::post))=some (.p e.b 0)
 | [],hl,_=>by
   rw[List.nil_append,Wy,Ex,CZ,TV hp (hl e (.head _))];obtain⟨h1,h2⟩:=Kc.1 he;rw[h1,h2];simp
 | x ::r,hl,h=>by
   have hx:=h x (.head _);rw[List.cons_append,Wy,Ex,CZ,TV hp (hl x (.head _))]
   have:(a==x.a&&p==x.p)=false:=by
    rw[<-hx,Cx.is,J1];simp only[BD,EU];exact⟨fun⟨h1,h2⟩=>⟨h1.symm,h2.symm⟩,fun⟨h1,h2⟩=>⟨h1.symm,h2.symm⟩⟩
   rw[this,cond_false];exact Vn hp he (fun y hy=>hl y (.tail _ hy)) (fun y hy=>h y (.tail _ hy))
def oN (a : Int) (p:List Int): ∀(es:List Cx),(∀e∈es,e.is a p=false)\/ ∃pre e post,es=pre++e::post/\e.is a p=true/\ ∀x∈pre,x.is a p=false
 | []=> .inl fun _ h=>by cases h
 | e ::r=>by
   cases h:e.is a p with
   | true=>exact .inr ⟨[],e,r,rfl,h,fun _ h=>by cases h⟩
   | false=>
     rcases oN a p r with h1|⟨pre,x,post,rfl,h1,h2⟩
     .exact .inl fun x hx=>by
       rcases Fm.1 hx with rfl|hx
       .exact h
       .exact h1 x hx
     .exact .inr ⟨e::pre,x,post,rfl,h1,fun y hy=>by
       rcases Fm.1 hy with rfl|hy
       .exact h
       .exact h2 y hy⟩
def Vr (L:Nat) (pre post:List Cx) (e:Cx):(B8 L (pre++e::post)).Perm (U9 e++HF L (pre++e::post) pre post):=by
 unfold B8 HF;rw[List.flatMap_append,List.flatMap_cons,List.flatMap_append];refine List.Perm.trans ?_ (List.perm_middle.symm);refine List.Perm.cons _ ?_;rw[<-Wx,<-Wx];exact List.Perm.append_right _ RP
def X8 {pre post:List Cx} {e e':Cx} (h1:e'.a=e.a) (h2:e'.p=e.p) (h3:e'.b=e.b):Wy (pre++e'::post)=Wy (pre++e::post):=by
 simp only[Wy,Uf,Ex,h1,h2,h3]
def UH {L:Nat} {pre post:List Cx} {e e':Cx} (h1:e'.a=e.a) (h2:e'.p=e.p) (h3:e'.b=e.b):HF L (pre++e'::post) pre post=HF L (pre++e::post) pre post:=by
 rw[HF,HF,X8 h1 h2 h3]
structure Dr (kf:Int->List Int->Kn) (es:List Cx):Prop where
 val: ∀e∈es,e.k=kf e.a e.p
 dW: ∀a p,(∀e∈es,e.is a p=false)->kf a p=k0
 one:es.Pairwise fun e e'=>e.is e'.a e'.p=false
 len: ∀e∈es,e.p.length<=2
def Rm (es:List Cx):Prop:= ∀e∈es,∀s∈e.k.AG,∃e'∈es,e'.is e.a (e.p++[s])=true
def Dr.congr {kf kf':Int->List Int->Kn} {es:List Cx} (h:Dr kf es) (e: ∀a p,kf a p=kf' a p):Dr kf' es:=
 ⟨fun x hx=>(h.val x hx).trans (e _ _),fun a p hp=>(e a p).symm.trans (h.dW a p hp),h.one,h.len⟩
def Dr.add {kf:Int->List Int->Kn} {es:List Cx} (h:Dr kf es) {a:Int} {p:List Int} (hp:p.length<=2) (hn: ∀e∈es,e.is a p=false) (b:Nat) (vn vs:V):Dr kf (es++[⟨a,p,b,vn,vs,k0⟩]):=by
 refine⟨fun x hx=>?_,fun a' p' h'=>h.dW a' p' fun x hx=>h' x (RU _ hx),?_,fun x hx=>?_⟩
 .rcases E4.1 hx with hx|hx
  .exact h.val x hx
  .rw[LD.1 hx];exact(h.dW a p hn).symm
 .rw[List.pairwise_append]
  exact⟨h.one,List.pairwise_singleton _ _,fun x hx y hy=>by rw[LD.1 hy];exact hn x hx⟩
 .rcases E4.1 hx with hx|hx
  .exact h.len x hx
  .rw[LD.1 hx];exact hp
def Rm.add {es:List Cx} (h:Rm es) {a:Int} {p:List Int} (b:Nat) (vn vs:V):Rm (es++[⟨a,p,b,vn,vs,k0⟩]):=by
 intro e he s hs;rcases E4.1 he with he|he
 .obtain⟨e',h1,h2⟩:=h e he s hs
  exact⟨e',RU _ h1,h2⟩
 .rw[LD.1 he]at hs
  cases hs
def Uj (kf:Int->List Int->Kn) (a:Int) (p:List Int) (k:Kn):Int->List Int->Kn:=fun a' p'=>if a'=a/\p'=p then k else kf a' p'
def Dr.change {kf:Int->List Int->Kn} {pre post:List Cx} {e:Cx} (h:Dr kf (pre++e::post)) (b:Nat) (vn vs:V) (k:Kn):Dr (Uj kf e.a e.p k) (pre++⟨e.a,e.p,b,vn,vs,k⟩::post):=by
 have h1:=h.one;rw[List.pairwise_append,List.pairwise_cons]at h1;obtain⟨o1,⟨o2,o3⟩,o4⟩:=h1;refine⟨fun x hx=>?_,fun a p hp=>?_,?_,fun x hx=>?_⟩
 .rw [Uj]
  rcases E4.1 hx with hx|hx
  .rw[if_neg]
   .exact h.val x (RU _ hx)
   .have:=o4 x hx e (.head _)
    rw[Ol]at this;exact this
  .rcases Fm.1 hx with rfl|hx
   .rw[if_pos ⟨rfl,rfl⟩]
   .rw[if_neg]
    .exact h.val x (RT _ (.tail _ hx))
    .have:=o2 x hx
     rw[Ol]at this;exact fun⟨q1,q2⟩=>this ⟨q1.symm,q2.symm⟩
 .have he:=Ol.1 (hp _ (RT _ (.head _)))
  rw[Uj,if_neg (fun⟨q1,q2⟩=>he ⟨q1.symm,q2.symm⟩)];refine h.dW a p fun x hx=>?_
  rcases E4.1 hx with hx|hx
  .exact hp x (RU _ hx)
  .rcases Fm.1 hx with rfl|hx
   .exact Ol.2 he
   .exact hp x (RT _ (.tail _ hx))
 .rw[List.pairwise_append,List.pairwise_cons]
  refine⟨o1,⟨o2,o3⟩,fun x hx y hy=>?_⟩;rcases Fm.1 hy with rfl|hy
  .exact o4 x hx e (.head _)
  .exact o4 x hx y (.tail _ hy)
 .rcases E4.1 hx with hx|hx
  .exact h.len x (RU _ hx)
  .rcases Fm.1 hx with rfl|hx
   .exact h.len e (RT _ (.head _))
   .exact h.len x (RT _ (.tail _ hx))
def Rm.change {pre post:List Cx} {e:Cx} (h:Rm (pre++e::post)) (b:Nat) (vn vs:V) (k:Kn) (hs: ∀s∈k.AG,s∈e.k.AG\/ ∃e'∈pre++e::post,e'.is e.a (e.p++[s])=true):Rm (pre++⟨e.a,e.p,b,vn,vs,k⟩::post):=by
 have mov: ∀ {a p},(∃e'∈pre++e::post,e'.is a p=true)-> ∃e'∈pre++(⟨e.a,e.p,b,vn,vs,k⟩:Cx)::post,e'.is a p=true:=by
  rintro a p ⟨x,hx,h'⟩;rcases E4.1 hx with hx|hx
  .exact⟨x,RU _ hx,h'⟩
  .rcases Fm.1 hx with rfl|hx
   .exact⟨_,RT _ (.head _),h'⟩
   .exact⟨x,RT _ (.tail _ hx),h'⟩
 intro x hx s hxs;rcases E4.1 hx with hx|hx
 .exact mov (h x (RU _ hx) s hxs)
 .rcases Fm.1 hx with rfl|hx
  .rcases hs s hxs with h'|h'
   .exact mov (h e (RT _ (.head _)) s h')
   .exact mov h'
  .exact mov (h x (RT _ (.tail _ hx)) s hxs)
def DW (f:Fact) (c:Bool) (j:Nat) (a:Int) (p:List Int) (k:Kn):Kn:=
 if f.arg=a/\Bp f.path p=true then(if p.length<j then jt (Db k c) (f.path.getD p.length 0)else if p.length=j then Db k c else k)else k
def OG {path p:List Int}:Bp path p=true↔p.length<=path.length/\p=path.take p.length:=by
 rw[CT];constructor
 .rintro⟨t,rfl⟩
  exact⟨by simp,by simp⟩
 .rintro⟨h1,h2⟩
  exact⟨path.drop p.length,by conv=>rhs;rw[h2,Mf,Nat.min_eq_left h1,List.take_append_drop]⟩
def mC (f:Fact) (c:Bool) (a:Int) (p:List Int) (k:Kn):DW f c 0 a p k=if a=f.arg/\p= []then Db k c else k:=by
 unfold DW;by_cases h:f.arg=a/\Bp f.path p=true
 .rw[if_pos h,if_neg (by omega)]
  by_cases hp:p.length=0
  .rw[if_pos hp,if_pos ⟨h.1.symm,Yh.1 hp⟩]
  .rw[if_neg hp,if_neg (fun h'=>hp (by rw[h'.2];rfl))]
 .rw[if_neg h,if_neg]
  rintro⟨rfl,rfl⟩;exact h ⟨rfl,CT.2 ⟨f.path,by simp⟩⟩
def mD (f:Fact) (c:Bool) {j:Nat} (hj:j<f.path.length) (a:Int) (p:List Int) (k:Kn):DW f c (j+1) a p k=if a=f.arg/\p=f.path.take (j+1)then Db (DW f c j a p k) c else if a=f.arg/\p=f.path.take j then jt (DW f c j a p k) (f.path.getD j 0)else DW f c j a p k:=by
 unfold DW;by_cases h:f.arg=a/\Bp f.path p=true
 .rw [if_pos h,if_pos h]
  obtain⟨h1,h2⟩:=h;rw[OG]at h2;obtain⟨h2,h3⟩:=h2;have l1:p=f.path.take (j+1)↔p.length=j+1:=⟨fun e=>by rw[e,Mf];omega,fun e=>by rw[e]at h3;exact h3⟩
  have l2:p=f.path.take j↔p.length=j:=⟨fun e=>by rw[e,Mf];omega,fun e=>by rw[e]at h3;exact h3⟩
  have n1:p.length≠j+1-> ¬(a=f.arg/\p=f.path.take (j+1)):=fun h h'=>h (l1.1 h'.2)
  have n2:p.length≠j-> ¬(a=f.arg/\p=f.path.take j):=fun h h'=>h (l2.1 h'.2)
  by_cases q1:p.length<j
  .rw[if_pos (show p.length<j+1 by omega),if_neg (n1 (by omega)),if_neg (n2 (by omega)),if_pos q1]
  .by_cases q2:p.length=j
   .rw[if_pos (show p.length<j+1 by omega),if_neg (n1 (by omega)),if_pos (show a=f.arg/\p=f.path.take j from⟨h1.symm,l2.2 q2⟩),if_neg q1,if_pos q2,q2]
   .by_cases q3:p.length=j+1
    .rw[if_neg (show¬p.length<j+1 by omega),if_pos q3,if_pos (show a=f.arg/\p=f.path.take (j+1) from⟨h1.symm,l1.2 q3⟩),if_neg q1,if_neg q2]
    .rw[if_neg (show¬p.length<j+1 by omega),if_neg q3,if_neg (n1 q3),if_neg (n2 q2),if_neg q1,if_neg q2]
 .rw[if_neg h,if_neg h,if_neg,if_neg]
  .rintro⟨rfl,rfl⟩
   exact h ⟨rfl,CT.2 ⟨f.path.drop j,by rw[List.take_append_drop]⟩⟩
  .rintro⟨rfl,rfl⟩
   exact h ⟨rfl,CT.2 ⟨f.path.drop (j+1),by rw[List.take_append_drop]⟩⟩
def rF (a : Int) (p:List Int) (k:Kn) (l:Fact):C5 a p k l=if a=(Av l).1.arg/\p=(Av l).1.path then Ck (DW (Av l).1 (Av l).2 (Av l).1.path.length a p k) (Av l).1 (Av l).2 else DW (Av l).1 (Av l).2 (Av l).1.path.length a p k:=by
 unfold C5 DW;by_cases h:(Av l).1.arg=a/\Bp (Av l).1.path p=true
 .rw [if_pos h,if_pos h]
  obtain⟨h1,h2⟩:=h;rw[OG]at h2;obtain⟨h2,h3⟩:=h2;by_cases hp:(Av l).1.path=p
  .rw[if_pos hp,if_pos ⟨h1.symm,hp.symm⟩,if_neg (by rw[hp];omega),if_pos (by rw[hp])]
  .have hne:p.length<(Av l).1.path.length:=by
    rcases Nat.lt_or_ge p.length (Av l).1.path.length with h'|h'
    .exact h'
    .rw[List.take_of_length_le h']at h3
     exact absurd h3.symm hp
   rw[if_neg hp,if_neg (fun h=>hp h.2.symm),if_pos hne]
 .rw[if_neg h,if_neg h,if_neg]
  rintro⟨rfl,rfl⟩;exact h ⟨rfl,OH _⟩
def mG (ls:List Fact) (l:Fact) (a:Int) (p:List Int):kn (ls++[l]) a p=C5 a p (kn ls a p) l:=by
 rw[kn,List.foldl_append];rfl
def Sz (l:List Int) (s:Int):(JA l s).length<=l.length+1:=by
 unfold JA;split
 .omega
 .rw[List.length_mergeSort];simp
def Ye (k:Kn) (f:Fact) (b:Bool):(Ck k f b).no.length<=k.no.length+1:=by
 unfold Ck
 repeat' split
 all_goals simp
def fY (a:Int) (p:List Int): ∀(ls:List Fact) (k:Kn),(ls.foldl (C5 a p) k).no.length<=k.no.length+ls.length/\(ls.foldl (C5 a p) k).AG.length<=k.AG.length+ls.length
 | [],k=>⟨Io _,Io _⟩
 | l ::r,k=>by
   obtain⟨h1,h2⟩:=fY a p r (C5 a p k l)
   have h3:(C5 a p k l).no.length<=k.no.length+1/\(C5 a p k l).AG.length<=k.AG.length+1:=by
    unfold C5
    repeat' split
    .have:=Ye (Db k (Av l).2) (Av l).1 (Av l).2
     rw[Su];simp only[Db]at this ⊢;omega
    .have:=Sz k.AG ((Av l).1.path.getD p.length 0)
     simp only[jt,Db]at this ⊢;omega
    .omega
   rw[List.foldl_cons,LF];omega
def mH {n:Nat} {ls:List Fact} (h:I0 n ls) (a:Int) (p:List Int):(kn ls a p).B3<2 ^ n/\(kn ls a p).GV<2 ^ n:=by
 have hc:=Oj ls a p;simp only[FB,Prod.mk.injEq]at hc;have hc2:I0 n (ls.filter (Gk a p)):=fun l hl=>h l (LH.1 hl).1
 rw[hc.2.2.2.1,hc.2.2.2.2.1];exact⟨Tv hc2,qf hc2⟩
end Go.Gl
namespace Go.Gl
open Go.Proofs
attribute [local irreducible] A3 Aq Af AR AJ Ad AQ AT AK Ac AM AN Ax A5 Sat AX A4 Ah W
def ke (s c:Nat) (hs0:s<18446744073709551616) (hc:c<64):Pure zP 326 [.a [eU s],eI c] (.a [eU (s|||2 ^ c)]):=by
 refine s9 kZ ?_;have hs:=Sn
 conv=>whnf
 repeat'((first|clear U K|apply st|(apply zk;intro K U)|refine zY ?_|refine zs fun Z hs=>?_|refine⟨Int.natCast_nonneg _,?_⟩|refine zo fun nn hnn Z hs=>?_|fail)<;>conv=>whnf)
 refine AF ?_;simp only[JP,ZD hc,Lq hs0 (KX hc)];rfl
def wm (s t:Nat) (hs0:s<18446744073709551616) (ht0:t<18446744073709551616):Pure zP 327 [.a [eU s],.a [eU t]] (.a [eU (s|||t)]):=by
 refine s8 kZ ?_;have hs:=Sn
 conv=>whnf
 repeat'((first|clear U K|apply st|(apply zk;intro K U)|refine zY ?_|refine zs fun Z hs=>?_|refine zo fun nn hnn Z hs=>?_|fail)<;>conv=>whnf)
 refine AF ?_;simp only[Lq hs0 ht0];rfl
def VL (s:Nat) (c:Int) (hs0:s<18446744073709551616) (h0:0<=c) (hc:c<64):Pure zP 326 [.a [eU s],eI c] (.a [eU (s|||2 ^ c.toNat)]):=by
 have:=ke s c.toNat hs0 (by omega);rw[Int.toNat_of_nonneg h0]at this;exact this
def LU {a b:Nat} (ha:a<18446744073709551616) (hb:b<18446744073709551616):a|||b<18446744073709551616:=by
 have:=Nat.or_lt_two_pow (n:=64) (x:=a) (y:=b) (by simpa using ha) (by simpa using hb);simpa using this
def Iq (g:List (List Int)):List (List Int×Bool):=[([],true),([],true),([],true)]++g.map fun l=>(l,false)
def iD (g:List (List Int)):(Iq g).length=3+g.length:=by simp[Iq];omega
def ZO (g:List (List Int)) {k:Nat} (hk:k<3+g.length): ∃b,(Iq g)[k]? =some (Aw g (k:Int),b):=by
 unfold Iq Aw;by_cases h3:k<3
 .rw[if_pos (by omega),jq (by simpa using h3)]
  refine⟨true,?_⟩;rcases k with _|_|_|k
  .rfl
  .rfl
  .rfl
  .omega
 .rw[if_neg (by omega),List.getElem?_append_right (by simp;omega)]
  refine⟨false,?_⟩;simp only[LF,List.length_nil,Md];have e:((k:Int) - 3).toNat=k - (0+1+1+1):=by omega
  rw[e,DH,Cy (by omega)];rfl
def mR:Em (fun u:Nat=>[eU u]) 1:=fun x=>⟨rfl,fun v hv=>by simp at hv;subst hv;rfl⟩
def wk {α:Type} {a b c d:α}: [a,b,c,d].Perm [b,d,a,c]:=by
 have h1: [a,b,c,d].Perm [b,a,c,d]:= .swap _ _ _;have h2: [a,c,d].Perm [d,a,c]:=RP (l₁:=[a,c]) (l₂:=[d]);exact h1.trans (h2.cons b)
def lX (g:List (List Int)) (f f2:Bool) (c:Int) (hg:Dd g=true) (hc0:0<=c) (hc1:c<3+g.length) :
    Bc zP 297 [.l (Ee g) f,.l (iL [c]) f2] [] fun r post=> ∃n mm vp vu us M,r= .ret (.t [.p n 0,.b true])/\post=gH n mm vp vu (Iq g) us M/\Ij g (3+g.length) M:=by
 intro Z hs;refine A3.fit (by kernel_rfl) fun hf=>?_
 have⟨g1,g2⟩:=TZ hf.1;have hM:=Mx;have hG:=Dn hg;have hgl:=hG.1;have hfn:=Zs g f;rw[hg]at hfn;have hc2: [c][0]? =some c:=rfl;have hpl:=iD g;refine tQ kZ ?_
 conv=>whnf
 repeat'((first|clear U K|apply st|(apply zk;intro K U)|refine zY ?_|refine hfn.use ?_|fail)<;>conv=>whnf)
 refine B0 1 (fun k (_:Unit)=>[(20,eI (A8 k))]) (fun _ _=>[]) (fun _ _=>True) () rfl trivial hs ?_;clear hs;rintro k - Z hk - hs;have hkk:k=0\/k=1:=by omega
 rcases hkk with rfl|rfl
 .conv=>whnf
  repeat'((first|clear U K|apply st|(apply zk;intro K U)|refine zY ?_|(refine zb (fun hc=>?_) (fun hc=>?_)<;>try exact⟨⟩)|fail)<;>conv=>whnf)
  all_goals try(exfalso;omega)
  exact⟨(),rfl,trivial,hs⟩
 .have hke:1= [c].length:=rfl
  refine zz ?_;(repeat clear U K);repeat intro K U
  rw[show IntKind.i64.wrap (3+((Ee g).length:Nat))=((3+g.length:Nat):Int) by rw[BU,wrap64 (by omega) (by omega)];omega];refine kO (n:=3) hs (by omega) (by omega) fun vp Z hs hv=>?_
  obtain⟨idp,rfl⟩:=hv
  conv=>whnf
  repeat'((first|clear U K|apply st|(apply zk;intro K U)|refine zY ?_|refine zo fun nn hnn Z hs=>?_|fail)<;>conv=>whnf)
  obtain⟨mm,hs⟩: ∃mm,Sat Z [.box nn [.sl idp 3 (3+g.length),.l [] true,.m mm],.map mm [],.own (.sl idp 3 (3+g.length)) 1 (List.replicate 3 [.l [] true])]:=⟨_,hs⟩
  generalize nn=n0 at *;have hgr:=C4 C3 g;refine hAppend hs 2 rfl (by simp;omega) hgr.1 hgr.2 fun vp Z hs=>?_
  have hps:List.replicate 3 [.l [] true]++Ee g=pL (Iq g):=by simp[pL,Iq,List.replicate,Ee]
  rw[hps]at hs;clear hps;have hs1p:=Gq hs 2 rfl
  conv=>whnf
  repeat'((first|clear U K|apply st|(apply zk;intro K U)|refine zY ?_|refine zs fun Z hs=>?_|fail)<;>conv=>whnf)
  replace hs:Sat Z [.box n0 [vp,.l [] true,.m mm],.map mm [],.own vp 1 (pL (Iq g))]:=hs;refine B0 (Iq g).length (fun k (_:V×List Nat)=>[(55,eI (A8 k))]) (fun _ x=>[.own x.1 1 (x.2.map fun u=>[eU u]),.box n0 [vp,x.1,.m mm],.map mm [],.own vp 1 (pL (Iq g))]) (fun k x=>x.2.length=k/\ ∀u∈x.2,u<18446744073709551616) (.l [] true,[]) rfl ⟨rfl,fun u hu=>by cases hu⟩ (Cf hs 1) ?_;clear hs;rintro k ⟨vu,us⟩ Z hk ⟨hul,hus⟩ hs;dsimp only at hul hus hs;rcases BC (Iq g) hk with⟨⟨l,lb⟩,hl,hlt⟩|hke2
  .have hck:A8 k=k:=AO (by omega)
   obtain⟨b',hpa⟩:=ZO g (k:=k) (by omega);have hle:l=Aw g (k:Int):=by rw[hl]at hpa;exact(Prod.mk.inj (Option.some.inj hpa)).1
   have hll:=Cv hG (k:Int);rw[<-hle]at hll;have hlm: ∀p∈l,3<=p/\p<(k:Int):=fun p hp=>DR hG (by rw[<-hle];exact hp)
   have hs1:(0|||2 ^ (A8 k).toNat)<18446744073709551616:=by
    rw[Nat.zero_or,hck,JP];exact KX (by omega)
   have hs1u:=Gq hs 0 rfl;have hl':(Iq g)[(A8 k).toNat]? =some (l,lb):=by rw[hck,JP];exact hl
   conv=>whnf
   repeat'((first|clear U K|apply st|(apply zk;intro K U)|refine zY ?_|refine zs fun Z hs=>?_|refine Pure.use (VL 0 (A8 k) (by decide) (by omega) (by omega)) ?_|refine Pure.use (VL _ _ (by first|omega|exact hs1) (by omega) (by omega)) ?_|refine zo fun nn hnn Z hs=>?_|fail)<;>conv=>whnf)
   have hs0:(0|||2 ^ (A8 k).toNat|||2 ^ Int.toNat 0)<18446744073709551616:=LU hs1 (by decide);generalize (0|||2 ^ (A8 k).toNat|||2 ^ Int.toNat 0)=s0 at *;refine B0 l.length (fun j (_:Nat)=>[(66,eI (A8 j))]) (fun _ s=>[.box nn [eU s],.own vu 1 (us.map fun u=>[eU u]),.box n0 [vp,vu,.m mm],.map mm [],.own vp 1 (pL (Iq g))]) (fun _ s=>s<18446744073709551616) s0 rfl hs0 hs ?_;clear hs hs0;rintro j s Z hj hsb hs;rcases BC l hj with⟨p,hp,hjlt⟩|hje
   .obtain⟨hp3,hpk⟩:=hlm p (B1 hp)
    obtain⟨u,hu⟩: ∃u,us[p.toNat]? =some u:=⟨_,Cy (by omega)⟩
    have hub:=hus u (B1 hu)
    conv=>whnf
    repeat'((first|clear U K|apply st|(apply zk;intro K U)|refine zY ?_|refine zs fun Z hs=>?_|refine Pure.use (wm _ _ hsb hub) ?_|fail)<;>conv=>whnf)
    exact⟨hjlt,s|||u,rfl,LU hsb hub,hs⟩
   .refine zz ?_;(repeat clear U K);repeat intro K U
    refine GK (Fj hs 1 (enc:=fun u:Nat=>[eU u]) (xs:=us) (x:=s) rfl (by omega) mR fun vu' Z hs hsl=>?_);have hs2u:=Gq hs 1 rfl
    conv=>whnf
    repeat'((first|clear U K|apply st|(apply zk;intro K U)|refine zY ?_|refine zs fun Z hs=>?_|fail)<;>conv=>whnf)
    refine⟨hlt,(vu',us++[s]),rfl,⟨by simp[hul],fun u hu=>?_⟩,hs.less (Mc _ _)⟩;rcases E4.1 hu with hu|hu
    .exact hus u hu
    .rw[LD.1 hu];exact hsb
  .have hs1u:=Gq hs 0 rfl
   refine zz ?_;(repeat clear U K);repeat intro K U
   replace hs:Sat Z (gH n0 mm vp vu (Iq g) us []):=hs.perm wk;refine B0 (Iq g).length (fun k (_:List Ord)=>[(96,eI (A8 k))]) (fun _ M=>gH n0 mm vp vu (Iq g) us M) (fun k M=>Ij g k M) [] rfl Ij.nil hs ?_;clear hs;rintro k M Z hk hkn hs;rcases BC (Iq g) hk with⟨⟨l,lb⟩,hl,hlt⟩|hke3
   .have hck:A8 k=k:=AO (by omega)
    obtain⟨b',hpa⟩:=ZO g (k:=k) (by omega);have hle:l=Aw g (k:Int):=by rw[hl]at hpa;exact(Prod.mk.inj (Option.some.inj hpa)).1
    have hll:=Cv hG (k:Int);rw[<-hle]at hll;have hlm: ∀p∈l,3<=p/\p<(k:Int):=fun p hp=>DR hG (by rw[<-hle];exact hp)
    have hlo:=cA hG hkn hll (fun x hx=>by have:=hlm x hx;omega);have hord:=iI n0 mm vp vu (Iq g) us M (A8 k) l lb (by omega) (by rw[hck,JP];exact hl) hll (fun c=>by have:=(L3 hG hkn c).1;omega) (fun e he=>by have:=hkn.keys e he;omega) hlo.1 hlo.2;refine zz ?_;(repeat clear U K);repeat intro K U
    refine hord.use (rest:=[]) (by simpa using hs) ?_;clear hs;rintro r post Z ⟨rfl,M',rfl,hM'⟩ hs;rw[Ip]at hs;rw[hck]at hM';refine zz ?_;(repeat clear U K);repeat intro K U
    exact⟨hlt,M',rfl,hkn.step hle (fun p hp=>by have:=hlm p hp;omega) (by omega) hM',hs⟩
   .refine zz ?_;(repeat clear U K);repeat intro K U
    exact Ak hs (List.Sublist.refl _) (.refl _) fun Z' hs'=>⟨_,⟨_,_,_,_,_,_,rfl,rfl,by rw[<-hpl,<-hke3];exact hkn⟩,hs'⟩
def vB {M:List Ord} {c:Int} {Z:AE} {fx:List At} (hs:Sat Z (fx++M.map dZ)) (hl:(B2 M c).length<=AY) (hne:B2 M c≠[]) {k kp:V->AE->Prop} (hk: ∀Z',Sat Z' (fx++M.map dZ)->k (.l (iL (B2 M c)) false) Z'):A3 zP 25 [Ix M c] Z (qk k kp):=by
 rcases PV M c with⟨h1,h2⟩|⟨j,hj⟩
 .exact absurd h1 hne
 .have hj':(fx++M.map dZ)[fx.length+j]? =some (At.own (Ix M c) 1 (iL (B2 M c))):=by
   rw[List.getElem?_append_right (by omega),Nat.add_sub_cancel_left,hj]
  have hcl:Bc zP 25 [Ix M c] [.own (Ix M c) 1 (iL (B2 M c))] fun r post=>r= .ret (.l (iL (B2 M c)) false)/\post= [.own (Ix M c) 1 (iL (B2 M c))]:=by
   clear hk hj' hj;generalize Ix M c=v at *;generalize B2 M c=l at *;intro Z hs;refine ed kZ ?_;have hgr:=C4 BZ l
   have hend: ∀ {Z:AE} {w u:V},Sat Z [.own w 1 (iL l),.own u 1 (iL l)]->Aq Z w fun r Z'=> ∃post,(r= .ret (.l (iL l) false)/\post= [.own u 1 (iL l)])/\Sat Z' post:=fun hs=>by
    obtain⟨Z2,h1,h2,h3⟩:=IZ hs 0 rfl;exact Gg h1 h2 ⟨_,⟨rfl,rfl⟩,h3⟩
   have hM:=Mx;rcases hs.get (i:=0) rfl with⟨rfl,_⟩|⟨n,cap,rfl,hn⟩
   .conv=>whnf
    repeat'((first|clear U K|apply st|(apply zk;intro K U)|fail)<;>conv=>whnf)
    refine⟨fun e=>absurd (List.map_eq_nil_iff.1 e) hne,fun _=>?_⟩;refine zz ?_;(repeat clear U K);repeat intro K U
    replace hs:=Cf hs 1;refine T6 hs 0 1 rfl rfl (by simp;omega) hgr.1 hgr.2 fun w Z hs=>?_
    refine zz ?_;(repeat clear U K);repeat intro K U
    exact hend hs
   .refine zz ?_;(repeat clear U K);repeat intro K U
    replace hs:=Cf hs 1;refine T6 hs 0 1 rfl rfl (by simp;omega) hgr.1 hgr.2 fun w Z hs=>?_
    refine zz ?_;(repeat clear U K);repeat intro K U
    exact hend hs
  refine hcl.oH (Φ:=fun r=>r= .ret (.l (iL (B2 M c)) false)) hs hj' ?_;rintro r Z' rfl hs';exact hk Z' hs'
def q9 (g:List (List Int)) (f:Bool) (c:Int) (hg:Dd g=true) (hc0:0<=c) (hc1:c<3+g.length) :
    Pure zP 261 [.l (Ee g) f,eI c] (if((Bz g).getD c.toNat []).isEmpty then .t [.l [] true,eI 7]else .t [.l (iL ((Bz g).getD c.toNat [])) false,eI 0]):=by
 have hop:=lX g f true c hg hc0 hc1;refine ti kZ ?_;have hs:=Sn;have hM:=Mx;have hG:=Dn hg
 conv=>whnf
 repeat'((first|clear U K|apply st|(apply zk;intro K U)|fail)<;>conv=>whnf)
 refine hop.use (rest:=[]) hs ?_;clear hs;rintro r post Z ⟨n,mm,vp,vu,us,M,rfl,rfl,hkn⟩ hs;rw[Ip]at hs;have hol:=(L3 hG hkn c).1;have hor:=hkn.dn c hc0 (by omega);by_cases hne:B2 M c= []
 .have hl0:(B2 M c).length=0:=by rw[hne];rfl
  conv=>whnf
  repeat'((first|clear U K|apply st|(apply zk;intro K U)|refine zY ?_|refine yL ?_|refine PW (fx:=_::_::_::_:: []) hs (by omega) ?_|(refine zb (fun hc=>?_) (fun hc=>?_)<;>try exact⟨⟩)|fail)<;>conv=>whnf)
  all_goals try(exfalso;omega)
  rw[<-hor,hne];exact AF rfl
 .have hl0:0<(B2 M c).length:=List.length_pos_iff.2 hne
  conv=>whnf
  repeat'((first|clear U K|apply st|(apply zk;intro K U)|refine zY ?_|refine yL ?_|refine PW (fx:=_::_::_::_:: []) hs (by omega) ?_|(refine zb (fun hc=>?_) (fun hc=>?_)<;>try exact⟨⟩)|fail)<;>conv=>whnf)
  all_goals try(exfalso;omega)
  refine vB (fx:=_::_::_::_:: []) hs (by omega) hne fun Z hs=>?_
  refine zz ?_;(repeat clear U K);repeat intro K U
  rw[<-hor]
  have:(B2 M c).isEmpty=false:=by
   cases h:(B2 M c).isEmpty
   .rfl
   .exact absurd (List.isEmpty_iff.1 h) hne
  rw[this];exact AF rfl
def eW (g:List (List Int)):Prop:=g.length<=60/\ ∀(i:Nat) (l:List Int),g[i]? =some l->l.length<=63/\l.Nodup/\ ∀c∈l,(3:Int)<=c/\c<3+(i:Int)
def iy {g:List (List Int)} (h:Ia g):eW g:=⟨by have:=h.1;omega,fun i l hi=>by
 obtain⟨h1,h2,h3⟩:=h.2 i l hi
 exact⟨by omega,h2,h3⟩⟩
def cL {g:List (List Int)} (h:eW g):ordered g:=fun c p hp=>by
 unfold par at hp;split at hp
 .cases hp
 .rename_i h3
  rw[DH]at hp;cases hx:g[c - 3]? with
  | none=>rw[hx]at hp;cases hp
  | some l=>
    rw[hx]at hp;have:=(h.2 _ _ hx).2.2 p hp;omega
def Dx (w:AI):Prop:=eW w.parents/\w.owner.length<=40/\ ∀o∈w.owner,(3:Int)<=o/\o<3+(w.parents.length:Int)
def XB (us:List Nat) (l:List Int) (s:Nat):Nat:=l.foldl (fun s c=>s|||us.getD c.toNat 0) s
def Cc (g:List (List Int)):Nat->List Nat
 | 0=>[1,3,5]
 | k+1=>Cc g k++[XB (Cc g k) (g.getD k []) (1|||2 ^ (3+k))]
def Ek (g:List (List Int)):List Nat:=Cc g g.length
def kL (us:List Nat):List V:=us.map eU++List.replicate (63 - us.length) (eU 0)
def wC (w:AI) (us:List Nat):List V:=A1 w++kL us
def Fy (g:List (List Int)): ∀k,(Cc g k).length=3+k
 | 0=>rfl
 | k+1=>by simp[Cc,Fy g k];omega
def er (w:AI) {us:List Nat} (h:us.length<=63):(wC w us).length=65:=by
 simp only[wC,A1,kL,RQ,LF,List.length_nil,BU,List.length_replicate];omega
def ep (w:AI) (us:List Nat) (s:Nat) (h:us.length<63):(wC w us).set (2+us.length) (eU s)=wC w (us++[s]):=by
 simp only[wC,kL];rw[List.set_append_right _ _ (by simp[A1])];congr 1;have e:2+us.length - (A1 w).length=us.length:=by simp[A1]
 rw[e,List.set_append_right _ _ (by simp)];rw[BU,Nat.sub_self,Uf,Wx];congr 1;rw[show 63 - us.length=(63 - (us++[s]).length)+1 by simp;omega,List.replicate_succ];rfl
def oG (w:AI) (us:List Nat) {i:Nat} (h:i<us.length):(wC w us)[2+i]? =some (eU (us.getD i 0)):=by
 simp only[wC,kL];rw[List.getElem?_append_right (by simp[A1]),show 2+i - (A1 w).length=i by simp[A1],jq (by simpa using h),Md,Cy h,DH,Cy h];rfl
def vw (us:List Nat):Prop:= ∀u∈us,u<18446744073709551616
def TP {us:List Nat} (h:vw us) (i:Nat):us.getD i 0<18446744073709551616:=by
 rw[DH];cases hx:us[i]? with
 | none=>simp
 | some x=>exact h x (B1 hx)
def Tn {us:List Nat} (h:vw us): ∀(l:List Int) (s:Nat),s<18446744073709551616->XB us l s<18446744073709551616
 | [],_,hs=>hs
 | c::r,s,hs=>Tn h r _ (LU hs (TP h _))
def Lt (g:List (List Int)): ∀k,k<=60->vw (Cc g k)
 | 0,_=>by intro u hu;simp[Cc]at hu;omega
 | k+1,hk=>by
   intro u hu;simp only[Cc,E4,LD]at hu;rcases hu with hu|rfl
   .exact Lt g k (by omega) u hu
   .exact Tn (Lt g k (by omega)) _ _ (LU (by decide) (KX (by omega)))
def qc (w:AI) (us:List Nat) (c:Int) {n:Nat} (hM:w.parents.length<=60):Bc zP 331 [.p n 0,eI c] [.box n (wC w us)] fun r post=>r= .ret (.b (decide (3<=c)&&decide (c<3+(w.parents.length:Int))))/\post= [.box n (wC w us)]:=by
 intro Z hs;have hw:IntKind.i64.wrap (3+((Ee w.parents).length:Nat))=3+(w.parents.length:Int):=by rw[BU,wrap64 (by omega) (by omega)]
 refine s5 kZ ?_
 conv=>whnf
 repeat'((first|apply st|(apply sq;intro K U)|(apply si;intro A B hA hB)|(refine hA _ _ ?_;clear hB B hA A)|(apply U;clear U K)|refine⟨rfl,?_⟩|refine ld ?_|(constructor<;>intro hc<;>(try rw[hc])<;>(replace hc:=bp hc))|fail)<;>conv=>whnf)
 .refine AU ⟨_,⟨?_,rfl⟩,hs⟩
  rw[hw,decide_eq_true (show 3<=c by omega)];rfl
 .refine AU ⟨_,⟨?_,rfl⟩,hs⟩
  rw[decide_eq_false (show¬3<=c by omega)];rfl
def jW (w:AI) (us:List Nat) (c:Int) (hM:w.parents.length<=60):Pure zP 367 [.rp (wC w us),eI c] (.b (Q7 w c)):=by
 have hw:IntKind.i64.wrap (3+((Ee w.parents).length:Nat))=3+(w.parents.length:Int):=by rw[BU,wrap64 (by omega) (by omega)]
 refine sY kZ ?_;have hs:=Sn
 conv=>whnf
 repeat'((first|apply st|(apply sq;intro K U)|(apply si;intro A B hA hB)|(refine hA _ _ ?_;clear hB B hA A)|(apply U;clear U K)|refine⟨rfl,?_⟩|(constructor<;>intro hc<;>(try rw[hc])<;>(replace hc:=bp hc))|fail)<;>conv=>whnf)
 .refine AF ?_
  rw[hw,Q7,decide_eq_true (show 0<=c by omega)];rfl
 .refine AF ?_
  rw[Q7,decide_eq_false (show¬0<=c by omega)];rfl
def k7 (w:AI) (us:List Nat) (c:Int) (hM:w.owner.length<=60):Pure zP 385 [.rp (wC w us),eI c] (.b (IU w c)):=by
 refine sP kZ ?_;have hs:=Sn
 conv=>whnf
 repeat'((first|apply st|(apply sq;intro K U)|(apply si;intro A B hA hB)|(refine hA _ _ ?_;clear hB B hA A)|(apply U;clear U K)|refine⟨rfl,?_⟩|(constructor<;>intro hc<;>(try rw[hc])<;>(replace hc:=bp hc))|fail)<;>conv=>whnf)
 .refine AF ?_
  rw[IU,decide_eq_true (show 0<=c by omega),BU];rfl
 .refine AF ?_
  rw[IU,decide_eq_false (show¬0<=c by omega)];rfl
def lS (w:AI) (us:List Nat) (l:List Int) (f:Bool) (hM:w.owner.length<=60):Pure zP 366 [.rp (wC w us),.l (iL l) f] (.b (E5 w l)):=by
 have hall:=nf (g:=385) (fi:=[.rp (wC w us)]) (ca:=[]) (f:=IU w) (xs:=l) f (fun y _=>k7 w us y hM);refine sZ kZ ?_;have hs:=Sn
 conv=>whnf
 repeat'((first|apply st|(apply sq;intro K U)|(apply si;intro A B hA hB)|(refine hA _ _ ?_;clear hB B hA A)|(apply U;clear U K)|refine⟨rfl,?_⟩|(constructor<;>intro hc<;>(try rw[hc])<;>(replace hc:=bp hc)<;>(try simp(disch:=omega) only[BU,wrap64,AO]at hc))|refine Pure.use (by assumption) ?_|fail)<;>conv=>whnf)
 .refine AF ?_
  rw[E5,decide_eq_true (show l.length<=2 by omega),Bool.and_true];rfl
 .refine AF ?_
  rw[E5,decide_eq_false (show¬l.length<=2 by omega),Bool.and_false];rfl
def HM (s:Nat) (c:Int) (hs0:s<18446744073709551616) (h0:0<=c) (hc:c<64):Pure zP 329 [eU s,eI c] (eU (s|||2 ^ c.toNat)):=by
 have:=Y7 s c.toNat hs0 (by omega);rw[Int.toNat_of_nonneg h0]at this;exact this
def up3 {k:Nat} (h:k<3):([1,3,5]:List Nat).take k++[1|||2 ^ k]= [1,3,5].take (k+1):=by
 rcases k with _|_|_|k
 .rfl
 .rfl
 .rfl
 .omega
def lY (w : AI) (hw:Dx w):Pure zP 298 [.a (A1 w)] (.t [.rp (wC w (Ek w.parents)),.b true]):=by
 obtain⟨⟨hl,hrow⟩,ho,how⟩:=hw;have hM:=Mx;refine Pure.of ?_;refine tP kZ ?_;have hs:=Sn;have hi1:((Ee w.parents).length:Int)<=60:=by rw[BU];omega
 have hi2:((iL w.owner).length:Int)<=40:=by rw[BU];omega
 conv=>whnf
 repeat'((first|apply st|(apply sq;intro K U)|(apply si;intro A B hA hB)|(refine hA _ _ ?_;clear hB B hA A)|(apply U;clear U K)|refine⟨rfl,?_⟩|refine⟨kZ,?_⟩|(constructor<;>intro hc<;>(try rw[hc])<;>(replace hc:=bp hc)<;>(try simp(disch:=omega) only[BU,wrap64,AO]at hc)<;>try(exfalso;omega))|(intro nn hnn;generalize hg:Bd _ nn _=Z;refine RX hg fun hs=>?_;clear hg)|fail)<;>conv=>whnf)
 generalize nn=n0 at *;refine B0 3 (fun k (_:Unit)=>[(24,eI (A8 k))]) (fun k _=>[.box n0 (wC w ([1,3,5].take k))]) (fun k _=>True) () rfl trivial hs ?_;clear hs;rintro k - Z hk - hs;have hck:A8 k=k:=AO (by omega);have hlen:(([1,3,5]:List Nat).take k).length=k:=by simp;omega
 by_cases hlt:k<3
 .have hst:=ep w ([1,3,5].take k) (1|||2 ^ k) (by omega)
  rw[hlen,up3 hlt]at hst
  conv=>whnf
  repeat'((first|apply st|(apply sq;intro K U)|(apply si;intro A B hA hB)|(refine hA _ _ ?_;clear hB B hA A)|(apply U;clear U K)|apply dr|refine⟨rfl,?_⟩|refine n8 ?_|refine Pure.use (HM 1 _ (by decide) (by omega) (by omega)) ?_|(constructor<;>intro hc<;>(try rw[hc])<;>(replace hc:=bp hc)<;>(try simp(disch:=omega) only[BU,wrap64,AO]at hc)<;>try(exfalso;omega))|fail)<;>conv=>whnf)
  refine Lh hs 0 rfl rfl (by rw[er w (by omega)];omega) fun Z hs=>?_
  conv=>whnf
  repeat'((first|(apply si;intro A B hA hB)|(refine hA _ _ ?_;clear hB B hA A)|(apply U;clear U K)|apply dr|refine⟨rfl,?_⟩|clear U K)<;>conv=>whnf)
  refine⟨hlt,(),rfl,trivial,?_⟩;rw[hck,JP,Nat.mul_one,Gj]at hs;simp only[List.set_cons_zero]at hs;rw[hst]at hs;exact hs
 .have hke:k=3:=by omega
  subst hke;clear hk hck hlen hlt
  conv=>whnf
  repeat'((first|apply st|(apply sq;intro K U)|(apply si;intro A B hA hB)|(refine hA _ _ ?_;clear hB B hA A)|(apply U;clear U K)|refine⟨rfl,?_⟩|(constructor<;>intro hc<;>(try rw[hc])<;>(replace hc:=bp hc)<;>(try simp(disch:=omega) only[BU,wrap64,AO]at hc)<;>try(exfalso;omega))|clear U K)<;>conv=>whnf)
  refine B0 w.parents.length (fun k (_:Unit)=>[(38,eI (A8 k))]) (fun k _=>[.box n0 (wC w (Cc w.parents k))]) (fun k _=>True) () rfl trivial hs ?_;clear hs;rintro k - Z hk - hs;have hck:A8 k=k:=AO (by omega);have hul:=Fy w.parents k;have huo:=Lt w.parents k (by omega);have hw3:IntKind.i64.wrap (3+(k:Int))=3+(k:Int):=wrap64 (by omega) (by omega);rcases BC w.parents hk with⟨row,hr,hlt⟩|hke
  .obtain⟨r1,r2,r3⟩:=hrow k row hr
   rw[<-hck]at hw3
   conv=>whnf
   repeat'((first|apply st|(apply sq;intro K U)|(apply si;intro A B hA hB)|(refine hA _ _ ?_;clear hB B hA A)|(apply U;clear U K)|refine⟨rfl,?_⟩|refine ix ?_|(refine Uc (fun hc=>?_)<;>(try rw[hc])<;>clear hc)|refine Pure.use (HM 1 _ (by decide) (by omega) (by omega)) ?_|fail)<;>conv=>whnf)
   have hbig:vw (Cc w.parents k):=huo;have hst0:IntKind.i64.wrap (3+A8 k)=3+(k:Int):=by rw[hck];exact wrap64 (by omega) (by omega)
   have hs0lt:1|||2 ^ (3+k)<18446744073709551616:=LU (by decide) (KX (by omega))
   have hs0e:1|||2 ^ (IntKind.i64.wrap (3+A8 k)).toNat=1|||2 ^ (3+k):=by rw[hst0,show(3+(k:Int)).toNat=3+k by omega]
   rw[hs0e];refine B0 row.length (fun j (s:Nat)=>[(48,eI (A8 j)),(8,eU s)]) (fun _ _=>[.box n0 (wC w (Cc w.parents k))]) (fun j s=>s=XB (Cc w.parents k) (row.take j) (1|||2 ^ (3+k))) (1|||2 ^ (3+k)) rfl rfl hs ?_;clear hs;rintro j s Z hj hse hs;rcases BC row hj with⟨c,hcj,hjlt⟩|hje
   .obtain⟨q1,q2⟩:=r3 c (B1 hcj)
    have hload:(wC w (Cc w.parents k))[0+2+c.toNat*1]? =some (eU ((Cc w.parents k).getD c.toNat 0)):=by
     have:=oG w (Cc w.parents k) (i:=c.toNat) (by omega);rw[<-this];congr 1;omega
    have hnc:(row.take j).contains c=false:=by
     rw[<-Bool.not_eq_true,List.contains_iff_mem];intro hm;obtain⟨i,hi,he⟩:=List.mem_iff_getElem.1 hm;have hi':i<j:=by rw[Mf]at hi;omega
     rw[List.getElem_take]at he;have hcj':=(IN.1 hcj).2;exact absurd ((List.getElem_inj r2).1 (he.trans hcj'.symm)) (by omega)
    have hct: ∀b,Pure zP 206 [.l (iL (row.take j)) b,eI c] (.b false):=fun b=>by
     have:=Dp (row.take j) b c
     rwa [hnc]at this
    conv=>whnf
    repeat'((first|apply st|(apply sq;intro K U)|(apply si;intro A B hA hB)|(refine hA _ _ ?_;clear hB B hA A)|(apply U;clear U K)|refine⟨rfl,?_⟩|refine ix ?_|refine xp ?_|refine n8 ?_|refine ld ?_|refine Ox ?_|(refine Uc (fun hc=>?_)<;>(try rw[hc])<;>clear hc)|refine Pure.use (hct _) ?_|(rw[hload])|(constructor<;>intro hc<;>(try rw[hc])<;>(replace hc:=bp hc)<;>(try simp(disch:=omega) only[BU,wrap64,AO]at hc)<;>try(exfalso;omega))|clear U K)<;>conv=>whnf)
    refine⟨hjlt,s|||(Cc w.parents k).getD c.toNat 0,?_,?_,hs⟩
    .have hsl:s<18446744073709551616:=by rw[hse];exact Tn huo _ _ hs0lt
     rw[Lq hsl (TP huo _)];rfl
    .rw[hse,AL hcj]
     simp only[XB,List.foldl_append];rfl
   .conv=>whnf
    repeat'((first|apply st|(apply sq;intro K U)|(apply si;intro A B hA hB)|(refine hA _ _ ?_;clear hB B hA A)|(apply U;clear U K)|refine⟨rfl,?_⟩|refine n8 ?_|(refine de (fun hc=>?_)<;>(try rw[hc])<;>clear hc)|clear U K)<;>conv=>whnf)
    refine Lh hs 0 rfl rfl (by rw[er w (by omega),hst0];omega) fun Z hs=>?_
    conv=>whnf
    repeat'((first|(apply si;intro A B hA hB)|(refine hA _ _ ?_;clear hB B hA A)|(apply U;clear U K)|refine⟨rfl,?_⟩|clear U K)<;>conv=>whnf)
    refine⟨hlt,(),rfl,trivial,?_⟩
    have e:Cc w.parents (k+1)=Cc w.parents k++[s]:=by
     rw[hse,Cc,DH,hr,hje,List.take_length];rfl
    have hst:=ep w (Cc w.parents k) s (by omega);rw[e,<-hst];have e2:0+2+(IntKind.i64.wrap (3+A8 k)).toNat*1=2+(Cc w.parents k).length:=by rw[hst0,hul];omega
    rw[e2]at hs;exact hs
  .have hown:=gM 331 [.p n0 0] [] (fun _=>[.box n0 (wC w (Cc w.parents k))]) (U4 fun c=>decide (3<=c)&&decide (c<3+(w.parents.length:Int))) (fun _ _=>True) (fun y s _ Z hs=>By (A3.mono (qc w (Cc w.parents k) y (by omega) Z hs) (by
    rintro r Z' ⟨post,⟨h1,h2⟩,h3⟩;subst h2
    exact⟨h1,h3⟩))) w.owner false () (Gw fun _ _ _=>trivial)
   rw[Jt]at hown
   have hall:(w.owner.all fun c=>decide (3<=c)&&decide (c<3+(w.parents.length:Int)))=true:=by
    rw[E3];intro o hoo;have:=how o hoo;simp only[BD,CN];exact this
   rw[hall]at hown
   conv=>whnf
   repeat'((first|apply st|(apply sq;intro K U)|(apply si;intro A B hA hB)|(refine hA _ _ ?_;clear hB B hA A)|(apply U;clear U K)|refine⟨rfl,?_⟩|(refine de (fun hc=>?_)<;>(try rw[hc])<;>clear hc)|clear U K)<;>conv=>whnf)
   refine hown.use (rest:=[]) hs ?_;rintro r post Z ⟨rfl,rfl⟩ hs
   conv=>whnf
   repeat'((first|apply st|(refine hA _ _ ?_;clear hB B hA A)|(apply U;clear U K)|fail)<;>conv=>whnf)
   rw[hke]at hs;exact Gg (Z2:=emp) (fun n o ho=>by cases ho) (.t (.cons (hs.ye 0 rfl (.refl _ _ _)) (.cons (.refl _) .nil))) rfl
end Go.Gl
