import Derived.Test.YtnidfcmdimehdaaGreatV14
import Derived.Test.YtnidfcmdimehdaaGreatV21
import Derived.Test.YtnidfcmdimehdaaGreatV22
import Derived.Test.YtnidfcmdimehdaaGreatV23
import Derived.Test.YtnidfcmdimehdaaGreatV24
set_option linter.all false
set_option linter.defProp false
set_option maxHeartbeats 8000000
noncomputable section
namespace Go.Gl
abbrev CE (a:Int) (p:List Int):V:= .a [eI a,eI (p.length:Int),eI (p.getD 0 0),eI (p.getD 1 0)]
structure B2 where
 a:Int
 p:List Int
 b:Nat
 vn:V
 vs:V
 k:Kn
abbrev B2.is (e:B2) (a:Int) (p:List Int):Bool:=e.a==a&&e.p==p
abbrev entC (b:Nat) (vn vs:V) (k:Kn):At:= .box b [eI k.low,eI k.high,vn,eU k.BS,eU k.Dt,.b k.whole,.b k.AZ,vs]
abbrev sD (b:Nat) (vn vs:V) (k:Kn):List At:=[entC b vn vs k,.own vn 1 (iL k.no),.own vs 1 (iL k.AF)]
abbrev Vs (e:B2):List At:=sD e.b e.vn e.vs e.k
def TW (es:List B2):List (V×V):=es.map fun e=>(CE e.a e.p,.p e.b 0)
def CH (L:Nat) (es:List B2):List At:= .map L (TW es)::es.flatMap Vs
def Hq (L:Nat) (es pre post:List B2):List At:= .map L (TW es)::(pre++post).flatMap Vs
def GY {e:B2} {a:Int} {p:List Int}:e.is a p=true↔e.a=a/\e.p=p:=by simp[B2.is]
def PW {e:B2} {a:Int} {p:List Int}:e.is a p=false↔ ¬(e.a=a/\e.p=p):=by rw[<-GY,Bool.not_eq_true]
def T3 {a a':Int} {p p':List Int} (h:p.length<=2) (h':p'.length<=2):Dz (CE a p) (CE a' p')=(a==a'&&p==p'):=by
 have e:Dz (CE a p) (CE a' p')=(a==a'&&((p.length:Int)==p'.length&&(p.getD 0 0==p'.getD 0 0&&(p.getD 1 0==p'.getD 1 0)))):=by
  simp[Dz,Bt,CE]
 rw[e];congr 1
 match p,h,p',h' with
 | [],_,[],_=>rfl
 | [],_,[_],_=>simp
 | [],_,[_,_],_=>simp<;>omega
 | [_],_,[],_=>simp
 | [x],_,[y],_=>simp
 | [_],_,[_,_],_=>simp<;>omega
 | [_,_],_,[],_=>simp<;>omega
 | [_,_],_,[_],_=>simp<;>omega
 | [x,y],_,[z,u],_=>simp
def H6 (es:List B2): ∀kv∈TW es,BQ (.a [.i64,.i64,.i64,.i64]) kv.1=true:=by
 intro kv h;obtain⟨e,_,rfl⟩:=Hc.1 h;rfl
def QU {a:Int} {p:List Int} (hp:p.length<=2): ∀ {es:List B2},(∀e∈es,e.p.length<=2)->(∀e∈es,e.is a p=false)->Ch (CE a p) (TW es)=none
 | [],_,_=>rfl
 | e ::r,hl,h=>by
   have he:=h e (.head _);rw[TW,EZ,Ch,T3 hp (hl e (.head _))]
   have:(a==e.a&&p==e.p)=false:=by
    rw[<-he,B2.is,Hb];simp only[A4,C1];exact⟨fun⟨h1,h2⟩=>⟨h1.symm,h2.symm⟩,fun⟨h1,h2⟩=>⟨h1.symm,h2.symm⟩⟩
   rw[this,cond_false];exact QU hp (fun x hx=>hl x (.tail _ hx)) (fun x hx=>h x (.tail _ hx))
def YM {a:Int} {p:List Int} (hp:p.length<=2) (b:Nat) (vn vs:V) (k:Kn): ∀ {es:List B2},(∀e∈es,e.p.length<=2)->(∀e∈es,e.is a p=false)->DU (CE a p) (.p b 0) (TW es)=TW (es++[⟨a,p,b,vn,vs,k⟩])
 | [],_,_=>rfl
 | e ::r,hl,h=>by
   have he:=h e (.head _);have ih:=YM hp b vn vs k (fun x hx=>hl x (.tail _ hx)) (fun x hx=>h x (.tail _ hx));simp only[TW]at ih;rw[TW,EZ,DU,T3 hp (hl e (.head _))]
   have:(a==e.a&&p==e.p)=false:=by
    rw[<-he,B2.is,Hb];simp only[A4,C1];exact⟨fun⟨h1,h2⟩=>⟨h1.symm,h2.symm⟩,fun⟨h1,h2⟩=>⟨h1.symm,h2.symm⟩⟩
   rw[this,cond_false,ih];rfl
def QT {a:Int} {p:List Int} (hp:p.length<=2) {e:B2} (he:e.is a p=true) {post:List B2}: ∀ {pre:List B2},(∀x∈pre++e::post,x.p.length<=2)->(∀x∈pre,x.is a p=false)->Ch (CE a p) (TW (pre++e::post))=some (.p e.b 0)
 | [],hl,_=>by
   rw[List.nil_append,TW,EZ,Ch,T3 hp (hl e (.head _))];obtain⟨h1,h2⟩:=GY.1 he;rw[h1,h2];simp
 | x ::r,hl,h=>by
   have hx:=h x (.head _);rw[List.cons_append,TW,EZ,Ch,T3 hp (hl x (.head _))]
   have:(a==x.a&&p==x.p)=false:=by
    rw[<-hx,B2.is,Hb];simp only[A4,C1];exact⟨fun⟨h1,h2⟩=>⟨h1.symm,h2.symm⟩,fun⟨h1,h2⟩=>⟨h1.symm,h2.symm⟩⟩
   rw[this,cond_false];exact QT hp he (fun y hy=>hl y (.tail _ hy)) (fun y hy=>h y (.tail _ hy))
def gA (a : Int) (p:List Int): ∀(es:List B2),(∀e∈es,e.is a p=false)\/ ∃pre e post,es=pre++e::post/\e.is a p=true/\ ∀x∈pre,x.is a p=false
 | []=> .inl fun _ h=>by cases h
 | e ::r=>by
   cases h:e.is a p with
   | true=>exact .inr ⟨[],e,r,rfl,h,fun _ h=>by cases h⟩
   | false=>
     rcases gA a p r with h1|⟨pre,x,post,rfl,h1,h2⟩
     .exact .inl fun x hx=>by
       rcases Fg.1 hx with rfl|hx
       .exact h
       .exact h1 x hx
     .exact .inr ⟨e::pre,x,post,rfl,h1,fun y hy=>by
       rcases Fg.1 hy with rfl|hy
       .exact h
       .exact h2 y hy⟩
def Wm (L:Nat) (pre post:List B2) (e:B2):(CH L (pre++e::post)).Perm (Vs e++Hq L (pre++e::post) pre post):=by
 unfold CH Hq;rw[List.flatMap_append,List.flatMap_cons,List.flatMap_append];refine List.Perm.trans ?_ (List.perm_middle.symm);refine List.Perm.cons _ ?_;rw[<-Ph,<-Ph];exact List.Perm.append_right _ PH
def RA {pre post:List B2} {e e':B2} (h1:e'.a=e.a) (h2:e'.p=e.p) (h3:e'.b=e.b):TW (pre++e'::post)=TW (pre++e::post):=by
 simp only[TW,VB,EZ,h1,h2,h3]
def Ut {L:Nat} {pre post:List B2} {e e':B2} (h1:e'.a=e.a) (h2:e'.p=e.p) (h3:e'.b=e.b):Hq L (pre++e'::post) pre post=Hq L (pre++e::post) pre post:=by
 rw[Hq,Hq,RA h1 h2 h3]
structure Bv (kf:Int->List Int->Kn) (es:List B2):Prop where
 val: ∀e∈es,e.k=kf e.a e.p
 HY: ∀a p,(∀e∈es,e.is a p=false)->kf a p=k0
 one:es.Pairwise fun e e'=>e.is e'.a e'.p=false
 len: ∀e∈es,e.p.length<=2
def SO (es:List B2):Prop:= ∀e∈es,∀s∈e.k.AF,∃e'∈es,e'.is e.a (e.p++[s])=true
def Bv.congr {kf kf':Int->List Int->Kn} {es:List B2} (h:Bv kf es) (e: ∀a p,kf a p=kf' a p):Bv kf' es:=
 ⟨fun x hx=>(h.val x hx).trans (e _ _),fun a p hp=>(e a p).symm.trans (h.HY a p hp),h.one,h.len⟩
def Bv.add {kf:Int->List Int->Kn} {es:List B2} (h:Bv kf es) {a:Int} {p:List Int} (hp:p.length<=2) (hn: ∀e∈es,e.is a p=false) (b:Nat) (vn vs:V):Bv kf (es++[⟨a,p,b,vn,vs,k0⟩]):=by
 refine⟨fun x hx=>?_,fun a' p' h'=>h.HY a' p' fun x hx=>h' x (OT _ hx),?_,fun x hx=>?_⟩
 .rcases Ds.1 hx with hx|hx
  .exact h.val x hx
  .rw[Lu.1 hx];exact(h.HY a p hn).symm
 .rw[List.pairwise_append]
  exact⟨h.one,List.pairwise_singleton _ _,fun x hx y hy=>by rw[Lu.1 hy];exact hn x hx⟩
 .rcases Ds.1 hx with hx|hx
  .exact h.len x hx
  .rw[Lu.1 hx];exact hp
def SO.add {es:List B2} (h:SO es) {a:Int} {p:List Int} (b:Nat) (vn vs:V):SO (es++[⟨a,p,b,vn,vs,k0⟩]):=by
 intro e he s hs;rcases Ds.1 he with he|he
 .obtain⟨e',h1,h2⟩:=h e he s hs
  exact⟨e',OT _ h1,h2⟩
 .rw[Lu.1 he]at hs
  cases hs
def NS (kf:Int->List Int->Kn) (a:Int) (p:List Int) (k:Kn):Int->List Int->Kn:=fun a' p'=>if a'=a/\p'=p then k else kf a' p'
def Bv.change {kf:Int->List Int->Kn} {pre post:List B2} {e:B2} (h:Bv kf (pre++e::post)) (b:Nat) (vn vs:V) (k:Kn):Bv (NS kf e.a e.p k) (pre++⟨e.a,e.p,b,vn,vs,k⟩::post):=by
 have h1:=h.one;rw[List.pairwise_append,List.pairwise_cons]at h1;obtain⟨o1,⟨o2,o3⟩,o4⟩:=h1;refine⟨fun x hx=>?_,fun a p hp=>?_,?_,fun x hx=>?_⟩
 .rw [NS]
  rcases Ds.1 hx with hx|hx
  .rw[if_neg]
   .exact h.val x (OT _ hx)
   .have:=o4 x hx e (.head _)
    rw[PW]at this;exact this
  .rcases Fg.1 hx with rfl|hx
   .rw[if_pos ⟨rfl,rfl⟩]
   .rw[if_neg]
    .exact h.val x (NO _ (.tail _ hx))
    .have:=o2 x hx
     rw[PW]at this;exact fun⟨q1,q2⟩=>this ⟨q1.symm,q2.symm⟩
 .have he:=PW.1 (hp _ (NO _ (.head _)))
  rw[NS,if_neg (fun⟨q1,q2⟩=>he ⟨q1.symm,q2.symm⟩)];refine h.HY a p fun x hx=>?_
  rcases Ds.1 hx with hx|hx
  .exact hp x (OT _ hx)
  .rcases Fg.1 hx with rfl|hx
   .exact PW.2 he
   .exact hp x (NO _ (.tail _ hx))
 .rw[List.pairwise_append,List.pairwise_cons]
  refine⟨o1,⟨o2,o3⟩,fun x hx y hy=>?_⟩;rcases Fg.1 hy with rfl|hy
  .exact o4 x hx e (.head _)
  .exact o4 x hx y (.tail _ hy)
 .rcases Ds.1 hx with hx|hx
  .exact h.len x (OT _ hx)
  .rcases Fg.1 hx with rfl|hx
   .exact h.len e (NO _ (.head _))
   .exact h.len x (NO _ (.tail _ hx))
def SO.change {pre post:List B2} {e:B2} (h:SO (pre++e::post)) (b:Nat) (vn vs:V) (k:Kn) (hs: ∀s∈k.AF,s∈e.k.AF\/ ∃e'∈pre++e::post,e'.is e.a (e.p++[s])=true):SO (pre++⟨e.a,e.p,b,vn,vs,k⟩::post):=by
 have mov: ∀ {a p},(∃e'∈pre++e::post,e'.is a p=true)-> ∃e'∈pre++(⟨e.a,e.p,b,vn,vs,k⟩:B2)::post,e'.is a p=true:=by
  rintro a p ⟨x,hx,h'⟩;rcases Ds.1 hx with hx|hx
  .exact⟨x,OT _ hx,h'⟩
  .rcases Fg.1 hx with rfl|hx
   .exact⟨_,NO _ (.head _),h'⟩
   .exact⟨x,NO _ (.tail _ hx),h'⟩
 intro x hx s hxs;rcases Ds.1 hx with hx|hx
 .exact mov (h x (OT _ hx) s hxs)
 .rcases Fg.1 hx with rfl|hx
  .rcases hs s hxs with h'|h'
   .exact mov (h e (NO _ (.head _)) s h')
   .exact mov h'
  .exact mov (h x (NO _ (.tail _ hx)) s hxs)
def Dl (f:Fact) (c:Bool) (j:Nat) (a:Int) (p:List Int) (k:Kn):Kn:=
 if f.arg=a/\Bj f.path p=true then(if p.length<j then fG (Bz k c) (f.path.getD p.length 0)else if p.length=j then Bz k c else k)else k
def HD {path p:List Int}:Bj path p=true↔p.length<=path.length/\p=path.take p.length:=by
 rw[B1];constructor
 .rintro⟨t,rfl⟩
  exact⟨by simp,by simp⟩
 .rintro⟨h1,h2⟩
  exact⟨path.drop p.length,by conv=>rhs;rw[h2,Lv,Nat.min_eq_left h1,List.take_append_drop]⟩
def oH (f:Fact) (c:Bool) (a:Int) (p:List Int) (k:Kn):Dl f c 0 a p k=if a=f.arg/\p= []then Bz k c else k:=by
 unfold Dl;by_cases h:f.arg=a/\Bj f.path p=true
 .rw[if_pos h,if_neg (by omega)]
  by_cases hp:p.length=0
  .rw[if_pos hp,if_pos ⟨h.1.symm,Xy.1 hp⟩]
  .rw[if_neg hp,if_neg (fun h'=>hp (by rw[h'.2];rfl))]
 .rw[if_neg h,if_neg]
  rintro⟨rfl,rfl⟩;exact h ⟨rfl,B1.2 ⟨f.path,by simp⟩⟩
def oI (f:Fact) (c:Bool) {j:Nat} (hj:j<f.path.length) (a:Int) (p:List Int) (k:Kn):Dl f c (j+1) a p k=if a=f.arg/\p=f.path.take (j+1)then Bz (Dl f c j a p k) c else if a=f.arg/\p=f.path.take j then fG (Dl f c j a p k) (f.path.getD j 0)else Dl f c j a p k:=by
 unfold Dl;by_cases h:f.arg=a/\Bj f.path p=true
 .rw [if_pos h,if_pos h]
  obtain⟨h1,h2⟩:=h;rw[HD]at h2;obtain⟨h2,h3⟩:=h2;have l1:p=f.path.take (j+1)↔p.length=j+1:=⟨fun e=>by rw[e,Lv];omega,fun e=>by rw[e]at h3;exact h3⟩
  have l2:p=f.path.take j↔p.length=j:=⟨fun e=>by rw[e,Lv];omega,fun e=>by rw[e]at h3;exact h3⟩
  have n1:p.length≠j+1-> ¬(a=f.arg/\p=f.path.take (j+1)):=fun h h'=>h (l1.1 h'.2)
  have n2:p.length≠j-> ¬(a=f.arg/\p=f.path.take j):=fun h h'=>h (l2.1 h'.2)
  by_cases q1:p.length<j
  .rw[if_pos (show p.length<j+1 by omega),if_neg (n1 (by omega)),if_neg (n2 (by omega)),if_pos q1]
  .by_cases q2:p.length=j
   .rw[if_pos (show p.length<j+1 by omega),if_neg (n1 (by omega)),if_pos (show a=f.arg/\p=f.path.take j from⟨h1.symm,l2.2 q2⟩),if_neg q1,if_pos q2,q2]
   .by_cases q3:p.length=j+1
    .rw[if_neg (show¬p.length<j+1 by omega),if_pos q3,if_pos (show a=f.arg/\p=f.path.take (j+1) from⟨h1.symm,l1.2 q3⟩),if_neg q1,if_neg q2]
    .rw[if_neg (show¬p.length<j+1 by omega),if_neg q3,if_neg (n1 q3),if_neg (n2 q2),if_neg q1,if_neg q2]
 .rw[if_neg h,if_neg h,if_neg,if_neg]
  .rintro⟨rfl,rfl⟩
   exact h ⟨rfl,B1.2 ⟨f.path.drop j,by rw[List.take_append_drop]⟩⟩
  .rintro⟨rfl,rfl⟩
   exact h ⟨rfl,B1.2 ⟨f.path.drop (j+1),by rw[List.take_append_drop]⟩⟩
def tY (a : Int) (p:List Int) (k:Kn) (l:Fact):C2 a p k l=if a=(Ah l).1.arg/\p=(Ah l).1.path then By (Dl (Ah l).1 (Ah l).2 (Ah l).1.path.length a p k) (Ah l).1 (Ah l).2 else Dl (Ah l).1 (Ah l).2 (Ah l).1.path.length a p k:=by
 unfold C2 Dl;by_cases h:(Ah l).1.arg=a/\Bj (Ah l).1.path p=true
 .rw [if_pos h,if_pos h]
  obtain⟨h1,h2⟩:=h;rw[HD]at h2;obtain⟨h2,h3⟩:=h2;by_cases hp:(Ah l).1.path=p
  .rw[if_pos hp,if_pos ⟨h1.symm,hp.symm⟩,if_neg (by rw[hp];omega),if_pos (by rw[hp])]
  .have hne:p.length<(Ah l).1.path.length:=by
    rcases Nat.lt_or_ge p.length (Ah l).1.path.length with h'|h'
    .exact h'
    .rw[List.take_of_length_le h']at h3
     exact absurd h3.symm hp
   rw[if_neg hp,if_neg (fun h=>hp h.2.symm),if_pos hne]
 .rw[if_neg h,if_neg h,if_neg]
  rintro⟨rfl,rfl⟩;exact h ⟨rfl,Jz _⟩
def oK (ls:List Fact) (l:Fact) (a:Int) (p:List Int):kn (ls++[l]) a p=C2 a p (kn ls a p) l:=by
 rw[kn,List.foldl_append];rfl
def TP (l:List Int) (s:Int):(JE l s).length<=l.length+1:=by
 unfold JE;split
 .omega
 .rw[List.length_mergeSort];simp
def Rc (k:Kn) (f:Fact) (b:Bool):(By k f b).no.length<=k.no.length+1:=by
 unfold By
 repeat' split
 all_goals simp
def iB (a:Int) (p:List Int): ∀(ls:List Fact) (k:Kn),(ls.foldl (C2 a p) k).no.length<=k.no.length+ls.length/\(ls.foldl (C2 a p) k).AF.length<=k.AF.length+ls.length
 | [],k=>⟨IS _,IS _⟩
 | l ::r,k=>by
   obtain⟨h1,h2⟩:=iB a p r (C2 a p k l)
   have h3:(C2 a p k l).no.length<=k.no.length+1/\(C2 a p k l).AF.length<=k.AF.length+1:=by
    unfold C2
    repeat' split
    .have:=Rc (Bz k (Ah l).2) (Ah l).1 (Ah l).2
     rw[IP];simp only[Bz]at this ⊢;omega
    .have:=TP k.AF ((Ah l).1.path.getD p.length 0)
     simp only[fG,Bz]at this ⊢;omega
    .omega
   rw[List.foldl_cons,NM];omega
def oL {n:Nat} {ls:List Fact} (h:Gv n ls) (a:Int) (p:List Int):(kn ls a p).BS<2 ^ n/\(kn ls a p).Dt<2 ^ n:=by
 have hc:=MI ls a p;simp only[DV,Prod.mk.injEq]at hc;have hc2:Gv n (ls.filter (Kp a p)):=fun l hl=>h l (Kj.1 hl).1
 rw[hc.2.2.2.1,hc.2.2.2.2.1];exact⟨MH hc2,gr hc2⟩
end Go.Gl
namespace Go.Gl
open Go.Proofs
attribute [local irreducible] Av An Af AQ AL Ac AP AS AK Ab AN AO As A3 Sat AV A0 Ag W
abbrev VD (w:AG) (us:List Nat) (L:Nat):V:= .rp [.rp (wC w us),.m L]
def Ko (es es':List B2):Prop:= ∃new:List B2,es'=es++new/\ ∀x∈new,x.k=k0
def Ko.refl (es:List B2):Ko es es:=⟨[],by simp,by simp⟩
def Ko.trans {a b c:List B2} (h1:Ko a b) (h2:Ko b c):Ko a c:=by
 obtain⟨x,rfl,hx⟩:=h1;obtain⟨y,rfl,hy⟩:=h2;refine⟨x++y,by simp,fun z hz=>?_⟩;rcases Ds.1 hz with h|h
 .exact hx z h
 .exact hy z h
def Ko.mem {a b:List B2} (h:Ko a b) {e:B2} (he:e∈a):e∈b:=by
 obtain⟨x,rfl,_⟩:=h;exact OT _ he
structure mg (kf:Int->List Int->Kn) (es es':List B2) (a:Int) (p:List Int) (e:B2):Prop where
 inv:Bv kf es'
 ext:Ko es es'
 mem:e∈es'
 is:e.is a p=true
def mg.k {kf:Int->List Int->Kn} {es es':List B2} {a:Int} {p:List Int} {e:B2} (h:mg kf es es' a p e):e.k=kf a p:=by
 have:=h.inv.val e h.mem;obtain⟨h1,h2⟩:=GY.1 h.is;rw[this,h1,h2]
def Nl {Z:AE} {l:List At} (h:Sat Z l) (i:Nat) {n:Nat} {kvs:List (V×V)} {ks:KS} {z vk:V} {ok:Bool} {o:Option V} (hi:l[i]? =some (.map n kvs)) (hk:BQ ks vk=true) (hks: ∀kv∈kvs,BQ ks kv.1=true) (hf:Ch vk kvs=o) {K:V->Prop} (h':K (found z ok o)) :
    AN Z ks z ok (.m n) vk K:=J8 h i hi hk hks (hf ▸ h')
def MA (w:AG) (us:List Nat) {kf:Int->List Int->Kn} {L:Nat} {es:List B2} (h:Bv kf es) {a:Int} {p:List Int} (hp:p.length<=2) :
    BO zP 134 [VD w us L,CE a p] (CH L es) fun r post=> ∃es' e,mg kf es es' a p e/\r= .ret (.p e.b 0)/\post=CH L es':=by
 intro Z hs;refine pW kZ ?_;unfold CH at hs;rcases gA a p es with hn|⟨pre,e,post,rfl,he,hpre⟩
 .have hf:=QU hp h.len hn
  conv=>whnf
  repeat'((first|clear U K|apply st|(apply zk;intro K U)|refine zY ?_|refine Nl hs 0 rfl rfl (H6 _) hf ?_|refine Ic hs 1 rfl rfl (H6 _) fun Z hs=>?_|refine zo fun nn hnn Z hs=>?_|fail)<;>conv=>whnf)
  simp only[List.set_cons_succ,List.set_cons_zero]at hs;change Sat Z (_:: .map L (DU (CE a p) (.p nn 0) (TW es))::_)at hs;rw[YM hp nn (.l [] true) (.l [] true) k0 h.len hn]at hs;have hs2:=DF (DF hs 1) 1;refine AH ⟨_,⟨es++[⟨a,p,nn,.l [] true,.l [] true,k0⟩],⟨a,p,nn,.l [] true,.l [] true,k0⟩,⟨h.add hp hn _ _ _,⟨_,rfl,by simp⟩,by simp,by simp[B2.is]⟩,rfl,rfl⟩,?_⟩;unfold CH;rw[List.flatMap_append,List.flatMap_cons,List.flatMap_nil,FE];refine hs2.perm ((List.perm_middle (l₁:=[_,_,_])).trans (.cons _ (PH.trans (List.Perm.append_left _ (List.reverse_perm _).symm))))
 .have hf:=QT hp he h.len hpre
  conv=>whnf
  repeat'((first|clear U K|apply st|(apply zk;intro K U)|refine zY ?_|refine Nl hs 0 rfl rfl (H6 _) hf ?_|fail)<;>conv=>whnf)
  exact AH ⟨_,⟨_,e,⟨h,.refl _,by simp,he⟩,rfl,rfl⟩,hs⟩
def PU (a:Int) (p:List Int) (s:Int) (hp:p.length<2):Pure zP 135 [CE a p,eI s] (CE a (p++[s])):=by
 refine wc kZ ?_;have hs:=Sn
 match p,hp with
 | [],_=>
   exact zW
 | [x],_=>
   exact zW
def xP {b:Nat} {vn vs:V} {k:Kn} (f:Fact) (c:Bool) (hl:f.op=2\/f.op=3\/f.op=4) (hc:f.op=2->0<=f.cls/\f.cls<64) (hm:k.BS<18446744073709551616) (hn:k.Dt<18446744073709551616) (hno:k.no.length<1000000) (hN: -1000000000<=f.n/\f.n<=1000000000) :
    BO zP 191 [.p b 0,.a (xF f++[.b c])] (sD b vn vs k) fun r post=>r= .ret (.t [])/\ ∃vn',post=sD b vn' vs (By k f c):=by
 intro Z hs;have hM:=Mx;refine vj kZ ?_;rw[show xF f++[V.b c]= [eI f.op,eI f.arg,.l (iL f.path) false,eI f.cls,eI f.n,.l (f.kids.map Fm) false,.b c] from rfl];have hw:IntKind.i64.wrap (f.n - 1)=f.n - 1:=wrap64 (by omega) (by omega);cases c<;>rcases hl with h2|h3|h4
 .have hE:By k f false= {k with BS:=k.BS|||2 ^ f.cls.toNat}:=by rw[By,if_pos h2,if_neg Bool.false_ne_true]
  rw[hE]
  conv=>whnf
  repeat'((first|clear U K|apply st|(apply zk;intro K U)|refine zY ?_|refine zs fun Z hs=>?_|refine Pure.use (Hy _ _ hm (by omega) (by omega)) ?_|(refine zb (fun hc=>?_) (fun hc=>?_)<;>try exact⟨⟩)|fail)<;>conv=>whnf)
  exact AH ⟨_,⟨rfl,vn,rfl⟩,hs⟩
 .have hE:By k f false= {k with high:=if f.n - 1<k.high then f.n - 1 else k.high,whole:=true}:=by rw[By,if_neg (by omega),if_pos h3,if_neg Bool.false_ne_true]
  rw[hE]
  conv=>whnf
  repeat'((first|clear U K|apply st|(apply zk;intro K U)|refine zY ?_|refine zs fun Z hs=>?_|(refine zb (fun hc=>?_) (fun hc=>?_)<;>try exact⟨⟩)|fail)<;>conv=>whnf)
  rw[hw]at hs;exact AH ⟨_,⟨rfl,vn,rfl⟩,hs⟩
 .have hE:By k f false= {k with low:=if f.n > k.low then f.n else k.low,high:=if f.n<k.high then f.n else k.high,whole:=true}:=by rw[By,if_neg (by omega),if_neg (by omega),if_neg Bool.false_ne_true]
  rw[hE]
  conv=>whnf
  repeat'((first|clear U K|apply st|(apply zk;intro K U)|refine zY ?_|refine rk ?_ ?_|exact fun s e=>by cases e;rfl|refine zs fun Z hs=>?_|(refine zb (fun hc=>?_) (fun hc=>?_)<;>try exact⟨⟩)|fail)<;>conv=>whnf)
  exact AH ⟨_,⟨rfl,vn,rfl⟩,hs⟩
 .have hE:By k f true= {k with Dt:=k.Dt|||2 ^ f.cls.toNat}:=by rw[By,if_pos h2,if_pos rfl]
  rw[hE]
  conv=>whnf
  repeat'((first|clear U K|apply st|(apply zk;intro K U)|refine zY ?_|refine zs fun Z hs=>?_|refine Pure.use (Hy _ _ hn (by omega) (by omega)) ?_|(refine zb (fun hc=>?_) (fun hc=>?_)<;>try exact⟨⟩)|fail)<;>conv=>whnf)
  exact AH ⟨_,⟨rfl,vn,rfl⟩,hs⟩
 .have hE:By k f true= {k with low:=if f.n > k.low then f.n else k.low}:=by rw[By,if_neg (by omega),if_pos h3,if_pos rfl]
  rw[hE]
  conv=>whnf
  repeat'((first|clear U K|apply st|(apply zk;intro K U)|refine zY ?_|refine zs fun Z hs=>?_|(refine zb (fun hc=>?_) (fun hc=>?_)<;>try exact⟨⟩)|fail)<;>conv=>whnf)
  exact AH ⟨_,⟨rfl,vn,rfl⟩,hs⟩
 .have hE:By k f true= {k with no:=k.no++[f.n]}:=by rw[By,if_neg (by omega),if_neg (by omega),if_pos rfl]
  rw[hE]
  conv=>whnf
  repeat'((first|clear U K|apply st|(apply zk;intro K U)|refine zY ?_|refine zs fun Z hs=>?_|refine aq fun v Z hs hsl=>?_|(refine zb (fun hc=>?_) (fun hc=>?_)<;>try exact⟨⟩)|fail)<;>conv=>whnf)
  exact AH ⟨_,⟨rfl,_,rfl⟩,hs⟩
def Ht {Z:AE} {X:List At} {L:Nat} {pre post:List B2} {e:B2} (h:Sat Z (X++CH L (pre++e::post))):Sat Z (.box e.b [eI e.k.low,eI e.k.high,e.vn,eU e.k.BS,eU e.k.Dt,.b e.k.whole,.b e.k.AZ,e.vs]:: .own e.vn 1 (iL e.k.no):: .own e.vs 1 (iL e.k.AF)::(X++Hq L (pre++e::post) pre post)):=by
 have h2:Sat Z (Vs e++(X++Hq L (pre++e::post) pre post)):=h.perm ((List.Perm.append_left X (Wm L pre post e)).trans (by rw[<-Ph,<-Ph];exact PH.append_right _));exact h2
def Eg {Z:AE} {X:List At} {L:Nat} {pre post:List B2} {e e':B2} (h1:e'.a=e.a) (h2:e'.p=e.p) (h3:e'.b=e.b) (h:Sat Z (Vs e'++(X++Hq L (pre++e::post) pre post))):Sat Z (X++CH L (pre++e'::post)):=by
 rw[<-Ut h1 h2 h3]at h;exact h.perm ((List.Perm.append_left X (Wm L pre post e')).trans (by rw[<-Ph,<-Ph];exact PH.append_right _)).symm
def JX {α:Type} (a b c:α) (l:List α):(a::b::c::l).Perm (b::c::a::l):=(List.Perm.swap _ _ _).trans (.cons _ (.swap _ _ _))
def OE {α:Type} (a:α) (l:List α):(a::l).Perm (l++[a]):=(List.perm_append_singleton a l).symm
def ba (m:Nat) (k:Kn):Prop:=k.BS<18446744073709551616/\k.Dt<18446744073709551616/\k.no.length<=m/\k.AF.length<=m
def oJ (f:Fact) (c:Bool) (j:Nat) (a:Int) (p:List Int) (k:Kn):(Dl f c j a p k).BS=k.BS:=by unfold Dl;(repeat' split)<;>rfl
def tX (f:Fact) (c:Bool) (j:Nat) (a:Int) (p:List Int) (k:Kn):(Dl f c j a p k).Dt=k.Dt:=by unfold Dl;(repeat' split)<;>rfl
def yo (f:Fact) (c:Bool) (j:Nat) (a:Int) (p:List Int) (k:Kn):(Dl f c j a p k).no=k.no:=by unfold Dl;(repeat' split)<;>rfl
def kW (f:Fact) (c:Bool) (j:Nat) (a:Int) (p:List Int) (k:Kn):(Dl f c j a p k).AF.length<=k.AF.length+1:=by
 unfold Dl
 repeat' split
 .exact TP _ _
 all_goals simp[Bz]
def yn {m:Nat} {k:Kn} (h:ba m k) (f:Fact) (c:Bool) (j:Nat) (a:Int) (p:List Int):ba (m+1) (Dl f c j a p k):=by
 obtain⟨h1,h2,h3,h4⟩:=h;refine⟨by rw[oJ];exact h1,by rw[tX];exact h2,by rw[yo];omega,?_⟩;have:=kW f c j a p k;omega
def KV {k:Kn} (c:Bool) (h:k.AZ=true):Bz k c= {k with AZ:=true}:=by simp[Bz,h]
def Io {k:Kn} (c:Bool) (h:k.AZ=false):Bz k c= {k with AZ:= !c}:=by simp[Bz,h]
abbrev Fv (a:Int) (p:List Int):List V:=[eI a,eI (p.length:Int),eI (p.getD 0 0),eI (p.getD 1 0)]
structure gO (f:Fact):Prop where
 op:f.op=2\/f.op=3\/f.op=4
 path:f.path.length<=2
 cls:f.op=2->0<=f.cls/\f.cls<64
 n: -1000000000<=f.n/\f.n<=1000000000
def qD (w : AG) (us:List Nat) {kf:Int->List Int->Kn} {L:Nat} {es:List B2} (h:Bv kf es) (f:Fact) (c:Bool) (hl:gO f) {m:Nat} (hm:m<1000) (hb: ∀a p,ba m (kf a p)) :
    BO zP 128 [VD w us L,.a (xF f++[.b c])] (CH L es) fun r post=>r= .ret (.t [])/\ ∃es',Bv (fun a p=>if a=f.arg/\p=f.path then By (Dl f c f.path.length a p (kf a p)) f c else Dl f c f.path.length a p (kf a p)) es'/\post=CH L es':=by
 intro Z hs;have hM:=Mx;obtain⟨l1,l2,l3,l4⟩:=hl;refine wj kZ ?_;rw[show xF f++[V.b c]= [eI f.op,eI f.arg,.l (iL f.path) false,eI f.cls,eI f.n,.l (f.kids.map Fm) false,.b c] from rfl]
 conv=>whnf
 repeat'((first|clear U K|apply st|(apply zk;intro K U)|refine zY ?_|refine zs fun Z hs=>?_|refine zo fun nn hnn Z hs=>?_|fail)<;>conv=>whnf)
 generalize nn=nx at *;refine(MA w us h (a:=f.arg) (p:=[]) (by simp)).use (rest:=[.box nx (Fv f.arg [])]) (hs.perm (OE _ _)) ?_;clear hs hnn;rintro r post Z ⟨es1,e1,got,rfl,rfl⟩ hs;have hek:=got.k;obtain⟨hea,hep⟩:=GY.1 got.is;obtain⟨pre,post,rfl⟩:=List.append_of_mem got.mem;replace hs:=Ht (X:=[.box nx (Fv f.arg [])]) (hs.perm PH);cases hnd:e1.k.AZ<;>rw[hnd]at hs
 all_goals
  conv=>whnf
  repeat'((first|clear U K|apply st|(apply zk;intro K U)|refine zY ?_|refine zs fun Z hs=>?_|fail)<;>conv=>whnf)
  obtain⟨e2,es2,hA,hB,hC⟩: ∃(e2:B2) (es2:List B2),(Bv (fun a p=>Dl f c 0 a p (kf a p)) es2/\e2∈es2/\e2.is f.arg (f.path.take 0)=true)/\e2.b=e1.b/\Sat Z (.box nx (Fv f.arg (f.path.take 0))::CH L es2):=by
   refine⟨⟨e1.a,e1.p,e1.b,e1.vn,e1.vs,Bz e1.k c⟩,_,⟨(got.inv.change e1.b e1.vn e1.vs (Bz e1.k c)).congr fun a p=>?_,NO _ (.head _),got.is⟩,rfl,?_⟩
   .rw[oH,NS,hea,hep,hek]
    by_cases ha:a=f.arg/\p= []
    .rw[if_pos ha,if_pos ha,ha.1,ha.2]
    .rw[if_neg ha,if_neg ha]
   .refine Eg (X:=[.box nx (Fv f.arg [])]) (e:=e1) rfl rfl rfl ?_
    first
     | (rw[KV c hnd];exact hs)
     | (rw[Io c hnd];exact hs)
  rw[<-hB];clear hs hnd got hek hea hep;refine Cn f.path.length (fun j (x:List B2×B2)=>[(31,eI (BR j)),(5,.p x.2.b 0)]) (fun j x=> .box nx (Fv f.arg (f.path.take j))::CH L x.1) (fun j x=>Bv (fun a p=>Dl f c j a p (kf a p)) x.1/\x.2∈x.1/\x.2.is f.arg (f.path.take j)=true) (es2,e2) rfl hA hC ?_;clear hA hC;generalize e2.b=b0 at *;clear hB e2 es2;rintro j ⟨es2,e2⟩ Z hj ⟨hinv,hmem,his⟩ hs;simp only at hinv hmem his hs
  have hek:e2.k=Dl f c j f.arg (f.path.take j) (kf f.arg (f.path.take j)):=by
   have:=hinv.val e2 hmem;obtain⟨h1,h2⟩:=GY.1 his;rw[this,h1,h2]
  have hok:ba (m+1) e2.k:=by rw[hek];exact yn (hb _ _) f c j _ _
  obtain⟨hea,hep⟩:=GY.1 his;obtain⟨pre2,post2,rfl⟩:=List.append_of_mem hmem;replace hs:=Ht (X:=[.box nx (Fv f.arg (f.path.take j))]) hs;have hck:BR j=j:=Ae (by omega);rcases BK f.path hj with⟨s,hsj,hjlt⟩|hje
  .have hct:=fun b=>Cl e2.k.AF b s
   have hk4:=hok.2.2.2;have hsl0:fG e2.k s= {e2.k with AF:=JE e2.k.AF s}:=rfl
   have hne:f.path.take j++[s]≠f.path.take j:=by
    intro e;have:=congrArg List.length e;simp at this
   have hgd:f.path.getD j 0=s:=by rw[DK,hsj];rfl
   have htk:f.path.take (j+1)=f.path.take j++[s]:=AU hsj;cases hcB:e2.k.AF.contains s
   all_goals
    rw[hcB]at hct
    conv=>whnf
    repeat'((first|clear U K|apply st|(apply zk;intro K U)|refine zY ?_|refine zs fun Z hs=>?_|refine aq fun v Z hs hsl=>?_|refine Pure.Rv (hct false) (.cons (hs.Ha 2 rfl) (.cons (.refl _) .nil)) rfl ?_|refine Pure.use (PU f.arg (f.path.take j) s (by rw[Lv];omega)) ?_|fail)<;>conv=>whnf)
   refine(ft (.inl hsl)).use (rest:=_) (hs.front (j:=2) rfl) ?_;clear hs;rintro r post Z ⟨rfl,rfl⟩ hs;replace hs:Sat Z (.box e2.b [eI e2.k.low,eI e2.k.high,e2.vn,eU e2.k.BS,eU e2.k.Dt,.b e2.k.whole,.b e2.k.AZ,v]:: .own e2.vn 1 (iL e2.k.no):: .own v 1 (iL ((e2.k.AF++[s]).mergeSort HZ))::([.box nx (Fv f.arg (f.path.take j))]++Hq L (pre2++e2::post2) pre2 post2)):=hs.perm (JX _ _ _ _)
   conv=>whnf
   repeat'((first|clear U K|apply st|(apply zk;intro K U)|refine zY ?_|refine zs fun Z hs=>?_|refine Pure.use (PU f.arg (f.path.take j) s (by rw[Lv];omega)) ?_|fail)<;>conv=>whnf)
   have hs3: ∃vs3,Sat Z (.box nx (Fv f.arg (f.path.take j++[s]))::CH L (pre2++⟨e2.a,e2.p,e2.b,e2.vn,vs3,fG e2.k s⟩::post2)):=⟨v,Eg (X:=[_]) (e:=e2) rfl rfl rfl (by rw[hsl0,JE,if_neg (by rw[hcB];decide)];exact hs)⟩
   rotate_left
   have hs3: ∃vs3,Sat Z (.box nx (Fv f.arg (f.path.take j++[s]))::CH L (pre2++⟨e2.a,e2.p,e2.b,e2.vn,vs3,fG e2.k s⟩::post2)):=⟨e2.vs,Eg (X:=[_]) (e:=e2) rfl rfl rfl (by rw[hsl0,JE,if_pos hcB];exact hs)⟩
   all_goals
    clear hs;obtain⟨vs3,hs⟩:=hs3;have hinv3:=hinv.change e2.b e2.vn vs3 (fG e2.k s);refine(MA w us hinv3 (a:=f.arg) (p:=f.path.take j++[s]) (by rw[Ri,Lv];simp;omega)).use (rest:=[.box nx (Fv f.arg (f.path.take j++[s]))]) (hs.perm (OE _ _)) ?_;clear hs;rintro r post Z ⟨es4,e4,got,rfl,rfl⟩ hs;have hek4:=got.k;obtain⟨hea4,hep4⟩:=GY.1 got.is;obtain⟨pre4,post4,rfl⟩:=List.append_of_mem got.mem;replace hs:=Ht (X:=[.box nx (Fv f.arg (f.path.take j++[s]))]) (hs.perm PH);cases hnd:e4.k.AZ<;>rw[hnd]at hs
    all_goals
     conv=>whnf
     repeat'((first|clear U K|apply st|(apply zk;intro K U)|refine zY ?_|refine zs fun Z hs=>?_|fail)<;>conv=>whnf)
     refine⟨hjlt,(pre4++⟨e4.a,e4.p,e4.b,e4.vn,e4.vs,Bz e4.k c⟩::post4,⟨e4.a,e4.p,e4.b,e4.vn,e4.vs,Bz e4.k c⟩),rfl,⟨(got.inv.change e4.b e4.vn e4.vs (Bz e4.k c)).congr fun a p=>?_,NO _ (.head _),by rw[htk];exact got.is⟩,?_⟩
     .rw[oI f c hjlt,NS,hea4,hep4,htk,hgd]
      by_cases h1:a=f.arg/\p=f.path.take j++[s]
      .rw[if_pos h1,if_pos h1,hek4,NS,hea,hep,if_neg (fun h=>hne h.2),h1.1,h1.2]
      .rw[if_neg h1,if_neg h1,NS,hea,hep]
       by_cases h2:a=f.arg/\p=f.path.take j
       .rw[if_pos h2,if_pos h2,hek,h2.1,h2.2]
       .rw[if_neg h2,if_neg h2]
     .rw[htk]
      refine Eg (X:=[.box nx (Fv f.arg (f.path.take j++[s]))]) (e:=e4) rfl rfl rfl ?_
      first
       | (rw[KV c hnd];exact hs)
       | (rw[Io c hnd];exact hs)
  .have etk:f.path.take j=f.path:=BI hje
   rw[etk]at his hs hek hep;refine zz ?_;(repeat clear U K);repeat intro K U
   refine(xP f c l1 l3 hok.1 hok.2.1 (by have:=hok.2.2.1;omega) l4).use (rest:=[.box nx (Fv f.arg f.path)]++Hq L (pre2++e2::post2) pre2 post2) hs ?_;rintro r post Z ⟨rfl,vn',rfl⟩ hs
   conv=>whnf
   repeat'((first|clear U K|apply st|fail)<;>conv=>whnf)
   refine AH ⟨_,⟨rfl,_,(hinv.change e2.b vn' e2.vs (By e2.k f c)).congr fun a p=>?_,rfl⟩,(Eg (X:=[.box nx (Fv f.arg f.path)]) (e:=e2) (e':=⟨e2.a,e2.p,e2.b,vn',e2.vs,By e2.k f c⟩) rfl rfl rfl hs).less (OS _ _)⟩;rw[NS,hea,hep,hek,<-hje];by_cases h1:a=f.arg/\p=f.path
   .rw[if_pos h1,if_pos h1,h1.1,h1.2]
   .rw[if_neg h1,if_neg h1]
def xR (w:AG) (us:List Nat) {kf:Int->List Int->Kn} {L:Nat} {es:List B2} (h:Bv kf es) (l:Fact) (hl:gO (Ah l).1) {m:Nat} (hm:m<1000) (hb: ∀a p,ba m (kf a p)) :
    BO zP 128 [VD w us L,.a (JI l)] (CH L es) fun r post=>r= .ret (.t [])/\ ∃es',Bv (fun a p=>C2 a p (kf a p) l) es'/\post=CH L es':=fun Z hs=>
 Av.mono (qD w us h (Ah l).1 (Ah l).2 hl hm hb Z hs) fun r Z' ⟨post,⟨h1,es',h2,h3⟩,h4⟩=>⟨post,⟨h1,es',h2.congr fun a p=>(tY a p (kf a p) l).symm,h3⟩,h4⟩
def Nu (ls:List Fact):Prop:= ∀l∈ls,gO (Ah l).1
def iA {ls:List Fact} (h:Nu ls) (a:Int) (p:List Int):ba ls.length (kn ls a p):=by
 have hc:Gv 64 ls:=fun l hl ho=>(h l hl).cls ho
 obtain⟨h1,h2⟩:=oL hc a p;obtain⟨h3,h4⟩:=iB a p ls k0;exact⟨by simpa using h1,by simpa using h2,by simpa[kn,k0]using h3,by simpa[kn,k0]using h4⟩
def inv0:Bv (kn []) []:=⟨fun x hx=>(by cases hx),fun a p _=>rfl,.nil,fun x hx=>(by cases hx)⟩
def jf (w:AG) (us:List Nat) (ls:List Fact) (b:Bool) (h:Nu ls) (hlen:ls.length<900) :
    BO zP 81 [.rp (wC w us),.l (Dx ls) b] [] fun r post=> ∃L es,r= .ret (VD w us L)/\Bv (kn ls) es/\post=CH L es:=by
 intro Z hs;have hM:=Mx;refine zD kZ ?_
 conv=>whnf
 repeat'((first|clear U K|apply st|(apply zk;intro K U)|refine zo fun nn hnn Z hs=>?_|fail)<;>conv=>whnf)
 generalize nn=L at *;refine Cn ls.length (fun k (x:List B2)=>[(14,eI (BR k))]) (fun k x=>CH L x) (fun k x=>Bv (kn (ls.take k)) x) [] rfl inv0 hs ?_;clear hs hnn;rintro k es Z hk hinv hs;rcases BK ls hk with⟨l,hlk,hlt⟩|hke
 .have hlm:l∈ls:=Cm hlk
  have htk:ls.take (k+1)=ls.take k++[l]:=AU hlk;have hbk: ∀a p,ba (ls.take k).length (kn (ls.take k) a p):=iA fun x hx=>h x (List.mem_of_mem_take hx)
  conv=>whnf
  repeat'((first|clear U K|apply st|(apply zk;intro K U)|refine zY ?_|refine zs fun Z hs=>?_|refine zo fun nn hnn Z hs=>?_|fail)<;>conv=>whnf)
  rename_i nb hnb _ hs;generalize nn=n7 at *;refine(xR w us hinv l (h l hlm) (m:=(ls.take k).length) (by rw[Lv];omega) hbk).use (rest:=[.box n7 (JI l)]) (hs.perm (OE _ _)) ?_;clear hs;rintro r post Z ⟨rfl,es',hinv',rfl⟩ hs;refine zz ?_;(repeat clear U K);repeat intro K U
  refine⟨hlt,es',rfl,?_,hs.less (List.sublist_append_left _ _)⟩;rw[htk];exact hinv'.congr fun a p=>(oK _ _ _ _).symm
 .have etk:ls.take k=ls:=BI hke
  rw[etk]at hinv;refine zz ?_;(repeat clear U K);repeat intro K U
  exact AH ⟨_,⟨L,es,rfl,hinv,rfl⟩,hs⟩
end Go.Gl
