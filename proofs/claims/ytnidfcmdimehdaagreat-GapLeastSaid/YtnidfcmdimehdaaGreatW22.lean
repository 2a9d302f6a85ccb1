import Derived.Test.YtnidfcmdimehdaaGreatW14
import Derived.Test.YtnidfcmdimehdaaGreatW18
import Derived.Test.YtnidfcmdimehdaaGreatW19
import Derived.Test.YtnidfcmdimehdaaGreatW20
import Derived.Test.YtnidfcmdimehdaaGreatW21
set_option linter.all false
set_option linter.defProp false
set_option maxHeartbeats 8000000
noncomputable section
namespace Go.Gl
abbrev CI (a:Int) (p:List Int):V:= .a [eI a,eI (p.length:Int),eI (p.getD 0 0),eI (p.getD 1 0)]
structure Bt where
 a:Int
 p:List Int
 b:Nat
 vn:V
 vs:V
 k:Kn
abbrev Bt.is (e:Bt) (a:Int) (p:List Int):Bool:=e.a==a&&e.p==p
abbrev yg (b:Nat) (vn vs:V) (k:Kn):At:= .box b [eI k.low,eI k.high,vn,eU k.BL,eU k.DS,.b k.whole,.b k.Ad,vs]
abbrev qL (b:Nat) (vn vs:V) (k:Kn):List At:=[yg b vn vs k,.own vn 1 (iL k.no),.own vs 1 (iL k.AF)]
abbrev U7 (e:Bt):List At:=qL e.b e.vn e.vs e.k
def Sk (es:List Bt):List (V×V):=es.map fun e=>(CI e.a e.p,.p e.b 0)
def B4 (L:Nat) (es:List Bt):List At:= .map L (Sk es)::es.flatMap U7
def G3 (L:Nat) (es pre post:List Bt):List At:= .map L (Sk es)::(pre++post).flatMap U7
def Fw {e:Bt} {a:Int} {p:List Int}:e.is a p=true↔e.a=a/\e.p=p:=by simp[Bt.is]
def OP {e:Bt} {a:Int} {p:List Int}:e.is a p=false↔ ¬(e.a=a/\e.p=p):=by rw[<-Fw,Bool.not_eq_true]
def TF {a a':Int} {p p':List Int} (h:p.length<=2) (h':p'.length<=2):C8 (CI a p) (CI a' p')=(a==a'&&p==p'):=by
 have e:C8 (CI a p) (CI a' p')=(a==a'&&((p.length:Int)==p'.length&&(p.getD 0 0==p'.getD 0 0&&(p.getD 1 0==p'.getD 1 0)))):=by
  simp[C8,Bh,CI]
 rw[e];congr 1
 match p,h,p',h' with
 | [],_,[],_=>rfl
 | [],_,[_],_=>simp
 | [],_,[_,_],_=>simp<;>omega
 | [_],_,[],_=>simp
 | [x],_,[y],_=>simp
 | [_],_,[_,_],_=>simp<;>omega
 | [_,_],_,[],_=>simp<;>omega
 | [_,_],_,[_],_=>simp<;>omega
 | [x,y],_,[z,u],_=>simp
def HJ (es:List Bt): ∀kv∈Sk es,BD (.a [.i64,.i64,.i64,.i64]) kv.1=true:=by
 intro kv h;obtain⟨e,_,rfl⟩:=H8.1 h;rfl
def Pg {a:Int} {p:List Int} (hp:p.length<=2): ∀ {es:List Bt},(∀e∈es,e.p.length<=2)->(∀e∈es,e.is a p=false)->CA (CI a p) (Sk es)=none
 | [],_,_=>rfl
 | e ::r,hl,h=>by
   have he:=h e (.head _);rw[Sk,Eg,CA,TF hp (hl e (.head _))]
   have:(a==e.a&&p==e.p)=false:=by
    rw[<-he,Bt.is,Gr];simp only[A4,Cy];exact⟨fun⟨h1,h2⟩=>⟨h1.symm,h2.symm⟩,fun⟨h1,h2⟩=>⟨h1.symm,h2.symm⟩⟩
   rw[this,cond_false];exact Pg hp (fun x hx=>hl x (.tail _ hx)) (fun x hx=>h x (.tail _ hx))
def Xa {a:Int} {p:List Int} (hp:p.length<=2) (b:Nat) (vn vs:V) (k:Kn): ∀ {es:List Bt},(∀e∈es,e.p.length<=2)->(∀e∈es,e.is a p=false)->Cp (CI a p) (.p b 0) (Sk es)=Sk (es++[⟨a,p,b,vn,vs,k⟩])
 | [],_,_=>rfl
 | e ::r,hl,h=>by
   have he:=h e (.head _);have ih:=Xa hp b vn vs k (fun x hx=>hl x (.tail _ hx)) (fun x hx=>h x (.tail _ hx));simp only[Sk]at ih;rw[Sk,Eg,Cp,TF hp (hl e (.head _))]
   have:(a==e.a&&p==e.p)=false:=by
    rw[<-he,Bt.is,Gr];simp only[A4,Cy];exact⟨fun⟨h1,h2⟩=>⟨h1.symm,h2.symm⟩,fun⟨h1,h2⟩=>⟨h1.symm,h2.symm⟩⟩
   rw[this,cond_false,ih];rfl
def Pf {a:Int} {p:List Int} (hp:p.length<=2) {e:Bt} (he:e.is a p=true) {post:List Bt}: ∀ {pre:List Bt},(∀x∈pre++e::post,x.p.length<=2)->(∀x∈pre,x.is a p=false)->CA (CI a p) (Sk (pre++e::post))=some (.p e.b 0)
 | [],hl,_=>by
   rw[List.nil_append,Sk,Eg,CA,TF hp (hl e (.head _))];obtain⟨h1,h2⟩:=Fw.1 he;rw[h1,h2];simp
 | x ::r,hl,h=>by
   have hx:=h x (.head _);rw[List.cons_append,Sk,Eg,CA,TF hp (hl x (.head _))]
   have:(a==x.a&&p==x.p)=false:=by
    rw[<-hx,Bt.is,Gr];simp only[A4,Cy];exact⟨fun⟨h1,h2⟩=>⟨h1.symm,h2.symm⟩,fun⟨h1,h2⟩=>⟨h1.symm,h2.symm⟩⟩
   rw[this,cond_false];exact Pf hp he (fun y hy=>hl y (.tail _ hy)) (fun y hy=>h y (.tail _ hy))
def eJ (a : Int) (p:List Int): ∀(es:List Bt),(∀e∈es,e.is a p=false)\/ ∃pre e post,es=pre++e::post/\e.is a p=true/\ ∀x∈pre,x.is a p=false
 | []=> .inl fun _ h=>by cases h
 | e ::r=>by
   cases h:e.is a p with
   | true=>exact .inr ⟨[],e,r,rfl,h,fun _ h=>by cases h⟩
   | false=>
     rcases eJ a p r with h1|⟨pre,x,post,rfl,h1,h2⟩
     .exact .inl fun x hx=>by
       rcases FR.1 hx with rfl|hx
       .exact h
       .exact h1 x hx
     .exact .inr ⟨e::pre,x,post,rfl,h1,fun y hy=>by
       rcases FR.1 hy with rfl|hy
       .exact h
       .exact h2 y hy⟩
def Vr (L:Nat) (pre post:List Bt) (e:Bt):(B4 L (pre++e::post)).Perm (U7 e++G3 L (pre++e::post) pre post):=by
 unfold B4 G3;rw[List.flatMap_append,List.flatMap_cons,List.flatMap_append];refine List.Perm.trans ?_ (List.perm_middle.symm);refine List.Perm.cons _ ?_;rw[<-Od,<-Od];exact List.Perm.append_right _ OD
def QL {pre post:List Bt} {e e':Bt} (h1:e'.a=e.a) (h2:e'.p=e.p) (h3:e'.b=e.b):Sk (pre++e'::post)=Sk (pre++e::post):=by
 simp only[Sk,Yh,Eg,h1,h2,h3]
def T6 {L:Nat} {pre post:List Bt} {e e':Bt} (h1:e'.a=e.a) (h2:e'.p=e.p) (h3:e'.b=e.b):G3 L (pre++e'::post) pre post=G3 L (pre++e::post) pre post:=by
 rw[G3,G3,QL h1 h2 h3]
structure Bx (kf:Int->List Int->Kn) (es:List Bt):Prop where
 val: ∀e∈es,e.k=kf e.a e.p
 J3: ∀a p,(∀e∈es,e.is a p=false)->kf a p=k0
 one:es.Pairwise fun e e'=>e.is e'.a e'.p=false
 len: ∀e∈es,e.p.length<=2
def RZ (es:List Bt):Prop:= ∀e∈es,∀s∈e.k.AF,∃e'∈es,e'.is e.a (e.p++[s])=true
def Bx.congr {kf kf':Int->List Int->Kn} {es:List Bt} (h:Bx kf es) (e: ∀a p,kf a p=kf' a p):Bx kf' es:=
 ⟨fun x hx=>(h.val x hx).trans (e _ _),fun a p hp=>(e a p).symm.trans (h.J3 a p hp),h.one,h.len⟩
def Bx.add {kf:Int->List Int->Kn} {es:List Bt} (h:Bx kf es) {a:Int} {p:List Int} (hp:p.length<=2) (hn: ∀e∈es,e.is a p=false) (b:Nat) (vn vs:V):Bx kf (es++[⟨a,p,b,vn,vs,k0⟩]):=by
 refine⟨fun x hx=>?_,fun a' p' h'=>h.J3 a' p' fun x hx=>h' x (NL _ hx),?_,fun x hx=>?_⟩
 .rcases Dm.1 hx with hx|hx
  .exact h.val x hx
  .rw[MG.1 hx];exact(h.J3 a p hn).symm
 .rw[List.pairwise_append]
  exact⟨h.one,List.pairwise_singleton _ _,fun x hx y hy=>by rw[MG.1 hy];exact hn x hx⟩
 .rcases Dm.1 hx with hx|hx
  .exact h.len x hx
  .rw[MG.1 hx];exact hp
def RZ.add {es:List Bt} (h:RZ es) {a:Int} {p:List Int} (b:Nat) (vn vs:V):RZ (es++[⟨a,p,b,vn,vs,k0⟩]):=by
 intro e he s hs;rcases Dm.1 he with he|he
 .obtain⟨e',h1,h2⟩:=h e he s hs
  exact⟨e',NL _ h1,h2⟩
 .rw[MG.1 he]at hs
  cases hs
def MJ (kf:Int->List Int->Kn) (a:Int) (p:List Int) (k:Kn):Int->List Int->Kn:=fun a' p'=>if a'=a/\p'=p then k else kf a' p'
def Bx.change {kf:Int->List Int->Kn} {pre post:List Bt} {e:Bt} (h:Bx kf (pre++e::post)) (b:Nat) (vn vs:V) (k:Kn):Bx (MJ kf e.a e.p k) (pre++⟨e.a,e.p,b,vn,vs,k⟩::post):=by
 have h1:=h.one;rw[List.pairwise_append,List.pairwise_cons]at h1;obtain⟨o1,⟨o2,o3⟩,o4⟩:=h1;refine⟨fun x hx=>?_,fun a p hp=>?_,?_,fun x hx=>?_⟩
 .rw [MJ]
  rcases Dm.1 hx with hx|hx
  .rw[if_neg]
   .exact h.val x (NL _ hx)
   .have:=o4 x hx e (.head _)
    rw[OP]at this;exact this
  .rcases FR.1 hx with rfl|hx
   .rw[if_pos ⟨rfl,rfl⟩]
   .rw[if_neg]
    .exact h.val x (MH _ (.tail _ hx))
    .have:=o2 x hx
     rw[OP]at this;exact fun⟨q1,q2⟩=>this ⟨q1.symm,q2.symm⟩
 .have he:=OP.1 (hp _ (MH _ (.head _)))
  rw[MJ,if_neg (fun⟨q1,q2⟩=>he ⟨q1.symm,q2.symm⟩)];refine h.J3 a p fun x hx=>?_
  rcases Dm.1 hx with hx|hx
  .exact hp x (NL _ hx)
  .rcases FR.1 hx with rfl|hx
   .exact OP.2 he
   .exact hp x (MH _ (.tail _ hx))
 .rw[List.pairwise_append,List.pairwise_cons]
  refine⟨o1,⟨o2,o3⟩,fun x hx y hy=>?_⟩;rcases FR.1 hy with rfl|hy
  .exact o4 x hx e (.head _)
  .exact o4 x hx y (.tail _ hy)
 .rcases Dm.1 hx with hx|hx
  .exact h.len x (NL _ hx)
  .rcases FR.1 hx with rfl|hx
   .exact h.len e (MH _ (.head _))
   .exact h.len x (MH _ (.tail _ hx))
def RZ.change {pre post:List Bt} {e:Bt} (h:RZ (pre++e::post)) (b:Nat) (vn vs:V) (k:Kn) (hs: ∀s∈k.AF,s∈e.k.AF\/ ∃e'∈pre++e::post,e'.is e.a (e.p++[s])=true):RZ (pre++⟨e.a,e.p,b,vn,vs,k⟩::post):=by
 have mov: ∀ {a p},(∃e'∈pre++e::post,e'.is a p=true)-> ∃e'∈pre++(⟨e.a,e.p,b,vn,vs,k⟩:Bt)::post,e'.is a p=true:=by
  rintro a p ⟨x,hx,h'⟩;rcases Dm.1 hx with hx|hx
  .exact⟨x,NL _ hx,h'⟩
  .rcases FR.1 hx with rfl|hx
   .exact⟨_,MH _ (.head _),h'⟩
   .exact⟨x,MH _ (.tail _ hx),h'⟩
 intro x hx s hxs;rcases Dm.1 hx with hx|hx
 .exact mov (h x (NL _ hx) s hxs)
 .rcases FR.1 hx with rfl|hx
  .rcases hs s hxs with h'|h'
   .exact mov (h e (MH _ (.head _)) s h')
   .exact mov h'
  .exact mov (h x (MH _ (.tail _ hx)) s hxs)
def DM (f:Fact) (c:Bool) (j:Nat) (a:Int) (p:List Int) (k:Kn):Kn:=
 if f.arg=a/\BY f.path p=true then(if p.length<j then dR (Bm k c) (f.path.getD p.length 0)else if p.length=j then Bm k c else k)else k
def GS {path p:List Int}:BY path p=true↔p.length<=path.length/\p=path.take p.length:=by
 rw[Bn];constructor
 .rintro⟨t,rfl⟩
  exact⟨by simp,by simp⟩
 .rintro⟨h1,h2⟩
  exact⟨path.drop p.length,by conv=>rhs;rw[h2,NK,Nat.min_eq_left h1,List.take_append_drop]⟩
def mU (f:Fact) (c:Bool) (a:Int) (p:List Int) (k:Kn):DM f c 0 a p k=if a=f.arg/\p= []then Bm k c else k:=by
 unfold DM;by_cases h:f.arg=a/\BY f.path p=true
 .rw[if_pos h,if_neg (by omega)]
  by_cases hp:p.length=0
  .rw[if_pos hp,if_pos ⟨h.1.symm,W7.1 hp⟩]
  .rw[if_neg hp,if_neg (fun h'=>hp (by rw[h'.2];rfl))]
 .rw[if_neg h,if_neg]
  rintro⟨rfl,rfl⟩;exact h ⟨rfl,Bn.2 ⟨f.path,by simp⟩⟩
def mV (f:Fact) (c:Bool) {j:Nat} (hj:j<f.path.length) (a:Int) (p:List Int) (k:Kn):DM f c (j+1) a p k=if a=f.arg/\p=f.path.take (j+1)then Bm (DM f c j a p k) c else if a=f.arg/\p=f.path.take j then dR (DM f c j a p k) (f.path.getD j 0)else DM f c j a p k:=by
 unfold DM;by_cases h:f.arg=a/\BY f.path p=true
 .rw [if_pos h,if_pos h]
  obtain⟨h1,h2⟩:=h;rw[GS]at h2;obtain⟨h2,h3⟩:=h2;have l1:p=f.path.take (j+1)↔p.length=j+1:=⟨fun e=>by rw[e,NK];omega,fun e=>by rw[e]at h3;exact h3⟩
  have l2:p=f.path.take j↔p.length=j:=⟨fun e=>by rw[e,NK];omega,fun e=>by rw[e]at h3;exact h3⟩
  have n1:p.length≠j+1-> ¬(a=f.arg/\p=f.path.take (j+1)):=fun h h'=>h (l1.1 h'.2)
  have n2:p.length≠j-> ¬(a=f.arg/\p=f.path.take j):=fun h h'=>h (l2.1 h'.2)
  by_cases q1:p.length<j
  .rw[if_pos (show p.length<j+1 by omega),if_neg (n1 (by omega)),if_neg (n2 (by omega)),if_pos q1]
  .by_cases q2:p.length=j
   .rw[if_pos (show p.length<j+1 by omega),if_neg (n1 (by omega)),if_pos (show a=f.arg/\p=f.path.take j from⟨h1.symm,l2.2 q2⟩),if_neg q1,if_pos q2,q2]
   .by_cases q3:p.length=j+1
    .rw[if_neg (show¬p.length<j+1 by omega),if_pos q3,if_pos (show a=f.arg/\p=f.path.take (j+1) from⟨h1.symm,l1.2 q3⟩),if_neg q1,if_neg q2]
    .rw[if_neg (show¬p.length<j+1 by omega),if_neg q3,if_neg (n1 q3),if_neg (n2 q2),if_neg q1,if_neg q2]
 .rw[if_neg h,if_neg h,if_neg,if_neg]
  .rintro⟨rfl,rfl⟩
   exact h ⟨rfl,Bn.2 ⟨f.path.drop j,by rw[List.take_append_drop]⟩⟩
  .rintro⟨rfl,rfl⟩
   exact h ⟨rfl,Bn.2 ⟨f.path.drop (j+1),by rw[List.take_append_drop]⟩⟩
def rX (a : Int) (p:List Int) (k:Kn) (l:Fact):Cd a p k l=if a=(Ag l).1.arg/\p=(Ag l).1.path then Bl (DM (Ag l).1 (Ag l).2 (Ag l).1.path.length a p k) (Ag l).1 (Ag l).2 else DM (Ag l).1 (Ag l).2 (Ag l).1.path.length a p k:=by
 unfold Cd DM;by_cases h:(Ag l).1.arg=a/\BY (Ag l).1.path p=true
 .rw [if_pos h,if_pos h]
  obtain⟨h1,h2⟩:=h;rw[GS]at h2;obtain⟨h2,h3⟩:=h2;by_cases hp:(Ag l).1.path=p
  .rw[if_pos hp,if_pos ⟨h1.symm,hp.symm⟩,if_neg (by rw[hp];omega),if_pos (by rw[hp])]
  .have hne:p.length<(Ag l).1.path.length:=by
    rcases Nat.lt_or_ge p.length (Ag l).1.path.length with h'|h'
    .exact h'
    .rw[List.take_of_length_le h']at h3
     exact absurd h3.symm hp
   rw[if_neg hp,if_neg (fun h=>hp h.2.symm),if_pos hne]
 .rw[if_neg h,if_neg h,if_neg]
  rintro⟨rfl,rfl⟩;exact h ⟨rfl,I1 _⟩
def mX (ls:List Fact) (l:Fact) (a:Int) (p:List Int):kn (ls++[l]) a p=Cd a p (kn ls a p) l:=by
 rw[kn,List.foldl_append];rfl
def Sd (l:List Int) (s:Int):(IJ l s).length<=l.length+1:=by
 unfold IJ;split
 .omega
 .rw[List.length_mergeSort];simp
def Qe (k:Kn) (f:Fact) (b:Bool):(Bl k f b).no.length<=k.no.length+1:=by
 unfold Bl
 repeat' split
 all_goals simp
def fT (a:Int) (p:List Int): ∀(ls:List Fact) (k:Kn),(ls.foldl (Cd a p) k).no.length<=k.no.length+ls.length/\(ls.foldl (Cd a p) k).AF.length<=k.AF.length+ls.length
 | [],k=>⟨IN _,IN _⟩
 | l ::r,k=>by
   obtain⟨h1,h2⟩:=fT a p r (Cd a p k l)
   have h3:(Cd a p k l).no.length<=k.no.length+1/\(Cd a p k l).AF.length<=k.AF.length+1:=by
    unfold Cd
    repeat' split
    .have:=Qe (Bm k (Ag l).2) (Ag l).1 (Ag l).2
     rw[Hb];simp only[Bm]at this ⊢;omega
    .have:=Sd k.AF ((Ag l).1.path.getD p.length 0)
     simp only[dR,Bm]at this ⊢;omega
    .omega
   rw[List.foldl_cons,Kt];omega
def mY {n:Nat} {ls:List Fact} (h:GC n ls) (a:Int) (p:List Int):(kn ls a p).BL<2 ^ n/\(kn ls a p).DS<2 ^ n:=by
 have hc:=LK ls a p;simp only[C9,Prod.mk.injEq]at hc;have hc2:GC n (ls.filter (Jk a p)):=fun l hl=>h l (Kv.1 hl).1
 rw[hc.2.2.2.1,hc.2.2.2.2.1];exact⟨LH hc2,fL hc2⟩
end Go.Gl
namespace Go.Gl
open Go.Proofs
attribute [local irreducible] Ao Ai AY AO AJ AX AN AP AI AW AK AL Ak Au Sat AT Ar Aa W
abbrev UO (w:AG) (us:List Nat) (L:Nat):V:= .rp [.rp (wC w us),.m L]
def J7 (es es':List Bt):Prop:= ∃new:List Bt,es'=es++new/\ ∀x∈new,x.k=k0
def J7.refl (es:List Bt):J7 es es:=⟨[],by simp,by simp⟩
def J7.trans {a b c:List Bt} (h1:J7 a b) (h2:J7 b c):J7 a c:=by
 obtain⟨x,rfl,hx⟩:=h1;obtain⟨y,rfl,hy⟩:=h2;refine⟨x++y,by simp,fun z hz=>?_⟩;rcases Dm.1 hz with h|h
 .exact hx z h
 .exact hy z h
def J7.mem {a b:List Bt} (h:J7 a b) {e:Bt} (he:e∈a):e∈b:=by
 obtain⟨x,rfl,_⟩:=h;exact NL _ he
structure lB (kf:Int->List Int->Kn) (es es':List Bt) (a:Int) (p:List Int) (e:Bt):Prop where
 inv:Bx kf es'
 ext:J7 es es'
 mem:e∈es'
 is:e.is a p=true
def lB.k {kf:Int->List Int->Kn} {es es':List Bt} {a:Int} {p:List Int} {e:Bt} (h:lB kf es es' a p e):e.k=kf a p:=by
 have:=h.inv.val e h.mem;obtain⟨h1,h2⟩:=Fw.1 h.is;rw[this,h1,h2]
def MZ {Z:AE} {l:List At} (h:Sat Z l) (i:Nat) {n:Nat} {kvs:List (V×V)} {ks:KS} {z vk:V} {ok:Bool} {o:Option V} (hi:l[i]? =some (.map n kvs)) (hk:BD ks vk=true) (hks: ∀kv∈kvs,BD ks kv.1=true) (hf:CA vk kvs=o) {K:V->Prop} (h':K (found z ok o)) :
    AK Z ks z ok (.m n) vk K:=GO h i hi hk hks (hf ▸ h')
def K8 (w:AG) (us:List Nat) {kf:Int->List Int->Kn} {L:Nat} {es:List Bt} (h:Bx kf es) {a:Int} {p:List Int} (hp:p.length<=2) :
    BK zP 134 [UO w us L,CI a p] (B4 L es) fun r post=> ∃es' e,lB kf es es' a p e/\r= .ret (.p e.b 0)/\post=B4 L es':=by
 intro Z hs;refine ni kZ ?_;unfold B4 at hs;rcases eJ a p es with hn|⟨pre,e,post,rfl,he,hpre⟩
 .have hf:=Pg hp h.len hn
  conv=>whnf
  repeat'((first|clear U K|apply st|(apply zk;intro K U)|refine zY ?_|refine MZ hs 0 rfl rfl (HJ _) hf ?_|refine GN hs 1 rfl rfl (HJ _) fun Z hs=>?_|refine zo fun nn hnn Z hs=>?_|fail)<;>conv=>whnf)
  simp only[List.set_cons_succ,List.set_cons_zero]at hs;change Sat Z (_:: .map L (Cp (CI a p) (.p nn 0) (Sk es))::_)at hs;rw[Xa hp nn (.l [] true) (.l [] true) k0 h.len hn]at hs;have hs2:=DN (DN hs 1) 1;refine AH ⟨_,⟨es++[⟨a,p,nn,.l [] true,.l [] true,k0⟩],⟨a,p,nn,.l [] true,.l [] true,k0⟩,⟨h.add hp hn _ _ _,⟨_,rfl,by simp⟩,by simp,by simp[Bt.is]⟩,rfl,rfl⟩,?_⟩;unfold B4;rw[List.flatMap_append,List.flatMap_cons,List.flatMap_nil,Fj];refine hs2.perm ((List.perm_middle (l₁:=[_,_,_])).trans (.cons _ (OD.trans (List.Perm.append_left _ (List.reverse_perm _).symm))))
 .have hf:=Pf hp he h.len hpre
  conv=>whnf
  repeat'((first|clear U K|apply st|(apply zk;intro K U)|refine zY ?_|refine MZ hs 0 rfl rfl (HJ _) hf ?_|fail)<;>conv=>whnf)
  exact AH ⟨_,⟨_,e,⟨h,.refl _,by simp,he⟩,rfl,rfl⟩,hs⟩
def ON (a:Int) (p:List Int) (s:Int) (hp:p.length<2):Pure zP 135 [CI a p,eI s] (CI a (p++[s])):=by
 refine tz kZ ?_;have hs:=Sn
 match p,hp with
 | [],_=>
   exact zW
 | [x],_=>
   exact zW
def uc {b:Nat} {vn vs:V} {k:Kn} (f:Fact) (c:Bool) (hl:f.op=2\/f.op=3\/f.op=4) (hc:f.op=2->0<=f.cls/\f.cls<64) (hm:k.BL<18446744073709551616) (hn:k.DS<18446744073709551616) (hno:k.no.length<1000000) (hN: -1000000000<=f.n/\f.n<=1000000000) :
    BK zP 191 [.p b 0,.a (xF f++[.b c])] (qL b vn vs k) fun r post=>r= .ret (.t [])/\ ∃vn',post=qL b vn' vs (Bl k f c):=by
 intro Z hs;have hM:=Mx;refine tY kZ ?_;rw[show xF f++[V.b c]= [eI f.op,eI f.arg,.l (iL f.path) false,eI f.cls,eI f.n,.l (f.kids.map FX) false,.b c] from rfl];have hw:IntKind.i64.wrap (f.n - 1)=f.n - 1:=wrap64 (by omega) (by omega);cases c<;>rcases hl with h2|h3|h4
 .have hE:Bl k f false= {k with BL:=k.BL|||2 ^ f.cls.toNat}:=by rw[Bl,if_pos h2,if_neg Bool.false_ne_true]
  rw[hE]
  conv=>whnf
  repeat'((first|clear U K|apply st|(apply zk;intro K U)|refine zY ?_|refine zs fun Z hs=>?_|refine Pure.use (G9 _ _ hm (by omega) (by omega)) ?_|(refine zb (fun hc=>?_) (fun hc=>?_)<;>try exact⟨⟩)|fail)<;>conv=>whnf)
  exact AH ⟨_,⟨rfl,vn,rfl⟩,hs⟩
 .have hE:Bl k f false= {k with high:=if f.n - 1<k.high then f.n - 1 else k.high,whole:=true}:=by rw[Bl,if_neg (by omega),if_pos h3,if_neg Bool.false_ne_true]
  rw[hE]
  conv=>whnf
  repeat'((first|clear U K|apply st|(apply zk;intro K U)|refine zY ?_|refine zs fun Z hs=>?_|(refine zb (fun hc=>?_) (fun hc=>?_)<;>try exact⟨⟩)|fail)<;>conv=>whnf)
  rw[hw]at hs;exact AH ⟨_,⟨rfl,vn,rfl⟩,hs⟩
 .have hE:Bl k f false= {k with low:=if f.n > k.low then f.n else k.low,high:=if f.n<k.high then f.n else k.high,whole:=true}:=by rw[Bl,if_neg (by omega),if_neg (by omega),if_neg Bool.false_ne_true]
  rw[hE]
  conv=>whnf
  repeat'((first|clear U K|apply st|(apply zk;intro K U)|refine zY ?_|refine rk ?_ ?_|exact fun s e=>by cases e;rfl|refine zs fun Z hs=>?_|(refine zb (fun hc=>?_) (fun hc=>?_)<;>try exact⟨⟩)|fail)<;>conv=>whnf)
  exact AH ⟨_,⟨rfl,vn,rfl⟩,hs⟩
 .have hE:Bl k f true= {k with DS:=k.DS|||2 ^ f.cls.toNat}:=by rw[Bl,if_pos h2,if_pos rfl]
  rw[hE]
  conv=>whnf
  repeat'((first|clear U K|apply st|(apply zk;intro K U)|refine zY ?_|refine zs fun Z hs=>?_|refine Pure.use (G9 _ _ hn (by omega) (by omega)) ?_|(refine zb (fun hc=>?_) (fun hc=>?_)<;>try exact⟨⟩)|fail)<;>conv=>whnf)
  exact AH ⟨_,⟨rfl,vn,rfl⟩,hs⟩
 .have hE:Bl k f true= {k with low:=if f.n > k.low then f.n else k.low}:=by rw[Bl,if_neg (by omega),if_pos h3,if_pos rfl]
  rw[hE]
  conv=>whnf
  repeat'((first|clear U K|apply st|(apply zk;intro K U)|refine zY ?_|refine zs fun Z hs=>?_|(refine zb (fun hc=>?_) (fun hc=>?_)<;>try exact⟨⟩)|fail)<;>conv=>whnf)
  exact AH ⟨_,⟨rfl,vn,rfl⟩,hs⟩
 .have hE:Bl k f true= {k with no:=k.no++[f.n]}:=by rw[Bl,if_neg (by omega),if_neg (by omega),if_pos rfl]
  rw[hE]
  conv=>whnf
  repeat'((first|clear U K|apply st|(apply zk;intro K U)|refine zY ?_|refine zs fun Z hs=>?_|refine aq fun v Z hs hsl=>?_|(refine zb (fun hc=>?_) (fun hc=>?_)<;>try exact⟨⟩)|fail)<;>conv=>whnf)
  exact AH ⟨_,⟨rfl,_,rfl⟩,hs⟩
def G5 {Z:AE} {X:List At} {L:Nat} {pre post:List Bt} {e:Bt} (h:Sat Z (X++B4 L (pre++e::post))):Sat Z (.box e.b [eI e.k.low,eI e.k.high,e.vn,eU e.k.BL,eU e.k.DS,.b e.k.whole,.b e.k.Ad,e.vs]:: .own e.vn 1 (iL e.k.no):: .own e.vs 1 (iL e.k.AF)::(X++G3 L (pre++e::post) pre post)):=by
 have h2:Sat Z (U7 e++(X++G3 L (pre++e::post) pre post)):=h.perm ((List.Perm.append_left X (Vr L pre post e)).trans (by rw[<-Od,<-Od];exact OD.append_right _));exact h2
def D3 {Z:AE} {X:List At} {L:Nat} {pre post:List Bt} {e e':Bt} (h1:e'.a=e.a) (h2:e'.p=e.p) (h3:e'.b=e.b) (h:Sat Z (U7 e'++(X++G3 L (pre++e::post) pre post))):Sat Z (X++B4 L (pre++e'::post)):=by
 rw[<-T6 h1 h2 h3]at h;exact h.perm ((List.Perm.append_left X (Vr L pre post e')).trans (by rw[<-Od,<-Od];exact OD.append_right _)).symm
def Ia {α:Type} (a b c:α) (l:List α):(a::b::c::l).Perm (b::c::a::l):=(List.Perm.swap _ _ _).trans (.cons _ (.swap _ _ _))
def M6 {α:Type} (a:α) (l:List α):(a::l).Perm (l++[a]):=(List.perm_append_singleton a l).symm
def aI (m:Nat) (k:Kn):Prop:=k.BL<18446744073709551616/\k.DS<18446744073709551616/\k.no.length<=m/\k.AF.length<=m
def mW (f:Fact) (c:Bool) (j:Nat) (a:Int) (p:List Int) (k:Kn):(DM f c j a p k).BL=k.BL:=by unfold DM;(repeat' split)<;>rfl
def rW (f:Fact) (c:Bool) (j:Nat) (a:Int) (p:List Int) (k:Kn):(DM f c j a p k).DS=k.DS:=by unfold DM;(repeat' split)<;>rfl
def wb (f:Fact) (c:Bool) (j:Nat) (a:Int) (p:List Int) (k:Kn):(DM f c j a p k).no=k.no:=by unfold DM;(repeat' split)<;>rfl
def jE (f:Fact) (c:Bool) (j:Nat) (a:Int) (p:List Int) (k:Kn):(DM f c j a p k).AF.length<=k.AF.length+1:=by
 unfold DM
 repeat' split
 .exact Sd _ _
 all_goals simp[Bm]
def wa {m:Nat} {k:Kn} (h:aI m k) (f:Fact) (c:Bool) (j:Nat) (a:Int) (p:List Int):aI (m+1) (DM f c j a p k):=by
 obtain⟨h1,h2,h3,h4⟩:=h;refine⟨by rw[mW];exact h1,by rw[rW];exact h2,by rw[wb];omega,?_⟩;have:=jE f c j a p k;omega
def JQ {k:Kn} (c:Bool) (h:k.Ad=true):Bm k c= {k with Ad:=true}:=by simp[Bm,h]
def Hz {k:Kn} (c:Bool) (h:k.Ad=false):Bm k c= {k with Ad:= !c}:=by simp[Bm,h]
abbrev FN (a:Int) (p:List Int):List V:=[eI a,eI (p.length:Int),eI (p.getD 0 0),eI (p.getD 1 0)]
structure eY (f:Fact):Prop where
 op:f.op=2\/f.op=3\/f.op=4
 path:f.path.length<=2
 cls:f.op=2->0<=f.cls/\f.cls<64
 n: -1000000000<=f.n/\f.n<=1000000000
def oJ (w : AG) (us:List Nat) {kf:Int->List Int->Kn} {L:Nat} {es:List Bt} (h:Bx kf es) (f:Fact) (c:Bool) (hl:eY f) {m:Nat} (hm:m<1000) (hb: ∀a p,aI m (kf a p)) :
    BK zP 128 [UO w us L,.a (xF f++[.b c])] (B4 L es) fun r post=>r= .ret (.t [])/\ ∃es',Bx (fun a p=>if a=f.arg/\p=f.path then Bl (DM f c f.path.length a p (kf a p)) f c else DM f c f.path.length a p (kf a p)) es'/\post=B4 L es':=by
 intro Z hs;have hM:=Mx;obtain⟨l1,l2,l3,l4⟩:=hl;refine uE kZ ?_;rw[show xF f++[V.b c]= [eI f.op,eI f.arg,.l (iL f.path) false,eI f.cls,eI f.n,.l (f.kids.map FX) false,.b c] from rfl]
 conv=>whnf
 repeat'((first|clear U K|apply st|(apply zk;intro K U)|refine zY ?_|refine zs fun Z hs=>?_|refine zo fun nn hnn Z hs=>?_|fail)<;>conv=>whnf)
 generalize nn=nx at *;refine(K8 w us h (a:=f.arg) (p:=[]) (by simp)).use (rest:=[.box nx (FN f.arg [])]) (hs.perm (M6 _ _)) ?_;clear hs hnn;rintro r post Z ⟨es1,e1,got,rfl,rfl⟩ hs;have hek:=got.k;obtain⟨hea,hep⟩:=Fw.1 got.is;obtain⟨pre,post,rfl⟩:=List.append_of_mem got.mem;replace hs:=G5 (X:=[.box nx (FN f.arg [])]) (hs.perm OD);cases hnd:e1.k.Ad<;>rw[hnd]at hs
 all_goals
  conv=>whnf
  repeat'((first|clear U K|apply st|(apply zk;intro K U)|refine zY ?_|refine zs fun Z hs=>?_|fail)<;>conv=>whnf)
  obtain⟨e2,es2,hA,hB,hC⟩: ∃(e2:Bt) (es2:List Bt),(Bx (fun a p=>DM f c 0 a p (kf a p)) es2/\e2∈es2/\e2.is f.arg (f.path.take 0)=true)/\e2.b=e1.b/\Sat Z (.box nx (FN f.arg (f.path.take 0))::B4 L es2):=by
   refine⟨⟨e1.a,e1.p,e1.b,e1.vn,e1.vs,Bm e1.k c⟩,_,⟨(got.inv.change e1.b e1.vn e1.vs (Bm e1.k c)).congr fun a p=>?_,MH _ (.head _),got.is⟩,rfl,?_⟩
   .rw[mU,MJ,hea,hep,hek]
    by_cases ha:a=f.arg/\p= []
    .rw[if_pos ha,if_pos ha,ha.1,ha.2]
    .rw[if_neg ha,if_neg ha]
   .refine D3 (X:=[.box nx (FN f.arg [])]) (e:=e1) rfl rfl rfl ?_
    first
     | (rw[JQ c hnd];exact hs)
     | (rw[Hz c hnd];exact hs)
  rw[<-hB];clear hs hnd got hek hea hep;refine Du f.path.length (fun j (x:List Bt×Bt)=>[(31,eI (Bj j)),(5,.p x.2.b 0)]) (fun j x=> .box nx (FN f.arg (f.path.take j))::B4 L x.1) (fun j x=>Bx (fun a p=>DM f c j a p (kf a p)) x.1/\x.2∈x.1/\x.2.is f.arg (f.path.take j)=true) (es2,e2) rfl hA hC ?_;clear hA hC;generalize e2.b=b0 at *;clear hB e2 es2;rintro j ⟨es2,e2⟩ Z hj ⟨hinv,hmem,his⟩ hs;simp only at hinv hmem his hs
  have hek:e2.k=DM f c j f.arg (f.path.take j) (kf f.arg (f.path.take j)):=by
   have:=hinv.val e2 hmem;obtain⟨h1,h2⟩:=Fw.1 his;rw[this,h1,h2]
  have hok:aI (m+1) e2.k:=by rw[hek];exact wa (hb _ _) f c j _ _
  obtain⟨hea,hep⟩:=Fw.1 his;obtain⟨pre2,post2,rfl⟩:=List.append_of_mem hmem;replace hs:=G5 (X:=[.box nx (FN f.arg (f.path.take j))]) hs;have hck:Bj j=j:=Av (by omega);rcases BJ f.path hj with⟨s,hsj,hjlt⟩|hje
  .have hct:=fun b=>Ce e2.k.AF b s
   have hk4:=hok.2.2.2;have hsl0:dR e2.k s= {e2.k with AF:=IJ e2.k.AF s}:=rfl
   have hne:f.path.take j++[s]≠f.path.take j:=by
    intro e;have:=congrArg List.length e;simp at this
   have hgd:f.path.getD j 0=s:=by rw[Dh,hsj];rfl
   have htk:f.path.take (j+1)=f.path.take j++[s]:=An hsj;cases hcB:e2.k.AF.contains s
   all_goals
    rw[hcB]at hct
    conv=>whnf
    repeat'((first|clear U K|apply st|(apply zk;intro K U)|refine zY ?_|refine zs fun Z hs=>?_|refine aq fun v Z hs hsl=>?_|refine Pure.Sy (hct false) (.cons (hs.He 2 rfl) (.cons (.refl _) .nil)) rfl ?_|refine Pure.use (ON f.arg (f.path.take j) s (by rw[NK];omega)) ?_|fail)<;>conv=>whnf)
   refine(dy (.inl hsl)).use (rest:=_) (hs.front (j:=2) rfl) ?_;clear hs;rintro r post Z ⟨rfl,rfl⟩ hs;replace hs:Sat Z (.box e2.b [eI e2.k.low,eI e2.k.high,e2.vn,eU e2.k.BL,eU e2.k.DS,.b e2.k.whole,.b e2.k.Ad,v]:: .own e2.vn 1 (iL e2.k.no):: .own v 1 (iL ((e2.k.AF++[s]).mergeSort Gq))::([.box nx (FN f.arg (f.path.take j))]++G3 L (pre2++e2::post2) pre2 post2)):=hs.perm (Ia _ _ _ _)
   conv=>whnf
   repeat'((first|clear U K|apply st|(apply zk;intro K U)|refine zY ?_|refine zs fun Z hs=>?_|refine Pure.use (ON f.arg (f.path.take j) s (by rw[NK];omega)) ?_|fail)<;>conv=>whnf)
   have hs3: ∃vs3,Sat Z (.box nx (FN f.arg (f.path.take j++[s]))::B4 L (pre2++⟨e2.a,e2.p,e2.b,e2.vn,vs3,dR e2.k s⟩::post2)):=⟨v,D3 (X:=[_]) (e:=e2) rfl rfl rfl (by rw[hsl0,IJ,if_neg (by rw[hcB];decide)];exact hs)⟩
   rotate_left
   have hs3: ∃vs3,Sat Z (.box nx (FN f.arg (f.path.take j++[s]))::B4 L (pre2++⟨e2.a,e2.p,e2.b,e2.vn,vs3,dR e2.k s⟩::post2)):=⟨e2.vs,D3 (X:=[_]) (e:=e2) rfl rfl rfl (by rw[hsl0,IJ,if_pos hcB];exact hs)⟩
   all_goals
    clear hs;obtain⟨vs3,hs⟩:=hs3;have hinv3:=hinv.change e2.b e2.vn vs3 (dR e2.k s);refine(K8 w us hinv3 (a:=f.arg) (p:=f.path.take j++[s]) (by rw[RG,NK];simp;omega)).use (rest:=[.box nx (FN f.arg (f.path.take j++[s]))]) (hs.perm (M6 _ _)) ?_;clear hs;rintro r post Z ⟨es4,e4,got,rfl,rfl⟩ hs;have hek4:=got.k;obtain⟨hea4,hep4⟩:=Fw.1 got.is;obtain⟨pre4,post4,rfl⟩:=List.append_of_mem got.mem;replace hs:=G5 (X:=[.box nx (FN f.arg (f.path.take j++[s]))]) (hs.perm OD);cases hnd:e4.k.Ad<;>rw[hnd]at hs
    all_goals
     conv=>whnf
     repeat'((first|clear U K|apply st|(apply zk;intro K U)|refine zY ?_|refine zs fun Z hs=>?_|fail)<;>conv=>whnf)
     refine⟨hjlt,(pre4++⟨e4.a,e4.p,e4.b,e4.vn,e4.vs,Bm e4.k c⟩::post4,⟨e4.a,e4.p,e4.b,e4.vn,e4.vs,Bm e4.k c⟩),rfl,⟨(got.inv.change e4.b e4.vn e4.vs (Bm e4.k c)).congr fun a p=>?_,MH _ (.head _),by rw[htk];exact got.is⟩,?_⟩
     .rw[mV f c hjlt,MJ,hea4,hep4,htk,hgd]
      by_cases h1:a=f.arg/\p=f.path.take j++[s]
      .rw[if_pos h1,if_pos h1,hek4,MJ,hea,hep,if_neg (fun h=>hne h.2),h1.1,h1.2]
      .rw[if_neg h1,if_neg h1,MJ,hea,hep]
       by_cases h2:a=f.arg/\p=f.path.take j
       .rw[if_pos h2,if_pos h2,hek,h2.1,h2.2]
       .rw[if_neg h2,if_neg h2]
     .rw[htk]
      refine D3 (X:=[.box nx (FN f.arg (f.path.take j++[s]))]) (e:=e4) rfl rfl rfl ?_
      first
       | (rw[JQ c hnd];exact hs)
       | (rw[Hz c hnd];exact hs)
  .have etk:f.path.take j=f.path:=CE hje
   rw[etk]at his hs hek hep;refine zz ?_;(repeat clear U K);repeat intro K U
   refine(uc f c l1 l3 hok.1 hok.2.1 (by have:=hok.2.2.1;omega) l4).use (rest:=[.box nx (FN f.arg f.path)]++G3 L (pre2++e2::post2) pre2 post2) hs ?_;rintro r post Z ⟨rfl,vn',rfl⟩ hs
   conv=>whnf
   repeat'((first|clear U K|apply st|fail)<;>conv=>whnf)
   refine AH ⟨_,⟨rfl,_,(hinv.change e2.b vn' e2.vs (Bl e2.k f c)).congr fun a p=>?_,rfl⟩,(D3 (X:=[.box nx (FN f.arg f.path)]) (e:=e2) (e':=⟨e2.a,e2.p,e2.b,vn',e2.vs,Bl e2.k f c⟩) rfl rfl rfl hs).less (NJ _ _)⟩;rw[MJ,hea,hep,hek,<-hje];by_cases h1:a=f.arg/\p=f.path
   .rw[if_pos h1,if_pos h1,h1.1,h1.2]
   .rw[if_neg h1,if_neg h1]
def ue (w:AG) (us:List Nat) {kf:Int->List Int->Kn} {L:Nat} {es:List Bt} (h:Bx kf es) (l:Fact) (hl:eY (Ag l).1) {m:Nat} (hm:m<1000) (hb: ∀a p,aI m (kf a p)) :
    BK zP 128 [UO w us L,.a (IQ l)] (B4 L es) fun r post=>r= .ret (.t [])/\ ∃es',Bx (fun a p=>Cd a p (kf a p) l) es'/\post=B4 L es':=fun Z hs=>
 Ao.mono (oJ w us h (Ag l).1 (Ag l).2 hl hm hb Z hs) fun r Z' ⟨post,⟨h1,es',h2,h3⟩,h4⟩=>⟨post,⟨h1,es',h2.congr fun a p=>(rX a p (kf a p) l).symm,h3⟩,h4⟩
def Mk (ls:List Fact):Prop:= ∀l∈ls,eY (Ag l).1
def fS {ls:List Fact} (h:Mk ls) (a:Int) (p:List Int):aI ls.length (kn ls a p):=by
 have hc:GC 64 ls:=fun l hl ho=>(h l hl).cls ho
 obtain⟨h1,h2⟩:=mY hc a p;obtain⟨h3,h4⟩:=fT a p ls k0;exact⟨by simpa using h1,by simpa using h2,by simpa[kn,k0]using h3,by simpa[kn,k0]using h4⟩
def yY:Bx (kn []) []:=⟨fun x hx=>(by cases hx),fun a p _=>rfl,.nil,fun x hx=>(by cases hx)⟩
def iB (w:AG) (us:List Nat) (ls:List Fact) (b:Bool) (h:Mk ls) (hlen:ls.length<900) :
    BK zP 81 [.rp (wC w us),.l (DU ls) b] [] fun r post=> ∃L es,r= .ret (UO w us L)/\Bx (kn ls) es/\post=B4 L es:=by
 intro Z hs;have hM:=Mx;refine xE kZ ?_
 conv=>whnf
 repeat'((first|clear U K|apply st|(apply zk;intro K U)|refine zo fun nn hnn Z hs=>?_|fail)<;>conv=>whnf)
 generalize nn=L at *;refine Du ls.length (fun k (x:List Bt)=>[(14,eI (Bj k))]) (fun k x=>B4 L x) (fun k x=>Bx (kn (ls.take k)) x) [] rfl yY hs ?_;clear hs hnn;rintro k es Z hk hinv hs;rcases BJ ls hk with⟨l,hlk,hlt⟩|hke
 .have hlm:l∈ls:=Dn hlk
  have htk:ls.take (k+1)=ls.take k++[l]:=An hlk;have hbk: ∀a p,aI (ls.take k).length (kn (ls.take k) a p):=fS fun x hx=>h x (List.mem_of_mem_take hx)
  conv=>whnf
  repeat'((first|clear U K|apply st|(apply zk;intro K U)|refine zY ?_|refine zs fun Z hs=>?_|refine zo fun nn hnn Z hs=>?_|fail)<;>conv=>whnf)
  rename_i nb hnb _ hs;generalize nn=n7 at *;refine(ue w us hinv l (h l hlm) (m:=(ls.take k).length) (by rw[NK];omega) hbk).use (rest:=[.box n7 (IQ l)]) (hs.perm (M6 _ _)) ?_;clear hs;rintro r post Z ⟨rfl,es',hinv',rfl⟩ hs;refine zz ?_;(repeat clear U K);repeat intro K U
  refine⟨hlt,es',rfl,?_,hs.less (List.sublist_append_left _ _)⟩;rw[htk];exact hinv'.congr fun a p=>(mX _ _ _ _).symm
 .have etk:ls.take k=ls:=CE hke
  rw[etk]at hinv;refine zz ?_;(repeat clear U K);repeat intro K U
  exact AH ⟨_,⟨L,es,rfl,hinv,rfl⟩,hs⟩
end Go.Gl
