import Derived.Test.YtinppljblkpedaaGreatU14
import Derived.Test.YtinppljblkpedaaGreatU21
import Derived.Test.YtinppljblkpedaaGreatU22
import Derived.Test.YtinppljblkpedaaGreatU24
set_option linter.all false
set_option linter.defProp false
set_option maxHeartbeats 8000000
noncomputable section
namespace Go.Gl
abbrev B2 (a:Int) (p:List Int):V:= .a [eI a,eI (p.length:Int),eI (p.getD 0 0),eI (p.getD 1 0)]
structure Bv where
 a:Int
 p:List Int
 b:Nat
 vn:V
 vs:V
 k:Kn
abbrev Bv.is (e:Bv) (a:Int) (p:List Int):Bool:=e.a==a&&e.p==p
abbrev entC (b:Nat) (vn vs:V) (k:Kn):At:= .box b [eI k.low,eI k.high,vn,eU k.BO,eU k.Dm,.b k.whole,.b k.AV,vs]
abbrev sM (b:Nat) (vn vs:V) (k:Kn):List At:=[entC b vn vs k,.own vn 1 (iL k.no),.own vs 1 (iL k.AI)]
abbrev Vp (e:Bv):List At:=sM e.b e.vn e.vs e.k
def Tf (es:List Bv):List (V×V):=es.map fun e=>(B2 e.a e.p,.p e.b 0)
def BM (L:Nat) (es:List Bv):List At:= .map L (Tf es)::es.flatMap Vp
def IB (L:Nat) (es pre post:List Bv):List At:= .map L (Tf es)::(pre++post).flatMap Vp
def Gu {e:Bv} {a:Int} {p:List Int}:e.is a p=true↔e.a=a/\e.p=p:=by simp[Bv.is]
def PJ {e:Bv} {a:Int} {p:List Int}:e.is a p=false↔ ¬(e.a=a/\e.p=p):=by rw[<-Gu,Bool.not_eq_true]
def T9 {a a':Int} {p p':List Int} (h:p.length<=2) (h':p'.length<=2):Dw (B2 a p) (B2 a' p')=(a==a'&&p==p'):=by
 have e:Dw (B2 a p) (B2 a' p')=(a==a'&&((p.length:Int)==p'.length&&(p.getD 0 0==p'.getD 0 0&&(p.getD 1 0==p'.getD 1 0)))):=by
  simp[Dw,CI,B2]
 rw[e];congr 1
 match p,h,p',h' with
 | [],_,[],_=>rfl
 | [],_,[_],_=>simp
 | [],_,[_,_],_=>simp<;>omega
 | [_],_,[],_=>simp
 | [x],_,[y],_=>simp
 | [_],_,[_,_],_=>simp<;>omega
 | [_,_],_,[],_=>simp<;>omega
 | [_,_],_,[_],_=>simp<;>omega
 | [x,y],_,[z,u],_=>simp
def IQ (es:List Bv): ∀kv∈Tf es,Bl (.a [.i64,.i64,.i64,.i64]) kv.1=true:=by
 intro kv h;obtain⟨e,_,rfl⟩:=GK.1 h;rfl
def QZ {a:Int} {p:List Int} (hp:p.length<=2): ∀ {es:List Bv},(∀e∈es,e.p.length<=2)->(∀e∈es,e.is a p=false)->Cz (B2 a p) (Tf es)=none
 | [],_,_=>rfl
 | e ::r,hl,h=>by
   have he:=h e (.head _);rw[Tf,CK,Cz,T9 hp (hl e (.head _))]
   have:(a==e.a&&p==e.p)=false:=by
    rw[<-he,Bv.is,Hl];simp only[A4,CF];exact⟨fun⟨h1,h2⟩=>⟨h1.symm,h2.symm⟩,fun⟨h1,h2⟩=>⟨h1.symm,h2.symm⟩⟩
   rw[this,cond_false];exact QZ hp (fun x hx=>hl x (.tail _ hx)) (fun x hx=>h x (.tail _ hx))
def YU {a:Int} {p:List Int} (hp:p.length<=2) (b:Nat) (vn vs:V) (k:Kn): ∀ {es:List Bv},(∀e∈es,e.p.length<=2)->(∀e∈es,e.is a p=false)->Du (B2 a p) (.p b 0) (Tf es)=Tf (es++[⟨a,p,b,vn,vs,k⟩])
 | [],_,_=>rfl
 | e ::r,hl,h=>by
   have he:=h e (.head _);have ih:=YU hp b vn vs k (fun x hx=>hl x (.tail _ hx)) (fun x hx=>h x (.tail _ hx));simp only[Tf]at ih;rw[Tf,CK,Du,T9 hp (hl e (.head _))]
   have:(a==e.a&&p==e.p)=false:=by
    rw[<-he,Bv.is,Hl];simp only[A4,CF];exact⟨fun⟨h1,h2⟩=>⟨h1.symm,h2.symm⟩,fun⟨h1,h2⟩=>⟨h1.symm,h2.symm⟩⟩
   rw[this,cond_false,ih];rfl
def QY {a:Int} {p:List Int} (hp:p.length<=2) {e:Bv} (he:e.is a p=true) {post:List Bv}: ∀ {pre:List Bv},(∀x∈pre++e::post,x.p.length<=2)->(∀x∈pre,x.is a p=false)->Cz (B2 a p) (Tf (pre++e::post))=some (.p e.b 0)
 | [],hl,_=>by
   rw[List.nil_append,Tf,CK,Cz,T9 hp (hl e (.head _))];obtain⟨h1,h2⟩:=Gu.1 he;rw[h1,h2];simp
 | x ::r,hl,h=>by
   have hx:=h x (.head _);rw[List.cons_append,Tf,CK,Cz,T9 hp (hl x (.head _))]
   have:(a==x.a&&p==x.p)=false:=by
    rw[<-hx,Bv.is,Hl];simp only[A4,CF];exact⟨fun⟨h1,h2⟩=>⟨h1.symm,h2.symm⟩,fun⟨h1,h2⟩=>⟨h1.symm,h2.symm⟩⟩
   rw[this,cond_false];exact QY hp he (fun y hy=>hl y (.tail _ hy)) (fun y hy=>h y (.tail _ hy))
def gF (a : Int) (p:List Int): ∀(es:List Bv),(∀e∈es,e.is a p=false)\/ ∃pre e post,es=pre++e::post/\e.is a p=true/\ ∀x∈pre,x.is a p=false
 | []=> .inl fun _ h=>by cases h
 | e ::r=>by
   cases h:e.is a p with
   | true=>exact .inr ⟨[],e,r,rfl,h,fun _ h=>by cases h⟩
   | false=>
     rcases gF a p r with h1|⟨pre,x,post,rfl,h1,h2⟩
     .exact .inl fun x hx=>by
       rcases Ep.1 hx with rfl|hx
       .exact h
       .exact h1 x hx
     .exact .inr ⟨e::pre,x,post,rfl,h1,fun y hy=>by
       rcases Ep.1 hy with rfl|hy
       .exact h
       .exact h2 y hy⟩
def Wk (L:Nat) (pre post:List Bv) (e:Bv):(BM L (pre++e::post)).Perm (Vp e++IB L (pre++e::post) pre post):=by
 unfold BM IB;rw[List.flatMap_append,List.flatMap_cons,List.flatMap_append];refine List.Perm.trans ?_ (List.perm_middle.symm);refine List.Perm.cons _ ?_;rw[<-LC,<-LC];exact List.Perm.append_right _ HP
def RK {pre post:List Bv} {e e':Bv} (h1:e'.a=e.a) (h2:e'.p=e.p) (h3:e'.b=e.b):Tf (pre++e'::post)=Tf (pre++e::post):=by
 simp only[Tf,LX,CK,h1,h2,h3]
def Uv {L:Nat} {pre post:List Bv} {e e':Bv} (h1:e'.a=e.a) (h2:e'.p=e.p) (h3:e'.b=e.b):IB L (pre++e'::post) pre post=IB L (pre++e::post) pre post:=by
 rw[IB,IB,RK h1 h2 h3]
structure Bj (kf:Int->List Int->Kn) (es:List Bv):Prop where
 val: ∀e∈es,e.k=kf e.a e.p
 Gi: ∀a p,(∀e∈es,e.is a p=false)->kf a p=k0
 one:es.Pairwise fun e e'=>e.is e'.a e'.p=false
 len: ∀e∈es,e.p.length<=2
def SY (es:List Bv):Prop:= ∀e∈es,∀s∈e.k.AI,∃e'∈es,e'.is e.a (e.p++[s])=true
def Bj.congr {kf kf':Int->List Int->Kn} {es:List Bv} (h:Bj kf es) (e: ∀a p,kf a p=kf' a p):Bj kf' es:=
 ⟨fun x hx=>(h.val x hx).trans (e _ _),fun a p hp=>(e a p).symm.trans (h.Gi a p hp),h.one,h.len⟩
def Bj.add {kf:Int->List Int->Kn} {es:List Bv} (h:Bj kf es) {a:Int} {p:List Int} (hp:p.length<=2) (hn: ∀e∈es,e.is a p=false) (b:Nat) (vn vs:V):Bj kf (es++[⟨a,p,b,vn,vs,k0⟩]):=by
 refine⟨fun x hx=>?_,fun a' p' h'=>h.Gi a' p' fun x hx=>h' x (NS _ hx),?_,fun x hx=>?_⟩
 .rcases Dn.1 hx with hx|hx
  .exact h.val x hx
  .rw[Jf.1 hx];exact(h.Gi a p hn).symm
 .rw[List.pairwise_append]
  exact⟨h.one,List.pairwise_singleton _ _,fun x hx y hy=>by rw[Jf.1 hy];exact hn x hx⟩
 .rcases Dn.1 hx with hx|hx
  .exact h.len x hx
  .rw[Jf.1 hx];exact hp
def SY.add {es:List Bv} (h:SY es) {a:Int} {p:List Int} (b:Nat) (vn vs:V):SY (es++[⟨a,p,b,vn,vs,k0⟩]):=by
 intro e he s hs;rcases Dn.1 he with he|he
 .obtain⟨e',h1,h2⟩:=h e he s hs
  exact⟨e',NS _ h1,h2⟩
 .rw[Jf.1 he]at hs
  cases hs
def NU (kf:Int->List Int->Kn) (a:Int) (p:List Int) (k:Kn):Int->List Int->Kn:=fun a' p'=>if a'=a/\p'=p then k else kf a' p'
def Bj.change {kf:Int->List Int->Kn} {pre post:List Bv} {e:Bv} (h:Bj kf (pre++e::post)) (b:Nat) (vn vs:V) (k:Kn):Bj (NU kf e.a e.p k) (pre++⟨e.a,e.p,b,vn,vs,k⟩::post):=by
 have h1:=h.one;rw[List.pairwise_append,List.pairwise_cons]at h1;obtain⟨o1,⟨o2,o3⟩,o4⟩:=h1;refine⟨fun x hx=>?_,fun a p hp=>?_,?_,fun x hx=>?_⟩
 .rw [NU]
  rcases Dn.1 hx with hx|hx
  .rw[if_neg]
   .exact h.val x (NS _ hx)
   .have:=o4 x hx e (.head _)
    rw[PJ]at this;exact this
  .rcases Ep.1 hx with rfl|hx
   .rw[if_pos ⟨rfl,rfl⟩]
   .rw[if_neg]
    .exact h.val x (NR _ (.tail _ hx))
    .have:=o2 x hx
     rw[PJ]at this;exact fun⟨q1,q2⟩=>this ⟨q1.symm,q2.symm⟩
 .have he:=PJ.1 (hp _ (NR _ (.head _)))
  rw[NU,if_neg (fun⟨q1,q2⟩=>he ⟨q1.symm,q2.symm⟩)];refine h.Gi a p fun x hx=>?_
  rcases Dn.1 hx with hx|hx
  .exact hp x (NS _ hx)
  .rcases Ep.1 hx with rfl|hx
   .exact PJ.2 he
   .exact hp x (NR _ (.tail _ hx))
 .rw[List.pairwise_append,List.pairwise_cons]
  refine⟨o1,⟨o2,o3⟩,fun x hx y hy=>?_⟩;rcases Ep.1 hy with rfl|hy
  .exact o4 x hx e (.head _)
  .exact o4 x hx y (.tail _ hy)
 .rcases Dn.1 hx with hx|hx
  .exact h.len x (NS _ hx)
  .rcases Ep.1 hx with rfl|hx
   .exact h.len e (NR _ (.head _))
   .exact h.len x (NR _ (.tail _ hx))
def SY.change {pre post:List Bv} {e:Bv} (h:SY (pre++e::post)) (b:Nat) (vn vs:V) (k:Kn) (hs: ∀s∈k.AI,s∈e.k.AI\/ ∃e'∈pre++e::post,e'.is e.a (e.p++[s])=true):SY (pre++⟨e.a,e.p,b,vn,vs,k⟩::post):=by
 have mov: ∀ {a p},(∃e'∈pre++e::post,e'.is a p=true)-> ∃e'∈pre++(⟨e.a,e.p,b,vn,vs,k⟩:Bv)::post,e'.is a p=true:=by
  rintro a p ⟨x,hx,h'⟩;rcases Dn.1 hx with hx|hx
  .exact⟨x,NS _ hx,h'⟩
  .rcases Ep.1 hx with rfl|hx
   .exact⟨_,NR _ (.head _),h'⟩
   .exact⟨x,NR _ (.tail _ hx),h'⟩
 intro x hx s hxs;rcases Dn.1 hx with hx|hx
 .exact mov (h x (NS _ hx) s hxs)
 .rcases Ep.1 hx with rfl|hx
  .rcases hs s hxs with h'|h'
   .exact mov (h e (NR _ (.head _)) s h')
   .exact mov h'
  .exact mov (h x (NR _ (.tail _ hx)) s hxs)
def Di (f:Fact) (c:Bool) (j:Nat) (a:Int) (p:List Int) (k:Kn):Kn:=
 if f.arg=a/\Bn f.path p=true then(if p.length<j then fO (Bz k c) (f.path.getD p.length 0)else if p.length=j then Bz k c else k)else k
def Hk {path p:List Int}:Bn path p=true↔p.length<=path.length/\p=path.take p.length:=by
 rw[B1];constructor
 .rintro⟨t,rfl⟩
  exact⟨by simp,by simp⟩
 .rintro⟨h1,h2⟩
  exact⟨path.drop p.length,by conv=>rhs;rw[h2,Je,Nat.min_eq_left h1,List.take_append_drop]⟩
def ox (f:Fact) (c:Bool) (a:Int) (p:List Int) (k:Kn):Di f c 0 a p k=if a=f.arg/\p= []then Bz k c else k:=by
 unfold Di;by_cases h:f.arg=a/\Bn f.path p=true
 .rw[if_pos h,if_neg (by omega)]
  by_cases hp:p.length=0
  .rw[if_pos hp,if_pos ⟨h.1.symm,Xv.1 hp⟩]
  .rw[if_neg hp,if_neg (fun h'=>hp (by rw[h'.2];rfl))]
 .rw[if_neg h,if_neg]
  rintro⟨rfl,rfl⟩;exact h ⟨rfl,B1.2 ⟨f.path,by simp⟩⟩
def oy (f:Fact) (c:Bool) {j:Nat} (hj:j<f.path.length) (a:Int) (p:List Int) (k:Kn):Di f c (j+1) a p k=if a=f.arg/\p=f.path.take (j+1)then Bz (Di f c j a p k) c else if a=f.arg/\p=f.path.take j then fO (Di f c j a p k) (f.path.getD j 0)else Di f c j a p k:=by
 unfold Di;by_cases h:f.arg=a/\Bn f.path p=true
 .rw [if_pos h,if_pos h]
  obtain⟨h1,h2⟩:=h;rw[Hk]at h2;obtain⟨h2,h3⟩:=h2;have l1:p=f.path.take (j+1)↔p.length=j+1:=⟨fun e=>by rw[e,Je];omega,fun e=>by rw[e]at h3;exact h3⟩
  have l2:p=f.path.take j↔p.length=j:=⟨fun e=>by rw[e,Je];omega,fun e=>by rw[e]at h3;exact h3⟩
  have n1:p.length≠j+1-> ¬(a=f.arg/\p=f.path.take (j+1)):=fun h h'=>h (l1.1 h'.2)
  have n2:p.length≠j-> ¬(a=f.arg/\p=f.path.take j):=fun h h'=>h (l2.1 h'.2)
  by_cases q1:p.length<j
  .rw[if_pos (show p.length<j+1 by omega),if_neg (n1 (by omega)),if_neg (n2 (by omega)),if_pos q1]
  .by_cases q2:p.length=j
   .rw[if_pos (show p.length<j+1 by omega),if_neg (n1 (by omega)),if_pos (show a=f.arg/\p=f.path.take j from⟨h1.symm,l2.2 q2⟩),if_neg q1,if_pos q2,q2]
   .by_cases q3:p.length=j+1
    .rw[if_neg (show¬p.length<j+1 by omega),if_pos q3,if_pos (show a=f.arg/\p=f.path.take (j+1) from⟨h1.symm,l1.2 q3⟩),if_neg q1,if_neg q2]
    .rw[if_neg (show¬p.length<j+1 by omega),if_neg q3,if_neg (n1 q3),if_neg (n2 q2),if_neg q1,if_neg q2]
 .rw[if_neg h,if_neg h,if_neg,if_neg]
  .rintro⟨rfl,rfl⟩
   exact h ⟨rfl,B1.2 ⟨f.path.drop j,by rw[List.take_append_drop]⟩⟩
  .rintro⟨rfl,rfl⟩
   exact h ⟨rfl,B1.2 ⟨f.path.drop (j+1),by rw[List.take_append_drop]⟩⟩
def tw (a : Int) (p:List Int) (k:Kn) (l:Fact):C7 a p k l=if a=(Ad l).1.arg/\p=(Ad l).1.path then Bx (Di (Ad l).1 (Ad l).2 (Ad l).1.path.length a p k) (Ad l).1 (Ad l).2 else Di (Ad l).1 (Ad l).2 (Ad l).1.path.length a p k:=by
 unfold C7 Di;by_cases h:(Ad l).1.arg=a/\Bn (Ad l).1.path p=true
 .rw [if_pos h,if_pos h]
  obtain⟨h1,h2⟩:=h;rw[Hk]at h2;obtain⟨h2,h3⟩:=h2;by_cases hp:(Ad l).1.path=p
  .rw[if_pos hp,if_pos ⟨h1.symm,hp.symm⟩,if_neg (by rw[hp];omega),if_pos (by rw[hp])]
  .have hne:p.length<(Ad l).1.path.length:=by
    rcases Nat.lt_or_ge p.length (Ad l).1.path.length with h'|h'
    .exact h'
    .rw[List.take_of_length_le h']at h3
     exact absurd h3.symm hp
   rw[if_neg hp,if_neg (fun h=>hp h.2.symm),if_pos hne]
 .rw[if_neg h,if_neg h,if_neg]
  rintro⟨rfl,rfl⟩;exact h ⟨rfl,KQ _⟩
def o5 (ls:List Fact) (l:Fact) (a:Int) (p:List Int):kn (ls++[l]) a p=C7 a p (kn ls a p) l:=by
 rw[kn,List.foldl_append];rfl
def TV (l:List Int) (s:Int):(JR l s).length<=l.length+1:=by
 unfold JR;split
 .omega
 .rw[List.length_mergeSort];simp
def Rc (k:Kn) (f:Fact) (b:Bool):(Bx k f b).no.length<=k.no.length+1:=by
 unfold Bx
 repeat' split
 all_goals simp
def iH (a:Int) (p:List Int): ∀(ls:List Fact) (k:Kn),(ls.foldl (C7 a p) k).no.length<=k.no.length+ls.length/\(ls.foldl (C7 a p) k).AI.length<=k.AI.length+ls.length
 | [],k=>⟨Ft _,Ft _⟩
 | l ::r,k=>by
   obtain⟨h1,h2⟩:=iH a p r (C7 a p k l)
   have h3:(C7 a p k l).no.length<=k.no.length+1/\(C7 a p k l).AI.length<=k.AI.length+1:=by
    unfold C7
    repeat' split
    .have:=Rc (Bz k (Ad l).2) (Ad l).1 (Ad l).2
     rw[Io];simp only[Bz]at this ⊢;omega
    .have:=TV k.AI ((Ad l).1.path.getD p.length 0)
     simp only[fO,Bz]at this ⊢;omega
    .omega
   rw[List.foldl_cons,HH];omega
def o6 {n:Nat} {ls:List Fact} (h:Gm n ls) (a:Int) (p:List Int):(kn ls a p).BO<2 ^ n/\(kn ls a p).Dm<2 ^ n:=by
 have hc:=Iy ls a p;simp only[DJ,Prod.mk.injEq]at hc;have hc2:Gm n (ls.filter (Iq a p)):=fun l hl=>h l (HD.1 hl).1
 rw[hc.2.2.2.1,hc.2.2.2.2.1];exact⟨Ma hc2,gz hc2⟩
end Go.Gl
namespace Go.Gl
open Go.Proofs
attribute [local irreducible] As Ag AY AQ AL AX AP AR AK AW AM AN Ai Ap Sat AT An AZ W
abbrev HF (w:AF) (us:List Nat) (L:Nat):V:= .rp [.rp (wC w us),.m L]
def Jc (es es':List Bv):Prop:= ∃new:List Bv,es'=es++new/\ ∀x∈new,x.k=k0
def Jc.refl (es:List Bv):Jc es es:=⟨[],by simp,by simp⟩
def Jc.trans {a b c:List Bv} (h1:Jc a b) (h2:Jc b c):Jc a c:=by
 obtain⟨x,rfl,hx⟩:=h1;obtain⟨y,rfl,hy⟩:=h2;refine⟨x++y,by simp,fun z hz=>?_⟩;rcases Dn.1 hz with h|h
 .exact hx z h
 .exact hy z h
def Jc.mem {a b:List Bv} (h:Jc a b) {e:Bv} (he:e∈a):e∈b:=by
 obtain⟨x,rfl,_⟩:=h;exact NS _ he
structure nQ (kf:Int->List Int->Kn) (es es':List Bv) (a:Int) (p:List Int) (e:Bv):Prop where
 inv:Bj kf es'
 ext:Jc es es'
 mem:e∈es'
 is:e.is a p=true
def nQ.k {kf:Int->List Int->Kn} {es es':List Bv} {a:Int} {p:List Int} {e:Bv} (h:nQ kf es es' a p e):e.k=kf a p:=by
 have:=h.inv.val e h.mem;obtain⟨h1,h2⟩:=Gu.1 h.is;rw[this,h1,h2]
def Ni {Z:AE} {l:List At} (h:Sat Z l) (i:Nat) {n:Nat} {kvs:List (V×V)} {ks:KS} {z vk:V} {ok:Bool} {o:Option V} (hi:l[i]? =some (.map n kvs)) (hk:Bl ks vk=true) (hks: ∀kv∈kvs,Bl ks kv.1=true) (hf:Cz vk kvs=o) {K:V->Prop} (h':K (found z ok o)) :
    AM Z ks z ok (.m n) vk K:=Hc h i hi hk hks (hf ▸ h')
def LP (w:AF) (us:List Nat) {kf:Int->List Int->Kn} {L:Nat} {es:List Bv} (h:Bj kf es) {a:Int} {p:List Int} (hp:p.length<=2) :
    BL zP 136 [HF w us L,B2 a p] (BM L es) fun r post=> ∃es' e,nQ kf es es' a p e/\r= .ret (.p e.b 0)/\post=BM L es':=by
 intro Z hs;refine pz kZ ?_;unfold BM at hs;rcases gF a p es with hn|⟨pre,e,post,rfl,he,hpre⟩
 .have hf:=QZ hp h.len hn
  conv=>whnf
  repeat'((first|clear U K|apply st|(apply zk;intro K U)|refine zY ?_|refine Ni hs 0 rfl rfl (IQ _) hf ?_|refine Hb hs 1 rfl rfl (IQ _) fun Z hs=>?_|refine zo fun nn hnn Z hs=>?_|fail)<;>conv=>whnf)
  simp only[List.set_cons_succ,List.set_cons_zero]at hs;change Sat Z (_:: .map L (Du (B2 a p) (.p nn 0) (Tf es))::_)at hs;rw[YU hp nn (.l [] true) (.l [] true) k0 h.len hn]at hs;have hs2:=Ch (Ch hs 1) 1;refine AJ ⟨_,⟨es++[⟨a,p,nn,.l [] true,.l [] true,k0⟩],⟨a,p,nn,.l [] true,.l [] true,k0⟩,⟨h.add hp hn _ _ _,⟨_,rfl,by simp⟩,by simp,by simp[Bv.is]⟩,rfl,rfl⟩,?_⟩;unfold BM;rw[List.flatMap_append,List.flatMap_cons,List.flatMap_nil,D8];refine hs2.perm ((List.perm_middle (l₁:=[_,_,_])).trans (.cons _ (HP.trans (List.Perm.append_left _ (List.reverse_perm _).symm))))
 .have hf:=QY hp he h.len hpre
  conv=>whnf
  repeat'((first|clear U K|apply st|(apply zk;intro K U)|refine zY ?_|refine Ni hs 0 rfl rfl (IQ _) hf ?_|fail)<;>conv=>whnf)
  exact AJ ⟨_,⟨_,e,⟨h,.refl _,by simp,he⟩,rfl,rfl⟩,hs⟩
def MZ (a:Int) (p:List Int) (s:Int) (hp:p.length<2):Pure zP 137 [B2 a p,eI s] (B2 a (p++[s])):=by
 refine xU kZ ?_;have hs:=Sn
 match p,hp with
 | [],_=>
   exact zW
 | [x],_=>
   exact zW
def yB {b:Nat} {vn vs:V} {k:Kn} (f:Fact) (c:Bool) (hl:f.op=2\/f.op=3\/f.op=4) (hc:f.op=2->0<=f.cls/\f.cls<64) (hm:k.BO<18446744073709551616) (hn:k.Dm<18446744073709551616) (hno:k.no.length<1000000) (hN: -1000000000<=f.n/\f.n<=1000000000) :
    BL zP 213 [.p b 0,.a (xF f++[.b c])] (sM b vn vs k) fun r post=>r= .ret (.t [])/\ ∃vn',post=sM b vn' vs (Bx k f c):=by
 intro Z hs;have hM:=Mx;refine wX kZ ?_;rw[show xF f++[V.b c]= [eI f.op,eI f.arg,.l (iL f.path) false,eI f.cls,eI f.n,.l (f.kids.map EI) false,.b c] from rfl];have hw:IntKind.i64.wrap (f.n - 1)=f.n - 1:=wrap64 (by omega) (by omega);cases c<;>rcases hl with h2|h3|h4
 .have hE:Bx k f false= {k with BO:=k.BO|||2 ^ f.cls.toNat}:=by rw[Bx,if_pos h2,if_neg Bool.false_ne_true]
  rw[hE]
  conv=>whnf
  repeat'((first|clear U K|apply st|(apply zk;intro K U)|refine zY ?_|refine zs fun Z hs=>?_|refine Pure.use (II _ _ hm (by omega) (by omega)) ?_|(refine zb (fun hc=>?_) (fun hc=>?_)<;>try exact⟨⟩)|fail)<;>conv=>whnf)
  exact AJ ⟨_,⟨rfl,vn,rfl⟩,hs⟩
 .have hE:Bx k f false= {k with high:=if f.n - 1<k.high then f.n - 1 else k.high,whole:=true}:=by rw[Bx,if_neg (by omega),if_pos h3,if_neg Bool.false_ne_true]
  rw[hE]
  conv=>whnf
  repeat'((first|clear U K|apply st|(apply zk;intro K U)|refine zY ?_|refine zs fun Z hs=>?_|(refine zb (fun hc=>?_) (fun hc=>?_)<;>try exact⟨⟩)|fail)<;>conv=>whnf)
  rw[hw]at hs;exact AJ ⟨_,⟨rfl,vn,rfl⟩,hs⟩
 .have hE:Bx k f false= {k with low:=if f.n > k.low then f.n else k.low,high:=if f.n<k.high then f.n else k.high,whole:=true}:=by rw[Bx,if_neg (by omega),if_neg (by omega),if_neg Bool.false_ne_true]
  rw[hE]
  conv=>whnf
  repeat'((first|clear U K|apply st|(apply zk;intro K U)|refine zY ?_|refine rk ?_ ?_|exact fun s e=>by cases e;rfl|refine zs fun Z hs=>?_|(refine zb (fun hc=>?_) (fun hc=>?_)<;>try exact⟨⟩)|fail)<;>conv=>whnf)
  exact AJ ⟨_,⟨rfl,vn,rfl⟩,hs⟩
 .have hE:Bx k f true= {k with Dm:=k.Dm|||2 ^ f.cls.toNat}:=by rw[Bx,if_pos h2,if_pos rfl]
  rw[hE]
  conv=>whnf
  repeat'((first|clear U K|apply st|(apply zk;intro K U)|refine zY ?_|refine zs fun Z hs=>?_|refine Pure.use (II _ _ hn (by omega) (by omega)) ?_|(refine zb (fun hc=>?_) (fun hc=>?_)<;>try exact⟨⟩)|fail)<;>conv=>whnf)
  exact AJ ⟨_,⟨rfl,vn,rfl⟩,hs⟩
 .have hE:Bx k f true= {k with low:=if f.n > k.low then f.n else k.low}:=by rw[Bx,if_neg (by omega),if_pos h3,if_pos rfl]
  rw[hE]
  conv=>whnf
  repeat'((first|clear U K|apply st|(apply zk;intro K U)|refine zY ?_|refine zs fun Z hs=>?_|(refine zb (fun hc=>?_) (fun hc=>?_)<;>try exact⟨⟩)|fail)<;>conv=>whnf)
  exact AJ ⟨_,⟨rfl,vn,rfl⟩,hs⟩
 .have hE:Bx k f true= {k with no:=k.no++[f.n]}:=by rw[Bx,if_neg (by omega),if_neg (by omega),if_pos rfl]
  rw[hE]
  conv=>whnf
  repeat'((first|clear U K|apply st|(apply zk;intro K U)|refine zY ?_|refine zs fun Z hs=>?_|refine aq fun v Z hs hsl=>?_|(refine zb (fun hc=>?_) (fun hc=>?_)<;>try exact⟨⟩)|fail)<;>conv=>whnf)
  exact AJ ⟨_,⟨rfl,_,rfl⟩,hs⟩
def HS {Z:AE} {X:List At} {L:Nat} {pre post:List Bv} {e:Bv} (h:Sat Z (X++BM L (pre++e::post))):Sat Z (.box e.b [eI e.k.low,eI e.k.high,e.vn,eU e.k.BO,eU e.k.Dm,.b e.k.whole,.b e.k.AV,e.vs]:: .own e.vn 1 (iL e.k.no):: .own e.vs 1 (iL e.k.AI)::(X++IB L (pre++e::post) pre post)):=by
 have h2:Sat Z (Vp e++(X++IB L (pre++e::post) pre post)):=h.perm ((List.Perm.append_left X (Wk L pre post e)).trans (by rw[<-LC,<-LC];exact HP.append_right _));exact h2
def Dy {Z:AE} {X:List At} {L:Nat} {pre post:List Bv} {e e':Bv} (h1:e'.a=e.a) (h2:e'.p=e.p) (h3:e'.b=e.b) (h:Sat Z (Vp e'++(X++IB L (pre++e::post) pre post))):Sat Z (X++BM L (pre++e'::post)):=by
 rw[<-Uv h1 h2 h3]at h;exact h.perm ((List.Perm.append_left X (Wk L pre post e')).trans (by rw[<-LC,<-LC];exact HP.append_right _)).symm
def JH {α:Type} (a b c:α) (l:List α):(a::b::c::l).Perm (b::c::a::l):=(List.Perm.swap _ _ _).trans (.cons _ (.swap _ _ _))
def N2 {α:Type} (a:α) (l:List α):(a::l).Perm (l++[a]):=(List.perm_append_singleton a l).symm
def cC (m:Nat) (k:Kn):Prop:=k.BO<18446744073709551616/\k.Dm<18446744073709551616/\k.no.length<=m/\k.AI.length<=m
def oz (f:Fact) (c:Bool) (j:Nat) (a:Int) (p:List Int) (k:Kn):(Di f c j a p k).BO=k.BO:=by unfold Di;(repeat' split)<;>rfl
def tv (f:Fact) (c:Bool) (j:Nat) (a:Int) (p:List Int) (k:Kn):(Di f c j a p k).Dm=k.Dm:=by unfold Di;(repeat' split)<;>rfl
def zq (f:Fact) (c:Bool) (j:Nat) (a:Int) (p:List Int) (k:Kn):(Di f c j a p k).no=k.no:=by unfold Di;(repeat' split)<;>rfl
def lL (f:Fact) (c:Bool) (j:Nat) (a:Int) (p:List Int) (k:Kn):(Di f c j a p k).AI.length<=k.AI.length+1:=by
 unfold Di
 repeat' split
 .exact TV _ _
 all_goals simp[Bz]
def zm {m:Nat} {k:Kn} (h:cC m k) (f:Fact) (c:Bool) (j:Nat) (a:Int) (p:List Int):cC (m+1) (Di f c j a p k):=by
 obtain⟨h1,h2,h3,h4⟩:=h;refine⟨by rw[oz];exact h1,by rw[tv];exact h2,by rw[zq];omega,?_⟩;have:=lL f c j a p k;omega
def Kt {k:Kn} (c:Bool) (h:k.AV=true):Bz k c= {k with AV:=true}:=by simp[Bz,h]
def I6 {k:Kn} (c:Bool) (h:k.AV=false):Bz k c= {k with AV:= !c}:=by simp[Bz,h]
abbrev GD (a:Int) (p:List Int):List V:=[eI a,eI (p.length:Int),eI (p.getD 0 0),eI (p.getD 1 0)]
structure gZ (f:Fact):Prop where
 op:f.op=2\/f.op=3\/f.op=4
 path:f.path.length<=2
 cls:f.op=2->0<=f.cls/\f.cls<64
 n: -1000000000<=f.n/\f.n<=1000000000
def qS (w : AF) (us:List Nat) {kf:Int->List Int->Kn} {L:Nat} {es:List Bv} (h:Bj kf es) (f:Fact) (c:Bool) (hl:gZ f) {m:Nat} (hm:m<1000) (hb: ∀a p,cC m (kf a p)) :
    BL zP 130 [HF w us L,.a (xF f++[.b c])] (BM L es) fun r post=>r= .ret (.t [])/\ ∃es',Bj (fun a p=>if a=f.arg/\p=f.path then Bx (Di f c f.path.length a p (kf a p)) f c else Di f c f.path.length a p (kf a p)) es'/\post=BM L es':=by
 intro Z hs;have hM:=Mx;obtain⟨l1,l2,l3,l4⟩:=hl;refine xa kZ ?_;rw[show xF f++[V.b c]= [eI f.op,eI f.arg,.l (iL f.path) false,eI f.cls,eI f.n,.l (f.kids.map EI) false,.b c] from rfl]
 conv=>whnf
 repeat'((first|clear U K|apply st|(apply zk;intro K U)|refine zY ?_|refine zs fun Z hs=>?_|refine zo fun nn hnn Z hs=>?_|fail)<;>conv=>whnf)
 generalize nn=nx at *;refine(LP w us h (a:=f.arg) (p:=[]) (by simp)).use (rest:=[.box nx (GD f.arg [])]) (hs.perm (N2 _ _)) ?_;clear hs hnn;rintro r post Z ⟨es1,e1,got,rfl,rfl⟩ hs;have hek:=got.k;obtain⟨hea,hep⟩:=Gu.1 got.is;obtain⟨pre,post,rfl⟩:=List.append_of_mem got.mem;replace hs:=HS (X:=[.box nx (GD f.arg [])]) (hs.perm HP);cases hnd:e1.k.AV<;>rw[hnd]at hs
 all_goals
  conv=>whnf
  repeat'((first|clear U K|apply st|(apply zk;intro K U)|refine zY ?_|refine zs fun Z hs=>?_|fail)<;>conv=>whnf)
  obtain⟨e2,es2,hA,hB,hC⟩: ∃(e2:Bv) (es2:List Bv),(Bj (fun a p=>Di f c 0 a p (kf a p)) es2/\e2∈es2/\e2.is f.arg (f.path.take 0)=true)/\e2.b=e1.b/\Sat Z (.box nx (GD f.arg (f.path.take 0))::BM L es2):=by
   refine⟨⟨e1.a,e1.p,e1.b,e1.vn,e1.vs,Bz e1.k c⟩,_,⟨(got.inv.change e1.b e1.vn e1.vs (Bz e1.k c)).congr fun a p=>?_,NR _ (.head _),got.is⟩,rfl,?_⟩
   .rw[ox,NU,hea,hep,hek]
    by_cases ha:a=f.arg/\p= []
    .rw[if_pos ha,if_pos ha,ha.1,ha.2]
    .rw[if_neg ha,if_neg ha]
   .refine Dy (X:=[.box nx (GD f.arg [])]) (e:=e1) rfl rfl rfl ?_
    first
     | (rw[Kt c hnd];exact hs)
     | (rw[I6 c hnd];exact hs)
  rw[<-hB];clear hs hnd got hek hea hep;refine B4 f.path.length (fun j (x:List Bv×Bv)=>[(31,eI (A7 j)),(5,.p x.2.b 0)]) (fun j x=> .box nx (GD f.arg (f.path.take j))::BM L x.1) (fun j x=>Bj (fun a p=>Di f c j a p (kf a p)) x.1/\x.2∈x.1/\x.2.is f.arg (f.path.take j)=true) (es2,e2) rfl hA hC ?_;clear hA hC;generalize e2.b=b0 at *;clear hB e2 es2;rintro j ⟨es2,e2⟩ Z hj ⟨hinv,hmem,his⟩ hs;simp only at hinv hmem his hs
  have hek:e2.k=Di f c j f.arg (f.path.take j) (kf f.arg (f.path.take j)):=by
   have:=hinv.val e2 hmem;obtain⟨h1,h2⟩:=Gu.1 his;rw[this,h1,h2]
  have hok:cC (m+1) e2.k:=by rw[hek];exact zm (hb _ _) f c j _ _
  obtain⟨hea,hep⟩:=Gu.1 his;obtain⟨pre2,post2,rfl⟩:=List.append_of_mem hmem;replace hs:=HS (X:=[.box nx (GD f.arg (f.path.take j))]) hs;have hck:A7 j=j:=AS (by omega);rcases A9 f.path hj with⟨s,hsj,hjlt⟩|hje
  .have hct:=fun b=>B3 e2.k.AI b s
   have hk4:=hok.2.2.2;have hsl0:fO e2.k s= {e2.k with AI:=JR e2.k.AI s}:=rfl
   have hne:f.path.take j++[s]≠f.path.take j:=by
    intro e;have:=congrArg List.length e;simp at this
   have hgd:f.path.getD j 0=s:=by rw[Cq,hsj];rfl
   have htk:f.path.take (j+1)=f.path.take j++[s]:=AU hsj;cases hcB:e2.k.AI.contains s
   all_goals
    rw[hcB]at hct
    conv=>whnf
    repeat'((first|clear U K|apply st|(apply zk;intro K U)|refine zY ?_|refine zs fun Z hs=>?_|refine aq fun v Z hs hsl=>?_|refine Pure.Pk (hct false) (.cons (hs.MB 2 rfl) (.cons (.refl _) .nil)) rfl ?_|refine Pure.use (MZ f.arg (f.path.take j) s (by rw[Je];omega)) ?_|fail)<;>conv=>whnf)
   refine(fu (.inl hsl)).use (rest:=_) (hs.front (j:=2) rfl) ?_;clear hs;rintro r post Z ⟨rfl,rfl⟩ hs;replace hs:Sat Z (.box e2.b [eI e2.k.low,eI e2.k.high,e2.vn,eU e2.k.BO,eU e2.k.Dm,.b e2.k.whole,.b e2.k.AV,v]:: .own e2.vn 1 (iL e2.k.no):: .own v 1 (iL ((e2.k.AI++[s]).mergeSort H0))::([.box nx (GD f.arg (f.path.take j))]++IB L (pre2++e2::post2) pre2 post2)):=hs.perm (JH _ _ _ _)
   conv=>whnf
   repeat'((first|clear U K|apply st|(apply zk;intro K U)|refine zY ?_|refine zs fun Z hs=>?_|refine Pure.use (MZ f.arg (f.path.take j) s (by rw[Je];omega)) ?_|fail)<;>conv=>whnf)
   have hs3: ∃vs3,Sat Z (.box nx (GD f.arg (f.path.take j++[s]))::BM L (pre2++⟨e2.a,e2.p,e2.b,e2.vn,vs3,fO e2.k s⟩::post2)):=⟨v,Dy (X:=[_]) (e:=e2) rfl rfl rfl (by rw[hsl0,JR,if_neg (by rw[hcB];decide)];exact hs)⟩
   rotate_left
   have hs3: ∃vs3,Sat Z (.box nx (GD f.arg (f.path.take j++[s]))::BM L (pre2++⟨e2.a,e2.p,e2.b,e2.vn,vs3,fO e2.k s⟩::post2)):=⟨e2.vs,Dy (X:=[_]) (e:=e2) rfl rfl rfl (by rw[hsl0,JR,if_pos hcB];exact hs)⟩
   all_goals
    clear hs;obtain⟨vs3,hs⟩:=hs3;have hinv3:=hinv.change e2.b e2.vn vs3 (fO e2.k s);refine(LP w us hinv3 (a:=f.arg) (p:=f.path.take j++[s]) (by rw[HQ,Je];simp;omega)).use (rest:=[.box nx (GD f.arg (f.path.take j++[s]))]) (hs.perm (N2 _ _)) ?_;clear hs;rintro r post Z ⟨es4,e4,got,rfl,rfl⟩ hs;have hek4:=got.k;obtain⟨hea4,hep4⟩:=Gu.1 got.is;obtain⟨pre4,post4,rfl⟩:=List.append_of_mem got.mem;replace hs:=HS (X:=[.box nx (GD f.arg (f.path.take j++[s]))]) (hs.perm HP);cases hnd:e4.k.AV<;>rw[hnd]at hs
    all_goals
     conv=>whnf
     repeat'((first|clear U K|apply st|(apply zk;intro K U)|refine zY ?_|refine zs fun Z hs=>?_|fail)<;>conv=>whnf)
     refine⟨hjlt,(pre4++⟨e4.a,e4.p,e4.b,e4.vn,e4.vs,Bz e4.k c⟩::post4,⟨e4.a,e4.p,e4.b,e4.vn,e4.vs,Bz e4.k c⟩),rfl,⟨(got.inv.change e4.b e4.vn e4.vs (Bz e4.k c)).congr fun a p=>?_,NR _ (.head _),by rw[htk];exact got.is⟩,?_⟩
     .rw[oy f c hjlt,NU,hea4,hep4,htk,hgd]
      by_cases h1:a=f.arg/\p=f.path.take j++[s]
      .rw[if_pos h1,if_pos h1,hek4,NU,hea,hep,if_neg (fun h=>hne h.2),h1.1,h1.2]
      .rw[if_neg h1,if_neg h1,NU,hea,hep]
       by_cases h2:a=f.arg/\p=f.path.take j
       .rw[if_pos h2,if_pos h2,hek,h2.1,h2.2]
       .rw[if_neg h2,if_neg h2]
     .rw[htk]
      refine Dy (X:=[.box nx (GD f.arg (f.path.take j++[s]))]) (e:=e4) rfl rfl rfl ?_
      first
       | (rw[Kt c hnd];exact hs)
       | (rw[I6 c hnd];exact hs)
  .have etk:f.path.take j=f.path:=BA hje
   rw[etk]at his hs hek hep;refine zz ?_;(repeat clear U K);repeat intro K U
   refine(yB f c l1 l3 hok.1 hok.2.1 (by have:=hok.2.2.1;omega) l4).use (rest:=[.box nx (GD f.arg f.path)]++IB L (pre2++e2::post2) pre2 post2) hs ?_;rintro r post Z ⟨rfl,vn',rfl⟩ hs
   conv=>whnf
   repeat'((first|clear U K|apply st|fail)<;>conv=>whnf)
   refine AJ ⟨_,⟨rfl,_,(hinv.change e2.b vn' e2.vs (Bx e2.k f c)).congr fun a p=>?_,rfl⟩,(Dy (X:=[.box nx (GD f.arg f.path)]) (e:=e2) (e':=⟨e2.a,e2.p,e2.b,vn',e2.vs,Bx e2.k f c⟩) rfl rfl rfl hs).less (Gg _ _)⟩;rw[NU,hea,hep,hek,<-hje];by_cases h1:a=f.arg/\p=f.path
   .rw[if_pos h1,if_pos h1,h1.1,h1.2]
   .rw[if_neg h1,if_neg h1]
def yG (w:AF) (us:List Nat) {kf:Int->List Int->Kn} {L:Nat} {es:List Bv} (h:Bj kf es) (l:Fact) (hl:gZ (Ad l).1) {m:Nat} (hm:m<1000) (hb: ∀a p,cC m (kf a p)) :
    BL zP 130 [HF w us L,.a (Ja l)] (BM L es) fun r post=>r= .ret (.t [])/\ ∃es',Bj (fun a p=>C7 a p (kf a p) l) es'/\post=BM L es':=fun Z hs=>
 As.mono (qS w us h (Ad l).1 (Ad l).2 hl hm hb Z hs) fun r Z' ⟨post,⟨h1,es',h2,h3⟩,h4⟩=>⟨post,⟨h1,es',h2.congr fun a p=>(tw a p (kf a p) l).symm,h3⟩,h4⟩
def Nn (ls:List Fact):Prop:= ∀l∈ls,gZ (Ad l).1
def iG {ls:List Fact} (h:Nn ls) (a:Int) (p:List Int):cC ls.length (kn ls a p):=by
 have hc:Gm 64 ls:=fun l hl ho=>(h l hl).cls ho
 obtain⟨h1,h2⟩:=o6 hc a p;obtain⟨h3,h4⟩:=iH a p ls k0;exact⟨by simpa using h1,by simpa using h2,by simpa[kn,k0]using h3,by simpa[kn,k0]using h4⟩
def inv0:Bj (kn []) []:=⟨fun x hx=>(by cases hx),fun a p _=>rfl,.nil,fun x hx=>(by cases hx)⟩
def V6 (w:AF) (us:List Nat) (ls:List Fact) (b:Bool) (h:Nn ls) (hlen:ls.length<900) :
    BL zP 64 [.rp (wC w us),.l (Dt ls) b] [] fun r post=> ∃L es,r= .ret (HF w us L)/\Bj (kn ls) es/\post=BM L es:=by
 intro Z hs;have hM:=Mx;refine AAT kZ ?_
 conv=>whnf
 repeat'((first|clear U K|apply st|(apply zk;intro K U)|refine zo fun nn hnn Z hs=>?_|fail)<;>conv=>whnf)
 generalize nn=L at *;refine B4 ls.length (fun k (x:List Bv)=>[(14,eI (A7 k))]) (fun k x=>BM L x) (fun k x=>Bj (kn (ls.take k)) x) [] rfl inv0 hs ?_;clear hs hnn;rintro k es Z hk hinv hs;rcases A9 ls hk with⟨l,hlk,hlt⟩|hke
 .have hlm:l∈ls:=B6 hlk
  have htk:ls.take (k+1)=ls.take k++[l]:=AU hlk;have hbk: ∀a p,cC (ls.take k).length (kn (ls.take k) a p):=iG fun x hx=>h x (List.mem_of_mem_take hx)
  conv=>whnf
  repeat'((first|clear U K|apply st|(apply zk;intro K U)|refine zY ?_|refine zs fun Z hs=>?_|refine zo fun nn hnn Z hs=>?_|fail)<;>conv=>whnf)
  rename_i nb hnb _ hs;generalize nn=n7 at *;refine(yG w us hinv l (h l hlm) (m:=(ls.take k).length) (by rw[Je];omega) hbk).use (rest:=[.box n7 (Ja l)]) (hs.perm (N2 _ _)) ?_;clear hs;rintro r post Z ⟨rfl,es',hinv',rfl⟩ hs;refine zz ?_;(repeat clear U K);repeat intro K U
  refine⟨hlt,es',rfl,?_,hs.less (List.sublist_append_left _ _)⟩;rw[htk];exact hinv'.congr fun a p=>(o5 _ _ _ _).symm
 .have etk:ls.take k=ls:=BA hke
  rw[etk]at hinv;refine zz ?_;(repeat clear U K);repeat intro K U
  exact AJ ⟨_,⟨L,es,rfl,hinv,rfl⟩,hs⟩
end Go.Gl
