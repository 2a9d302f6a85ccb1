import Derived.Test.YtegbmnmnaijioaaGreatH5
import Derived.Test.YtegbmnmnaijioaaGreatH6
set_option linter.all false
set_option linter.defProp false
noncomputable section
namespace Go.Gl
open Go.Proofs
attribute [local irreducible] A7 Ap Af AT AM Ae AS AU AL Ad AO AP Aw A1 Sat AX Az Ah W
def rm (g:List (List Int)) (f:Bool) (c:Int) (hg:Ib g) (h0:0≤c) (h1:c<3+g.length):Pure Tryz.prog 233 [.l (E3 g) f,eI c] (.t [.l (iL ((CC g).getD c.toNat [])) false,.b (!((CC g).getD c.toNat []).isEmpty)]):=by
 refine uB kZ ?_
 conv=>whnf
 repeat((first|(refine Ar ?_;intro K U)|(refine Ab ?_;intro I C G F)|(apply G;clear F C G I)|(apply U;clear U K)|fail);conv=>whnf)
 refine(bz g f hg).use ?_
 conv=>whnf
 have hlen:=Cn g (2+g.length);have hlt:c.toNat<(CC g).length:=by unfold CC;omega
 have hq:=EN hlt;refine Ul c.toNat hq (by omega) rfl ?_
 conv=>whnf
 repeat((first|refine⟨rfl,?_⟩|refine Bw ?_|refine FO ?_|(refine Ar ?_;intro K U)|(refine Ab ?_;intro I C G F)|(apply G;clear F C G I)|refine Dp ?_|(apply U;clear U K)|fail);conv=>whnf)
 refine AI ?_;rw[D9,hq,Option.getD_some];cases(CC g)[c.toNat]with
 | nil=>rfl
 | cons _ _=>simp
def yo (w:AJ):Prop:=w.parents.length≤1000∧(∀l∈w.parents,l.length≤Aj)∧w.owner.length≤Aj
def rC {ps:List (List Int)} {c:Nat} (h3:3≤c) (hc:c<3+ps.length):ps[c - 3]? =some (par ps c):=by
 unfold par;rw[if_neg (by omega),D9,EN (by omega)];rfl
def ZC {bs:List Bool} {j:Nat} (h:j<bs.length):(bL bs)[j]? =some [.b (bs.getD j false)]:=by
 rw[Q8,D9,EN h];rfl
def Xr (bs:List Bool) (j:Nat) (x:Bool):(bL bs).set j [.b x]=bL (bs.set j x):=by
 simp[bL,List.map_set]
def w8 (w : AJ) (c:Nat) (hw:yo w) (ho:ordered w.parents) (hc:c<3+w.parents.length):Pure Tryz.prog 333 [.a (BC w),eI c] (.l (bL (HN w.parents (3+w.parents.length) c (c - 2))) false):=by
 obtain⟨hw1,hw2,hw3⟩:=hw;have hmL:3+w.parents.length≤Aj:=by simp only[Aj];omega
 refine sh kZ ?_
 conv=>whnf
 repeat((first|refine⟨rfl,?_⟩|refine Bw ?_|refine FO ?_|(refine Ar ?_;intro K U)|(refine Ab ?_;intro I C G F)|(apply G;clear F C G I)|(apply U;clear U K)|fail);conv=>whnf)
 rw[show IntKind.i64.wrap (3+((E3 w.parents).length:Nat))=((3+w.parents.length:Nat):Int) by rw[BT,wrap64 (by omega) (by omega)];omega];refine hMk Sat.nil (by omega) fun v σ hs hv=>?_
 obtain⟨id,rfl⟩:=hv
 conv=>whnf
 repeat((first|(refine Ar ?_;intro K U)|(refine Ab ?_;intro I C G F)|(apply G;clear F C G I)|(apply U;clear U K)|fail);conv=>whnf)
 refine kX hs 0 c rfl rfl (by simpa using hc) ?_
 conv=>whnf
 refine Lq hs 0 rfl (e:=[.b false]) (by simp[hc]) rfl rfl rfl rfl rfl fun σ hs=>?_
 have e0:(List.replicate (3+w.parents.length) [V.b false]).set c [V.b true]=bL (HN w.parents (3+w.parents.length) c 0):=by
  simp only[HN];rw[←Xr];simp[bL]
 conv=>whnf
 repeat((first|(refine Ar ?_;intro K U)|(refine Ab ?_;intro I C G F)|(apply G;clear F C G I)|refine Bi ?_|refine Dt ?_|(apply U;clear U K)|fail);conv=>whnf)
 refine C3 (c - 2) (fun k (_:Unit)=>[(6,eI (bM c k))]) (fun k _=>[.own (.sl id (3+w.parents.length) (3+w.parents.length)) 1 (bL (HN w.parents (3+w.parents.length) c k))]) (fun _ _=>True) () rfl trivial (e0 ▸ hs) ?_;rintro k - σ hk - hs;have hd:bM c k=(c:Int) - k:=aI (by omega) (by omega);have hul:=LN w.parents (3+w.parents.length) c k
 conv=>whnf
 repeat((first|refine⟨rfl,?_⟩|(refine Ar ?_;intro K U)|(refine Ab ?_;intro I C G F)|(apply G;clear F C G I)|refine Bq ?_|(apply U;clear U K)|fail);conv=>whnf)
 refine fork (fun hlt=>?_) (fun hlt=>?_)
 ·rw [hd]at hlt
  have h3:3≤c - k:=by omega
  have hpar:=rC (ps:=w.parents) h3 (by omega);have hpl:=hw2 _ (DL hpar)
  conv=>whnf
  repeat((first|refine⟨rfl,?_⟩|refine Bw ?_|(refine Ar ?_;intro K U)|(refine Ab ?_;intro I C G F)|refine B2 ?_|refine Bi ?_|(apply U;clear U K)|fail);conv=>whnf)
  refine Ul (c - k - 3) hpar (by rw[hd,wrap64 (by omega) (by omega)];omega) rfl ?_
  conv=>whnf
  repeat((first|refine Bw ?_|refine FO ?_|(apply G;clear F C G I)|refine Bi ?_|refine Dt ?_|(apply U;clear U K)|fail);conv=>whnf)
  refine C3 (par w.parents (c - k)).length (fun j (_:Unit)=>[(29,eI (Bc j))]) (fun j _=>[.own (.sl id (3+w.parents.length) (3+w.parents.length)) 1 (bL (Ft (HN w.parents (3+w.parents.length) c k) (c - k) ((par w.parents (c - k)).take j)))]) (fun _ _=>True) () rfl trivial hs ?_;rintro j - σ hj - hs;have hml:=M5 (c - k) ((par w.parents (c - k)).take j) (HN w.parents (3+w.parents.length) c k)
  conv=>whnf
  repeat((first|refine⟨rfl,?_⟩|(refine Ar ?_;intro K U)|(refine Ab ?_;intro I C G F)|(apply G;clear F C G I)|refine Bq ?_|(apply U;clear U K)|fail);conv=>whnf)
  refine GZ hj hpl (fun p hp hjlt=>?_) fun hj=>?_
  ·have hpp:=ho _ p (DL hp)
   have hm:(Ft (HN w.parents (3+w.parents.length) c k) (c - k) ((par w.parents (c - k)).take (j+1)))=(Ft (HN w.parents (3+w.parents.length) c k) (c - k) ((par w.parents (c - k)).take j)).set p.toNat
    ((Ft (HN w.parents (3+w.parents.length) c k) (c - k) ((par w.parents (c - k)).take j)).getD p.toNat false||(Ft (HN w.parents (3+w.parents.length) c k) (c - k) ((par w.parents (c - k)).take j)).getD (c - k) false):=by
    rw[Aa hp,L6];rfl
   generalize hbs:Ft (HN w.parents (3+w.parents.length) c k) (c - k) ((par w.parents (c - k)).take j)=bs at *;have hlp:p.toNat<bs.length:=by omega
   have hlc:c - k<bs.length:=by omega
   conv=>whnf
   repeat((first|(refine Ar ?_;intro K U)|(refine Ab ?_;intro I C G F)|refine B2 ?_|refine Bi ?_|(apply U;clear U K)|fail);conv=>whnf)
   refine I3 hp hpl rfl ?_
   conv=>whnf
   repeat((first|refine Bw ?_|(refine Ab ?_;intro I C G F)|(apply G;clear F C G I)|(apply U;clear U K)|fail);conv=>whnf)
   refine kX hs 0 p.toNat rfl (by omega) (by simpa using hlp) ?_
   conv=>whnf
   refine ID hs 0 rfl (ZC hlp) ?_
   conv=>whnf
   cases hb:bs.getD p.toNat false with
   | true=>
     rw[hb]at hm
     conv=>whnf
     repeat((first|refine aW ?_|fail);conv=>whnf)
     refine kX hs 0 p.toNat rfl (by omega) (by simpa using hlp) ?_
     conv=>whnf
     refine Lq hs 0 rfl (ZC hlp) rfl rfl rfl rfl rfl fun σ hs=>?_
     conv=>whnf
     repeat((first|refine⟨rfl,?_⟩|(refine Ab ?_;intro I C G F)|(apply G;clear F C G I)|(apply U;clear U K)|(clear U K));conv=>whnf)
     refine⟨hjlt,(),rfl,trivial,?_⟩;rw[hm,←Xr];exact hs
   | false=>
     rw[hb]at hm
     conv=>whnf
     repeat((first|refine Tu ?_|fail);conv=>whnf)
     refine kX hs 0 (c - k) rfl (by rw[hd];omega) (by simpa using hlc) ?_
     conv=>whnf
     repeat((first|refine Tu ?_|fail);conv=>whnf)
     refine ID hs 0 rfl (ZC hlc) ?_
     conv=>whnf
     refine kX hs 0 p.toNat rfl (by omega) (by simpa using hlp) ?_
     conv=>whnf
     refine Lq hs 0 rfl (ZC hlp) rfl rfl rfl rfl rfl fun σ hs=>?_
     conv=>whnf
     repeat((first|refine⟨rfl,?_⟩|(refine Ab ?_;intro I C G F)|(apply G;clear F C G I)|(apply U;clear U K)|(clear U K));conv=>whnf)
     refine⟨hjlt,(),rfl,trivial,?_⟩;rw[hm,←Xr];exact hs
  ·rw[BI hj]at hs
   conv=>whnf
   repeat((first|refine⟨rfl,?_⟩|(refine Ab ?_;intro I C G F)|(apply G;clear F C G I)|refine Du ?_|(apply U;clear U K)|(clear U K));conv=>whnf)
   refine⟨by omega,(),rfl,trivial,hs⟩
 ·rw[hd]at hlt
  conv=>whnf
  repeat((first|(refine Ar ?_;intro K U)|(refine Ab ?_;intro I C G F)|(apply G;clear F C G I)|refine Du ?_|refine Dp ?_|(apply U;clear U K)|(clear U K));conv=>whnf)
  have:k=c - 2:=by omega
  subst this;exact Ge hs 0 rfl rfl
end Go.Gl
namespace Go.Gl
variable {P:Program} {σ σ':AH}
mutual
def FU:V→Prop
 | .i k n=>k.min≤n∧n≤k.max
 | .rp cs=>Hy cs
 | .l es _=>es.length≤Aj∧Uf es
 | .f _ a b=>Hy a∧Hy b
 | .FJ _ v=>FU v
 | .a cs=>Hy cs
 | .t vs=>Hy vs
 | _=>True
def Hy:List V→Prop
 | []=>True
 | v::r=>FU v∧Hy r
def Uf:List (List V)→Prop
 | []=>True
 | e::r=>Hy e∧Uf r
end
mutual
def pF {H:Nat→Nat→Option Value}: ∀(v:V) (c:Value),Ai H v c→FU v
 | .b _,_,_| .s _,_,_| .pn,_,_| .p _ _,_,_| .sl _ _ _,_,_| .sv _ _ _ _,_,_| .pe _ _ _ _,_,_| .m _,_,_| .mn,_,_| .K6,_,_| .Dv,_,_| .any,_,_=>by simp only[FU]
 | .i k n,_,h=>by
   simp only[Ai]at h;simp only[FU];exact h.2
 | .rp cs,_,h=>by
   simp only[Ai]at h;obtain⟨b,o,rfl,h⟩:=h;simp only[FU];exact JD cs o h
 | .l es full,_,h=>by
   simp only[Ai]at h;obtain⟨a,cap,h1,h2,h3,h4,h5,h6⟩:=h;simp only[FU];refine⟨h4,?_⟩;cases es with
   | nil=>exact trivial
   | cons e es=>
     obtain⟨b,o,sz,h7,h8⟩:=h6 (by simp);exact gG (e::es) o h8
 | .f fn first cap,_,h=>by
   simp only[Ai]at h;obtain⟨f',c',h1,h2,h3,h4,h5⟩:=h;simp only[FU];exact⟨JD first 0 h3,JD cap 0 h5⟩
 | .FJ t v,_,h=>by
   simp only[Ai]at h;obtain⟨c',h1,h2⟩:=h;simp only[FU];exact pF v c' h2
 | .a cs,_,h=>by
   simp only[Ai]at h;obtain⟨c',h1,h2,h3⟩:=h;simp only[FU];exact JD cs 0 h3
 | .t cs,_,h=>by
   simp only[Ai]at h;obtain⟨c',h1,h2,h3⟩:=h;simp only[FU];exact JD cs 0 h3
def JD {H:Nat→Nat→Option Value} {g:Nat→Option Value}: ∀(vs:List V) (o:Nat),Bb H g o vs→Hy vs
 | [],_,_=>trivial
 | v::vs,o,h=>by
   simp only[Bb]at h;obtain⟨⟨c,h1,h2⟩,h3⟩:=h;exact⟨pF v c h2,JD vs (o+1) h3⟩
def gG {H:Nat→Nat→Option Value} {g:Nat→Option Value} {sz:Nat}: ∀(es:List (List V)) (o:Nat),BM H g sz o es→Uf es
 | [],_,_=>trivial
 | e::es,o,h=>by
   simp only[BM]at h;obtain⟨h1,h2,h3⟩:=h;exact⟨JD e o h2,gG es (o+sz) h3⟩
end
def A7.fit {f:FuncId} {args:List V} {Q:R→AH→Prop} (hok:okF P f=true) (h:Hy args→A7 P f args σ Q):A7 P f args σ Q:=
 ⟨hok,fun Λ w cs G hv=>(h (JD args 0 hv.2)).2 Λ w cs G hv⟩
def Pure.fit {f:FuncId} {args:List V} {v:V} (hok:okF P f=true) (h:Hy args→Pure P f args v):Pure P f args v:=A7.fit hok h
def B3.fit {f:FuncId} {args:List V} {pre:List At} {Φ:R→List At→Prop} (hok:okF P f=true) (h:Hy args→B3 P f args pre Φ):B3 P f args pre Φ:=fun σ hs=>A7.fit hok fun hf=>h hf σ hs
def jX {es:List (List V)}:Uf es↔ ∀e∈es,Hy e:=by
 induction es with
 | nil=>simp[Uf]
 | cons e r ih=>simp[Uf,ih]
def JJ {α:Type} {enc:α→List V} {xs:List α}:Uf (xs.map enc)↔ ∀x∈xs,Hy (enc x):=by
 rw[jX];simp
def FY {es:List (List V)} {f:Bool}:FU (.l es f)↔es.length≤Aj∧Uf es:=Iff.rfl
def JE {cs:List V}:FU (.a cs)↔Hy cs:=Iff.rfl
def Tk {cs:List V}:FU (.rp cs)↔Hy cs:=Iff.rfl
def Et {v:V} {r:List V}:Hy (v::r)↔FU v∧Hy r:=Iff.rfl
def drop_cons {α:Type} {xs:List α} {k:Nat} {x:α} (h:xs[k]? =some x):xs.drop k=x::xs.drop (k+1):=by
 obtain⟨hk,rfl⟩:=MK.1 h;exact List.drop_eq_getElem_cons hk
def Au {α:Type} {xs:List α} {k:Nat} (h:k=xs.length):xs.drop k= []:=List.drop_of_length_le (by omega)
end Go.Gl
namespace Go.Gl
variable {P:Program} {σ:AH} {env:Env}
class UT (AD:Prop) (G':outParam Prop):Prop where
 h:G'→AD
def st {AD G':Prop} [i:UT AD G'] (h:G'):AD:=i.h h
def sq {l:List Nat} {a b:AY} {Q:Ag→Env→AH→Prop} (h: ∀K:Env→AH→Prop,(∀env σ,(pk l env fun E=>W P b Q E σ)→K env σ)→W P a (Ag.andThen K Q) env σ):W P (.seq l a b) Q env σ:=Ar h
class yl (AD:Prop) (G':outParam Prop):Prop where
 h:G'→AD
def si {AD G':Prop} [i:yl AD G'] (h:G'):AD:=i.h h
instance {ops:List Av} {Q:Ag→Env→AH→Prop}:yl (W P (.DT ops) Q env σ) (∀(I:Env→AH→Prop) (C:Env→V→AH→Prop),(∀env σ,Q .normal env σ→I env σ)→(∀env v σ,Q (.Bo v) env σ→C env v σ)→WT P ops I C env σ):=⟨Ab⟩
instance {l:List Nat} {ops:List Cv} {Q:Ag→Env→AH→Prop}:yl (W P (.HQ l ops) Q env σ) (∀(I:Env→AH→Prop) (C:V→AH→Prop),(∀env σ,(pk l env fun E=>Q .normal E σ)→I env σ)→(∀v σ,(∀σ',Sub σ σ'→Q (.Bo v) [] σ')→C v σ)→WD P ops I C env σ):=⟨oM⟩
instance {c:Bt} {a b:AY} {Q:Ag→Env→AH→Prop}:UT (W P (.cond c a b) Q env σ) (match ev env c with
 | some (.b t)=>(t=true→W P a Q env σ)∧(t=false→W P b Q env σ)
 | _=>False):=⟨Bq⟩
instance {id:Nat} {a:AY} {Q:Ag→Env→AH→Prop}:UT (W P (.block id a) Q env σ) (W P a (Ag.inBlock id Q) env σ):=⟨Bi⟩
instance {l:List Nat} {a:AY} {Q:Ag→Env→AH→Prop}:UT (W P (.loop l a) Q env σ) (pk l env fun E=>Ah l a (W P a) Q E σ):=⟨Dt⟩
instance {id:Nat} {Q:Ag→Env→AH→Prop}:UT (W P (.exit id) Q env σ) (Q (.exit id) env σ):=⟨Du⟩
instance {Q:Ag→Env→AH→Prop}:UT (W P .ret Q env σ) (Q .ret env σ):=⟨Dp⟩
instance {Q:Ag→Env→AH→Prop}:UT (W P .skip Q env σ) (Q .normal env σ):=⟨B2⟩
instance {a:AY} {Q:Ag→Env→AH→Prop}:UT (W P (.scope a) Q env σ) (W P a Q env σ):=⟨kI⟩
instance {l:List Nat} {g:Bt} {ps:List Nat} {a b:AY} {Q:Ag→Env→AH→Prop}:UT (W P (.D0 l g ps a b) Q env σ) (match ev env g with
 | some (.f (.func gf) [] cap)=>pk l env fun E=> ∀L,σ L=none→A7 P gf (.f (.yield L) [] []::cap) (A5 σ L (.loop .ready E (B6 P ps a b))) (Kg L Q env)
 | _=>False):=⟨kJ⟩
instance {A B:Prop}:UT ((true=true→A)∧(true=false→B)) A:=⟨Mo⟩
instance {A B:Prop}:UT ((false=true→A)∧(false=false→B)) B:=⟨TI⟩
instance {A B:Prop}:UT ((false=false→A)∧(false=true→B)) A:=⟨Tu⟩
instance {A B:Prop}:UT ((true=false→A)∧(true=true→B)) B:=⟨aW⟩
instance {A B:Prop} {b:Bool}:UT ((b=true→A)∧(b= !true→B)) ((b=true→A)∧(b=false→B)):=⟨id⟩
instance {A B:Prop} {b:Bool}:UT ((b=false→A)∧(b= !false→B)) ((b=false→A)∧(b=true→B)):=⟨id⟩
instance {agg:Option Nat} {cs:List V} {K:V→Prop}:UT (AX σ agg (.rp cs) K) (cut agg cs 0 K):=⟨fun h=>h⟩
instance {es:List (List V)} {f:Bool} {K:V→Prop}:UT (Az (.l es f) K) (K (.i .i64 es.length)):=⟨FO⟩
def kc {K A:Env→AH→Prop} (h:A env σ) (hk: ∀env σ,A env σ→K env σ:=by assumption):K env σ:=hk _ _ h
def kp {K A:Env→V→AH→Prop} {v:V} (h:A env v σ) (hk: ∀env v σ,A env v σ→K env v σ:=by assumption):K env v σ:=hk _ _ _ h
def rk {x:Av} {r:List Av} {A:Prop} (h1:HZ P x env σ) (h2:Ed P r env σ∧A):Ed P (x::r) env σ∧A:=⟨⟨h1,h2.1⟩,h2.2⟩
def dr {A:Prop} (h:A):Ed P [] env σ∧A:=⟨trivial,h⟩
class BP (b v:Bool) (p:outParam Prop):Prop where
 h:b=v→p
def bp {b v:Bool} {p:Prop} [i:BP b v p] (h:b=v):p:=i.h h
instance (priority:=low) {b v:Bool}:BP b v (b=v):=⟨id⟩
instance (priority:=mid) {p:Prop} [Decidable p]:BP (decide p) true p:=⟨of_decide_eq_true⟩
instance (priority:=mid) {p:Prop} [Decidable p]:BP (decide p) false (¬p):=⟨of_decide_eq_false⟩
instance {a b:Int}:BP (decide (a<b)) false (b≤a):=⟨fun h=>Int.not_lt.1 (of_decide_eq_false h)⟩
instance {a b:Int}:BP (decide (a≤b)) false (b<a):=⟨fun h=>Int.not_le.1 (of_decide_eq_false h)⟩
instance {a b:Int}:BP (a==b) true (a=b):=⟨fun h=>by simpa using h⟩
instance {a b:Int}:BP (a==b) false (a≠b):=⟨fun h=>by simpa using h⟩
instance {a b:Int}:BP (a != b) true (a≠b):=⟨fun h=>by simpa using h⟩
instance {a b:Int}:BP (a != b) false (a=b):=⟨fun h=>by simpa using h⟩
instance {b:Bool} {p:Prop} [i:BP b false p]:BP (!b) true p:=⟨fun h=>i.h (by simpa using h)⟩
instance {b:Bool} {p:Prop} [i:BP b true p]:BP (!b) false p:=⟨fun h=>i.h (by simpa using h)⟩
instance {b x v:Bool} {p:Prop} [i:BP b v p]:BP (bif false then x else b) v p:=⟨i.h⟩
instance {b x v:Bool} {p:Prop} [i:BP b v p]:BP (bif true then b else x) v p:=⟨i.h⟩
def fc {α:Type} {enc:α→List V} {xs:List α} {k:Nat} {A B:Prop} (h1: ∀x,xs[k]? =some x→k<xs.length→decide (Bc k<((xs.map enc).length:Nat))=true→A) (h2:k=xs.length→decide (Bc k<((xs.map enc).length:Nat))=false→B) (hk:k≤xs.length:=by assumption) (hm:xs.length≤Aj:=by first|assumption|omega|simp[Aj]<;>omega) :
    (decide (Bc k<((xs.map enc).length:Nat))=true→A)∧(decide (Bc k<((xs.map enc).length:Nat))=false→B):=
 ⟨fun h=>(GZ (enc:=enc) (A:=A) (B:=True) hk hm (fun x hx hlt=>h1 x hx hlt h) fun _=>trivial).1 h,fun h=>(GZ (enc:=enc) (A:=True) (B:=B) hk hm (fun _ _ _=>trivial) fun he=>h2 he h).2 h⟩
def ix {α:Type} {enc:α→List V} {xs:List α} {f:Bool} {sz:Nat} {K:V→Prop} {ki:IntKind} {k:Nat} {x:α} (h:K (.rp (enc x))) (hx:xs[k]? =some x:=by assumption) (hm:xs.length≤Aj:=by first|assumption|omega|simp[Aj]<;>omega) (hs:(enc x).length=sz:=by first|rfl|simp) :
    AT sz none (.l (xs.map enc) f) (.i ki (Bc k)) K:=I3 hx hm hs h
def iq {α:Type} {enc:α→List V} {xs:List α} {f:Bool} {sz:Nat} {K:V→Prop} {ki:IntKind} {j:Int} (h: ∀x,xs[j.toNat]? =some x→K (.rp (enc x))) (h0:0≤j:=by omega) (h1:j<xs.length:=by omega) (hs: ∀x,(enc x).length=sz:=by intro x;first|rfl|simp|(rw[Ba];rfl)) :
    AT sz none (.l (xs.map enc) f) (.i ki j) K:=by
 have hlt:j.toNat<xs.length:=by omega
 exact Ul j.toNat (EN hlt) (by omega) (hs _) (h _ (EN hlt))
def ya {α:Type} {enc:α→List V} {xs:List α} {f:Bool} {sz:Nat} {ki:IntKind} {k:Nat} {K:V→AH→Prop} (h:K (.l ((xs.take k).map enc) (f&&decide ((k:Int)=((xs.map enc).length:Nat)))) σ) (hl:k≤xs.length:=by first|assumption|omega) (hm:xs.length≤Aj:=by first|assumption|omega) (hs: ∀x,(enc x).length=sz:=by intro x;first|rfl|simp|(rw[Ba];rfl)) :
    AS σ sz (.l (xs.map enc) f) none (some (.i ki (Bc k))) none K:=by
 rw[AN (by omega)];refine⟨fun e he=>?_,?_⟩
 ·obtain⟨x,_,rfl⟩:=KE.1 he
  exact hs x
 ·simp only[Ql,BT]
  refine⟨by omega,by omega,by omega,?_⟩;rw[MH];simpa[List.map_take]using h
def UR {xs:List Fact} {f:Bool} {K:V→Prop} {ki:IntKind} {k:Nat} {x:Fact} (h:K (.rp (xF x))) (hx:xs[k]? =some x:=by assumption) (hm:xs.length≤Aj:=by first|assumption|omega):AT 6 none (.l (xs.map Fw) f) (.i ki (Bc k)) K:=by
 refine I3 hx hm (by rw[Ba];rfl) ?_;rw[Ba];exact h
def UL {a0:At} {l:List At}:(a0::l)[0]? =some a0:=rfl
def UK {a0 a1:At} {l:List At}:(a0::a1::l)[1]? =some a1:=rfl
def UJ {a0 a1 a2:At} {l:List At}:(a0::a1::a2::l)[2]? =some a2:=rfl
def UI {a0 a1 a2 a3:At} {l:List At}:(a0::a1::a2::a3::l)[3]? =some a3:=rfl
def UH {a0 a1 a2 a3 a4:At} {l:List At}:(a0::a1::a2::a3::a4::l)[4]? =some a4:=rfl
def UG {a0 a1 a2 a3 a4 a5:At} {l:List At}:(a0::a1::a2::a3::a4::a5::l)[5]? =some a5:=rfl
def ld {l:List At} {i n off:Nat} {agg:Option Nat} {vs:List V} {K:V→Prop} (hk:cut agg vs off K) (h:Sat σ l:=by assumption)
    (hi:l[i]? =some (.box n vs):=by first|exact UL|exact UK|exact UJ|exact UI|exact UH|exact UG):AX σ agg (.p n off) K:=Y8 h i hi hk
def s1 {l:List At} {i n off:Nat} {vs:List V} {x:V} {K:AH→Prop} (hk: ∀σ',Sat σ' (l.set i (.box n (vs.set off x)))→K σ') (h:Sat σ l:=by assumption)
    (hi:l[i]? =some (.box n vs):=by first|exact UL|exact UK|exact UJ|exact UI|exact UH|exact UG)
    (h1:CO x=true:=by first|rfl|exact G9 (by assumption) 0 rfl|exact G9 (by assumption) 1 rfl|exact G9 (by assumption) 2 rfl|exact G9 (by assumption) 3 rfl|simp) (ho:off+1≤vs.length:=by exact Nat.le_of_ble_eq_true rfl):AU σ 1 (.p n off) x K:=
 LR h i hi h1 ho hk
def sn {l:List At} {i n off sz:Nat} {vs vc:List V} {x:V} {K:AH→Prop} (hk: ∀σ',Sat σ' (l.set i (.box n (putAt vs off vc)))→K σ') (h:Sat σ l:=by assumption)
    (hi:l[i]? =some (.box n vs):=by first|exact UL|exact UK|exact UJ|exact UI|exact UH|exact UG)
    (hc:cellsOf x=some vc:=by rfl) (hl:vc.length=sz:=by rfl) (h1:vc.all CO=true:=by first|rfl|simp) (ho:off+sz≤vs.length:=by exact Nat.le_of_ble_eq_true rfl):AU σ sz (.p n off) x K:=
 H5 h i hi hc hl h1 ho hk
def KY:GX (fun f:Fact=>Fw f) 6:=fun f=>by
 simp only[Ba];refine⟨rfl,fun v hv=>?_⟩;simp only[F7,List.not_mem_nil,or_false]at hv;rcases hv with rfl|rfl|rfl|rfl|rfl|rfl<;>rfl
def Z0:GX (fun l:List Fact=>[V.l (facts l) false]) 1:=fun x=>⟨rfl,fun v hv=>by simp at hv;subst hv;rfl⟩
def al {l:List At} {o:O} {n:Nat} {K:Prop} {σ':AH} (e:A5 σ n o=σ') (hk:Sat σ' (l++[.obj n o])→K) (hn:σ n=none:=by assumption) (h:Sat σ l:=by assumption):K:=hk (e ▸ eP h hn)
def oi {l:List At} {i:Nat} {v:V} {sz:Nat} {es:List (List V)} {ki:IntKind} {j:Int} {K:V→Prop} (hk:K (Gx v sz j.toNat)) (h:Sat σ l:=by assumption)
    (hi:l[i]? =some (.own v sz es):=by first|exact UL|exact UK|exact UJ|exact UI|exact UH|exact UG) (h0:0≤j:=by omega) (h1:j<es.length:=by first|omega|(simp only[BT]at *;omega)):AT sz none v (.i ki j) K:=
 kX h i j.toNat hi (by omega) (by omega) hk
def oc {l:List At} {i:Nat} {v:V} {sz k:Nat} {es:List (List V)} {ki:IntKind} {K:V→Prop} (hk:K (Gx v sz k)) (h:Sat σ l:=by assumption)
    (hi:l[i]? =some (.own v sz es):=by first|exact UL|exact UK|exact UJ|exact UI|exact UH|exact UG) (h1:k<es.length:=by first|omega|(simp only[BT]at *;omega)) (hm:k≤Aj:=by first|omega|(simp only[Aj];omega)):AT sz none v (.i ki (Bc k)) K:=
 kX h i k hi (AN (by omega)) h1 hk
def ol {α:Type} {enc:α→List V} {xs:List α} {l:List At} {i:Nat} {v:V} {sz k:Nat} {agg:Option Nat} {K:V→Prop} (hk: ∀x,xs[k]? =some x→cut agg (enc x) 0 K) (h:Sat σ l:=by assumption)
    (hi:l[i]? =some (.own v sz (xs.map enc)):=by first|exact UL|exact UK|exact UJ|exact UI|exact UH|exact UG) (h1:k<xs.length:=by first|omega|(simp only[BT]at *;omega)):AX σ agg (Gx v sz k) K:=
 ID h i hi (by rw[Q8,EN h1];rfl) (hk _ (EN h1))
def oset {α:Type} {enc:α→List V} {xs:List α} {y:α} {l:List At} {i:Nat} {v x:V} {sz k:Nat} {vc:List V} {K:AH→Prop} (hk: ∀σ',Sat σ' (l.set i (.own v sz ((xs.set k y).map enc)))→K σ') (h:Sat σ l:=by assumption)
    (hi:l[i]? =some (.own v sz (xs.map enc)):=by first|exact UL|exact UK|exact UJ|exact UI|exact UH|exact UG) (hc:cellsOf x=some vc:=by rfl) (he:vc=enc y:=by rfl) (hg:GX enc sz:=by first|exact DV|exact D5|exact Zz|exact KY|exact Z0)
    (hv:(EI v).isSome=true:=by assumption) (h1:k<xs.length:=by first|omega|(simp only[BT]at *;omega)):AU σ sz (Gx v sz k) x K:=by
 subst he;refine Lq h i hi (by rw[Q8,EN h1];rfl) hc (hg y).1 (Ev.2 fun v hv=>(hg y).2 v hv) (hg _).1 hv fun σ' hs=>hk σ' ?_
 rw[List.map_set];exact hs
def Gh {b sz:Nat} {v:V} {e:List V} {f:Bool} {K:V→AH→Prop} (h:AM b σ sz v (.l [e] f) fun v' σ'=>(EI v').isSome=true→K v' σ'):AM b σ sz v (.l [e] f) K:=by
 obtain⟨h1,h2,h3⟩:=h;refine⟨h1,h2,?_⟩;cases v with
 | l es full=>exact⟨h3.1,h3.2.1,fun e=>(by cases e),fun e=>⟨(h3.2.2.2 e).1,fun n cap hn hc=>(h3.2.2.2 e).2 n cap hn hc rfl⟩⟩
 | sl n len cap=>
   simp only at h3 ⊢;split at h3
   ·exact⟨h3.1,h3.2.1,h3.2.2.1,h3.2.2.2.1,fun n' cap' hn hc=>h3.2.2.2.2 n' cap' hn hc rfl⟩
   ·exact h3.elim
 | _=>exact h3.elim
def aq {l:List At} {i:Nat} {α:Type} {enc:α→List V} {sz:Nat} {xs:List α} {x:α} {v:V} {f:Bool} {e:List V} {K:V→AH→Prop} (hk: ∀v' σ',Sat σ' (l.set i (.own v' sz ((xs++[x]).map enc)))→(EI v').isSome=true→K v' σ') (h:Sat σ l:=by assumption)
    (hi:l[i]? =some (.own v sz (xs.map enc)):=by first|exact UL|exact UK|exact UJ|exact UI|exact UH|exact UG)
    (he:e=enc x:=by rfl) (hg:GX enc sz:=by first|exact DV|exact D5|exact Zz|exact KY|exact Z0)
    {b:Nat} (hl:xs.length<Aj∧(xs.length+1)*b≤140737488355328:=by first|assumption|omega|(simp only[Qi,BT,K1,List.length_nil,Ny,wJ,List.length_replicate,Aj]at *;omega)):AM b σ sz v (.l [e] f) K:=
 Gh (GC h i hi hl hg hk he)
end Go.Gl
namespace Go.Gl
open Go.Proofs
attribute [local irreducible] A7 Ap Af AT AM Ae AS AU AL Ad AO AP Aw A1 Sat AX Az Ah W
def Uz {w:AJ} (h:FU (.a (BC w))):w.parents.length≤Aj∧(∀l∈w.parents,l.length≤Aj)∧w.owner.length≤Aj:=by
 simp only[BC,JE,Et,FY,JJ,BT]at h;exact⟨h.1.1,fun l hl=>(h.1.2 l hl).1.1,h.2.1.1⟩
def RJ {xs:List Int} {g:Bool} (h:FU (.l (iL xs) g)):xs.length≤Aj:=by
 simp only[FY,BT]at h;exact h.1
def J5 {f:Fact} (h:FU (.a (xF f))):f.kids.length≤Aj∧f.path.length≤Aj∧ ∀k∈f.kids,FU (.a (xF k)):=by
 simp only[JE,Et,FY,JJ,BT]at h;exact⟨h.2.2.2.2.2.1.1,h.2.2.1.1,fun k hk=>by have:=h.2.2.2.2.2.1.2 k hk;rw[Ba]at this;exact this⟩
def Oj (w:AJ) (c:Int):Bool:=decide (0≤c)&&decide (c<3+w.parents.length)
def jr (w:AJ) (c:Int):Pure Tryz.prog 219 [.a (BC w),eI c] (.b (Oj w c)):=by
 refine Pure.fit (by kernel_rfl) fun hf=>?_
 have⟨h1,h2,h3⟩:=Uz hf.1;have hM:=Mx;refine uK kZ ?_
 conv=>whnf
 repeat'((first|apply st|(apply sq;intro K U)|(apply si;intro A B Y Z)|(apply Y;clear Z B Y A)|(apply U;clear U K)|refine⟨rfl,?_⟩|(constructor<;>intro hc<;>(try rw[hc])<;>(replace hc:=bp hc))|fail)<;>conv=>whnf)
 ·exact AI (by rw[BT,wrap64 (by omega) (by omega)];simp[Oj,hc])
 ·exact AI (by simp[Oj,hc];intros;omega)
def HT (w:AJ) (s:Int):Bool:=decide (0≤s)&&decide (s<w.owner.length)
def EH (w:AJ) (p:List Int):Bool:=p.all (HT w)&&decide (p.length≤2)
def l8 (w:AJ) (p:List Int) (g:Bool):Pure Tryz.prog 220 [.a (BC w),.l (iL p) g] (.b (EH w p)):=by
 refine Pure.fit (by kernel_rfl) fun hf=>?_
 have⟨h1,h2,h3⟩:=Uz hf.1;have h4:=RJ hf.2.1;have hM:=Mx;refine uJ kZ ?_
 conv=>whnf
 repeat'((first|apply st|(apply sq;intro K U)|(apply si;intro A B Y Z)|(apply Y;clear Z B Y A)|(apply U;clear U K)|fail)<;>conv=>whnf)
 refine C3 p.length (fun k (_:Unit)=>[(9,eI (Bc k))]) (fun _ _=>[]) (fun k _=>p.all (HT w)=(p.drop k).all (HT w)) () rfl rfl Sat.nil ?_;rintro k - σ hk hn hs
 conv=>whnf
 repeat'((first|apply st|(apply sq;intro K U)|(apply si;intro A B Y Z)|(apply Y;clear Z B Y A)|(apply U;clear U K)|refine⟨rfl,?_⟩|refine ix ?_|(refine fc (fun x hx hlt hc=>?_) (fun hk hc=>?_)<;>(try rw[hc])<;>clear hc)|(constructor<;>intro hc<;>(try rw[hc])<;>(replace hc:=bp hc)<;>(try simp(disch:=omega) only[BT,wrap64,AN]at hc))|clear U K)<;>conv=>whnf)
 ·exact AI (by rw[EH,hn,drop_cons hx];simp[HT,hc];intros;omega)
 ·exact⟨hlt,(),rfl,by rw[hn,drop_cons hx];simp[HT, *],hs⟩
 ·exact AI (by rw[EH,hn,drop_cons hx];simp[HT,hc];intros;omega)
 ·exact AI (by rw[EH,hn,Au hk];simp;omega)
def Bj (f:Fact):Bool:=f.op==2||f.op==3||f.op==4
def Zq (f:Fact):Pure Tryz.prog 221 [.a (xF f)] (.b (Bj f)):=by
 refine uI kZ ?_
 conv=>whnf
 repeat'((first|apply st|(apply sq;intro K U)|(apply si;intro A B Y Z)|(apply Y;clear Z B Y A)|(apply U;clear U K)|refine⟨rfl,?_⟩|(constructor<;>intro hc<;>(try rw[hc])<;>(replace hc:=bp hc))|fail)<;>conv=>whnf)
 all_goals exact AI (by simp[Bj, *])
def DE:List (Int→Int)→Int→Int→Int
 | [],n,_=>n
 | k::r,n,most=>if n≤most then DE r (n+k (most - n)) most else n
def BV (f:Fact):Int→Int:=f.FL fun _ l most=>DE l 1 most
def GO (f:Fact) (most:Int):BV f most=DE (f.kids.map BV) 1 most:=by
 rw[BV,Fact.CG];rfl
def QE {most:Int}: ∀(l:List (Int→Int)) (n:Int),(∀g∈l,∀m,0≤m→1≤g m∧g m≤m+1)→1≤n→n≤most+1→1≤DE l n most∧DE l n most≤most+1
 | [],n,_,h1,h2=>⟨h1,h2⟩
 | g ::r,n,h,h1,h2=>by
   rw[DE];split
   ·have:=h g (List.mem_cons_self ..) (most - n) (by omega)
    exact QE r _ (fun g hg=>h g (List.mem_cons_of_mem _ hg)) (by omega) (by omega)
   ·exact⟨h1,h2⟩
def IL (f:Fact): ∀m,0≤m→1≤BV f m∧BV f m≤m+1:=by
 induction f using Fact.ind with
 | h f ih=>
   intro m hm;rw[GO];refine QE _ _ (fun g hg=>?_) (by omega) (by omega);obtain⟨k,hk,rfl⟩:=KE.1 hg;exact ih k hk
def iu (f:Fact): ∀most:Int,0≤most→most≤1000→Pure Tryz.prog 88 [.a (xF f),eI most] (eI (BV f most)):=by
 induction f using Fact.ind with
 | h f ih=>
   intro most h0 h1;refine Pure.fit (by kernel_rfl) fun hf=>?_
   have⟨h2,h3,h4⟩:=J5 hf.1;have hM:=Mx;refine xu kZ ?_
   conv=>whnf
   repeat'((first|apply st|(apply sq;intro K U)|(apply si;intro A B Y Z)|(apply Y;clear Z B Y A)|(apply U;clear U K)|fail)<;>conv=>whnf)
   refine C3 f.kids.length (fun k (n:Int)=>[(5,eI n),(6,eI (Bc k))]) (fun _ _=>[]) (fun k n=>1≤n∧n≤most+1∧BV f most=DE ((f.kids.drop k).map BV) n most) 1 rfl ⟨by omega,by omega,by rw[List.drop_zero];exact GO f most⟩ Sat.nil ?_;rintro k n σ hk ⟨hn1,hn2,hn⟩ hs
   conv=>whnf
   repeat'((first|apply st|(apply sq;intro K U)|(apply si;intro A B Y Z)|(apply Y;clear Z B Y A)|(apply U;clear U K)|refine⟨rfl,?_⟩|refine⟨kZ,?_⟩|refine UR ?_|(refine fc (fun x hx hlt hc=>?_) (fun hk hc=>?_)<;>(try rw[hc])<;>clear hc)|(constructor<;>intro hc<;>(try rw[hc])<;>(replace hc:=bp hc))|clear U K)<;>conv=>whnf)
   ·rw[wrap64 (by omega) (by omega)]
    have hb:=IL x (most - n) (by omega);refine(ih x (DL hx) (most - n) (by omega) (by omega)).use ?_
    conv=>whnf
    repeat'((first|(apply si;intro A B Y Z)|(apply Y;clear Z B Y A)|(apply U;clear U K)|refine⟨rfl,?_⟩|clear U K)<;>conv=>whnf)
    rw[wrap64 (by omega) (by omega)];exact⟨hlt,_,rfl,⟨by omega,by omega,by rw[hn,drop_cons hx,Ct,DE,if_pos hc]⟩,hs⟩
   ·exact AI (by rw[hn,drop_cons hx,Ct,DE,if_neg (by omega)])
   ·exact AI (by rw[hn,Au hk];rfl)
def Vj (f:Fact):Pure Tryz.prog 29 [.a (xF f)] (eI (BV f 24)):=by
 refine x7 kZ ?_
 conv=>whnf
 repeat'((first|apply st|(apply sq;intro K U)|(apply si;intro A B Y Z)|(apply Y;clear Z B Y A)|(apply U;clear U K)|refine⟨kZ,?_⟩|fail)<;>conv=>whnf)
 refine(iu f 24 (by omega) (by omega)).use ?_
 conv=>whnf
 repeat'((first|apply st|(apply Y;clear Z B Y A)|(apply U;clear U K)|fail)<;>conv=>whnf)
 exact AI rfl
def Br (f:Fact):Nat:=f.FL fun _ l=>1+l.sum
def Cm (f:Fact):Br f=1+(f.kids.map Br).sum:=Fact.CG _ f
def aO {f k:Fact} (h:k∈f.kids):Br k<Br f:=by
 have: ∀l:List Fact,k∈l→Br k≤(l.map Br).sum:=fun l=>by
  induction l with
  | nil=>intro h;cases h
  | cons x r ih=>
    intro h;simp only[Ct,List.sum_cons];rcases F7.1 h with rfl|h
    ·omega
    ·have:=ih h;omega
 have:=this _ h;rw[Cm f];omega
def QD {most:Int}: ∀(l:List Fact) (n:Int),(∀k∈l,∀m,0≤m→BV k m≤m→BV k m=Br k)→0≤n→DE (l.map BV) n most≤most→DE (l.map BV) n most=n+(l.map Br).sum
 | [],n,_,_,_=>by simp[DE]
 | k :: r, n,h,h0,h1=>by
   simp only[Ct,DE]at *;split at h1
   ·rename_i hc
    rw[if_pos hc];have hb:=IL k (most - n) (by omega)
    have hge: ∀(l:List Fact) (a:Int),a≤DE (l.map BV) a most:=fun l=>by
     induction l with
     | nil=>intro a;exact Int.le_refl _
     | cons y l ih=>
       intro a;simp only[Ct,DE];split
       ·have:=IL y (most - a) (by omega)
        have:=ih (a+BV y (most - a));omega
       ·exact Int.le_refl _
    have h2:=hge r (n+BV k (most - n));have h3:=h k (List.mem_cons_self ..) (most - n) (by omega) (by omega);have h4:=QD r (n+BV k (most - n)) (fun k' hk'=>h k' (List.mem_cons_of_mem _ hk')) (by omega) h1;simp only[List.sum_cons];omega
   ·rename_i hc
    omega
def Gg (f:Fact): ∀m,0≤m→BV f m≤m→BV f m=Br f:=by
 induction f using Fact.ind with
 | h f ih=>
   intro m h0 h1;rw[GO]at *;rw[QD f.kids 1 ih (by omega) h1,Cm];omega
def EY (a b:Int):Int:=if a<b then b else a
def Dm (f:Fact):Int:=f.FL fun _ l=>l.foldl EY 0+1
def Fb (f:Fact):Dm f=(f.kids.map Dm).foldl EY 0+1:=Fact.CG _ f
def Cs {m:Int}: ∀(l:List Int) (a:Int),(∀x∈l,x≤m)→a≤m→l.foldl EY a≤m
 | [],_,_,h=>h
 | x::r,a,h,h'=>by
   refine Cs r _ (fun y hy=>h y (List.mem_cons_of_mem _ hy)) ?_;have:=h x (List.mem_cons_self ..);unfold EY;split<;>omega
def Cr: ∀(l:List Int) (a:Int),a≤l.foldl EY a
 | [],_=>Int.le_refl _
 | x::r,a=>by
   refine Int.le_trans ?_ (Cr r _);unfold EY;split<;>omega
def Yh (f:Fact):1≤Dm f∧Dm f≤Br f:=by
 induction f using Fact.ind with
 | h f ih=>
   rw[Fb];have h1:=Cr (f.kids.map Dm) 0
   have h2:(f.kids.map Dm).foldl EY 0≤(Br f:Int) - 1:=by
    refine Cs _ _ (fun x hx=>?_) (by have:=Cm f;omega);obtain⟨k,hk,rfl⟩:=KE.1 hx;have:=(ih k hk).2;have:=aO hk;omega
   omega
def Ee {α:Type} {xs:List α} {k:Nat} {x:α} {β:Type} (g:α→β) (h:β→β→β) (a:β) (hx:xs[k]? =some x):((xs.take (k+1)).map g).foldl h a=h (((xs.take k).map g).foldl h a) (g x):=by
 rw[Aa hx,Qn,List.foldl_append];rfl
def jk (f:Fact):Br f≤Aj→Pure Tryz.prog 148 [.a (xF f)] (eI (Dm f)):=by
 induction f using Fact.ind with
 | h f ih=>
   intro hc;refine Pure.fit (by kernel_rfl) fun hf=>?_
   have⟨h2,h3,h4⟩:=J5 hf.1;have hM:=Mx;refine vA kZ ?_
   conv=>whnf
   repeat'((first|apply st|(apply sq;intro K U)|(apply si;intro A B Y Z)|(apply Y;clear Z B Y A)|(apply U;clear U K)|fail)<;>conv=>whnf)
   refine C3 f.kids.length (fun k (_:Unit)=>[(3,eI (((f.kids.take k).map Dm).foldl EY 0)),(9,eI (Bc k))]) (fun _ _=>[]) (fun _ _=>True) () rfl trivial Sat.nil ?_;rintro k - σ hk - hs
   conv=>whnf
   repeat'((first|apply st|(apply sq;intro K U)|(apply si;intro A B Y Z)|(apply Y;clear Z B Y A)|(apply U;clear U K)|refine⟨rfl,?_⟩|refine⟨kZ,?_⟩|refine UR ?_|refine ld ?_|refine sn fun σ hs=>?_|(refine fc (fun x hx hlt hc=>?_) (fun hk hc=>?_)<;>(try rw[hc])<;>clear hc)|(intro nn hnn;generalize hg:A5 _ nn _=σ;refine al hg fun hs=>?_;clear hg)|clear U K)<;>conv=>whnf)
   ·refine(ih x (DL hx) (by have:=aO (DL hx);omega)).use ?_
    conv=>whnf
    repeat'((first|(apply si;intro A B Y Z)|(apply Y;clear Z B Y A)|(apply U;clear U K)|refine⟨rfl,?_⟩|clear U K)<;>conv=>whnf)
    exact⟨hlt,(),by rw[Ee _ _ _ hx];rfl,trivial,Sat.nil⟩
   ·have:=Yh f
    rw[Fb]at this;exact AI (by rw[BI hk,wrap64 (by omega) (by omega),←Fb])
def BQ (f:Fact):Int:=f.FL fun f l=>l.foldl EY (if Bj f then f.arg+1 else 0)
def B4 (f:Fact):BQ f=(f.kids.map BQ).foldl EY (if Bj f then f.arg+1 else 0):=Fact.CG _ f
def O3 (f:Fact):Bool:=f.FL fun f l=>decide (0≤f.arg)&&decide (f.arg<3)&&l.all id
def Lw (f:Fact):O3 f=(decide (0≤f.arg)&&decide (f.arg<3)&&(f.kids.map O3).all id):=Fact.CG _ f
def iU (f:Fact):O3 f=true→Pure Tryz.prog 156 [.a (xF f)] (eI (BQ f)):=by
 induction f using Fact.ind with
 | h f ih=>
   intro ha;refine Pure.fit (by kernel_rfl) fun hf=>?_
   have⟨h2,h3,h4⟩:=J5 hf.1;have hM:=Mx;rw[Lw]at ha;simp only[A9,Cf,List.all_map,Ev]at ha;refine ux kZ ?_
   conv=>whnf
   repeat'((first|apply st|(apply sq;intro K U)|(apply si;intro A B Y Z)|(apply Y;clear Z B Y A)|(apply U;clear U K)|refine⟨kZ,?_⟩|fail)<;>conv=>whnf)
   refine(Zq f).use ?_
   conv=>whnf
   repeat'((first|apply st|(apply sq;intro K U)|(apply si;intro A B Y Z)|(apply Y;clear Z B Y A)|(apply U;clear U K)|refine⟨rfl,?_⟩|(constructor<;>intro hc<;>(try rw[hc])<;>(replace hc:=bp hc))|fail)<;>conv=>whnf)
   ·refine C3 f.kids.length (fun k (_:Unit)=>[(3,eI (((f.kids.take k).map BQ).foldl EY (if Bj f then f.arg+1 else 0))),(14,eI (Bc k))]) (fun _ _=>[]) (fun _ _=>True) () (by rw[wrap64 (by omega) (by omega),if_pos hc];rfl) trivial Sat.nil ?_
    rintro k - σ hk - hs
    conv=>whnf
    repeat'((first|apply st|(apply sq;intro K U)|(apply si;intro A B Y Z)|(apply Y;clear Z B Y A)|(apply U;clear U K)|refine⟨rfl,?_⟩|refine⟨kZ,?_⟩|refine UR ?_|refine ld ?_|refine sn fun σ hs=>?_|(refine fc (fun x hx hlt hc=>?_) (fun hk hc=>?_)<;>(try rw[hc])<;>clear hc)|(intro nn hnn;generalize hg:A5 _ nn _=σ;refine al hg fun hs=>?_;clear hg)|clear U K)<;>conv=>whnf)
    ·refine(ih x (DL hx) (ha.2 x (DL hx))).use ?_
     conv=>whnf
     repeat'((first|(apply si;intro A B Y Z)|(apply Y;clear Z B Y A)|(apply U;clear U K)|refine⟨rfl,?_⟩|clear U K)<;>conv=>whnf)
     exact⟨hlt,(),by rw[Ee _ _ _ hx];rfl,trivial,Sat.nil⟩
    ·exact AI (by rw[BI hk,←B4])
   ·refine C3 f.kids.length (fun k (_:Unit)=>[(3,eI (((f.kids.take k).map BQ).foldl EY (if Bj f then f.arg+1 else 0))),(14,eI (Bc k))]) (fun _ _=>[]) (fun _ _=>True) () (by rw[if_neg (c:=Bj f=true) (by simp[hc])];rfl) trivial Sat.nil ?_
    rintro k - σ hk - hs
    conv=>whnf
    repeat'((first|apply st|(apply sq;intro K U)|(apply si;intro A B Y Z)|(apply Y;clear Z B Y A)|(apply U;clear U K)|refine⟨rfl,?_⟩|refine⟨kZ,?_⟩|refine UR ?_|refine ld ?_|refine sn fun σ hs=>?_|(refine fc (fun x hx hlt hc=>?_) (fun hk hc=>?_)<;>(try rw[hc])<;>clear hc)|(intro nn hnn;generalize hg:A5 _ nn _=σ;refine al hg fun hs=>?_;clear hg)|clear U K)<;>conv=>whnf)
    ·refine(ih x (DL hx) (ha.2 x (DL hx))).use ?_
     conv=>whnf
     repeat'((first|(apply si;intro A B Y Z)|(apply Y;clear Z B Y A)|(apply U;clear U K)|refine⟨rfl,?_⟩|clear U K)<;>conv=>whnf)
     exact⟨hlt,(),by rw[Ee _ _ _ hx];rfl,trivial,Sat.nil⟩
    ·exact AI (by rw[BI hk,←B4])
def Bp (op:Int):Nat:=if op=5 then 1 else if op=6∨op=7 then 2 else 0
def Qp (w:AJ) (f:Fact):Bool:=
 if f.op=2 then f.n==0&&Oj w f.cls else if f.op=3∨f.op=4 then f.cls==0&&(decide (-1000000000≤f.n)&&decide (f.n≤1000000000))else f.op==1||f.op==5||f.op==6||f.op==7
def Cq (w:AJ) (f:Fact):Bool:=
 Qp w f&&(f.kids.length==Bp f.op&&(decide (0≤f.arg)&&(decide (f.arg<3)&&(EH w f.path&&(Bj f||(f.arg==0&&(f.path.length==0&&(f.cls==0&&f.n==0))))))))
def Al (w:AJ) (f:Fact):Bool:=f.FL fun f l=>Cq w f&&l.all id
def Bs (w:AJ) (f:Fact):Al w f=(Cq w f&&f.kids.all (Al w)):=by rw[Al,Fact.CG,List.all_map];rfl
def Pb {w:AJ} {f:Fact} (h:Cq w f=false):Al w f=false:=by rw[Bs,h,Bool.false_and]
def yB {f:Fact} (h1:Bj f=false) (h2:f.arg=0) (h3:(f.path.length:Int) > 0):true= !(Bj f||(f.arg==0&&(f.path.length==0&&(f.cls==0&&f.n==0)))):=by
 have:(f.path.length==0)=false:=by simp;intro e;rw[e]at h3;simp at h3
 rw[this,h1,h2];rfl
def mO (w : AJ) (f:Fact):Pure Tryz.prog 149 [.a (BC w),.a (xF f)] (.b (Al w f)):=by
 induction f using Fact.ind with
 | h f ih=>
   refine Pure.fit (by kernel_rfl) fun hf=>?_
   have⟨h2,h3,h4⟩:=J5 hf.2.1;have⟨w1,w2,w3⟩:=Uz hf.1;have hM:=Mx;refine u9 kZ ?_
   conv=>whnf
   repeat'((first|apply st|(apply sq;intro K U)|(apply si;intro A B Y Z)|(apply Y;clear Z B Y A)|(apply U;clear U K)|refine⟨rfl,?_⟩|fail)<;>conv=>whnf)
   have hJ :=RI U (fun(_:Unit)=>[(5,eI (Bp f.op))]) (fun _=>[]) (fun _=>Qp w f=true) [(2,.rp (BC w)),(3,.rp (xF f)),(5,eI 0)] (by
    clear U;rintro - σ ho -
    conv=>whnf
    repeat'((first|apply st|(apply sq;intro K U)|(apply si;intro A B Y Z)|refine⟨rfl,?_⟩|fail)<;>conv=>whnf)
    have hJ :=RI U (fun(b:Bool)=>[(66,.b b)]) (fun _=>[]) (fun b=>b= !(f.kids.length==Bp f.op&&(decide (0≤f.arg)&&(decide (f.arg<3)&&EH w f.path)))) [(2,.rp (BC w)),(3,.rp (xF f)),(66,.b false)] (by
     clear U;rintro b σ hb -
     conv=>whnf
     repeat'((first|apply st|fail)<;>conv=>whnf)
     have hJ :=RI U (fun(_:Unit)=>[]) (fun _=>[]) (fun _=>b=false) [(2,.rp (BC w)),(3,.rp (xF f))] (by
      clear U;rintro - σ hb' -;rw[hb']at hb
      conv=>whnf
      repeat'((first|apply st|(apply sq;intro K U)|(apply si;intro A B Y Z)|refine⟨kZ,?_⟩|refine Pure.use (Zq _) ?_|fail)<;>conv=>whnf)
      have hJ:=RI U (fun(b:Bool)=>[(90,.b b)]) (fun _=>[]) (fun b=>b= !(Bj f||(f.arg==0&&(f.path.length==0&&(f.cls==0&&f.n==0))))) [(2,.rp (BC w)),(3,.rp (xF f)),(90,.b false)] (by
       clear U;rintro b σ hb2 -
       conv=>whnf
       repeat'((first|apply st|fail)<;>conv=>whnf)
       have hJ:=RI U (fun(_:Unit)=>[]) (fun _=>[]) (fun _=>b=false) [(2,.rp (BC w)),(3,.rp (xF f))] (by
        clear U;rintro - σ hb' -;rw[hb']at hb2
        have hh:Cq w f=true:=by
         have hb:(f.kids.length==Bp f.op&&(decide (0≤f.arg)&&(decide (f.arg<3)&&EH w f.path)))=true:=by rw[←Bool.not_eq_false',←hb]
         have hb2:(Bj f||(f.arg==0&&(f.path.length==0&&(f.cls==0&&f.n==0))))=true:=by rw[←Bool.not_eq_false',←hb2]
         simp only[A9]at hb;simp only[Cq,ho,hb.1,hb.2,hb2,Bool.and_self]
        conv=>whnf
        repeat'((first|apply st|(apply sq;intro K U)|(apply si;intro A B Y Z)|(apply Y;clear Z B Y A)|(apply U;clear U K)|fail)<;>conv=>whnf)
        refine C3 f.kids.length (fun k (_:Unit)=>[(94,eI (Bc k))]) (fun _ _=>[]) (fun k _=>Al w f=(f.kids.drop k).all (Al w)) () rfl (by rw[Bs,hh];rfl) Sat.nil ?_;rintro k - σ hk hn hs
        conv=>whnf
        repeat'((first|apply st|(apply sq;intro K U)|(apply si;intro A B Y Z)|(apply Y;clear Z B Y A)|(apply U;clear U K)|refine⟨rfl,?_⟩|refine⟨kZ,?_⟩|refine UR ?_|refine ld ?_|refine sn fun σ hs=>?_|(refine fc (fun x hx hlt hc=>?_) (fun hk hc=>?_)<;>(try rw[hc])<;>clear hc)|(intro nn hnn;generalize hg:A5 _ nn _=σ;refine al hg fun hs=>?_;clear hg)|clear U K)<;>conv=>whnf)
        ·have hxm:=DL hx
         refine(ih x hxm).use ?_
         conv=>whnf
         repeat'((first|apply st|(apply sq;intro K U)|(apply si;intro A B Y Z)|(apply Y;clear Z B Y A)|(apply U;clear U K)|refine⟨rfl,?_⟩|(constructor<;>intro hc<;>(try rw[hc])<;>(replace hc:=bp hc))|clear U K)<;>conv=>whnf)
         ·exact AI (by rw[hn,drop_cons hx];simp[hc])
         ·exact⟨hlt,(),rfl,by rw[hn,drop_cons hx];simp[hc],Sat.nil⟩
        ·exact AI (by rw[hn,Au hk];rfl))
       clear U
       conv=>whnf
       repeat'((first|apply st|(apply sq;intro K U)|(apply si;intro A B Y Z)|(apply Y;clear Z B Y A)|(apply U;clear U K)|(constructor<;>intro hc<;>(try rw[hc])<;>(replace hc:=bp hc))|fail)<;>conv=>whnf)
       ·have hx:(Bj f||(f.arg==0&&(f.path.length==0&&(f.cls==0&&f.n==0))))=false:=by rw[←Bool.not_eq_true',←hb2,hc]
        exact AI (by rw[Pb];simp only[Cq,hx,Bool.and_false])
       ·exact hJ () _ _ rfl hc Sat.nil)
      clear U;clear hb
      conv=>whnf
      repeat'((first|apply st|(apply Y;clear Z B Y A)|refine⟨rfl,?_⟩|(constructor<;>intro hc<;>(try rw[hc])<;>(replace hc:=bp hc)<;>(try simp(disch:=omega) only[BT,wrap64,AN]at hc))|fail)<;>conv=>whnf)
      ·have hp:f.path.length=0:=by omega
       exact hJ _ _ _ rfl (by rw[hp];simp[*,bne]) Sat.nil
      ·exact hJ true _ _ rfl (by simp[*]) Sat.nil
      ·exact hJ true _ _ rfl (yB (by assumption) (by assumption) hc) Sat.nil
      ·exact hJ true _ _ rfl (by simp[*]) Sat.nil
      ·exact hJ false _ _ rfl (by simp[*]) Sat.nil)
     clear U
     conv=>whnf
     repeat'((first|apply st|(apply sq;intro K U)|(apply si;intro A B Y Z)|(apply Y;clear Z B Y A)|(apply U;clear U K)|(constructor<;>intro hc<;>(try rw[hc])<;>(replace hc:=bp hc))|fail)<;>conv=>whnf)
     ·have hx:(f.kids.length==Bp f.op&&(decide (0≤f.arg)&&(decide (f.arg<3)&&EH w f.path)))=false:=by rw[←Bool.not_eq_true',←hb,hc]
      exact AI (by rw[Pb];simp only[Cq];simp only[Bool.and_eq_false_iff]at hx ⊢;rcases hx with h|h|h|h<;>simp[h])
     ·exact hJ () _ _ rfl hc Sat.nil)
    clear U
    conv=>whnf
    repeat'((first|apply st|(apply Y;clear Z B Y A)|refine⟨rfl,?_⟩|refine⟨kZ,?_⟩|refine Pure.use (l8 _ _ _) ?_|(constructor<;>intro hc<;>(try rw[hc])<;>(replace hc:=bp hc)<;>(try simp(disch:=omega) only[BT,wrap64,AN]at hc))|fail)<;>conv=>whnf)
    all_goals exact hJ _ _ _ rfl (by simp[*]<;>omega) Sat.nil)
   clear U
   conv=>whnf
   repeat'((first|apply st|(apply sq;intro K U)|(apply si;intro A B Y Z)|(apply Y;clear Z B Y A)|(apply U;clear U K)|refine⟨rfl,?_⟩|refine⟨kZ,?_⟩|refine Pure.use (jr _ _) ?_|(constructor<;>intro hc<;>(try rw[hc])<;>(replace hc:=bp hc))|fail)<;>conv=>whnf)
   all_goals first
    | exact AI (by rw[Pb];simp only[Cq,Qp];simp[*]<;>omega)
    | exact hJ () _ _ (by simp[Bp, *];rfl) (by simp[Qp, *]<;>omega) Sat.nil
def Sr (n:Int):Bool:=decide (-1000000000≤n)&&decide (n≤1000000000)
def o5 (n:Int):Pure Tryz.prog 235 [eI n] (.b (Sr n)):=by
 refine tz kZ ?_
 conv=>whnf
 repeat'((first|apply st|(apply sq;intro K U)|(apply si;intro A B Y Z)|(apply Y;clear Z B Y A)|(apply U;clear U K)|refine⟨rfl,?_⟩|(constructor<;>intro hc<;>(try rw[hc])<;>(replace hc:=bp hc))|fail)<;>conv=>whnf)
 all_goals exact AI (by simp[Sr, *]<;>omega)
def Jz (k:Int):Bool:=k==1||k==4
def rV (k:Int):Pure Tryz.prog 158 [eI k] (.b (Jz k)):=by
 refine uw kZ ?_
 conv=>whnf
 repeat'((first|apply st|(apply sq;intro K U)|(apply si;intro A B Y Z)|(apply Y;clear Z B Y A)|(apply U;clear U K)|refine⟨rfl,?_⟩|(constructor<;>intro hc<;>(try rw[hc])<;>(replace hc:=bp hc))|fail)<;>conv=>whnf)
 all_goals exact AI (by simp[Jz, *])
def GD {p:Prog} (h:FU (.a (Be p))):p.AQ.length≤Aj∧p.C1.length≤Aj∧p.methods.length≤Aj∧p.nodes.length≤Aj:=by
 simp only[Be,JE,Et,FY,BT]at h;exact⟨h.1.1,h.2.2.1.1,h.2.2.2.1.1,h.2.2.2.2.1.1⟩
def I5 (p:Prog) (x:Node):Int:=
 if x.op=1∨x.op=2∨x.op=3∨x.op=6∨x.op=18 then 0 else
 if x.op=4∨x.op=8∨x.op=17 then 1 else
 if x.op=7∨x.op=9∨x.op=11∨x.op=12∨x.op=13∨x.op=14∨x.op=15∨x.op=16 then 2 else
 if x.op=10 then 3 else
 if x.op=5∧0≤x.n∧x.n<p.C1.length then p.C1.getD x.n.toNat 0 else -1
def mf (p:Prog) (x:Node):Pure Tryz.prog 236 [.a (Be p),.a (I8 x)] (eI (I5 p x)):=by
 refine Pure.fit (by kernel_rfl) fun hf=>?_
 have⟨p1,p2,p3,p4⟩:=GD hf.1;have hM:=Mx;refine tx kZ ?_
 conv=>whnf
 repeat'((first|apply st|(apply sq;intro K U)|(apply si;intro A B Y Z)|(apply Y;clear Z B Y A)|(apply U;clear U K)|refine⟨rfl,?_⟩|refine iq fun x hx=>?_|(constructor<;>intro hc<;>(try rw[hc])<;>(replace hc:=bp hc)<;>(try simp(disch:=omega) only[BT,wrap64,AN]at hc))|clear U K)<;>conv=>whnf)
 all_goals first
  | (refine AI ?_;simp[I5, *];done)
  | (refine AI ?_;simp[I5, *];intros;omega)
  | (have hd:=(MK.1 hx).2;refine AI ?_;simp[I5, *];done)
def MS (p:Prog) (x:Node) (size:Int):Bool:=
 if x.op=1 then Sr x.n else if x.op=3 then decide (0≤x.n)&&decide (x.n<size)else if x.op=4∨x.op=7 then decide (0≤x.n)&&decide (x.n<p.AK)else
 if x.op=5 then decide (0≤x.n)&&decide (x.n<p.C1.length)else if x.op=6∨x.op=8 then decide (3≤x.n)&&decide (x.n<3+p.AQ.length)else x.n==0
def cA (p:Prog) (x:Node) (size:Int):Pure Tryz.prog 237 [.a (Be p),.a (I8 x),eI size] (.b (MS p x size)):=by
 refine Pure.fit (by kernel_rfl) fun hf=>?_
 have⟨p1,p2,p3,p4⟩:=GD hf.1;have hM:=Mx;refine tw kZ ?_
 conv=>whnf
 repeat'((first|apply st|(apply sq;intro K U)|(apply si;intro A B Y Z)|(apply Y;clear Z B Y A)|(apply U;clear U K)|refine⟨rfl,?_⟩|refine Pure.use (o5 _) ?_|(constructor<;>intro hc<;>(try rw[hc])<;>(replace hc:=bp hc))|clear U K)<;>conv=>whnf)
 all_goals first
  | (refine AI ?_;simp[MS, *];done)
  | (refine AI ?_;rw[BT,wrap64 (by omega) (by omega)];simp[MS, *];done)
  | (refine AI ?_;simp[MS, *];intros;omega)
def I2 (ps:List (List Int)) (a b:Int):Bool:=a==b||(b==0||(decide (3≤a)&&Im ps a.toNat b.toNat))
def kB (w:AJ) (a b:Int) (hl:w.parents.length≤1000) (ho:ordered w.parents) (ha:0≤a) (ha':a<3+w.parents.length) (hb:0≤b) (hb':b<3+w.parents.length):Pure Tryz.prog 298 [.a (BC w),eI a,eI b] (.b (I2 w.parents a b)):=by
 refine Pure.fit (by kernel_rfl) fun hf=>?_
 have⟨w1,w2,w3⟩:=Uz hf.1;have hM:=Mx;refine tH kZ ?_
 conv=>whnf
 repeat'((first|apply st|(apply sq;intro K U)|(apply si;intro A B Y Z)|(apply Y;clear Z B Y A)|(apply U;clear U K)|refine⟨rfl,?_⟩|refine⟨kZ,?_⟩|(constructor<;>intro hc<;>(try rw[hc])<;>(replace hc:=bp hc))|clear U K)<;>conv=>whnf)
 ·exact AI (by simp[I2,hc])
 ·exact AI (by simp[I2, *];omega)
 ·have hc':0≤a:=ha
  obtain⟨a,rfl⟩: ∃n:Nat,a=n:=⟨a.toNat,by omega⟩
  refine(w8 w a ⟨hl,w2,w3⟩ ho (by omega)).use ?_;have hul:=LN w.parents (3+w.parents.length) a (a - 2)
  conv=>whnf
  repeat'((first|apply st|(apply sq;intro K U)|(apply si;intro A B Y Z)|(apply Y;clear Z B Y A)|(apply U;clear U K)|refine iq fun x hx=>?_|fail)<;>conv=>whnf)
  refine AI ?_;have hu:=ZK ho (n:=3+w.parents.length) (c:=a) (by omega) b.toNat;rw[D9,hx]at hu;simp at hu;have e1:((a:Int)==b)=false:=by simpa using ‹(a:Int)≠b›
  have e2:(b==0)=false:=by simpa using ‹b≠0›
  simp[I2,e1,e2,hc,hu]
 ·exact AI (by simp[I2,hc])
structure It (w:AJ):Prop where
 len:w.parents.length≤60
 ord:ordered w.parents
 own: ∀c∈w.owner,(3:Int)≤c∧c<3+w.parents.length
 qE:w.owner.length≤40
def CZ (w:AJ) (s:Int):Int:=w.owner.getD s.toNat 0
def hasB (w:AJ) (c s:Int):Bool:=decide (3≤c)&&I2 w.parents c (CZ w s)
def gB (w:AJ) (c s:Int) (hw:It w) (hc0:0≤c) (hc1:c<3+w.parents.length) (hs0:0≤s) (hs1:s<w.owner.length):Pure Tryz.prog 234 [.a (BC w),eI c,eI s] (.b (hasB w c s)):=by
 refine Pure.fit (by kernel_rfl) fun hf=>?_
 have⟨w1,w2,w3⟩:=Uz hf.1;have hM:=Mx;have hl:=hw.len;refine uA kZ ?_
 conv=>whnf
 repeat'((first|apply st|(apply sq;intro K U)|(apply si;intro A B Y Z)|(apply Y;clear Z B Y A)|(apply U;clear U K)|apply dr|refine⟨rfl,?_⟩|refine⟨kZ,?_⟩|refine iq fun x hx=>?_|(constructor<;>intro hc<;>(try rw[hc])<;>(replace hc:=bp hc))|fail)<;>conv=>whnf)
 ·have:=hw.own x (DL hx)
  refine(kB w c x (by omega) hw.ord hc0 hc1 (by omega) (by omega)).use ?_
  conv=>whnf
  repeat'((first|apply st|(apply Y;clear Z B Y A)|(apply U;clear U K)|apply dr|fail)<;>conv=>whnf)
  exact AI (by simp[hasB,CZ,hx,hc])
 ·exact AI (by simp[hasB];omega)
def mr (xs:List Int) (f:Bool) (x:Int):Pure Tryz.prog 296 [.l (iL xs) f,eI x] (.b (xs.contains x)):=Pure.fit (by kernel_rfl) fun hf=>gA xs f x (RJ hf.1)
def CA (w:AJ) (f:Fact):Bool:=decide (BV f 24≤24)&&(decide (Dm f≤12)&&Al w f)
def jW (w:AJ) (f:Fact):Pure Tryz.prog 86 [.a (BC w),.a (xF f)] (.b (CA w f)):=by
 refine xw kZ ?_
 conv=>whnf
 repeat'((first|apply st|(apply sq;intro K U)|(apply si;intro A B Y Z)|(apply Y;clear Z B Y A)|(apply U;clear U K)|refine⟨rfl,?_⟩|refine⟨kZ,?_⟩|refine Pure.use (Vj _) ?_|(constructor<;>intro hc<;>(try rw[hc])<;>(replace hc:=bp hc))|fail)<;>conv=>whnf)
 ·have:=Gg f 24 (by omega) hc
  refine(jk f (by simp only[Aj];omega)).use ?_
  conv=>whnf
  repeat'((first|apply st|(apply Y;clear Z B Y A)|(apply U;clear U K)|refine⟨rfl,?_⟩|refine⟨kZ,?_⟩|refine Pure.use (mO _ _) ?_|(constructor<;>intro hc<;>(try rw[hc])<;>(replace hc:=bp hc))|fail)<;>conv=>whnf)
  ·exact AI (by simp[CA,hc,‹BV f 24≤24›])
  ·exact AI (by simp[CA, *];intros;omega)
 ·exact AI (by simp[CA];intros;omega)
def pr (i:Nat) (pre:List Int) (c:Int):Bool:=decide (3≤c)&&(decide (c<3+i)&& !pre.contains c)
def MV (i:Nat):List Int→List Int→Bool
 | _,[]=>true
 | pre,c::r=>pr i pre c&&MV i (pre++[c]) r
def IX:Nat→List (List Int)→Bool
 | _,[]=>true
 | i,l::r=>decide (l.length≤3)&&(MV i [] l&&IX (i+1) r)
def Dy (g:List (List Int)):Bool:=decide (g.length≤16)&&IX 0 g
def Xj {ls:List (List Int)} {g:Bool} (h:FU (.l (E3 ls) g)):ls.length≤Aj∧ ∀l∈ls,l.length≤Aj:=by
 simp only[FY,BT,JJ,Et]at h;exact⟨h.1,fun l hl=>(h.2 l hl).1.1⟩
def mz (g:List (List Int)) (f:Bool):Pure Tryz.prog 232 [.l (E3 g) f] (.b (Dy g)):=by
 refine Pure.fit (by kernel_rfl) fun hf=>?_
 have⟨g1,g2⟩:=Xj hf.1;have hM:=Mx;refine uC kZ ?_
 conv=>whnf
 repeat'((first|apply st|(apply sq;intro K U)|(apply si;intro A B Y Z)|(apply Y;clear Z B Y A)|(apply U;clear U K)|refine⟨rfl,?_⟩|(constructor<;>intro hc<;>(try rw[hc])<;>(replace hc:=bp hc)<;>(try simp(disch:=omega) only[BT,wrap64,AN]at hc))|clear U K)<;>conv=>whnf)
 ·exact AI (by simp[Dy];intros;omega)
 ·refine C3 g.length (fun k (_:Unit)=>[(3,eI (Bc k))]) (fun _ _=>[]) (fun k _=>Dy g=IX k (g.drop k)) () rfl (by simp[Dy];omega) Sat.nil ?_
  rintro k - σ hk hn hs
  conv=>whnf
  repeat'((first|apply st|(apply sq;intro K U)|(apply si;intro A B Y Z)|(apply Y;clear Z B Y A)|(apply U;clear U K)|refine⟨rfl,?_⟩|refine ix ?_|(refine fc (fun x hx hlt hc=>?_) (fun hk hc=>?_)<;>(try rw[hc])<;>clear hc)|(constructor<;>intro hc<;>(try rw[hc])<;>(replace hc:=bp hc)<;>(try simp(disch:=omega) only[BT,wrap64,AN]at hc))|clear U K)<;>conv=>whnf)
  ·exact AI (by rw[hn,drop_cons hx,IX];simp;intros;omega)
  ·revert x
   rintro l hl hl3;have hll:=g2 l (DL hl);have hn':Dy g=(MV k [] l&&IX (k+1) (g.drop (k+1))):=by rw[hn,drop_cons hl,IX];simp;intros;omega
   refine C3 l.length (fun j (_:Unit)=>[(4,eI (Bc j))]) (fun _ _=>[]) (fun j _=>Dy g=(MV k (l.take j) (l.drop j)&&IX (k+1) (g.drop (k+1)))) () rfl (by rw[hn'];rfl) Sat.nil ?_;rintro j - σ hj hm hs
   conv=>whnf
   repeat'((first|apply st|(apply sq;intro K U)|(apply si;intro A B Y Z)|(apply Y;clear Z B Y A)|(apply U;clear U K)|apply dr|refine⟨rfl,?_⟩|refine ix ?_|refine ya ?_|(refine fc (fun x hx hlt hc=>?_) (fun hk hc=>?_)<;>(try rw[hc])<;>clear hc)|refine Pure.use (mr _ _ _) ?_|(constructor<;>intro hc<;>(try rw[hc])<;>(replace hc:=bp hc)<;>(try simp(disch:=omega) only[BT,wrap64,AN]at hc))|clear U K)<;>conv=>whnf)
   ·exact AI (by rw[hm,drop_cons hx,MV,pr,hc];simp)
   ·refine⟨hlt,(),rfl,?_,Sat.nil⟩
    rw[hm,drop_cons hx,MV,pr,hc,Aa hx];simp[*]
   ·exact AI (by rw[hm,drop_cons hx,MV,pr];simp;intros;omega)
   ·exact AI (by rw[hm,drop_cons hx,MV,pr];simp;intros;omega)
   ·refine⟨by assumption,(),rfl,?_,Sat.nil⟩
    rw[hm,Au hk,MV,EW]
  ·exact AI (by rw[hn,Au hk];rfl)
def K4:Int→List Int→Bool
 | _,[]=>true
 | n,s::r=>s==n&&K4 (n+1) r
def Cw:Int→List Qm→Bool
 | _,[]=>true
 | n,c::r=>decide (c.AK.length≤4)&&(decide (c.parents.length≤3)&&(K4 n c.AK&&Cw (n+c.AK.length) r))
def EM (w:AJ) (c n:Int):List (Int×Int)→List (Int×Int)→Bool
 | _,[]=>true
 | pre,x::r=>decide (0≤x.1)&&(decide (x.1<n)&&(hasB w c x.1&&(Sr x.2&&(pre.all (fun y=>y.1 != x.1)&&EM w c n (pre++[x]) r))))
def lB (g:List (List Int)) (c:Int):Bool:= !((CC g).getD c.toNat []).isEmpty
def GY (w:AJ) (n:Int):Nat→List Qm→Bool
 | _,[]=>true
 | i,c::r=>lB w.parents ((i:Int)+3)&&(EM w ((i:Int)+3) n [] c.inits&&GY w n (i+1) r)
def BE (p:Prog):Bool:=decide (p.AQ.length≤10)&&(Cw 0 p.AQ&&((Bu p.AQ:Int)==p.AK&&(Dy (A2 p)&&GY (AR p) (Bu p.AQ) 0 p.AQ)))
def xg {c:Qm} (h:Hy (Ui c)):c.parents.length≤Aj∧c.AK.length≤Aj∧c.inits.length≤Aj:=by
 simp only[Ui,Et,FY,BT]at h;exact⟨h.1.1,h.2.1.1,h.2.2.1.1⟩
def I6 {p:Prog} (h:FU (.a (Be p))):qO p:=by
 refine⟨(GD h).1,fun c hc=>?_⟩;simp only[Be,JE,Et,FY,JJ]at h;exact xg (h.1.2 c hc)
def jU (p:Prog) (hk0:p.AQ.length≤1000):Pure Tryz.prog 122 [.a (Be p)] (.l (E3 (A2 p)) false):=Pure.fit (by kernel_rfl) fun hf=>Zy p (I6 hf.1) hk0
def FZ: ∀(cs:List Qm) (n:Int),Cw n cs=true→Bu cs≤4*cs.length∧ ∀c∈cs,c.parents.length≤3∧c.AK.length≤4
 | [],_,_=>⟨Ht _,fun _ h=>by cases h⟩
 | c::r,n,h=>by
   simp only[Cw,A9,Cf]at h;have⟨h1,h2⟩:=FZ r _ h.2.2.2;refine⟨by simp only[Bu,Ct,List.sum_cons,K1]at *;omega,fun d hd=>?_⟩;rcases F7.1 hd with rfl|hd
   ·exact⟨h.2.1,h.1⟩
   ·exact h2 d hd
def SG {i:Nat}: ∀(r pre:List Int),MV i pre r=true→pre.Nodup→(pre++r).Nodup∧ ∀c∈r,(3:Int)≤c∧c<3+(i:Int)
 | [],pre,_,h=>⟨by simpa using h,fun _ h=>by cases h⟩
 | c::r,pre,h,hn=>by
   simp only[MV,pr,A9,Cf,Bool.not_eq_true']at h;have hc:c∉pre:=by simpa using h.1.2.2
   obtain⟨h1,h2⟩:=SG r (pre++[c]) h.2 (List.nodup_append.2 ⟨hn,by simp,fun a ha b hb=>by simp at hb;subst hb;exact fun e=>hc (e ▸ ha)⟩);refine⟨by simpa using h1,fun d hd=>?_⟩;rcases F7.1 hd with rfl|hd
   ·exact⟨h.1.1,h.1.2.1⟩
   ·exact h2 d hd
def P7: ∀(g:List (List Int)) (k:Nat),IX k g=true→ ∀(i:Nat) (l:List Int),g[i]? =some l→l.length≤3∧l.Nodup∧ ∀c∈l,(3:Int)≤c∧c<3+((k+i:Nat):Int)
 | [],_,_,_,_,h=>by cases h
 | l ::r,k,h,i,l',hi=>by
   simp only[IX,A9,Cf]at h;cases i with
   | zero=>
     simp at hi;subst hi;obtain⟨h1,h2⟩:=SG l [] h.2.1 .nil;exact⟨h.1,by simpa using h1,by simpa using h2⟩
   | succ i=>
     simp at hi;have:=P7 r (k+1) h.2.2 i l' hi;rw[show k+(i+1)=k+1+i by omega];exact this
def D6 {g:List (List Int)} (h:Dy g=true):Ib g:=by
 simp only[Dy,A9,Cf]at h;refine⟨h.1,fun i l hi=>?_⟩;have:=P7 g 0 h.2 i l hi;simpa using this
def Jk {g:List (List Int)} (h:Ib g):ordered g:=by
 intro c p hp;unfold par at hp;split at hp
 ·cases hp
 ·rename_i h3
  rw[D9]at hp;cases hq:g[c - 3]? with
  | none=>rw[hq]at hp;cases hp
  | some l=>
    rw[hq]at hp;have:=(h.2 _ _ hq).2.2 p hp;omega
def GM {i:Nat} {cs:List Qm} {c:Int} (h:c∈BR i cs):(3:Int)+i≤c∧c<3+i+cs.length:=by
 induction cs generalizing i with
 | nil=>cases h
 | cons d r ih=>
   simp only[BR,FK,List.mem_replicate]at h;simp only[K1];rcases h with⟨_,rfl⟩|h
   ·omega
   ·have:=ih h;omega
def Pw {p:Prog} (h1:p.AQ.length≤10) (h2:Cw 0 p.AQ=true) (h3:Dy (A2 p)=true):It (AR p):=by
 have hl:(AR p).parents.length=p.AQ.length:=by simp[AR,A2]
 refine⟨by omega,Jk (D6 h3),fun c hc=>?_,?_⟩
 ·have:=GM hc
  rw[hl];omega
 ·have:=(FZ _ _ h2).1
  simp only[AR,Ce];omega
def dO (p : Prog):Pure Tryz.prog 155 [.a (Be p)] (.b (BE p)):=by
 refine Pure.fit (by kernel_rfl) fun hf=>?_
 have F:=I6 hf.1;have hcl:=F.1;have hM:=Mx;refine uy kZ ?_
 conv=>whnf
 repeat'((first|apply st|(apply sq;intro K U)|(apply si;intro A B Y Z)|(apply Y;clear Z B Y A)|(apply U;clear U K)|refine⟨rfl,?_⟩|(constructor<;>intro hc<;>(try rw[hc])<;>(replace hc:=bp hc)<;>(try simp(disch:=omega) only[BT,wrap64,AN]at hc))|clear U K)<;>conv=>whnf)
 ·exact AI (by simp[BE];intros;omega)
 have h10:p.AQ.length≤10:=by omega
 refine C3 p.AQ.length (fun k (n:Int)=>[(3,eI n),(4,eI (Bc k))]) (fun _ _=>[]) (fun k n=>Cw 0 p.AQ=Cw n (p.AQ.drop k)∧0≤n∧n+Bu (p.AQ.drop k)=Bu p.AQ∧n≤4*k) 0 rfl (by simp) Sat.nil ?_;rintro k n σ hk ⟨hn,hn0,hn1,hn2⟩ hs
 conv=>whnf
 repeat'((first|apply st|(apply sq;intro K U)|(apply si;intro A B Y Z)|(apply Y;clear Z B Y A)|(apply U;clear U K)|refine⟨rfl,?_⟩|refine⟨kZ,?_⟩|refine ix ?_|(refine fc (fun x hx hlt hc=>?_) (fun hk hc=>?_)<;>(try rw[hc])<;>clear hc)|refine Pure.use (jU _ (by omega)) ?_|refine Pure.use (mz _ _) ?_|(constructor<;>intro hc<;>(try rw[hc])<;>(replace hc:=bp hc)<;>(try simp(disch:=omega) only[BT,wrap64,AN]at hc))|clear U K)<;>conv=>whnf)
 ·exact AI (by simp only[BE];rw[hn,drop_cons hx,Cw];simp;intros;omega)
 ·have hms:n+(x.AK.length:Int)+Bu (p.AQ.drop (k+1))=Bu p.AQ:=by
   rw[drop_cons hx]at hn1;simp only[Bu,Ct,List.sum_cons]at hn1 ⊢;omega
  have hsl:=(F.2 x (DL hx)).2.1
  have hn':Cw 0 p.AQ=(K4 n x.AK&&Cw (n+x.AK.length) (p.AQ.drop (k+1))):=by
   have a1:x.AK.length≤4:=by omega
   have a2:x.parents.length≤3:=by omega
   rw[hn,drop_cons hx,Cw];simp only[a1,a2,decide_true,EW]
  revert x
  rintro c hx hcs h3 hms hsl hn';refine C3 c.AK.length (fun j (m:Int)=>[(3,eI m),(6,eI (Bc j))]) (fun _ _=>[]) (fun j m=>Cw 0 p.AQ=(K4 m (c.AK.drop j)&&Cw (n+c.AK.length) (p.AQ.drop (k+1)))∧m=n+j) n rfl ⟨hn',by simp⟩ Sat.nil ?_;rintro j m σ hj ⟨hm,he⟩ hs
  conv=>whnf
  repeat'((first|apply st|(apply sq;intro K U)|(apply si;intro A B Y Z)|(apply Y;clear Z B Y A)|(apply U;clear U K)|refine⟨rfl,?_⟩|refine ix ?_|(refine fc (fun x hx hlt hc=>?_) (fun hk hc=>?_)<;>(try rw[hc])<;>clear hc)|(constructor<;>intro hc<;>(try rw[hc])<;>(replace hc:=bp hc))|clear U K)<;>conv=>whnf)
  ·exact AI (by simp only[BE];rw[hm,drop_cons (by assumption),K4];simp[hc])
  ·refine⟨hlt,_,rfl,⟨?_,?_⟩,hs⟩
   ·rw[hm,drop_cons (by assumption),K4,wrap64 (by omega) (by omega)];simp[hc]
   ·rw[wrap64 (by omega) (by omega)];omega
  ·refine⟨by assumption,m,rfl,⟨?_,by omega,by omega,by omega⟩,hs⟩
   rw[hm,Au (by assumption),K4,EW,he];congr 1;omega
 ·exact AI (by simp only[BE];rw[hn,drop_cons hx,Cw];simp;intros;omega)
 ·have hne:n=Bu p.AQ:=by rw[Au hk]at hn1;simpa[Bu]using hn1
  exact AI (by simp only[BE];rw[hc];simp)
 ·have hne:n=Bu p.AQ:=by rw[Au hk]at hn1;simpa[Bu]using hn1
  have hsb:Cw 0 p.AQ=true:=by rw[hn,Au hk];rfl
  have hms:=(FZ _ _ hsb).1;have hok:=Pw h10 hsb hc
  have hcb:BE p=GY (AR p) n 0 p.AQ:=by
   simp only[BE,hsb,hc,←hne];simp[*]
  refine(OC p F (by omega) (by omega)).use ?_
  conv=>whnf
  repeat'((first|apply st|(apply sq;intro K U)|(apply si;intro A B Y Z)|(apply Y;clear Z B Y A)|(apply U;clear U K)|refine sn fun σ hs=>?_|(intro nn hnn;generalize hg:A5 _ nn _=σ;refine al hg fun hs=>?_;clear hg)|fail)<;>conv=>whnf)
  refine C3 p.AQ.length (fun k (_:Unit)=>[(9,eI (Bc k))]) (fun _ _=>[.box nn (BC (AR p))]) (fun k _=>BE p=GY (AR p) n k (p.AQ.drop k)) () rfl (by rw[hcb];rfl) hs ?_;rintro k - σ hk hn hs
  conv=>whnf
  repeat'((first|apply st|(apply sq;intro K U)|(apply si;intro A B Y Z)|(apply Y;clear Z B Y A)|(apply U;clear U K)|refine⟨rfl,?_⟩|(refine fc (fun x hx hlt hc=>?_) (fun hk hc=>?_)<;>(try rw[hc])<;>clear hc)|clear U K)<;>conv=>whnf)
  ·have e3 : IntKind.i64.wrap (Bc k+3)=(k:Int)+3:=by rw[AN (by omega),wrap64 (by omega) (by omega)]
   rw[e3];have hgl:(A2 p).length=p.AQ.length:=by simp[A2]
   refine(rm (A2 p) false ((k:Int)+3) (D6 hc) (by omega) (by omega)).use ?_
   conv=>whnf
   repeat'((first|apply st|(apply sq;intro K U)|(apply si;intro A B Y Z)|(apply Y;clear Z B Y A)|(apply U;clear U K)|refine ix ?_|(constructor<;>intro hc<;>(try rw[hc])<;>(replace hc:=bp hc))|clear U K)<;>conv=>whnf)
   ·have hlb:lB (AR p).parents ((k:Int)+3)=false:=by
     show(!((CC (A2 p)).getD ((k:Int)+3).toNat []).isEmpty)=false;rw[hc];rfl
    exact AI (by rw[hn,drop_cons hx,GY,hlb];rfl)
   ·have hil:=(F.2 x (DL hx)).2.2
    have hn':BE p=(EM (AR p) ((k:Int)+3) n [] x.inits&&GY (AR p) n (k+1) (p.AQ.drop (k+1))):=by
     have hlb:lB (AR p).parents ((k:Int)+3)=true:=by
      show(!((CC (A2 p)).getD ((k:Int)+3).toNat []).isEmpty)=true;rw[hc];rfl
     rw[hn,drop_cons hx,GY,hlb];rfl
    revert x
    rintro c hx hil hn';refine C3 c.inits.length (fun j (_:Unit)=>[(14,eI (Bc j))]) (fun _ _=>[.box nn (BC (AR p))]) (fun j _=>BE p=(EM (AR p) ((k:Int)+3) n (c.inits.take j) (c.inits.drop j)&&GY (AR p) n (k+1) (p.AQ.drop (k+1)))) () rfl (by rw[hn'];rfl) hs ?_;rintro j - σ hj hm hs
    conv=>whnf
    repeat'((first|apply st|(apply sq;intro K U)|(apply si;intro A B Y Z)|(apply Y;clear Z B Y A)|(apply U;clear U K)|apply dr|refine⟨rfl,?_⟩|refine⟨kZ,?_⟩|refine ix ?_|refine ld ?_|(refine fc (fun x hx hlt hc=>?_) (fun hk hc=>?_)<;>(try rw[hc])<;>clear hc)|(constructor<;>intro hc<;>(try rw[hc])<;>(replace hc:=bp hc))|clear U K)<;>conv=>whnf)
    ·refine(gB (AR p) ((k:Int)+3) x.1 hok (by omega) (by rw[show(AR p).parents=A2 p from rfl];omega) (by omega) (by rw[show(AR p).owner=BR 0 p.AQ from rfl,Ce];omega)).use ?_
     conv=>whnf
     repeat'((first|apply st|(apply sq;intro K U)|(apply si;intro A B Y Z)|(apply Y;clear Z B Y A)|(apply U;clear U K)|apply dr|refine ix ?_|refine Pure.use (o5 _) ?_|(constructor<;>intro hc<;>(try rw[hc])<;>(replace hc:=bp hc))|clear U K)<;>conv=>whnf)
     ·exact AI (by rw[hm,drop_cons hx,EM];simp[*])
     ·have hm':BE p=((c.inits.take j).all (fun y=>y.1 != x.1)&&(EM (AR p) ((k:Int)+3) n (c.inits.take (j+1)) (c.inits.drop (j+1))&&GY (AR p) n (k+1) (p.AQ.drop (k+1)))):=by
       have b1:decide (0≤x.1)=true:=decide_eq_true (by assumption);have b2:decide (x.1<n)=true:=decide_eq_true (by assumption);rw[hm,drop_cons hx,EM,Aa hx,b1,b2,‹hasB _ _ _=true›,hc];simp only[EW,Bool.and_assoc]
      revert x
      rintro x hxj hx0 hx1 hhb hbt hm';refine C3 j (fun i (_:Unit)=>[(15,eI (Bc i))]) (fun _ _=>[.box nn (BC (AR p))]) (fun i _=>BE p=(((c.inits.take j).drop i).all (fun y=>y.1 != x.1)&&(EM (AR p) ((k:Int)+3) n (c.inits.take (j+1)) (c.inits.drop (j+1))&&GY (AR p) n (k+1) (p.AQ.drop (k+1))))) () rfl (by rw[hm'];rfl) hs ?_;rintro i - σ hi hl hs;rcases Nat.lt_or_ge i j with hij|hij
      ·obtain⟨y,hy⟩: ∃y,c.inits[i]? =some y:=⟨_,EN (by omega)⟩
       have hy':(c.inits.take j)[i]? =some y:=by rw[List.getElem?_take,if_pos hij,hy]
       conv=>whnf
       repeat'((first|apply st|(apply sq;intro K U)|(apply si;intro A B Y Z)|(apply Y;clear Z B Y A)|(apply U;clear U K)|apply dr|refine⟨rfl,?_⟩|refine ix ?_|(constructor<;>intro hc<;>(try rw[hc])<;>(replace hc:=bp hc)<;>(try simp(disch:=omega) only[BT,wrap64,AN]at hc)<;>try(exfalso;omega))|clear U K)<;>conv=>whnf)
       ·exact AI (by rw[hl,drop_cons hy',SZ,hc];simp)
       ·refine⟨hij,(),rfl,?_,hs⟩
        have hc':(y.1 != x.1)=true:=by simpa using hc
        rw[hl,drop_cons hy',SZ,hc',EW]
      ·conv=>whnf
       repeat'((first|apply st|(apply sq;intro K U)|(apply si;intro A B Y Z)|(apply Y;clear Z B Y A)|(apply U;clear U K)|refine⟨rfl,?_⟩|(constructor<;>intro hc<;>(try rw[hc])<;>(replace hc:=bp hc)<;>(try simp(disch:=omega) only[BT,wrap64,AN]at hc)<;>try(exfalso;omega))|clear U K)<;>conv=>whnf)
       refine⟨by assumption,(),rfl,?_,hs⟩;rw[hl,List.drop_of_length_le (by rw[Ny];omega),List.all_nil,EW]
     ·exact AI (by rw[hm,drop_cons hx,EM];simp[*])
    ·exact AI (by rw[hm,drop_cons hx,EM];simp;intros;omega)
    ·exact AI (by rw[hm,drop_cons hx,EM];simp;intros;omega)
    ·refine⟨by assumption,(),rfl,?_,hs⟩
     rw[hm,Au hk,EM,EW]
  ·exact AI (by rw[hn,Au hk];rfl)
 ·have hne:n=Bu p.AQ:=by rw[Au hk]at hn1;simpa[Bu]using hn1
  exact AI (by simp only[BE];rw[←hne];simp[hc])
def Fv (f:Int→Int→List Int→Option (List Int)) (op size:Int):Nat→List Int→List Int→Option (List Int)
 | _,[],s=>some s
 | i,k::r,s=>match f k (if op=9∧i=1 then size+1 else size) s with
   | none=>none
   | some s'=>Fv f op size (i+1) r s'
def EK (p:Prog) (next:Bool) (size:Int) (x:Node):Bool:=((x.kids.length:Int)==I5 p x)&&(MS p x size&&(x.op != 18||next))
def CU (p:Prog) (next:Bool):Nat→Int→Int→List Int→Option (List Int)
 | 0,_,_,_=>none
 | d+1,n,size,s=>
   if n<0∨(p.nodes.length:Int)≤n∨0≤s.getD n.toNat 0 then none else
   match p.nodes[n.toNat]? with
   | none=>none
   | some x=>if EK p next size x then Fv (CU p next d) x.op size 0 x.kids (s.set n.toNat size)else none
def VE (v:V) (s:List Int) (o:Option (List Int)) (r:R) (post:List At):Prop:=
 ∃s':List Int,s'.length=s.length∧post= [.own v 1 (iL s')]∧((o=some s'∧r= .ret (.b true))∨(o=none∧r= .ret (.b false)))
def O0 {v:V} {s s':List Int} {o:Option (List Int)} {σ:AH} {rest:List At} (hs:Sat σ (.own v 1 (iL s')::rest)) (hl:s'.length=s.length) (ho:o=none):Ap σ (.b false) fun r σ'=> ∃post,VE v s o r post∧Sat σ' post:=
 A4 hs (.cons₂ _ (MJ _)) (.refl _) fun σ' hs'=>⟨_,⟨s',hl,rfl,.inr ⟨ho,rfl⟩⟩,hs'⟩
def gF {p:Prog} (h:FU (.a (Be p))) {x:Node} (hx:x∈p.nodes):x.kids.length≤Aj:=by
 simp only[Be,JE,Et,FY,JJ]at h
 have h2:Hy (I8 x):=by
  first|exact h.2.2.2.2.1.2 x hx|exact h.2.2.2.2.2.1.2 x hx|exact h.2.2.2.1.2 x hx|exact h.2.2.1.2 x hx|exact h.2.1.2 x hx
 simp only[I8,Et,FY,BT]at h2
 first|exact h2.2.2.1.1|exact h2.2.2.1|exact h2.1
def OD {p:Prog} {next:Bool} {d:Nat} {n size:Int} {s:List Int} {x:Node} {y:Int} (h0:0≤n) (h1:n<(p.nodes.length:Int)) (hs:s[n.toNat]? =some y) (hy:y<0) (hx:p.nodes[n.toNat]? =some x) :
    CU p next (d+1) n size s=if EK p next size x then Fv (CU p next d) x.op size 0 x.kids (s.set n.toNat size)else none:=by
 have e:s.getD n.toNat 0=y:=by rw[D9,hs];rfl
 simp only[CU];rw[if_neg (by rw[e];omega),hx]
def Mr {p:Prog} {next:Bool} {d:Nat} {n size:Int} {s:List Int} (h:n<0∨(p.nodes.length:Int)≤n∨0≤s.getD n.toNat 0):CU p next (d+1) n size s=none:=by
 simp only[CU];rw[if_pos h]
set_option maxHeartbeats 4000000 in
def fH (p : Prog) (next:Bool): ∀d:Nat,d≤12→ ∀(n size depth:Int) (s:List Int) (v:V),depth=13 - d→0≤size→size+d≤100→s.length=p.nodes.length→(EI v).isSome=true→
    B3 Tryz.prog 157 [.a (Be p),eI n,eI size,eI depth,.b next,v] [.own v 1 (iL s)] (VE v s (CU p next d n size s)):=by
 intro d
 induction d with
 | zero=>
   intro _ n size depth s v hd h0 h1 hl hv σ hs;refine A7.fit (by kernel_rfl) fun hf=>?_
   have⟨p1,p2,p3,p4⟩:=GD hf.1;have hM:=Mx;refine ga kZ ?_
   conv=>whnf
   repeat'((first|apply st|(apply sq;intro K U)|(apply si;intro A B Y Z)|(apply Y;clear Z B Y A)|(apply U;clear U K)|refine⟨rfl,?_⟩|refine oi ?_|refine ol fun x hx=>?_|(constructor<;>intro hc<;>(try rw[hc])<;>(replace hc:=bp hc)<;>(try simp(disch:=omega) only[BT,wrap64,AN]at hc)<;>try(exfalso;omega))|clear U K)<;>conv=>whnf)
   all_goals exact A4 hs (.refl _) (.refl _) fun σ' hs'=>⟨_,⟨s,rfl,rfl,.inr ⟨rfl,rfl⟩⟩,hs'⟩
 | succ d ih =>
   intro hd12 n size depth s v hd h0 h1 hl hv σ hs;refine A7.fit (by kernel_rfl) fun hf=>?_
   have⟨p1,p2,p3,p4⟩:=GD hf.1;have hM:=Mx;refine ga kZ ?_
   conv=>whnf
   repeat'((first|apply st|(apply sq;intro K U)|(apply si;intro A B Y Z)|(apply Y;clear Z B Y A)|(apply U;clear U K)|apply dr|refine rk ?_ ?_|exact fun s e=>by cases e;rfl|refine⟨rfl,?_⟩|refine⟨kZ,?_⟩|refine iq fun x hx=>?_|refine ld ?_|refine sn fun σ hs=>?_|refine oi ?_|refine ol fun x hx=>?_|refine oset fun σ hs=>?_|refine Pure.use (mf _ _) ?_|refine Pure.use (cA _ _ _) ?_|(constructor<;>intro hc<;>(try rw[hc])<;>(replace hc:=bp hc)<;>(try simp(disch:=omega) only[BT,wrap64,AN]at hc)<;>try(exfalso;omega))|(intro nn hnn;generalize hg:A5 _ nn _=σ;refine al hg fun hs=>?_;clear hg)|clear U K)<;>conv=>whnf)
   ·exact O0 hs (by simp) (by rw[OD (by assumption) (by assumption) (by assumption) (by assumption) hx];simp[EK, *])
   rotate_left
   ·cases hc
   rotate_left
   ·exact O0 hs (by simp) (by rw[OD (by assumption) (by assumption) (by assumption) (by assumption) hx];simp[EK, *])
   ·exact O0 hs (by simp) (by rw[OD (by assumption) (by assumption) (by assumption) (by assumption) hx];simp[EK, *])
   ·exact O0 hs rfl (Mr (.inr (.inr (by rw[D9,hx];exact hc))))
   ·exact O0 hs rfl (Mr (.inr (.inl hc)))
   ·exact O0 hs rfl (Mr (.inl hc))
   all_goals
    have hW:CU p next (d+1) n size s=Fv (CU p next d) x.op size 0 x.kids (s.set n.toNat size):=by
     rw[OD (by assumption) (by assumption) (by assumption) (by assumption) hx];simp[EK, *]
    rw[hW]
    rename Node=>nd
    refine C3 nd.kids.length (fun k (_:List Int)=>[(14,eI (Bc k))]) (fun _ s'=>[.own v 1 (iL s'),.obj nn (.cs (I8 nd))]) (fun k s'=>s'.length=s.length∧Fv (CU p next d) nd.op size 0 nd.kids (s.set n.toNat size)=Fv (CU p next d) nd.op size k (nd.kids.drop k) s') (s.set n.toNat size) rfl ⟨by simp,by simp⟩ hs ?_;clear hs;rintro k s' σ hk ⟨hl',hkids⟩ hs;have hkm:=gF hf.1 (DL hx);have hck:Bc k=k:=AN (by omega);by_cases hlt:k<nd.kids.length
    ·obtain⟨kid,hkid⟩: ∃kid,nd.kids[k]? =some kid:=⟨_,EN hlt⟩
     have hrec:=fun kid sz h0 h1=>ih (by omega) kid sz (depth+1) s' v (by omega) h0 h1 (by omega) hv
     conv=>whnf
     repeat'((first|apply st|(apply sq;intro K U)|(apply si;intro A B Y Z)|(apply Y;clear Z B Y A)|(apply U;clear U K)|apply dr|refine⟨rfl,?_⟩|refine⟨kZ,?_⟩|refine ix ?_|refine ld ?_|(refine fc (fun x hx hlt hc=>?_) (fun hk hc=>?_)<;>(try rw[hc])<;>clear hc)|(constructor<;>intro hc<;>(try rw[hc])<;>(replace hc:=bp hc)<;>(try simp(disch:=omega) only[BT,wrap64,AN]at hc)<;>try(exfalso;omega))|clear U K)<;>conv=>whnf)
     all_goals try(exfalso;omega)
     all_goals try refine I3 (enc:=fun i:Int=>[V.i .i64 i]) hkid hkm rfl ?_
     conv=>whnf
     all_goals try(exfalso;omega)
     all_goals
      have hK2:=hkids;rw[drop_cons hx,Fv]at hK2
      first
       | rw[if_pos (by omega)]at hK2
         rw[wrap64 (by omega) (by omega),wrap64 (by omega) (by omega)];refine(hrec x (size+1) (by omega) (by omega)).use hs ?_
       | rw[if_neg (by omega)]at hK2
         rw[wrap64 (by omega) (by omega)];refine(hrec x size (by omega) (by omega)).use hs ?_
      rintro r post σ' ⟨s2,hl2,rfl,⟨ho,rfl⟩|⟨ho,rfl⟩⟩ hs
      ·rw[ho]at hK2
       conv=>whnf
       repeat'((first|apply st|(apply sq;intro K U)|(apply si;intro A B Y Z)|(apply Y;clear Z B Y A)|(apply U;clear U K)|apply dr|refine⟨rfl,?_⟩|(constructor<;>intro hc<;>(try rw[hc])<;>(replace hc:=bp hc)<;>(try simp(disch:=omega) only[BT,wrap64,AN]at hc))|clear U K)<;>conv=>whnf)
       all_goals first|(exfalso;cases hc;done)|exact⟨hlt,s2,rfl,⟨by omega,hK2⟩,hs⟩
      ·rw[ho]at hK2
       conv=>whnf
       repeat'((first|apply st|(apply sq;intro K U)|(apply si;intro A B Y Z)|(apply Y;clear Z B Y A)|(apply U;clear U K)|apply dr|refine⟨rfl,?_⟩|(constructor<;>intro hc<;>(try rw[hc])<;>(replace hc:=bp hc)<;>(try simp(disch:=omega) only[BT,wrap64,AN]at hc))|clear U K)<;>conv=>whnf)
       all_goals first|exact O0 hs (by omega) hK2|(exfalso;cases hc;done)
    ·have hke:k=nd.kids.length:=by omega
     conv=>whnf
     repeat'((first|apply st|(apply sq;intro K U)|(apply si;intro A B Y Z)|(apply Y;clear Z B Y A)|(apply U;clear U K)|refine⟨rfl,?_⟩|refine ld ?_|(refine fc (fun x hx hlt hc=>?_) (fun hk hc=>?_)<;>(try rw[hc])<;>clear hc)|(constructor<;>intro hc<;>(try rw[hc])<;>(replace hc:=bp hc)<;>try(exfalso;omega))|clear U K)<;>conv=>whnf)
     all_goals try(exfalso;omega)
     rw[hke,Au rfl]at hkids;exact A4 hs (.cons₂ _ (MJ _)) (.refl _) fun σ' hs'=>⟨_,⟨s',hl',rfl,.inl ⟨(by first|rw[hW,hkids,Fv]|rw[hkids,Fv]),rfl⟩⟩,hs'⟩
end Go.Gl
namespace Go.Gl
variable {P:Program} {σ:AH} {env:Env}
def lo {l:List At} {i:Nat} {v:V} {sz:Nat} {es:List (List V)} {K:V→Prop} (hk:K (.i .i64 es.length)) (h:Sat σ l:=by assumption)
    (hi:l[i]? =some (.own v sz es):=by first|exact UL|exact UK|exact UJ|exact UI|exact UH|exact UG) (hm:es.length≤Aj:=by first|omega|(simp only[BT,List.length_replicate,List.length_set,Aj]at *;omega)):Az v K:=wi h i hi hm hk
def Sat.take {l:List At} (h:Sat σ l) (n:Nat):Sat σ (l.take n):=h.less (List.take_sublist _ _)
def Ds {b:Bool} {σ σ':AH}:Fj σ σ' (.l [] b) (.l [] false):= .l (fun h=>by cases h) .nil
def ez {b:Bool} {σ σ':AH} {es:List (List V)}:Fj σ σ' (.l es b) (.l es false):= .l (fun h=>by cases h) (Fp.refl _ _ _)
mutual
def SX {σ σ':AH}: ∀vs:List V,Da σ σ' vs vs
 | []=> .nil
 | v::r=> .cons (.refl v) (SX r)
end
def EG {σ σ':AH}: ∀es:List (List V),Fp σ σ' es es
 | []=> .nil
 | e::r=> .cons (SX e) (EG r)
def BU {α:Type} (xs:List α) {k:Nat} (hk:k≤xs.length):(∃x,xs[k]? =some x∧k<xs.length)∨k=xs.length:=by
 rcases Nat.lt_or_ge k xs.length with h|h
 ·exact .inl ⟨_,EN h,h⟩
 ·exact .inr (by omega)
def DR {α:Type} {enc:α→List V} {xs:List α} {k:Nat} {x:α} {A B:Prop} (h1:decide (Bc k<((xs.map enc).length:Nat))=true→A) (hx:xs[k]? =some x:=by assumption) (hm:xs.length≤Aj:=by first|assumption|omega|simp[Aj]<;>omega) :
    (decide (Bc k<((xs.map enc).length:Nat))=true→A)∧(decide (Bc k<((xs.map enc).length:Nat))=false→B):=by
 refine⟨h1,fun h=>?_⟩;have hlt:=(MK.1 hx).1;rw[AN (by omega),BT]at h;have:=of_decide_eq_false h;omega
def Ew {α:Type} {enc:α→List V} {xs:List α} {k:Nat} {A B:Prop} (h1:decide (Bc k<((xs.map enc).length:Nat))=false→B) (hx:k=xs.length:=by assumption) (hm:xs.length≤Aj:=by first|assumption|omega|simp[Aj]<;>omega) :
    (decide (Bc k<((xs.map enc).length:Nat))=true→A)∧(decide (Bc k<((xs.map enc).length:Nat))=false→B):=by
 refine⟨fun h=>?_,h1⟩;rw[AN (by omega),BT]at h;have:=of_decide_eq_true h;omega
def MI {α:Type} {enc:α→List V} {xs:List α} {f:Bool} {sz:Nat} {K:V→Prop} {ki:IntKind} {j:Int} {x:α} (h:K (.rp (enc x))) (hx:xs[j.toNat]? =some x:=by assumption) (h0:0≤j:=by omega) (hs:(enc x).length=sz:=by first|rfl|simp|(rw[Ba];rfl)) :
    AT sz none (.l (xs.map enc) f) (.i ki j) K:=Ul j.toNat hx (by omega) hs h
def N2 {xs:List Fact} {f:Bool} {K:V→Prop} {ki:IntKind} {j:Int} {x:Fact} (h:K (.rp (xF x))) (hx:xs[j.toNat]? =some x:=by assumption) (h0:0≤j:=by omega):AT 6 none (.l (xs.map Fw) f) (.i ki j) K:=by
 refine MI ?_ hx h0;rw[Ba];exact h
class CB (b:Bool) (v:outParam Bool):Prop where
 h:b=v
instance :CB true true:=⟨rfl⟩
instance :CB false false:=⟨rfl⟩
instance {b:Bool} [i:CB b true]:CB (!b) false:=⟨by rw[i.h];rfl⟩
instance {b:Bool} [i:CB b false]:CB (!b) true:=⟨by rw[i.h];rfl⟩
instance {b x y v:Bool} [i:CB b true] [j:CB x v]:CB (bif b then x else y) v:=⟨by rw[i.h,j.h];rfl⟩
instance {b x y v:Bool} [i:CB b false] [j:CB y v]:CB (bif b then x else y) v:=⟨by rw[i.h,j.h];rfl⟩
instance {a b:Bool} [i:CB a true] [j:CB b true]:CB (a==b) true:=⟨by rw[i.h,j.h];rfl⟩
instance {a b:Bool} [i:CB a true] [j:CB b false]:CB (a==b) false:=⟨by rw[i.h,j.h];rfl⟩
instance {a b:Bool} [i:CB a false] [j:CB b true]:CB (a==b) false:=⟨by rw[i.h,j.h];rfl⟩
instance {a b:Bool} [i:CB a false] [j:CB b false]:CB (a==b) true:=⟨by rw[i.h,j.h];rfl⟩
instance {a b:Bool} [i:CB a true] [j:CB b true]:CB (a != b) false:=⟨by rw[i.h,j.h];rfl⟩
instance {a b:Bool} [i:CB a true] [j:CB b false]:CB (a != b) true:=⟨by rw[i.h,j.h];rfl⟩
instance {a b:Bool} [i:CB a false] [j:CB b true]:CB (a != b) true:=⟨by rw[i.h,j.h];rfl⟩
instance {a b:Bool} [i:CB a false] [j:CB b false]:CB (a != b) false:=⟨by rw[i.h,j.h];rfl⟩
def Iw {A B:Prop} {b:Bool} [i:CB b true] (h:A):(b=true→A)∧(b=false→B):=⟨fun _=>h,fun e=>(by rw[i.h]at e;cases e)⟩
def GS {A B:Prop} {b:Bool} [i:CB b false] (h:B):(b=true→A)∧(b=false→B):=⟨fun e=>(by rw[i.h]at e;cases e),fun _=>h⟩
def ec {A B:Prop} {b:Bool} [i:CB b true] (h:B):(b=false→A)∧(b=true→B):=⟨fun e=>(by rw[i.h]at e;cases e),fun _=>h⟩
def Ol {A B:Prop} {b:Bool} [i:CB b false] (h:A):(b=false→A)∧(b=true→B):=⟨fun _=>h,fun e=>(by rw[i.h]at e;cases e)⟩
def wL {α:Type} {enc:α→List V} {xs:List α} {x:α} {l:List At} {i:Nat} {v:V} {sz k:Nat} {agg:Option Nat} {K:V→Prop} (hk:cut agg (enc x) 0 K) (h:Sat σ l:=by assumption)
    (hi:l[i]? =some (.own v sz (xs.map enc)):=by first|exact UL|exact UK|exact UJ|exact UI|exact UH|exact UG) (hx:xs[k]? =some x:=by assumption):AX σ agg (Gx v sz k) K:=
 ID h i hi (by rw[Q8,hx];rfl) hk
def k9 {xs:List Fact} {x:Fact} {l:List At} {i:Nat} {v:V} {k:Nat} {agg:Option Nat} {K:V→Prop} (hk:cut agg (xF x) 0 K) (h:Sat σ l:=by assumption)
    (hi:l[i]? =some (.own v 6 (facts xs)):=by first|exact UL|exact UK|exact UJ|exact UI|exact UH|exact UG) (hx:xs[k]? =some x:=by assumption):AX σ agg (Gx v 6 k) K:=
 ID h i hi (by rw[Q8,hx];exact congrArg some (Ba x)) hk
def xA {v:V} (h:(EI v).isSome=true): ∃n l c,v= .sl n l c:=by
 cases v<;>first|(cases h;done)|exact⟨_,_,_,rfl⟩
def yQ {l:List At} {i:Nat} {xs:List Fact} {x:Fact} {v:V} {f:Bool} {e:List V} {K:V→AH→Prop} (hk: ∀v' σ',Sat σ' (l.set i (.own v' 6 (facts (xs++[x]))))→(EI v').isSome=true→K v' σ') (h:Sat σ l:=by assumption)
    (hi:l[i]? =some (.own v 6 (facts xs)):=by first|exact UL|exact UK|exact UJ|exact UI|exact UH|exact UG)
    (he:e=xF x:=by rfl)
    {b:Nat} (hl:xs.length<Aj∧(xs.length+1)*b≤140737488355328:=by first|assumption|omega|(simp only[Qi,BT,K1,List.length_nil,Ny,wJ,List.length_replicate,Aj]at *;omega)):AM b σ 6 v (.l [e] f) K:=
 Gh (GC h i hi hl KY hk (by rw[he,Ba]))
end Go.Gl
