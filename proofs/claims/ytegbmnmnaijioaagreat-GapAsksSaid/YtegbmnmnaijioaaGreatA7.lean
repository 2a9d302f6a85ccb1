import Derived.Test.YtegbmnmnaijioaaGreatA5
import Derived.Test.YtegbmnmnaijioaaGreatA6
set_option linter.all false
set_option linter.defProp false
noncomputable section
namespace Go.Gl
open Go.Proofs
attribute [local irreducible] BC Aw Ai AV AM Ah AU AW AN Ag AQ AS A3 BA Sat Ab A8 Ak W
def qX (g:List (List Int)) (f:Bool) (c:Int) (hg:Ib g) (h0:0≤c) (h1:c<3+g.length):Pure Tryz.prog 233 [.l (Eh g) f,eI c] (.t [.l (iL ((B7 g).getD c.toNat [])) false,.b (!((B7 g).getD c.toNat []).isEmpty)]):=by
 refine tP kZ ?_
 conv=>whnf
 repeat((first|(refine Aq ?_;intro K U)|(refine Aa ?_;intro I C G F)|(apply G;clear F C G I)|(apply U;clear U K)|fail);conv=>whnf)
 refine(bF g f hg).use ?_
 conv=>whnf
 have hlen:=Ck g (2+g.length);have hlt:c.toNat<(B7 g).length:=by unfold B7;omega
 have hq:=C7 hlt;refine UY c.toNat hq (by omega) rfl ?_
 conv=>whnf
 repeat((first|refine⟨rfl,?_⟩|refine Bs ?_|refine FB ?_|(refine Aq ?_;intro K U)|(refine Aa ?_;intro I C G F)|(apply G;clear F C G I)|refine Dd ?_|(apply U;clear U K)|fail);conv=>whnf)
 refine AI ?_;rw[DZ,hq,Option.getD_some];cases(B7 g)[c.toNat]with
 | nil=>rfl
 | cons _ _=>simp
def x9 (w:AL):Prop:=w.parents.length≤1000∧(∀l∈w.parents,l.length≤Ad)∧w.owner.length≤Ad
def eT {ps:List (List Int)} {c:Nat} (h3:3≤c) (hc:c<3+ps.length):ps[c - 3]? =some (par ps c):=by
 unfold par;rw[if_neg (by omega),DZ,C7 (by omega)];rfl
def Ye {bs:List Bool} {j:Nat} (h:j<bs.length):(bL bs)[j]? =some [.b (bs.getD j false)]:=by
 rw[MP,DZ,C7 h];rfl
def XN (bs:List Bool) (j:Nat) (x:Bool):(bL bs).set j [.b x]=bL (bs.set j x):=by
 simp[bL,List.map_set]
def wB (w : AL) (c:Nat) (hw:x9 w) (ho:ordered w.parents) (hc:c<3+w.parents.length):Pure Tryz.prog 333 [.a (A7 w),eI c] (.l (bL (HH w.parents (3+w.parents.length) c (c - 2))) false):=by
 obtain⟨hw1,hw2,hw3⟩:=hw;have hmL:3+w.parents.length≤Ad:=by simp only[Ad];omega
 refine rj kZ ?_
 conv=>whnf
 repeat((first|refine⟨rfl,?_⟩|refine Bs ?_|refine FB ?_|(refine Aq ?_;intro K U)|(refine Aa ?_;intro I C G F)|(apply G;clear F C G I)|(apply U;clear U K)|fail);conv=>whnf)
 rw[show IntKind.i64.wrap (3+((Eh w.parents).length:Nat))=((3+w.parents.length:Nat):Int) by rw[A9,wrap64 (by omega) (by omega)];omega];refine xy Sat.nil (by omega) fun v σ hs hv=>?_
 obtain⟨id,rfl⟩:=hv
 conv=>whnf
 repeat((first|(refine Aq ?_;intro K U)|(refine Aa ?_;intro I C G F)|(apply G;clear F C G I)|(apply U;clear U K)|fail);conv=>whnf)
 refine jV hs 0 c rfl rfl (by simpa using hc) ?_
 conv=>whnf
 refine Lw hs 0 rfl (e:=[.b false]) (by simp[hc]) rfl rfl rfl rfl rfl fun σ hs=>?_
 have e0:(List.replicate (3+w.parents.length) [V.b false]).set c [V.b true]=bL (HH w.parents (3+w.parents.length) c 0):=by
  simp only[HH];rw[←XN];simp[bL]
 conv=>whnf
 repeat((first|(refine Aq ?_;intro K U)|(refine Aa ?_;intro I C G F)|(apply G;clear F C G I)|refine Be ?_|refine Dg ?_|(apply U;clear U K)|fail);conv=>whnf)
 refine CA (c - 2) (fun k (_:Unit)=>[(6,eI (N5 c k))]) (fun k _=>[.own (.sl id (3+w.parents.length) (3+w.parents.length)) 1 (bL (HH w.parents (3+w.parents.length) c k))]) (fun _ _=>True) () rfl trivial (e0 ▸ hs) ?_;rintro k - σ hk - hs;have hd:N5 c k=(c:Int) - k:=Tm (by omega) (by omega);have hul:=LR w.parents (3+w.parents.length) c k
 conv=>whnf
 repeat((first|refine⟨rfl,?_⟩|(refine Aq ?_;intro K U)|(refine Aa ?_;intro I C G F)|(apply G;clear F C G I)|refine Bl ?_|(apply U;clear U K)|fail);conv=>whnf)
 refine fork (fun hlt=>?_) (fun hlt=>?_)
 ·rw [hd]at hlt
  have h3:3≤c - k:=by omega
  have hpar:=eT (ps:=w.parents) h3 (by omega);have hpl:=hw2 _ (B9 hpar)
  conv=>whnf
  repeat((first|refine⟨rfl,?_⟩|refine Bs ?_|(refine Aq ?_;intro K U)|(refine Aa ?_;intro I C G F)|refine Bz ?_|refine Be ?_|(apply U;clear U K)|fail);conv=>whnf)
  refine UY (c - k - 3) hpar (by rw[hd,wrap64 (by omega) (by omega)];omega) rfl ?_
  conv=>whnf
  repeat((first|refine Bs ?_|refine FB ?_|(apply G;clear F C G I)|refine Be ?_|refine Dg ?_|(apply U;clear U K)|fail);conv=>whnf)
  refine CA (par w.parents (c - k)).length (fun j (_:Unit)=>[(29,eI (BG j))]) (fun j _=>[.own (.sl id (3+w.parents.length) (3+w.parents.length)) 1 (bL (FX (HH w.parents (3+w.parents.length) c k) (c - k) ((par w.parents (c - k)).take j)))]) (fun _ _=>True) () rfl trivial hs ?_;rintro j - σ hj - hs;have hml:=M7 (c - k) ((par w.parents (c - k)).take j) (HH w.parents (3+w.parents.length) c k)
  conv=>whnf
  repeat((first|refine⟨rfl,?_⟩|(refine Aq ?_;intro K U)|(refine Aa ?_;intro I C G F)|(apply G;clear F C G I)|refine Bl ?_|(apply U;clear U K)|fail);conv=>whnf)
  refine GD hj hpl (fun p hp hjlt=>?_) fun hj=>?_
  ·have hpp:=ho _ p (B9 hp)
   have hm:(FX (HH w.parents (3+w.parents.length) c k) (c - k) ((par w.parents (c - k)).take (j+1)))=(FX (HH w.parents (3+w.parents.length) c k) (c - k) ((par w.parents (c - k)).take j)).set p.toNat
    ((FX (HH w.parents (3+w.parents.length) c k) (c - k) ((par w.parents (c - k)).take j)).getD p.toNat false||(FX (HH w.parents (3+w.parents.length) c k) (c - k) ((par w.parents (c - k)).take j)).getD (c - k) false):=by
    rw[AO hp,MA];rfl
   generalize hbs:FX (HH w.parents (3+w.parents.length) c k) (c - k) ((par w.parents (c - k)).take j)=bs at *;have hlp:p.toNat<bs.length:=by omega
   have hlc:c - k<bs.length:=by omega
   conv=>whnf
   repeat((first|(refine Aq ?_;intro K U)|(refine Aa ?_;intro I C G F)|refine Bz ?_|refine Be ?_|(apply U;clear U K)|fail);conv=>whnf)
   refine I2 hp hpl rfl ?_
   conv=>whnf
   repeat((first|refine Bs ?_|(refine Aa ?_;intro I C G F)|(apply G;clear F C G I)|(apply U;clear U K)|fail);conv=>whnf)
   refine jV hs 0 p.toNat rfl (by omega) (by simpa using hlp) ?_
   conv=>whnf
   refine H6 hs 0 rfl (Ye hlp) ?_
   conv=>whnf
   cases hb:bs.getD p.toNat false with
   | true=>
     rw[hb]at hm
     conv=>whnf
     repeat((first|refine Zr ?_|fail);conv=>whnf)
     refine jV hs 0 p.toNat rfl (by omega) (by simpa using hlp) ?_
     conv=>whnf
     refine Lw hs 0 rfl (Ye hlp) rfl rfl rfl rfl rfl fun σ hs=>?_
     conv=>whnf
     repeat((first|refine⟨rfl,?_⟩|(refine Aa ?_;intro I C G F)|(apply G;clear F C G I)|(apply U;clear U K)|(clear U K));conv=>whnf)
     refine⟨hjlt,(),rfl,trivial,?_⟩;rw[hm,←XN];exact hs
   | false=>
     rw[hb]at hm
     conv=>whnf
     repeat((first|refine Tq ?_|fail);conv=>whnf)
     refine jV hs 0 (c - k) rfl (by rw[hd];omega) (by simpa using hlc) ?_
     conv=>whnf
     repeat((first|refine Tq ?_|fail);conv=>whnf)
     refine H6 hs 0 rfl (Ye hlc) ?_
     conv=>whnf
     refine jV hs 0 p.toNat rfl (by omega) (by simpa using hlp) ?_
     conv=>whnf
     refine Lw hs 0 rfl (Ye hlp) rfl rfl rfl rfl rfl fun σ hs=>?_
     conv=>whnf
     repeat((first|refine⟨rfl,?_⟩|(refine Aa ?_;intro I C G F)|(apply G;clear F C G I)|(apply U;clear U K)|(clear U K));conv=>whnf)
     refine⟨hjlt,(),rfl,trivial,?_⟩;rw[hm,←XN];exact hs
  ·rw[Ap hj]at hs
   conv=>whnf
   repeat((first|refine⟨rfl,?_⟩|(refine Aa ?_;intro I C G F)|(apply G;clear F C G I)|refine Dh ?_|(apply U;clear U K)|(clear U K));conv=>whnf)
   refine⟨by omega,(),rfl,trivial,hs⟩
 ·rw[hd]at hlt
  conv=>whnf
  repeat((first|(refine Aq ?_;intro K U)|(refine Aa ?_;intro I C G F)|(apply G;clear F C G I)|refine Dh ?_|refine Dd ?_|(apply U;clear U K)|(clear U K));conv=>whnf)
  have:k=c - 2:=by omega
  subst this;exact EK hs 0 rfl rfl
end Go.Gl
namespace Go.Gl
variable {P:Program} {σ σ':AH}
mutual
def E4:V→Prop
 | .i k n=>k.min≤n∧n≤k.max
 | .rp cs=>Hs cs
 | .l es _=>es.length≤Ad∧UP es
 | .f _ a b=>Hs a∧Hs b
 | .E2 _ v=>E4 v
 | .a cs=>Hs cs
 | .t vs=>Hs vs
 | _=>True
def Hs:List V→Prop
 | []=>True
 | v::r=>E4 v∧Hs r
def UP:List (List V)→Prop
 | []=>True
 | e::r=>Hs e∧UP r
end
mutual
def n9 {H:Nat→Nat→Option Value}: ∀(v:V) (c:Value),Af H v c→E4 v
 | .b _,_,_| .s _,_,_| .pn,_,_| .p _ _,_,_| .sl _ _ _,_,_| .sv _ _ _ _,_,_| .pe _ _ _ _,_,_| .m _,_,_| .mn,_,_| .K8,_,_| .Dm,_,_| .any,_,_=>by simp only[E4]
 | .i k n,_,h=>by
   simp only[Af]at h;simp only[E4];exact h.2
 | .rp cs,_,h=>by
   simp only[Af]at h;obtain⟨b,o,rfl,h⟩:=h;simp only[E4];exact JG cs o h
 | .l es full,_,h=>by
   simp only[Af]at h;obtain⟨a,cap,h1,h2,h3,h4,h5,h6⟩:=h;simp only[E4];refine⟨h4,?_⟩;cases es with
   | nil=>exact trivial
   | cons e es=>
     obtain⟨b,o,sz,h7,h8⟩:=h6 (by simp);exact fI (e::es) o h8
 | .f fn first cap,_,h=>by
   simp only[Af]at h;obtain⟨f',c',h1,h2,h3,h4,h5⟩:=h;simp only[E4];exact⟨JG first 0 h3,JG cap 0 h5⟩
 | .E2 t v,_,h=>by
   simp only[Af]at h;obtain⟨c',h1,h2⟩:=h;simp only[E4];exact n9 v c' h2
 | .a cs,_,h=>by
   simp only[Af]at h;obtain⟨c',h1,h2,h3⟩:=h;simp only[E4];exact JG cs 0 h3
 | .t cs,_,h=>by
   simp only[Af]at h;obtain⟨c',h1,h2,h3⟩:=h;simp only[E4];exact JG cs 0 h3
def JG {H:Nat→Nat→Option Value} {g:Nat→Option Value}: ∀(vs:List V) (o:Nat),BZ H g o vs→Hs vs
 | [],_,_=>trivial
 | v::vs,o,h=>by
   simp only[BZ]at h;obtain⟨⟨c,h1,h2⟩,h3⟩:=h;exact⟨n9 v c h2,JG vs (o+1) h3⟩
def fI {H:Nat→Nat→Option Value} {g:Nat→Option Value} {sz:Nat}: ∀(es:List (List V)) (o:Nat),BO H g sz o es→UP es
 | [],_,_=>trivial
 | e::es,o,h=>by
   simp only[BO]at h;obtain⟨h1,h2,h3⟩:=h;exact⟨JG e o h2,fI es (o+sz) h3⟩
end
def BC.fit {f:FuncId} {args:List V} {Q:R→AH→Prop} (hok:okF P f=true) (h:Hs args→BC P f args σ Q):BC P f args σ Q:=
 ⟨hok,fun Λ w cs G hv=>(h (JG args 0 hv.2)).2 Λ w cs G hv⟩
def Pure.fit {f:FuncId} {args:List V} {v:V} (hok:okF P f=true) (h:Hs args→Pure P f args v):Pure P f args v:=BC.fit hok h
def Bj.fit {f:FuncId} {args:List V} {pre:List At} {Φ:R→List At→Prop} (hok:okF P f=true) (h:Hs args→Bj P f args pre Φ):Bj P f args pre Φ:=fun σ hs=>BC.fit hok fun hf=>h hf σ hs
def iT {es:List (List V)}:UP es↔ ∀e∈es,Hs e:=by
 induction es with
 | nil=>simp[UP]
 | cons e r ih=>simp[UP,ih]
def JL {α:Type} {enc:α→List V} {xs:List α}:UP (xs.map enc)↔ ∀x∈xs,Hs (enc x):=by
 rw[iT];simp
def G2 {es:List (List V)} {f:Bool}:E4 (.l es f)↔es.length≤Ad∧UP es:=Iff.rfl
def G3 {cs:List V}:E4 (.a cs)↔Hs cs:=Iff.rfl
def Tj {cs:List V}:E4 (.rp cs)↔Hs cs:=Iff.rfl
def DX {v:V} {r:List V}:Hs (v::r)↔E4 v∧Hs r:=Iff.rfl
def drop_cons {α:Type} {xs:List α} {k:Nat} {x:α} (h:xs[k]? =some x):xs.drop k=x::xs.drop (k+1):=by
 obtain⟨hk,rfl⟩:=IS.1 h;exact List.drop_eq_getElem_cons hk
def As {α:Type} {xs:List α} {k:Nat} (h:k=xs.length):xs.drop k= []:=List.drop_of_length_le (by omega)
end Go.Gl
namespace Go.Gl
variable {P:Program} {σ:AH} {env:Env}
class UF (AD:Prop) (G':outParam Prop):Prop where
 h:G'→AD
def st {AD G':Prop} [i:UF AD G'] (h:G'):AD:=i.h h
def sq {l:List Nat} {a b:AY} {Q:Ae→Env→AH→Prop} (h: ∀K:Env→AH→Prop,(∀env σ,(pk l env fun E=>W P b Q E σ)→K env σ)→W P a (Ae.andThen K Q) env σ):W P (.seq l a b) Q env σ:=Aq h
class x6 (AD:Prop) (G':outParam Prop):Prop where
 h:G'→AD
def si {AD G':Prop} [i:x6 AD G'] (h:G'):AD:=i.h h
instance {ops:List Au} {Q:Ae→Env→AH→Prop}:x6 (W P (.DJ ops) Q env σ) (∀(I:Env→AH→Prop) (C:Env→V→AH→Prop),(∀env σ,Q .normal env σ→I env σ)→(∀env v σ,Q (.Bi v) env σ→C env v σ)→WT P ops I C env σ):=⟨Aa⟩
instance {l:List Nat} {ops:List Cp} {Q:Ae→Env→AH→Prop}:x6 (W P (.HM l ops) Q env σ) (∀(I:Env→AH→Prop) (C:V→AH→Prop),(∀env σ,(pk l env fun E=>Q .normal E σ)→I env σ)→(∀v σ,(∀σ',Sub σ σ'→Q (.Bi v) [] σ')→C v σ)→WD P ops I C env σ):=⟨m9⟩
instance {c:Bm} {a b:AY} {Q:Ae→Env→AH→Prop}:UF (W P (.cond c a b) Q env σ) (match ev env c with
 | some (.b t)=>(t=true→W P a Q env σ)∧(t=false→W P b Q env σ)
 | _=>False):=⟨Bl⟩
instance {id:Nat} {a:AY} {Q:Ae→Env→AH→Prop}:UF (W P (.block id a) Q env σ) (W P a (Ae.inBlock id Q) env σ):=⟨Be⟩
instance {l:List Nat} {a:AY} {Q:Ae→Env→AH→Prop}:UF (W P (.loop l a) Q env σ) (pk l env fun E=>Ak l a (W P a) Q E σ):=⟨Dg⟩
instance {id:Nat} {Q:Ae→Env→AH→Prop}:UF (W P (.exit id) Q env σ) (Q (.exit id) env σ):=⟨Dh⟩
instance {Q:Ae→Env→AH→Prop}:UF (W P .ret Q env σ) (Q .ret env σ):=⟨Dd⟩
instance {Q:Ae→Env→AH→Prop}:UF (W P .skip Q env σ) (Q .normal env σ):=⟨Bz⟩
instance {a:AY} {Q:Ae→Env→AH→Prop}:UF (W P (.scope a) Q env σ) (W P a Q env σ):=⟨jM⟩
instance {l:List Nat} {g:Bm} {ps:List Nat} {a b:AY} {Q:Ae→Env→AH→Prop}:UF (W P (.Dt l g ps a b) Q env σ) (match ev env g with
 | some (.f (.func gf) [] cap)=>pk l env fun E=> ∀L,σ L=none→BC P gf (.f (.yield L) [] []::cap) (A0 σ L (.loop .ready E (B0 P ps a b))) (Ke L Q env)
 | _=>False):=⟨jO⟩
instance {A B:Prop}:UF ((true=true→A)∧(true=false→B)) A:=⟨Mq⟩
instance {A B:Prop}:UF ((false=true→A)∧(false=false→B)) B:=⟨TJ⟩
instance {A B:Prop}:UF ((false=false→A)∧(false=true→B)) A:=⟨Tq⟩
instance {A B:Prop}:UF ((true=false→A)∧(true=true→B)) B:=⟨Zr⟩
instance {A B:Prop} {b:Bool}:UF ((b=true→A)∧(b= !true→B)) ((b=true→A)∧(b=false→B)):=⟨id⟩
instance {A B:Prop} {b:Bool}:UF ((b=false→A)∧(b= !false→B)) ((b=false→A)∧(b=true→B)):=⟨id⟩
instance {agg:Option Nat} {cs:List V} {K:V→Prop}:UF (Ab σ agg (.rp cs) K) (cut agg cs 0 K):=⟨fun h=>h⟩
instance {es:List (List V)} {f:Bool} {K:V→Prop}:UF (A8 (.l es f) K) (K (.i .i64 es.length)):=⟨FB⟩
def kc {K A:Env→AH→Prop} (h:A env σ) (hk: ∀env σ,A env σ→K env σ:=by assumption):K env σ:=hk _ _ h
def kp {K A:Env→V→AH→Prop} {v:V} (h:A env v σ) (hk: ∀env v σ,A env v σ→K env v σ:=by assumption):K env v σ:=hk _ _ _ h
def rk {x:Au} {r:List Au} {A:Prop} (h1:HW P x env σ) (h2:EU P r env σ∧A):EU P (x::r) env σ∧A:=⟨⟨h1,h2.1⟩,h2.2⟩
def dr {A:Prop} (h:A):EU P [] env σ∧A:=⟨trivial,h⟩
class BP (b v:Bool) (p:outParam Prop):Prop where
 h:b=v→p
def bp {b v:Bool} {p:Prop} [i:BP b v p] (h:b=v):p:=i.h h
instance (priority:=low) {b v:Bool}:BP b v (b=v):=⟨id⟩
instance (priority:=mid) {p:Prop} [Decidable p]:BP (decide p) true p:=⟨of_decide_eq_true⟩
instance (priority:=mid) {p:Prop} [Decidable p]:BP (decide p) false (¬p):=⟨of_decide_eq_false⟩
instance {a b:Int}:BP (decide (a<b)) false (b≤a):=⟨fun h=>Int.not_lt.1 (of_decide_eq_false h)⟩
instance {a b:Int}:BP (decide (a≤b)) false (b<a):=⟨fun h=>Int.not_le.1 (of_decide_eq_false h)⟩
instance {a b:Int}:BP (a==b) true (a=b):=⟨fun h=>by simpa using h⟩
instance {a b:Int}:BP (a==b) false (a≠b):=⟨fun h=>by simpa using h⟩
instance {a b:Int}:BP (a != b) true (a≠b):=⟨fun h=>by simpa using h⟩
instance {a b:Int}:BP (a != b) false (a=b):=⟨fun h=>by simpa using h⟩
instance {b:Bool} {p:Prop} [i:BP b false p]:BP (!b) true p:=⟨fun h=>i.h (by simpa using h)⟩
instance {b:Bool} {p:Prop} [i:BP b true p]:BP (!b) false p:=⟨fun h=>i.h (by simpa using h)⟩
instance {b x v:Bool} {p:Prop} [i:BP b v p]:BP (bif false then x else b) v p:=⟨i.h⟩
instance {b x v:Bool} {p:Prop} [i:BP b v p]:BP (bif true then b else x) v p:=⟨i.h⟩
def fc {α:Type} {enc:α→List V} {xs:List α} {k:Nat} {A B:Prop} (h1: ∀x,xs[k]? =some x→k<xs.length→decide (BG k<((xs.map enc).length:Nat))=true→A) (h2:k=xs.length→decide (BG k<((xs.map enc).length:Nat))=false→B) (hk:k≤xs.length:=by assumption) (hm:xs.length≤Ad:=by first|assumption|omega|simp[Ad]<;>omega) :
    (decide (BG k<((xs.map enc).length:Nat))=true→A)∧(decide (BG k<((xs.map enc).length:Nat))=false→B):=
 ⟨fun h=>(GD (enc:=enc) (A:=A) (B:=True) hk hm (fun x hx hlt=>h1 x hx hlt h) fun _=>trivial).1 h,fun h=>(GD (enc:=enc) (A:=True) (B:=B) hk hm (fun _ _ _=>trivial) fun he=>h2 he h).2 h⟩
def ix {α:Type} {enc:α→List V} {xs:List α} {f:Bool} {sz:Nat} {K:V→Prop} {ki:IntKind} {k:Nat} {x:α} (h:K (.rp (enc x))) (hx:xs[k]? =some x:=by assumption) (hm:xs.length≤Ad:=by first|assumption|omega|simp[Ad]<;>omega) (hs:(enc x).length=sz:=by first|rfl|simp) :
    AV sz none (.l (xs.map enc) f) (.i ki (BG k)) K:=I2 hx hm hs h
def iq {α:Type} {enc:α→List V} {xs:List α} {f:Bool} {sz:Nat} {K:V→Prop} {ki:IntKind} {j:Int} (h: ∀x,xs[j.toNat]? =some x→K (.rp (enc x))) (h0:0≤j:=by omega) (h1:j<xs.length:=by omega) (hs: ∀x,(enc x).length=sz:=by intro x;first|rfl|simp|(rw[BL];rfl)) :
    AV sz none (.l (xs.map enc) f) (.i ki j) K:=by
 have hlt:j.toNat<xs.length:=by omega
 exact UY j.toNat (C7 hlt) (by omega) (hs _) (h _ (C7 hlt))
def xp {α:Type} {enc:α→List V} {xs:List α} {f:Bool} {sz:Nat} {ki:IntKind} {k:Nat} {K:V→AH→Prop} (h:K (.l ((xs.take k).map enc) (f&&decide ((k:Int)=((xs.map enc).length:Nat)))) σ) (hl:k≤xs.length:=by first|assumption|omega) (hm:xs.length≤Ad:=by first|assumption|omega) (hs: ∀x,(enc x).length=sz:=by intro x;first|rfl|simp|(rw[BL];rfl)) :
    AU σ sz (.l (xs.map enc) f) none (some (.i ki (BG k))) none K:=by
 rw[AK (by omega)];refine⟨fun e he=>?_,?_⟩
 ·obtain⟨x,_,rfl⟩:=MN.1 he
  exact hs x
 ·simp only[NV,A9]
  refine⟨by omega,by omega,by omega,?_⟩;rw[Iv];simpa[List.map_take]using h
def Qx {xs:List Fact} {f:Bool} {K:V→Prop} {ki:IntKind} {k:Nat} {x:Fact} (h:K (.rp (xF x))) (hx:xs[k]? =some x:=by assumption) (hm:xs.length≤Ad:=by first|assumption|omega):AV 6 none (.l (xs.map Ge) f) (.i ki (BG k)) K:=by
 refine I2 hx hm (by rw[BL];rfl) ?_;rw[BL];exact h
def Q4 {a0:At} {l:List At}:(a0::l)[0]? =some a0:=rfl
def Q3 {a0 a1:At} {l:List At}:(a0::a1::l)[1]? =some a1:=rfl
def Q2 {a0 a1 a2:At} {l:List At}:(a0::a1::a2::l)[2]? =some a2:=rfl
def Q1 {a0 a1 a2 a3:At} {l:List At}:(a0::a1::a2::a3::l)[3]? =some a3:=rfl
def Qz {a0 a1 a2 a3 a4:At} {l:List At}:(a0::a1::a2::a3::a4::l)[4]? =some a4:=rfl
def Qy {a0 a1 a2 a3 a4 a5:At} {l:List At}:(a0::a1::a2::a3::a4::a5::l)[5]? =some a5:=rfl
def ld {l:List At} {i n off:Nat} {agg:Option Nat} {vs:List V} {K:V→Prop} (hk:cut agg vs off K) (h:Sat σ l:=by assumption)
    (hi:l[i]? =some (.box n vs):=by first|exact Q4|exact Q3|exact Q2|exact Q1|exact Qz|exact Qy):Ab σ agg (.p n off) K:=Uh h i hi hk
def s1 {l:List At} {i n off:Nat} {vs:List V} {x:V} {K:AH→Prop} (hk: ∀σ',Sat σ' (l.set i (.box n (vs.set off x)))→K σ') (h:Sat σ l:=by assumption)
    (hi:l[i]? =some (.box n vs):=by first|exact Q4|exact Q3|exact Q2|exact Q1|exact Qz|exact Qy)
    (h1:CL x=true:=by first|rfl|exact Gw (by assumption) 0 rfl|exact Gw (by assumption) 1 rfl|exact Gw (by assumption) 2 rfl|exact Gw (by assumption) 3 rfl|simp) (ho:off+1≤vs.length:=by exact Nat.le_of_ble_eq_true rfl):AW σ 1 (.p n off) x K:=
 LV h i hi h1 ho hk
def sn {l:List At} {i n off sz:Nat} {vs vc:List V} {x:V} {K:AH→Prop} (hk: ∀σ',Sat σ' (l.set i (.box n (putAt vs off vc)))→K σ') (h:Sat σ l:=by assumption)
    (hi:l[i]? =some (.box n vs):=by first|exact Q4|exact Q3|exact Q2|exact Q1|exact Qz|exact Qy)
    (hc:cellsOf x=some vc:=by rfl) (hl:vc.length=sz:=by rfl) (h1:vc.all CL=true:=by first|rfl|simp) (ho:off+sz≤vs.length:=by exact Nat.le_of_ble_eq_true rfl):AW σ sz (.p n off) x K:=
 G1 h i hi hc hl h1 ho hk
def KY:FD (fun f:Fact=>Ge f) 6:=fun f=>by
 simp only[BL];refine⟨rfl,fun v hv=>?_⟩;simp only[F6,List.not_mem_nil,or_false]at hv;rcases hv with rfl|rfl|rfl|rfl|rfl|rfl<;>rfl
def LW:FD (fun l:List Fact=>[V.l (facts l) false]) 1:=fun x=>⟨rfl,fun v hv=>by simp at hv;subst hv;rfl⟩
def af {α:Type} {enc:α→List V} {sz:Nat} {ys:List α} {g:Bool} {K:V→Prop} (hk:K (.l (ys.map enc) false)) (hg:FD enc sz:=by first|exact Bk|exact DF|exact OT|exact KY|exact LW) {b:Nat} (hl:ys.length≤Ad∧ys.length*b≤140737488355328:=by first|assumption|omega) :
    Ah b σ sz (.l [] true) (.l (ys.map enc) g) K:=fF hg hl hk
def al {l:List At} {o:O} {n:Nat} {K:Prop} {σ':AH} (e:A0 σ n o=σ') (hk:Sat σ' (l++[.obj n o])→K) (hn:σ n=none:=by assumption) (h:Sat σ l:=by assumption):K:=hk (e ▸ dY h hn)
def oi {l:List At} {i:Nat} {v:V} {sz:Nat} {es:List (List V)} {ki:IntKind} {j:Int} {K:V→Prop} (hk:K (Fl v sz j.toNat)) (h:Sat σ l:=by assumption)
    (hi:l[i]? =some (.own v sz es):=by first|exact Q4|exact Q3|exact Q2|exact Q1|exact Qz|exact Qy) (h0:0≤j:=by omega) (h1:j<es.length:=by first|omega|(simp only[A9]at *;omega)):AV sz none v (.i ki j) K:=
 jV h i j.toNat hi (by omega) (by omega) hk
def oc {l:List At} {i:Nat} {v:V} {sz k:Nat} {es:List (List V)} {ki:IntKind} {K:V→Prop} (hk:K (Fl v sz k)) (h:Sat σ l:=by assumption)
    (hi:l[i]? =some (.own v sz es):=by first|exact Q4|exact Q3|exact Q2|exact Q1|exact Qz|exact Qy) (h1:k<es.length:=by first|omega|(simp only[A9]at *;omega)) (hm:k≤Ad:=by first|omega|(simp only[Ad];omega)):AV sz none v (.i ki (BG k)) K:=
 jV h i k hi (AK (by omega)) h1 hk
def ol {α:Type} {enc:α→List V} {xs:List α} {l:List At} {i:Nat} {v:V} {sz k:Nat} {agg:Option Nat} {K:V→Prop} (hk: ∀x,xs[k]? =some x→cut agg (enc x) 0 K) (h:Sat σ l:=by assumption)
    (hi:l[i]? =some (.own v sz (xs.map enc)):=by first|exact Q4|exact Q3|exact Q2|exact Q1|exact Qz|exact Qy) (h1:k<xs.length:=by first|omega|(simp only[A9]at *;omega)):Ab σ agg (Fl v sz k) K:=
 H6 h i hi (by rw[MP,C7 h1];rfl) (hk _ (C7 h1))
def oset {α:Type} {enc:α→List V} {xs:List α} {y:α} {l:List At} {i:Nat} {v x:V} {sz k:Nat} {vc:List V} {K:AH→Prop} (hk: ∀σ',Sat σ' (l.set i (.own v sz ((xs.set k y).map enc)))→K σ') (h:Sat σ l:=by assumption)
    (hi:l[i]? =some (.own v sz (xs.map enc)):=by first|exact Q4|exact Q3|exact Q2|exact Q1|exact Qz|exact Qy) (hc:cellsOf x=some vc:=by rfl) (he:vc=enc y:=by rfl) (hg:FD enc sz:=by first|exact Bk|exact DF|exact OT|exact KY|exact LW)
    (hv:(B5 v).isSome=true:=by assumption) (h1:k<xs.length:=by first|omega|(simp only[A9]at *;omega)):AW σ sz (Fl v sz k) x K:=by
 subst he;refine Lw h i hi (by rw[MP,C7 h1];rfl) hc (hg y).1 (Em.2 fun v hv=>(hg y).2 v hv) (hg _).1 hv fun σ' hs=>hk σ' ?_
 rw[List.map_set];exact hs
def GL {b sz:Nat} {v:V} {e:List V} {f:Bool} {K:V→AH→Prop} (h:AM b σ sz v (.l [e] f) fun v' σ'=>(B5 v').isSome=true→K v' σ'):AM b σ sz v (.l [e] f) K:=by
 obtain⟨h1,h2,h3⟩:=h;refine⟨h1,h2,?_⟩;cases v with
 | l es full=>exact⟨h3.1,h3.2.1,fun e=>(by cases e),fun e=>⟨(h3.2.2.2 e).1,fun n cap hn hc=>(h3.2.2.2 e).2 n cap hn hc rfl⟩⟩
 | sl n len cap=>
   simp only at h3 ⊢;split at h3
   ·exact⟨h3.1,h3.2.1,h3.2.2.1,h3.2.2.2.1,fun n' cap' hn hc=>h3.2.2.2.2 n' cap' hn hc rfl⟩
   ·exact h3.elim
 | _=>exact h3.elim
def aq {l:List At} {i:Nat} {α:Type} {enc:α→List V} {sz:Nat} {xs:List α} {x:α} {v:V} {f:Bool} {e:List V} {K:V→AH→Prop} (hk: ∀v' σ',Sat σ' (l.set i (.own v' sz ((xs++[x]).map enc)))→(B5 v').isSome=true→K v' σ') (h:Sat σ l:=by assumption)
    (hi:l[i]? =some (.own v sz (xs.map enc)):=by first|exact Q4|exact Q3|exact Q2|exact Q1|exact Qz|exact Qy)
    (he:e=enc x:=by rfl) (hg:FD enc sz:=by first|exact Bk|exact DF|exact OT|exact KY|exact LW)
    {b:Nat} (hl:xs.length<Ad∧(xs.length+1)*b≤140737488355328:=by first|assumption|omega|(simp only[Qv,A9,K2,List.length_nil,K1,oR,List.length_replicate,Ad]at *;omega)):AM b σ sz v (.l [e] f) K:=
 GL (Fk h i hi hl hg hk he)
end Go.Gl
namespace Go.Gl
open Go.Proofs
attribute [local irreducible] BC Aw Ai AV AM Ah AU AW AN Ag AQ AS A3 BA Sat Ab A8 Ak W
def Ui {w:AL} (h:E4 (.a (A7 w))):w.parents.length≤Ad∧(∀l∈w.parents,l.length≤Ad)∧w.owner.length≤Ad:=by
 simp only[A7,G3,DX,G2,JL,A9]at h;exact⟨h.1.1,fun l hl=>(h.1.2 l hl).1.1,h.2.1.1⟩
def LK {xs:List Int} {g:Bool} (h:E4 (.l (iL xs) g)):xs.length≤Ad:=by
 simp only[G2,A9]at h;exact h.1
def J6 {f:Fact} (h:E4 (.a (xF f))):f.kids.length≤Ad∧f.path.length≤Ad∧ ∀k∈f.kids,E4 (.a (xF k)):=by
 simp only[G3,DX,G2,JL,A9]at h;exact⟨h.2.2.2.2.2.1.1,h.2.2.1.1,fun k hk=>by have:=h.2.2.2.2.2.1.2 k hk;rw[BL]at this;exact this⟩
def Qh (w:AL) (c:Int):Bool:=decide (0≤c)&&decide (c<3+w.parents.length)
def iv (w:AL) (c:Int):Pure Tryz.prog 219 [.a (A7 w),eI c] (.b (Qh w c)):=by
 refine Pure.fit (by kernel_rfl) fun hf=>?_
 have⟨h1,h2,h3⟩:=Ui hf.1;have hM:=Mx;refine tY kZ ?_
 conv=>whnf
 repeat'((first|apply st|(apply sq;intro K U)|(apply si;intro A B Y Z)|(apply Y;clear Z B Y A)|(apply U;clear U K)|refine⟨rfl,?_⟩|(constructor<;>intro hc<;>(try rw[hc])<;>(replace hc:=bp hc))|fail)<;>conv=>whnf)
 ·exact AI (by rw[A9,wrap64 (by omega) (by omega)];simp[Qh,hc])
 ·exact AI (by simp[Qh,hc];intros;omega)
def IX (w:AL) (s:Int):Bool:=decide (0≤s)&&decide (s<w.owner.length)
def E8 (w:AL) (p:List Int):Bool:=p.all (IX w)&&decide (p.length≤2)
def ky (w:AL) (p:List Int) (g:Bool):Pure Tryz.prog 220 [.a (A7 w),.l (iL p) g] (.b (E8 w p)):=by
 refine Pure.fit (by kernel_rfl) fun hf=>?_
 have⟨h1,h2,h3⟩:=Ui hf.1;have h4:=LK hf.2.1;have hM:=Mx;refine tX kZ ?_
 conv=>whnf
 repeat'((first|apply st|(apply sq;intro K U)|(apply si;intro A B Y Z)|(apply Y;clear Z B Y A)|(apply U;clear U K)|fail)<;>conv=>whnf)
 refine CA p.length (fun k (_:Unit)=>[(9,eI (BG k))]) (fun _ _=>[]) (fun k _=>p.all (IX w)=(p.drop k).all (IX w)) () rfl rfl Sat.nil ?_;rintro k - σ hk hn hs
 conv=>whnf
 repeat'((first|apply st|(apply sq;intro K U)|(apply si;intro A B Y Z)|(apply Y;clear Z B Y A)|(apply U;clear U K)|refine⟨rfl,?_⟩|refine ix ?_|(refine fc (fun x hx hlt hc=>?_) (fun hk hc=>?_)<;>(try rw[hc])<;>clear hc)|(constructor<;>intro hc<;>(try rw[hc])<;>(replace hc:=bp hc)<;>(try simp(disch:=omega) only[A9,wrap64,AK]at hc))|clear U K)<;>conv=>whnf)
 ·exact AI (by rw[E8,hn,drop_cons hx];simp[IX,hc];intros;omega)
 ·exact⟨hlt,(),rfl,by rw[hn,drop_cons hx];simp[IX, *],hs⟩
 ·exact AI (by rw[E8,hn,drop_cons hx];simp[IX,hc];intros;omega)
 ·exact AI (by rw[E8,hn,As hk];simp;omega)
def CH (f:Fact):Bool:=f.op==2||f.op==3||f.op==4
def ZI (f:Fact):Pure Tryz.prog 221 [.a (xF f)] (.b (CH f)):=by
 refine tW kZ ?_
 conv=>whnf
 repeat'((first|apply st|(apply sq;intro K U)|(apply si;intro A B Y Z)|(apply Y;clear Z B Y A)|(apply U;clear U K)|refine⟨rfl,?_⟩|(constructor<;>intro hc<;>(try rw[hc])<;>(replace hc:=bp hc))|fail)<;>conv=>whnf)
 all_goals exact AI (by simp[CH, *])
def Da:List (Int→Int)→Int→Int→Int
 | [],n,_=>n
 | k::r,n,most=>if n≤most then Da r (n+k (most - n)) most else n
def Cb (f:Fact):Int→Int:=f.Ht fun _ l most=>Da l 1 most
def Jn (f:Fact) (most:Int):Cb f most=Da (f.kids.map Cb) 1 most:=by
 rw[Cb,Fact.D4];rfl
def P2 {most:Int}: ∀(l:List (Int→Int)) (n:Int),(∀g∈l,∀m,0≤m→1≤g m∧g m≤m+1)→1≤n→n≤most+1→1≤Da l n most∧Da l n most≤most+1
 | [],n,_,h1,h2=>⟨h1,h2⟩
 | g ::r,n,h,h1,h2=>by
   rw[Da];split
   ·have:=h g (List.mem_cons_self ..) (most - n) (by omega)
    exact P2 r _ (fun g hg=>h g (List.mem_cons_of_mem _ hg)) (by omega) (by omega)
   ·exact⟨h1,h2⟩
def Kq (f:Fact): ∀m,0≤m→1≤Cb f m∧Cb f m≤m+1:=by
 induction f using Fact.ind with
 | h f ih=>
   intro m hm;rw[Jn];refine P2 _ _ (fun g hg=>?_) (by omega) (by omega);obtain⟨k,hk,rfl⟩:=MN.1 hg;exact ih k hk
def gv (f:Fact): ∀most:Int,0≤most→most≤1000→Pure Tryz.prog 88 [.a (xF f),eI most] (eI (Cb f most)):=by
 induction f using Fact.ind with
 | h f ih=>
   intro most h0 h1;refine Pure.fit (by kernel_rfl) fun hf=>?_
   have⟨h2,h3,h4⟩:=J6 hf.1;have hM:=Mx;refine wh kZ ?_
   conv=>whnf
   repeat'((first|apply st|(apply sq;intro K U)|(apply si;intro A B Y Z)|(apply Y;clear Z B Y A)|(apply U;clear U K)|fail)<;>conv=>whnf)
   refine CA f.kids.length (fun k (n:Int)=>[(5,eI n),(6,eI (BG k))]) (fun _ _=>[]) (fun k n=>1≤n∧n≤most+1∧Cb f most=Da ((f.kids.drop k).map Cb) n most) 1 rfl ⟨by omega,by omega,by rw[List.drop_zero];exact Jn f most⟩ Sat.nil ?_;rintro k n σ hk ⟨hn1,hn2,hn⟩ hs
   conv=>whnf
   repeat'((first|apply st|(apply sq;intro K U)|(apply si;intro A B Y Z)|(apply Y;clear Z B Y A)|(apply U;clear U K)|refine⟨rfl,?_⟩|refine⟨kZ,?_⟩|refine Qx ?_|(refine fc (fun x hx hlt hc=>?_) (fun hk hc=>?_)<;>(try rw[hc])<;>clear hc)|(constructor<;>intro hc<;>(try rw[hc])<;>(replace hc:=bp hc))|clear U K)<;>conv=>whnf)
   ·rw[wrap64 (by omega) (by omega)]
    have hb:=Kq x (most - n) (by omega);refine(ih x (B9 hx) (most - n) (by omega) (by omega)).use ?_
    conv=>whnf
    repeat'((first|(apply si;intro A B Y Z)|(apply Y;clear Z B Y A)|(apply U;clear U K)|refine⟨rfl,?_⟩|clear U K)<;>conv=>whnf)
    rw[wrap64 (by omega) (by omega)];exact⟨hlt,_,rfl,⟨by omega,by omega,by rw[hn,drop_cons hx,E3,Da,if_pos hc]⟩,hs⟩
   ·exact AI (by rw[hn,drop_cons hx,E3,Da,if_neg (by omega)])
   ·exact AI (by rw[hn,As hk];rfl)
def gw (f:Fact):Pure Tryz.prog 29 [.a (xF f)] (eI (Cb f 24)):=by
 refine xG kZ ?_
 conv=>whnf
 repeat'((first|apply st|(apply sq;intro K U)|(apply si;intro A B Y Z)|(apply Y;clear Z B Y A)|(apply U;clear U K)|refine⟨kZ,?_⟩|fail)<;>conv=>whnf)
 refine(gv f 24 (by omega) (by omega)).use ?_
 conv=>whnf
 repeat'((first|apply st|(apply Y;clear Z B Y A)|(apply U;clear U K)|fail)<;>conv=>whnf)
 exact AI rfl
def MQ (f:Fact):Nat:=f.Ht fun _ l=>1+l.sum
def KZ (f:Fact):MQ f=1+(f.kids.map MQ).sum:=Fact.D4 _ f
def Zk {f k:Fact} (h:k∈f.kids):MQ k<MQ f:=by
 have: ∀l:List Fact,k∈l→MQ k≤(l.map MQ).sum:=fun l=>by
  induction l with
  | nil=>intro h;cases h
  | cons x r ih=>
    intro h;simp only[E3,List.sum_cons];rcases F6.1 h with rfl|h
    ·omega
    ·have:=ih h;omega
 have:=this _ h;rw[KZ f];omega
def P1 {most:Int}: ∀(l:List Fact) (n:Int),(∀k∈l,∀m,0≤m→Cb k m≤m→Cb k m=MQ k)→0≤n→Da (l.map Cb) n most≤most→Da (l.map Cb) n most=n+(l.map MQ).sum
 | [],n,_,_,_=>by simp[Da]
 | k :: r, n,h,h0,h1=>by
   simp only[E3,Da]at *;split at h1
   ·rename_i hc
    rw[if_pos hc];have hb:=Kq k (most - n) (by omega)
    have hge: ∀(l:List Fact) (a:Int),a≤Da (l.map Cb) a most:=fun l=>by
     induction l with
     | nil=>intro a;exact Int.le_refl _
     | cons y l ih=>
       intro a;simp only[E3,Da];split
       ·have:=Kq y (most - a) (by omega)
        have:=ih (a+Cb y (most - a));omega
       ·exact Int.le_refl _
    have h2:=hge r (n+Cb k (most - n));have h3:=h k (List.mem_cons_self ..) (most - n) (by omega) (by omega);have h4:=P1 r (n+Cb k (most - n)) (fun k' hk'=>h k' (List.mem_cons_of_mem _ hk')) (by omega) h1;simp only[List.sum_cons];omega
   ·rename_i hc
    omega
def Kp (f:Fact): ∀m,0≤m→Cb f m≤m→Cb f m=MQ f:=by
 induction f using Fact.ind with
 | h f ih=>
   intro m h0 h1;rw[Jn]at *;rw[P1 f.kids 1 ih (by omega) h1,KZ];omega
def Jx (a b:Int):Int:=if a<b then b else a
def EE (f:Fact):Int:=f.Ht fun _ l=>l.foldl Jx 0+1
def Ho (f:Fact):EE f=(f.kids.map EE).foldl Jx 0+1:=Fact.D4 _ f
def KC {m:Int}: ∀(l:List Int) (a:Int),(∀x∈l,x≤m)→a≤m→l.foldl Jx a≤m
 | [],_,_,h=>h
 | x::r,a,h,h'=>by
   refine KC r _ (fun y hy=>h y (List.mem_cons_of_mem _ hy)) ?_;have:=h x (List.mem_cons_self ..);unfold Jx;split<;>omega
def KA: ∀(l:List Int) (a:Int),a≤l.foldl Jx a
 | [],_=>Int.le_refl _
 | x::r,a=>by
   refine Int.le_trans ?_ (KA r _);unfold Jx;split<;>omega
def YD (f:Fact):1≤EE f∧EE f≤MQ f:=by
 induction f using Fact.ind with
 | h f ih=>
   rw[Ho];have h1:=KA (f.kids.map EE) 0
   have h2:(f.kids.map EE).foldl Jx 0≤(MQ f:Int) - 1:=by
    refine KC _ _ (fun x hx=>?_) (by have:=KZ f;omega);obtain⟨k,hk,rfl⟩:=MN.1 hx;have:=(ih k hk).2;have:=Zk hk;omega
   omega
def GI {α:Type} {xs:List α} {k:Nat} {x:α} {β:Type} (g:α→β) (h:β→β→β) (a:β) (hx:xs[k]? =some x):((xs.take (k+1)).map g).foldl h a=h (((xs.take k).map g).foldl h a) (g x):=by
 rw[AO hx,Sd,List.foldl_append];rfl
def ik (f:Fact):MQ f≤Ad→Pure Tryz.prog 148 [.a (xF f)] (eI (EE f)):=by
 induction f using Fact.ind with
 | h f ih=>
   intro hc;refine Pure.fit (by kernel_rfl) fun hf=>?_
   have⟨h2,h3,h4⟩:=J6 hf.1;have hM:=Mx;refine uG kZ ?_
   conv=>whnf
   repeat'((first|apply st|(apply sq;intro K U)|(apply si;intro A B Y Z)|(apply Y;clear Z B Y A)|(apply U;clear U K)|fail)<;>conv=>whnf)
   refine CA f.kids.length (fun k (_:Unit)=>[(3,eI (((f.kids.take k).map EE).foldl Jx 0)),(9,eI (BG k))]) (fun _ _=>[]) (fun _ _=>True) () rfl trivial Sat.nil ?_;rintro k - σ hk - hs
   conv=>whnf
   repeat'((first|apply st|(apply sq;intro K U)|(apply si;intro A B Y Z)|(apply Y;clear Z B Y A)|(apply U;clear U K)|refine⟨rfl,?_⟩|refine⟨kZ,?_⟩|refine Qx ?_|refine ld ?_|refine sn fun σ hs=>?_|(refine fc (fun x hx hlt hc=>?_) (fun hk hc=>?_)<;>(try rw[hc])<;>clear hc)|(intro nn hnn;generalize hg:A0 _ nn _=σ;refine al hg fun hs=>?_;clear hg)|clear U K)<;>conv=>whnf)
   ·refine(ih x (B9 hx) (by have:=Zk (B9 hx);omega)).use ?_
    conv=>whnf
    repeat'((first|(apply si;intro A B Y Z)|(apply Y;clear Z B Y A)|(apply U;clear U K)|refine⟨rfl,?_⟩|clear U K)<;>conv=>whnf)
    exact⟨hlt,(),by rw[GI _ _ _ hx];rfl,trivial,Sat.nil⟩
   ·have:=YD f
    rw[Ho]at this;exact AI (by rw[Ap hk,wrap64 (by omega) (by omega),←Ho])
def GC (f:Fact):Int:=f.Ht fun f l=>l.foldl Jx (if CH f then f.arg+1 else 0)
def Ji (f:Fact):GC f=(f.kids.map GC).foldl Jx (if CH f then f.arg+1 else 0):=Fact.D4 _ f
def RI (f:Fact):Bool:=f.Ht fun f l=>decide (0≤f.arg)&&decide (f.arg<3)&&l.all id
def Ph (f:Fact):RI f=(decide (0≤f.arg)&&decide (f.arg<3)&&(f.kids.map RI).all id):=Fact.D4 _ f
def gW (f:Fact):RI f=true→Pure Tryz.prog 156 [.a (xF f)] (eI (GC f)):=by
 induction f using Fact.ind with
 | h f ih=>
   intro ha;refine Pure.fit (by kernel_rfl) fun hf=>?_
   have⟨h2,h3,h4⟩:=J6 hf.1;have hM:=Mx;rw[Ph]at ha;simp only[BJ,Cn,List.all_map,Em]at ha;refine uB kZ ?_
   conv=>whnf
   repeat'((first|apply st|(apply sq;intro K U)|(apply si;intro A B Y Z)|(apply Y;clear Z B Y A)|(apply U;clear U K)|refine⟨kZ,?_⟩|fail)<;>conv=>whnf)
   refine(ZI f).use ?_
   conv=>whnf
   repeat'((first|apply st|(apply sq;intro K U)|(apply si;intro A B Y Z)|(apply Y;clear Z B Y A)|(apply U;clear U K)|refine⟨rfl,?_⟩|(constructor<;>intro hc<;>(try rw[hc])<;>(replace hc:=bp hc))|fail)<;>conv=>whnf)
   ·refine CA f.kids.length (fun k (_:Unit)=>[(3,eI (((f.kids.take k).map GC).foldl Jx (if CH f then f.arg+1 else 0))),(14,eI (BG k))]) (fun _ _=>[]) (fun _ _=>True) () (by rw[wrap64 (by omega) (by omega),if_pos hc];rfl) trivial Sat.nil ?_
    rintro k - σ hk - hs
    conv=>whnf
    repeat'((first|apply st|(apply sq;intro K U)|(apply si;intro A B Y Z)|(apply Y;clear Z B Y A)|(apply U;clear U K)|refine⟨rfl,?_⟩|refine⟨kZ,?_⟩|refine Qx ?_|refine ld ?_|refine sn fun σ hs=>?_|(refine fc (fun x hx hlt hc=>?_) (fun hk hc=>?_)<;>(try rw[hc])<;>clear hc)|(intro nn hnn;generalize hg:A0 _ nn _=σ;refine al hg fun hs=>?_;clear hg)|clear U K)<;>conv=>whnf)
    ·refine(ih x (B9 hx) (ha.2 x (B9 hx))).use ?_
     conv=>whnf
     repeat'((first|(apply si;intro A B Y Z)|(apply Y;clear Z B Y A)|(apply U;clear U K)|refine⟨rfl,?_⟩|clear U K)<;>conv=>whnf)
     exact⟨hlt,(),by rw[GI _ _ _ hx];rfl,trivial,Sat.nil⟩
    ·exact AI (by rw[Ap hk,←Ji])
   ·refine CA f.kids.length (fun k (_:Unit)=>[(3,eI (((f.kids.take k).map GC).foldl Jx (if CH f then f.arg+1 else 0))),(14,eI (BG k))]) (fun _ _=>[]) (fun _ _=>True) () (by rw[if_neg (c:=CH f=true) (by simp[hc])];rfl) trivial Sat.nil ?_
    rintro k - σ hk - hs
    conv=>whnf
    repeat'((first|apply st|(apply sq;intro K U)|(apply si;intro A B Y Z)|(apply Y;clear Z B Y A)|(apply U;clear U K)|refine⟨rfl,?_⟩|refine⟨kZ,?_⟩|refine Qx ?_|refine ld ?_|refine sn fun σ hs=>?_|(refine fc (fun x hx hlt hc=>?_) (fun hk hc=>?_)<;>(try rw[hc])<;>clear hc)|(intro nn hnn;generalize hg:A0 _ nn _=σ;refine al hg fun hs=>?_;clear hg)|clear U K)<;>conv=>whnf)
    ·refine(ih x (B9 hx) (ha.2 x (B9 hx))).use ?_
     conv=>whnf
     repeat'((first|(apply si;intro A B Y Z)|(apply Y;clear Z B Y A)|(apply U;clear U K)|refine⟨rfl,?_⟩|clear U K)<;>conv=>whnf)
     exact⟨hlt,(),by rw[GI _ _ _ hx];rfl,trivial,Sat.nil⟩
    ·exact AI (by rw[Ap hk,←Ji])
def CK (op:Int):Nat:=if op=5 then 1 else if op=6∨op=7 then 2 else 0
def Wj (w:AL) (f:Fact):Bool:=
 if f.op=2 then f.n==0&&Qh w f.cls else if f.op=3∨f.op=4 then f.cls==0&&(decide (-1000000000≤f.n)&&decide (f.n≤1000000000))else f.op==1||f.op==5||f.op==6||f.op==7
def DI (w:AL) (f:Fact):Bool:=
 Wj w f&&(f.kids.length==CK f.op&&(decide (0≤f.arg)&&(decide (f.arg<3)&&(E8 w f.path&&(CH f||(f.arg==0&&(f.path.length==0&&(f.cls==0&&f.n==0))))))))
def Bo (w:AL) (f:Fact):Bool:=f.Ht fun f l=>DI w f&&l.all id
def Cz (w:AL) (f:Fact):Bo w f=(DI w f&&f.kids.all (Bo w)):=by rw[Bo,Fact.D4,List.all_map];rfl
def PO {w:AL} {f:Fact} (h:DI w f=false):Bo w f=false:=by rw[Cz,h,Bool.false_and]
def xL {f:Fact} (h1:CH f=false) (h2:f.arg=0) (h3:(f.path.length:Int) > 0):true= !(CH f||(f.arg==0&&(f.path.length==0&&(f.cls==0&&f.n==0)))):=by
 have:(f.path.length==0)=false:=by simp;intro e;rw[e]at h3;simp at h3
 rw[this,h1,h2];rfl
def lH (w : AL) (f:Fact):Pure Tryz.prog 149 [.a (A7 w),.a (xF f)] (.b (Bo w f)):=by
 induction f using Fact.ind with
 | h f ih=>
   refine Pure.fit (by kernel_rfl) fun hf=>?_
   have⟨h2,h3,h4⟩:=J6 hf.2.1;have⟨w1,w2,w3⟩:=Ui hf.1;have hM:=Mx;refine uF kZ ?_
   conv=>whnf
   repeat'((first|apply st|(apply sq;intro K U)|(apply si;intro A B Y Z)|(apply Y;clear Z B Y A)|(apply U;clear U K)|refine⟨rfl,?_⟩|fail)<;>conv=>whnf)
   have hJ :=RA U (fun(_:Unit)=>[(5,eI (CK f.op))]) (fun _=>[]) (fun _=>Wj w f=true) [(2,.rp (A7 w)),(3,.rp (xF f)),(5,eI 0)] (by
    clear U;rintro - σ ho -
    conv=>whnf
    repeat'((first|apply st|(apply sq;intro K U)|(apply si;intro A B Y Z)|refine⟨rfl,?_⟩|fail)<;>conv=>whnf)
    have hJ :=RA U (fun(b:Bool)=>[(66,.b b)]) (fun _=>[]) (fun b=>b= !(f.kids.length==CK f.op&&(decide (0≤f.arg)&&(decide (f.arg<3)&&E8 w f.path)))) [(2,.rp (A7 w)),(3,.rp (xF f)),(66,.b false)] (by
     clear U;rintro b σ hb -
     conv=>whnf
     repeat'((first|apply st|fail)<;>conv=>whnf)
     have hJ :=RA U (fun(_:Unit)=>[]) (fun _=>[]) (fun _=>b=false) [(2,.rp (A7 w)),(3,.rp (xF f))] (by
      clear U;rintro - σ hb' -;rw[hb']at hb
      conv=>whnf
      repeat'((first|apply st|(apply sq;intro K U)|(apply si;intro A B Y Z)|refine⟨kZ,?_⟩|refine Pure.use (ZI _) ?_|fail)<;>conv=>whnf)
      have hJ:=RA U (fun(b:Bool)=>[(90,.b b)]) (fun _=>[]) (fun b=>b= !(CH f||(f.arg==0&&(f.path.length==0&&(f.cls==0&&f.n==0))))) [(2,.rp (A7 w)),(3,.rp (xF f)),(90,.b false)] (by
       clear U;rintro b σ hb2 -
       conv=>whnf
       repeat'((first|apply st|fail)<;>conv=>whnf)
       have hJ:=RA U (fun(_:Unit)=>[]) (fun _=>[]) (fun _=>b=false) [(2,.rp (A7 w)),(3,.rp (xF f))] (by
        clear U;rintro - σ hb' -;rw[hb']at hb2
        have hh:DI w f=true:=by
         have hb:(f.kids.length==CK f.op&&(decide (0≤f.arg)&&(decide (f.arg<3)&&E8 w f.path)))=true:=by rw[←Bool.not_eq_false',←hb]
         have hb2:(CH f||(f.arg==0&&(f.path.length==0&&(f.cls==0&&f.n==0))))=true:=by rw[←Bool.not_eq_false',←hb2]
         simp only[BJ]at hb;simp only[DI,ho,hb.1,hb.2,hb2,Bool.and_self]
        conv=>whnf
        repeat'((first|apply st|(apply sq;intro K U)|(apply si;intro A B Y Z)|(apply Y;clear Z B Y A)|(apply U;clear U K)|fail)<;>conv=>whnf)
        refine CA f.kids.length (fun k (_:Unit)=>[(94,eI (BG k))]) (fun _ _=>[]) (fun k _=>Bo w f=(f.kids.drop k).all (Bo w)) () rfl (by rw[Cz,hh];rfl) Sat.nil ?_;rintro k - σ hk hn hs
        conv=>whnf
        repeat'((first|apply st|(apply sq;intro K U)|(apply si;intro A B Y Z)|(apply Y;clear Z B Y A)|(apply U;clear U K)|refine⟨rfl,?_⟩|refine⟨kZ,?_⟩|refine Qx ?_|refine ld ?_|refine sn fun σ hs=>?_|(refine fc (fun x hx hlt hc=>?_) (fun hk hc=>?_)<;>(try rw[hc])<;>clear hc)|(intro nn hnn;generalize hg:A0 _ nn _=σ;refine al hg fun hs=>?_;clear hg)|clear U K)<;>conv=>whnf)
        ·have hxm:=B9 hx
         refine(ih x hxm).use ?_
         conv=>whnf
         repeat'((first|apply st|(apply sq;intro K U)|(apply si;intro A B Y Z)|(apply Y;clear Z B Y A)|(apply U;clear U K)|refine⟨rfl,?_⟩|(constructor<;>intro hc<;>(try rw[hc])<;>(replace hc:=bp hc))|clear U K)<;>conv=>whnf)
         ·exact AI (by rw[hn,drop_cons hx];simp[hc])
         ·exact⟨hlt,(),rfl,by rw[hn,drop_cons hx];simp[hc],Sat.nil⟩
        ·exact AI (by rw[hn,As hk];rfl))
       clear U
       conv=>whnf
       repeat'((first|apply st|(apply sq;intro K U)|(apply si;intro A B Y Z)|(apply Y;clear Z B Y A)|(apply U;clear U K)|(constructor<;>intro hc<;>(try rw[hc])<;>(replace hc:=bp hc))|fail)<;>conv=>whnf)
       ·have hx:(CH f||(f.arg==0&&(f.path.length==0&&(f.cls==0&&f.n==0))))=false:=by rw[←Bool.not_eq_true',←hb2,hc]
        exact AI (by rw[PO];simp only[DI,hx,Bool.and_false])
       ·exact hJ () _ _ rfl hc Sat.nil)
      clear U;clear hb
      conv=>whnf
      repeat'((first|apply st|(apply Y;clear Z B Y A)|refine⟨rfl,?_⟩|(constructor<;>intro hc<;>(try rw[hc])<;>(replace hc:=bp hc)<;>(try simp(disch:=omega) only[A9,wrap64,AK]at hc))|fail)<;>conv=>whnf)
      ·have hp:f.path.length=0:=by omega
       exact hJ _ _ _ rfl (by rw[hp];simp[*,bne]) Sat.nil
      ·exact hJ true _ _ rfl (by simp[*]) Sat.nil
      ·exact hJ true _ _ rfl (xL (by assumption) (by assumption) hc) Sat.nil
      ·exact hJ true _ _ rfl (by simp[*]) Sat.nil
      ·exact hJ false _ _ rfl (by simp[*]) Sat.nil)
     clear U
     conv=>whnf
     repeat'((first|apply st|(apply sq;intro K U)|(apply si;intro A B Y Z)|(apply Y;clear Z B Y A)|(apply U;clear U K)|(constructor<;>intro hc<;>(try rw[hc])<;>(replace hc:=bp hc))|fail)<;>conv=>whnf)
     ·have hx:(f.kids.length==CK f.op&&(decide (0≤f.arg)&&(decide (f.arg<3)&&E8 w f.path)))=false:=by rw[←Bool.not_eq_true',←hb,hc]
      exact AI (by rw[PO];simp only[DI];simp only[Bool.and_eq_false_iff]at hx ⊢;rcases hx with h|h|h|h<;>simp[h])
     ·exact hJ () _ _ rfl hc Sat.nil)
    clear U
    conv=>whnf
    repeat'((first|apply st|(apply Y;clear Z B Y A)|refine⟨rfl,?_⟩|refine⟨kZ,?_⟩|refine Pure.use (ky _ _ _) ?_|(constructor<;>intro hc<;>(try rw[hc])<;>(replace hc:=bp hc)<;>(try simp(disch:=omega) only[A9,wrap64,AK]at hc))|fail)<;>conv=>whnf)
    all_goals exact hJ _ _ _ rfl (by simp[*]<;>omega) Sat.nil)
   clear U
   conv=>whnf
   repeat'((first|apply st|(apply sq;intro K U)|(apply si;intro A B Y Z)|(apply Y;clear Z B Y A)|(apply U;clear U K)|refine⟨rfl,?_⟩|refine⟨kZ,?_⟩|refine Pure.use (iv _ _) ?_|(constructor<;>intro hc<;>(try rw[hc])<;>(replace hc:=bp hc))|fail)<;>conv=>whnf)
   all_goals first
    | exact AI (by rw[PO];simp only[DI,Wj];simp[*]<;>omega)
    | exact hJ () _ _ (by simp[CK, *];rfl) (by simp[Wj, *]<;>omega) Sat.nil
def Sv (n:Int):Bool:=decide (-1000000000≤n)&&decide (n≤1000000000)
def nk (n:Int):Pure Tryz.prog 235 [eI n] (.b (Sv n)):=by
 refine tM kZ ?_
 conv=>whnf
 repeat'((first|apply st|(apply sq;intro K U)|(apply si;intro A B Y Z)|(apply Y;clear Z B Y A)|(apply U;clear U K)|refine⟨rfl,?_⟩|(constructor<;>intro hc<;>(try rw[hc])<;>(replace hc:=bp hc))|fail)<;>conv=>whnf)
 all_goals exact AI (by simp[Sv, *]<;>omega)
def J3 (k:Int):Bool:=k==1||k==4
def qN (k:Int):Pure Tryz.prog 158 [eI k] (.b (J3 k)):=by
 refine uA kZ ?_
 conv=>whnf
 repeat'((first|apply st|(apply sq;intro K U)|(apply si;intro A B Y Z)|(apply Y;clear Z B Y A)|(apply U;clear U K)|refine⟨rfl,?_⟩|(constructor<;>intro hc<;>(try rw[hc])<;>(replace hc:=bp hc))|fail)<;>conv=>whnf)
 all_goals exact AI (by simp[J3, *])
def Er {p:Prog} (h:E4 (.a (BR p))):p.AP.length≤Ad∧p.Dj.length≤Ad∧p.methods.length≤Ad∧p.nodes.length≤Ad:=by
 simp only[BR,G3,DX,G2,A9]at h;exact⟨h.1.1,h.2.2.1.1,h.2.2.2.1.1,h.2.2.2.2.1.1⟩
def I7 (p:Prog) (x:Node):Int:=
 if x.op=1∨x.op=2∨x.op=3∨x.op=6∨x.op=18 then 0 else
 if x.op=4∨x.op=8∨x.op=17 then 1 else
 if x.op=7∨x.op=9∨x.op=11∨x.op=12∨x.op=13∨x.op=14∨x.op=15∨x.op=16 then 2 else
 if x.op=10 then 3 else
 if x.op=5∧0≤x.n∧x.n<p.Dj.length then p.Dj.getD x.n.toNat 0 else -1
def lX (p:Prog) (x:Node):Pure Tryz.prog 236 [.a (BR p),.a (I9 x)] (eI (I7 p x)):=by
 refine Pure.fit (by kernel_rfl) fun hf=>?_
 have⟨p1,p2,p3,p4⟩:=Er hf.1;have hM:=Mx;refine tL kZ ?_
 conv=>whnf
 repeat'((first|apply st|(apply sq;intro K U)|(apply si;intro A B Y Z)|(apply Y;clear Z B Y A)|(apply U;clear U K)|refine⟨rfl,?_⟩|refine iq fun x hx=>?_|(constructor<;>intro hc<;>(try rw[hc])<;>(replace hc:=bp hc)<;>(try simp(disch:=omega) only[A9,wrap64,AK]at hc))|clear U K)<;>conv=>whnf)
 all_goals first
  | (refine AI ?_;simp[I7, *];done)
  | (refine AI ?_;simp[I7, *];intros;omega)
  | (have hd:=(IS.1 hx).2;refine AI ?_;simp[I7, *];done)
def MV (p:Prog) (x:Node) (size:Int):Bool:=
 if x.op=1 then Sv x.n else if x.op=3 then decide (0≤x.n)&&decide (x.n<size)else if x.op=4∨x.op=7 then decide (0≤x.n)&&decide (x.n<p.AJ)else
 if x.op=5 then decide (0≤x.n)&&decide (x.n<p.Dj.length)else if x.op=6∨x.op=8 then decide (3≤x.n)&&decide (x.n<3+p.AP.length)else x.n==0
def bI (p:Prog) (x:Node) (size:Int):Pure Tryz.prog 237 [.a (BR p),.a (I9 x),eI size] (.b (MV p x size)):=by
 refine Pure.fit (by kernel_rfl) fun hf=>?_
 have⟨p1,p2,p3,p4⟩:=Er hf.1;have hM:=Mx;refine tK kZ ?_
 conv=>whnf
 repeat'((first|apply st|(apply sq;intro K U)|(apply si;intro A B Y Z)|(apply Y;clear Z B Y A)|(apply U;clear U K)|refine⟨rfl,?_⟩|refine Pure.use (nk _) ?_|(constructor<;>intro hc<;>(try rw[hc])<;>(replace hc:=bp hc))|clear U K)<;>conv=>whnf)
 all_goals first
  | (refine AI ?_;simp[MV, *];done)
  | (refine AI ?_;rw[A9,wrap64 (by omega) (by omega)];simp[MV, *];done)
  | (refine AI ?_;simp[MV, *];intros;omega)
def UX (ps:List (List Int)) (a b:Int):Bool:=a==b||(b==0||(decide (3≤a)&&Ju ps a.toNat b.toNat))
def jD (w:AL) (a b:Int) (hl:w.parents.length≤1000) (ho:ordered w.parents) (ha:0≤a) (ha':a<3+w.parents.length) (hb:0≤b) (hb':b<3+w.parents.length):Pure Tryz.prog 298 [.a (A7 w),eI a,eI b] (.b (UX w.parents a b)):=by
 refine Pure.fit (by kernel_rfl) fun hf=>?_
 have⟨w1,w2,w3⟩:=Ui hf.1;have hM:=Mx;refine sS kZ ?_
 conv=>whnf
 repeat'((first|apply st|(apply sq;intro K U)|(apply si;intro A B Y Z)|(apply Y;clear Z B Y A)|(apply U;clear U K)|refine⟨rfl,?_⟩|refine⟨kZ,?_⟩|(constructor<;>intro hc<;>(try rw[hc])<;>(replace hc:=bp hc))|clear U K)<;>conv=>whnf)
 ·exact AI (by simp[UX,hc])
 ·exact AI (by simp[UX, *];omega)
 ·have hc':0≤a:=ha
  obtain⟨a,rfl⟩: ∃n:Nat,a=n:=⟨a.toNat,by omega⟩
  refine(wB w a ⟨hl,w2,w3⟩ ho (by omega)).use ?_;have hul:=LR w.parents (3+w.parents.length) a (a - 2)
  conv=>whnf
  repeat'((first|apply st|(apply sq;intro K U)|(apply si;intro A B Y Z)|(apply Y;clear Z B Y A)|(apply U;clear U K)|refine iq fun x hx=>?_|fail)<;>conv=>whnf)
  refine AI ?_;have hu:=Yj ho (n:=3+w.parents.length) (c:=a) (by omega) b.toNat;rw[DZ,hx]at hu;simp at hu;have e1:((a:Int)==b)=false:=by simpa using ‹(a:Int)≠b›
  have e2:(b==0)=false:=by simpa using ‹b≠0›
  simp[UX,e1,e2,hc,hu]
 ·exact AI (by simp[UX,hc])
structure UA (w:AL):Prop where
 len:w.parents.length≤60
 ord:ordered w.parents
 own: ∀c∈w.owner,(3:Int)≤c∧c<3+w.parents.length
 yF:w.owner.length≤40
def Cx (w:AL) (s:Int):Int:=w.owner.getD s.toNat 0
def hasB (w:AL) (c s:Int):Bool:=decide (3≤c)&&UX w.parents c (Cx w s)
def ql (w:AL) (c s:Int) (hw:UA w) (hc0:0≤c) (hc1:c<3+w.parents.length) (hs0:0≤s) (hs1:s<w.owner.length):Pure Tryz.prog 234 [.a (A7 w),eI c,eI s] (.b (hasB w c s)):=by
 refine Pure.fit (by kernel_rfl) fun hf=>?_
 have⟨w1,w2,w3⟩:=Ui hf.1;have hM:=Mx;have hl:=hw.len;refine tN kZ ?_
 conv=>whnf
 repeat'((first|apply st|(apply sq;intro K U)|(apply si;intro A B Y Z)|(apply Y;clear Z B Y A)|(apply U;clear U K)|apply dr|refine⟨rfl,?_⟩|refine⟨kZ,?_⟩|refine iq fun x hx=>?_|(constructor<;>intro hc<;>(try rw[hc])<;>(replace hc:=bp hc))|fail)<;>conv=>whnf)
 ·have:=hw.own x (B9 hx)
  refine(jD w c x (by omega) hw.ord hc0 hc1 (by omega) (by omega)).use ?_
  conv=>whnf
  repeat'((first|apply st|(apply Y;clear Z B Y A)|(apply U;clear U K)|apply dr|fail)<;>conv=>whnf)
  exact AI (by simp[hasB,Cx,hx,hc])
 ·exact AI (by simp[hasB];omega)
def lg (xs:List Int) (f:Bool) (x:Int):Pure Tryz.prog 296 [.l (iL xs) f,eI x] (.b (xs.contains x)):=Pure.fit (by kernel_rfl) fun hf=>fE xs f x (LK hf.1)
def CS (w:AL) (f:Fact):Bool:=decide (Cb f 24≤24)&&(decide (EE f≤12)&&Bo w f)
def VZ (w:AL) (f:Fact):Pure Tryz.prog 86 [.a (A7 w),.a (xF f)] (.b (CS w f)):=by
 refine wj kZ ?_
 conv=>whnf
 repeat'((first|apply st|(apply sq;intro K U)|(apply si;intro A B Y Z)|(apply Y;clear Z B Y A)|(apply U;clear U K)|refine⟨rfl,?_⟩|refine⟨kZ,?_⟩|refine Pure.use (gw _) ?_|(constructor<;>intro hc<;>(try rw[hc])<;>(replace hc:=bp hc))|fail)<;>conv=>whnf)
 ·have:=Kp f 24 (by omega) hc
  refine(ik f (by simp only[Ad];omega)).use ?_
  conv=>whnf
  repeat'((first|apply st|(apply Y;clear Z B Y A)|(apply U;clear U K)|refine⟨rfl,?_⟩|refine⟨kZ,?_⟩|refine Pure.use (lH _ _) ?_|(constructor<;>intro hc<;>(try rw[hc])<;>(replace hc:=bp hc))|fail)<;>conv=>whnf)
  ·exact AI (by simp[CS,hc,‹Cb f 24≤24›])
  ·exact AI (by simp[CS, *];intros;omega)
 ·exact AI (by simp[CS];intros;omega)
def oZ (i:Nat) (pre:List Int) (c:Int):Bool:=decide (3≤c)&&(decide (c<3+i)&& !pre.contains c)
def Ma (i:Nat):List Int→List Int→Bool
 | _,[]=>true
 | pre,c::r=>oZ i pre c&&Ma i (pre++[c]) r
def IY:Nat→List (List Int)→Bool
 | _,[]=>true
 | i,l::r=>decide (l.length≤3)&&(Ma i [] l&&IY (i+1) r)
def Dq (g:List (List Int)):Bool:=decide (g.length≤16)&&IY 0 g
def TB {ls:List (List Int)} {g:Bool} (h:E4 (.l (Eh ls) g)):ls.length≤Ad∧ ∀l∈ls,l.length≤Ad:=by
 simp only[G2,A9,JL,DX]at h;exact⟨h.1,fun l hl=>(h.2 l hl).1.1⟩
def lq (g:List (List Int)) (f:Bool):Pure Tryz.prog 232 [.l (Eh g) f] (.b (Dq g)):=by
 refine Pure.fit (by kernel_rfl) fun hf=>?_
 have⟨g1,g2⟩:=TB hf.1;have hM:=Mx;refine tQ kZ ?_
 conv=>whnf
 repeat'((first|apply st|(apply sq;intro K U)|(apply si;intro A B Y Z)|(apply Y;clear Z B Y A)|(apply U;clear U K)|refine⟨rfl,?_⟩|(constructor<;>intro hc<;>(try rw[hc])<;>(replace hc:=bp hc)<;>(try simp(disch:=omega) only[A9,wrap64,AK]at hc))|clear U K)<;>conv=>whnf)
 ·exact AI (by simp[Dq];intros;omega)
 ·refine CA g.length (fun k (_:Unit)=>[(3,eI (BG k))]) (fun _ _=>[]) (fun k _=>Dq g=IY k (g.drop k)) () rfl (by simp[Dq];omega) Sat.nil ?_
  rintro k - σ hk hn hs
  conv=>whnf
  repeat'((first|apply st|(apply sq;intro K U)|(apply si;intro A B Y Z)|(apply Y;clear Z B Y A)|(apply U;clear U K)|refine⟨rfl,?_⟩|refine ix ?_|(refine fc (fun x hx hlt hc=>?_) (fun hk hc=>?_)<;>(try rw[hc])<;>clear hc)|(constructor<;>intro hc<;>(try rw[hc])<;>(replace hc:=bp hc)<;>(try simp(disch:=omega) only[A9,wrap64,AK]at hc))|clear U K)<;>conv=>whnf)
  ·exact AI (by rw[hn,drop_cons hx,IY];simp;intros;omega)
  ·revert x
   rintro l hl hl3;have hll:=g2 l (B9 hl);have hn':Dq g=(Ma k [] l&&IY (k+1) (g.drop (k+1))):=by rw[hn,drop_cons hl,IY];simp;intros;omega
   refine CA l.length (fun j (_:Unit)=>[(4,eI (BG j))]) (fun _ _=>[]) (fun j _=>Dq g=(Ma k (l.take j) (l.drop j)&&IY (k+1) (g.drop (k+1)))) () rfl (by rw[hn'];rfl) Sat.nil ?_;rintro j - σ hj hm hs
   conv=>whnf
   repeat'((first|apply st|(apply sq;intro K U)|(apply si;intro A B Y Z)|(apply Y;clear Z B Y A)|(apply U;clear U K)|apply dr|refine⟨rfl,?_⟩|refine ix ?_|refine xp ?_|(refine fc (fun x hx hlt hc=>?_) (fun hk hc=>?_)<;>(try rw[hc])<;>clear hc)|refine Pure.use (lg _ _ _) ?_|(constructor<;>intro hc<;>(try rw[hc])<;>(replace hc:=bp hc)<;>(try simp(disch:=omega) only[A9,wrap64,AK]at hc))|clear U K)<;>conv=>whnf)
   ·exact AI (by rw[hm,drop_cons hx,Ma,oZ,hc];simp)
   ·refine⟨hlt,(),rfl,?_,Sat.nil⟩
    rw[hm,drop_cons hx,Ma,oZ,hc,AO hx];simp[*]
   ·exact AI (by rw[hm,drop_cons hx,Ma,oZ];simp;intros;omega)
   ·exact AI (by rw[hm,drop_cons hx,Ma,oZ];simp;intros;omega)
   ·refine⟨by assumption,(),rfl,?_,Sat.nil⟩
    rw[hm,As hk,Ma,Il]
  ·exact AI (by rw[hn,As hk];rfl)
def K6:Int→List Int→Bool
 | _,[]=>true
 | n,s::r=>s==n&&K6 (n+1) r
def Cq:Int→List Qa→Bool
 | _,[]=>true
 | n,c::r=>decide (c.AJ.length≤4)&&(decide (c.parents.length≤3)&&(K6 n c.AJ&&Cq (n+c.AJ.length) r))
def ED (w:AL) (c n:Int):List (Int×Int)→List (Int×Int)→Bool
 | _,[]=>true
 | pre,x::r=>decide (0≤x.1)&&(decide (x.1<n)&&(hasB w c x.1&&(Sv x.2&&(pre.all (fun y=>y.1 != x.1)&&ED w c n (pre++[x]) r))))
def jt (g:List (List Int)) (c:Int):Bool:= !((B7 g).getD c.toNat []).isEmpty
def GB (w:AL) (n:Int):Nat→List Qa→Bool
 | _,[]=>true
 | i,c::r=>jt w.parents ((i:Int)+3)&&(ED w ((i:Int)+3) n [] c.inits&&GB w n (i+1) r)
def BE (p:Prog):Bool:=decide (p.AP.length≤10)&&(Cq 0 p.AP&&((Bp p.AP:Int)==p.AJ&&(Dq (A4 p)&&GB (AR p) (Bp p.AP) 0 p.AP)))
def wY {c:Qa} (h:Hs (UT c)):c.parents.length≤Ad∧c.AJ.length≤Ad∧c.inits.length≤Ad:=by
 simp only[UT,DX,G2,A9]at h;exact⟨h.1.1,h.2.1.1,h.2.2.1.1⟩
def HV {p:Prog} (h:E4 (.a (BR p))):pB p:=by
 refine⟨(Er h).1,fun c hc=>?_⟩;simp only[BR,G3,DX,G2,JL]at h;exact wY (h.1.2 c hc)
def iQ (p:Prog) (hk0:p.AP.length≤1000):Pure Tryz.prog 122 [.a (BR p)] (.l (Eh (A4 p)) false):=Pure.fit (by kernel_rfl) fun hf=>ZP p (HV hf.1) hk0
def FK: ∀(cs:List Qa) (n:Int),Cq n cs=true→Bp cs≤4*cs.length∧ ∀c∈cs,c.parents.length≤3∧c.AJ.length≤4
 | [],_,_=>⟨Iu _,fun _ h=>by cases h⟩
 | c::r,n,h=>by
   simp only[Cq,BJ,Cn]at h;have⟨h1,h2⟩:=FK r _ h.2.2.2;refine⟨by simp only[Bp,E3,List.sum_cons,K2]at *;omega,fun d hd=>?_⟩;rcases F6.1 hd with rfl|hd
   ·exact⟨h.2.1,h.1⟩
   ·exact h2 d hd
def SL {i:Nat}: ∀(r pre:List Int),Ma i pre r=true→pre.Nodup→(pre++r).Nodup∧ ∀c∈r,(3:Int)≤c∧c<3+(i:Int)
 | [],pre,_,h=>⟨by simpa using h,fun _ h=>by cases h⟩
 | c::r,pre,h,hn=>by
   simp only[Ma,oZ,BJ,Cn,Bool.not_eq_true']at h;have hc:c∉pre:=by simpa using h.1.2.2
   obtain⟨h1,h2⟩:=SL r (pre++[c]) h.2 (List.nodup_append.2 ⟨hn,by simp,fun a ha b hb=>by simp at hb;subst hb;exact fun e=>hc (e ▸ ha)⟩);refine⟨by simpa using h1,fun d hd=>?_⟩;rcases F6.1 hd with rfl|hd
   ·exact⟨h.1.1,h.1.2.1⟩
   ·exact h2 d hd
def Pw: ∀(g:List (List Int)) (k:Nat),IY k g=true→ ∀(i:Nat) (l:List Int),g[i]? =some l→l.length≤3∧l.Nodup∧ ∀c∈l,(3:Int)≤c∧c<3+((k+i:Nat):Int)
 | [],_,_,_,_,h=>by cases h
 | l ::r,k,h,i,l',hi=>by
   simp only[IY,BJ,Cn]at h;cases i with
   | zero=>
     simp at hi;subst hi;obtain⟨h1,h2⟩:=SL l [] h.2.1 .nil;exact⟨h.1,by simpa using h1,by simpa using h2⟩
   | succ i=>
     simp at hi;have:=Pw r (k+1) h.2.2 i l' hi;rw[show k+(i+1)=k+1+i by omega];exact this
def Dy {g:List (List Int)} (h:Dq g=true):Ib g:=by
 simp only[Dq,BJ,Cn]at h;refine⟨h.1,fun i l hi=>?_⟩;have:=Pw g 0 h.2 i l hi;simpa using this
def Jo {g:List (List Int)} (h:Ib g):ordered g:=by
 intro c p hp;unfold par at hp;split at hp
 ·cases hp
 ·rename_i h3
  rw[DZ]at hp;cases hq:g[c - 3]? with
  | none=>rw[hq]at hp;cases hp
  | some l=>
    rw[hq]at hp;have:=(h.2 _ _ hq).2.2 p hp;omega
def Fu {i:Nat} {cs:List Qa} {c:Int} (h:c∈BV i cs):(3:Int)+i≤c∧c<3+i+cs.length:=by
 induction cs generalizing i with
 | nil=>cases h
 | cons d r ih=>
   simp only[BV,E7,List.mem_replicate]at h;simp only[K2];rcases h with⟨_,rfl⟩|h
   ·omega
   ·have:=ih h;omega
def Po {p:Prog} (h1:p.AP.length≤10) (h2:Cq 0 p.AP=true) (h3:Dq (A4 p)=true):UA (AR p):=by
 have hl:(AR p).parents.length=p.AP.length:=by simp[AR,A4]
 refine⟨by omega,Jo (Dy h3),fun c hc=>?_,?_⟩
 ·have:=Fu hc
  rw[hl];omega
 ·have:=(FK _ _ h2).1
  simp only[AR,Ce];omega
def cW (p : Prog):Pure Tryz.prog 155 [.a (BR p)] (.b (BE p)):=by
 refine Pure.fit (by kernel_rfl) fun hf=>?_
 have F:=HV hf.1;have hcl:=F.1;have hM:=Mx;refine uC kZ ?_
 conv=>whnf
 repeat'((first|apply st|(apply sq;intro K U)|(apply si;intro A B Y Z)|(apply Y;clear Z B Y A)|(apply U;clear U K)|refine⟨rfl,?_⟩|(constructor<;>intro hc<;>(try rw[hc])<;>(replace hc:=bp hc)<;>(try simp(disch:=omega) only[A9,wrap64,AK]at hc))|clear U K)<;>conv=>whnf)
 ·exact AI (by simp[BE];intros;omega)
 have h10:p.AP.length≤10:=by omega
 refine CA p.AP.length (fun k (n:Int)=>[(3,eI n),(4,eI (BG k))]) (fun _ _=>[]) (fun k n=>Cq 0 p.AP=Cq n (p.AP.drop k)∧0≤n∧n+Bp (p.AP.drop k)=Bp p.AP∧n≤4*k) 0 rfl (by simp) Sat.nil ?_;rintro k n σ hk ⟨hn,hn0,hn1,hn2⟩ hs
 conv=>whnf
 repeat'((first|apply st|(apply sq;intro K U)|(apply si;intro A B Y Z)|(apply Y;clear Z B Y A)|(apply U;clear U K)|refine⟨rfl,?_⟩|refine⟨kZ,?_⟩|refine ix ?_|(refine fc (fun x hx hlt hc=>?_) (fun hk hc=>?_)<;>(try rw[hc])<;>clear hc)|refine Pure.use (iQ _ (by omega)) ?_|refine Pure.use (lq _ _) ?_|(constructor<;>intro hc<;>(try rw[hc])<;>(replace hc:=bp hc)<;>(try simp(disch:=omega) only[A9,wrap64,AK]at hc))|clear U K)<;>conv=>whnf)
 ·exact AI (by simp only[BE];rw[hn,drop_cons hx,Cq];simp;intros;omega)
 ·have hms:n+(x.AJ.length:Int)+Bp (p.AP.drop (k+1))=Bp p.AP:=by
   rw[drop_cons hx]at hn1;simp only[Bp,E3,List.sum_cons]at hn1 ⊢;omega
  have hsl:=(F.2 x (B9 hx)).2.1
  have hn':Cq 0 p.AP=(K6 n x.AJ&&Cq (n+x.AJ.length) (p.AP.drop (k+1))):=by
   have a1:x.AJ.length≤4:=by omega
   have a2:x.parents.length≤3:=by omega
   rw[hn,drop_cons hx,Cq];simp only[a1,a2,decide_true,Il]
  revert x
  rintro c hx hcs h3 hms hsl hn';refine CA c.AJ.length (fun j (m:Int)=>[(3,eI m),(6,eI (BG j))]) (fun _ _=>[]) (fun j m=>Cq 0 p.AP=(K6 m (c.AJ.drop j)&&Cq (n+c.AJ.length) (p.AP.drop (k+1)))∧m=n+j) n rfl ⟨hn',by simp⟩ Sat.nil ?_;rintro j m σ hj ⟨hm,he⟩ hs
  conv=>whnf
  repeat'((first|apply st|(apply sq;intro K U)|(apply si;intro A B Y Z)|(apply Y;clear Z B Y A)|(apply U;clear U K)|refine⟨rfl,?_⟩|refine ix ?_|(refine fc (fun x hx hlt hc=>?_) (fun hk hc=>?_)<;>(try rw[hc])<;>clear hc)|(constructor<;>intro hc<;>(try rw[hc])<;>(replace hc:=bp hc))|clear U K)<;>conv=>whnf)
  ·exact AI (by simp only[BE];rw[hm,drop_cons (by assumption),K6];simp[hc])
  ·refine⟨hlt,_,rfl,⟨?_,?_⟩,hs⟩
   ·rw[hm,drop_cons (by assumption),K6,wrap64 (by omega) (by omega)];simp[hc]
   ·rw[wrap64 (by omega) (by omega)];omega
  ·refine⟨by assumption,m,rfl,⟨?_,by omega,by omega,by omega⟩,hs⟩
   rw[hm,As (by assumption),K6,Il,he];congr 1;omega
 ·exact AI (by simp only[BE];rw[hn,drop_cons hx,Cq];simp;intros;omega)
 ·have hne:n=Bp p.AP:=by rw[As hk]at hn1;simpa[Bp]using hn1
  exact AI (by simp only[BE];rw[hc];simp)
 ·have hne:n=Bp p.AP:=by rw[As hk]at hn1;simpa[Bp]using hn1
  have hsb:Cq 0 p.AP=true:=by rw[hn,As hk];rfl
  have hms:=(FK _ _ hsb).1;have hok:=Po h10 hsb hc
  have hcb:BE p=GB (AR p) n 0 p.AP:=by
   simp only[BE,hsb,hc,←hne];simp[*]
  refine(OF p F (by omega) (by omega)).use ?_
  conv=>whnf
  repeat'((first|apply st|(apply sq;intro K U)|(apply si;intro A B Y Z)|(apply Y;clear Z B Y A)|(apply U;clear U K)|refine sn fun σ hs=>?_|(intro nn hnn;generalize hg:A0 _ nn _=σ;refine al hg fun hs=>?_;clear hg)|fail)<;>conv=>whnf)
  refine CA p.AP.length (fun k (_:Unit)=>[(9,eI (BG k))]) (fun _ _=>[.box nn (A7 (AR p))]) (fun k _=>BE p=GB (AR p) n k (p.AP.drop k)) () rfl (by rw[hcb];rfl) hs ?_;rintro k - σ hk hn hs
  conv=>whnf
  repeat'((first|apply st|(apply sq;intro K U)|(apply si;intro A B Y Z)|(apply Y;clear Z B Y A)|(apply U;clear U K)|refine⟨rfl,?_⟩|(refine fc (fun x hx hlt hc=>?_) (fun hk hc=>?_)<;>(try rw[hc])<;>clear hc)|clear U K)<;>conv=>whnf)
  ·have e3 : IntKind.i64.wrap (BG k+3)=(k:Int)+3:=by rw[AK (by omega),wrap64 (by omega) (by omega)]
   rw[e3];have hgl:(A4 p).length=p.AP.length:=by simp[A4]
   refine(qX (A4 p) false ((k:Int)+3) (Dy hc) (by omega) (by omega)).use ?_
   conv=>whnf
   repeat'((first|apply st|(apply sq;intro K U)|(apply si;intro A B Y Z)|(apply Y;clear Z B Y A)|(apply U;clear U K)|refine ix ?_|(constructor<;>intro hc<;>(try rw[hc])<;>(replace hc:=bp hc))|clear U K)<;>conv=>whnf)
   ·have hlb:jt (AR p).parents ((k:Int)+3)=false:=by
     show(!((B7 (A4 p)).getD ((k:Int)+3).toNat []).isEmpty)=false;rw[hc];rfl
    exact AI (by rw[hn,drop_cons hx,GB,hlb];rfl)
   ·have hil:=(F.2 x (B9 hx)).2.2
    have hn':BE p=(ED (AR p) ((k:Int)+3) n [] x.inits&&GB (AR p) n (k+1) (p.AP.drop (k+1))):=by
     have hlb:jt (AR p).parents ((k:Int)+3)=true:=by
      show(!((B7 (A4 p)).getD ((k:Int)+3).toNat []).isEmpty)=true;rw[hc];rfl
     rw[hn,drop_cons hx,GB,hlb];rfl
    revert x
    rintro c hx hil hn';refine CA c.inits.length (fun j (_:Unit)=>[(14,eI (BG j))]) (fun _ _=>[.box nn (A7 (AR p))]) (fun j _=>BE p=(ED (AR p) ((k:Int)+3) n (c.inits.take j) (c.inits.drop j)&&GB (AR p) n (k+1) (p.AP.drop (k+1)))) () rfl (by rw[hn'];rfl) hs ?_;rintro j - σ hj hm hs
    conv=>whnf
    repeat'((first|apply st|(apply sq;intro K U)|(apply si;intro A B Y Z)|(apply Y;clear Z B Y A)|(apply U;clear U K)|apply dr|refine⟨rfl,?_⟩|refine⟨kZ,?_⟩|refine ix ?_|refine ld ?_|(refine fc (fun x hx hlt hc=>?_) (fun hk hc=>?_)<;>(try rw[hc])<;>clear hc)|(constructor<;>intro hc<;>(try rw[hc])<;>(replace hc:=bp hc))|clear U K)<;>conv=>whnf)
    ·refine(ql (AR p) ((k:Int)+3) x.1 hok (by omega) (by rw[show(AR p).parents=A4 p from rfl];omega) (by omega) (by rw[show(AR p).owner=BV 0 p.AP from rfl,Ce];omega)).use ?_
     conv=>whnf
     repeat'((first|apply st|(apply sq;intro K U)|(apply si;intro A B Y Z)|(apply Y;clear Z B Y A)|(apply U;clear U K)|apply dr|refine ix ?_|refine Pure.use (nk _) ?_|(constructor<;>intro hc<;>(try rw[hc])<;>(replace hc:=bp hc))|clear U K)<;>conv=>whnf)
     ·exact AI (by rw[hm,drop_cons hx,ED];simp[*])
     ·have hm':BE p=((c.inits.take j).all (fun y=>y.1 != x.1)&&(ED (AR p) ((k:Int)+3) n (c.inits.take (j+1)) (c.inits.drop (j+1))&&GB (AR p) n (k+1) (p.AP.drop (k+1)))):=by
       have b1:decide (0≤x.1)=true:=decide_eq_true (by assumption);have b2:decide (x.1<n)=true:=decide_eq_true (by assumption);rw[hm,drop_cons hx,ED,AO hx,b1,b2,‹hasB _ _ _=true›,hc];simp only[Il,Bool.and_assoc]
      revert x
      rintro x hxj hx0 hx1 hhb hbt hm';refine CA j (fun i (_:Unit)=>[(15,eI (BG i))]) (fun _ _=>[.box nn (A7 (AR p))]) (fun i _=>BE p=(((c.inits.take j).drop i).all (fun y=>y.1 != x.1)&&(ED (AR p) ((k:Int)+3) n (c.inits.take (j+1)) (c.inits.drop (j+1))&&GB (AR p) n (k+1) (p.AP.drop (k+1))))) () rfl (by rw[hm'];rfl) hs ?_;rintro i - σ hi hl hs;rcases Nat.lt_or_ge i j with hij|hij
      ·obtain⟨y,hy⟩: ∃y,c.inits[i]? =some y:=⟨_,C7 (by omega)⟩
       have hy':(c.inits.take j)[i]? =some y:=by rw[List.getElem?_take,if_pos hij,hy]
       conv=>whnf
       repeat'((first|apply st|(apply sq;intro K U)|(apply si;intro A B Y Z)|(apply Y;clear Z B Y A)|(apply U;clear U K)|apply dr|refine⟨rfl,?_⟩|refine ix ?_|(constructor<;>intro hc<;>(try rw[hc])<;>(replace hc:=bp hc)<;>(try simp(disch:=omega) only[A9,wrap64,AK]at hc)<;>try(exfalso;omega))|clear U K)<;>conv=>whnf)
       ·exact AI (by rw[hl,drop_cons hy',NS,hc];simp)
       ·refine⟨hij,(),rfl,?_,hs⟩
        have hc':(y.1 != x.1)=true:=by simpa using hc
        rw[hl,drop_cons hy',NS,hc',Il]
      ·conv=>whnf
       repeat'((first|apply st|(apply sq;intro K U)|(apply si;intro A B Y Z)|(apply Y;clear Z B Y A)|(apply U;clear U K)|refine⟨rfl,?_⟩|(constructor<;>intro hc<;>(try rw[hc])<;>(replace hc:=bp hc)<;>(try simp(disch:=omega) only[A9,wrap64,AK]at hc)<;>try(exfalso;omega))|clear U K)<;>conv=>whnf)
       refine⟨by assumption,(),rfl,?_,hs⟩;rw[hl,List.drop_of_length_le (by rw[K1];omega),List.all_nil,Il]
     ·exact AI (by rw[hm,drop_cons hx,ED];simp[*])
    ·exact AI (by rw[hm,drop_cons hx,ED];simp;intros;omega)
    ·exact AI (by rw[hm,drop_cons hx,ED];simp;intros;omega)
    ·refine⟨by assumption,(),rfl,?_,hs⟩
     rw[hm,As hk,ED,Il]
  ·exact AI (by rw[hn,As hk];rfl)
 ·have hne:n=Bp p.AP:=by rw[As hk]at hn1;simpa[Bp]using hn1
  exact AI (by simp only[BE];rw[←hne];simp[hc])
def FY (f:Int→Int→List Int→Option (List Int)) (op size:Int):Nat→List Int→List Int→Option (List Int)
 | _,[],s=>some s
 | i,k::r,s=>match f k (if op=9∧i=1 then size+1 else size) s with
   | none=>none
   | some s'=>FY f op size (i+1) r s'
def EB (p:Prog) (next:Bool) (size:Int) (x:Node):Bool:=((x.kids.length:Int)==I7 p x)&&(MV p x size&&(x.op != 18||next))
def CR (p:Prog) (next:Bool):Nat→Int→Int→List Int→Option (List Int)
 | 0,_,_,_=>none
 | d+1,n,size,s=>
   if n<0∨(p.nodes.length:Int)≤n∨0≤s.getD n.toNat 0 then none else
   match p.nodes[n.toNat]? with
   | none=>none
   | some x=>if EB p next size x then FY (CR p next d) x.op size 0 x.kids (s.set n.toNat size)else none
def Ux (v:V) (s:List Int) (o:Option (List Int)) (r:R) (post:List At):Prop:=
 ∃s':List Int,s'.length=s.length∧post= [.own v 1 (iL s')]∧((o=some s'∧r= .ret (.b true))∨(o=none∧r= .ret (.b false)))
def O1 {v:V} {s s':List Int} {o:Option (List Int)} {σ:AH} {rest:List At} (hs:Sat σ (.own v 1 (iL s')::rest)) (hl:s'.length=s.length) (ho:o=none):Aw σ (.b false) fun r σ'=> ∃post,Ux v s o r post∧Sat σ' post:=
 Av hs (.cons₂ _ (NT _)) (.refl _) fun σ' hs'=>⟨_,⟨s',hl,rfl,.inr ⟨ho,rfl⟩⟩,hs'⟩
def fH {p:Prog} (h:E4 (.a (BR p))) {x:Node} (hx:x∈p.nodes):x.kids.length≤Ad:=by
 simp only[BR,G3,DX,G2,JL]at h
 have h2:Hs (I9 x):=by
  first|exact h.2.2.2.2.1.2 x hx|exact h.2.2.2.2.2.1.2 x hx|exact h.2.2.2.1.2 x hx|exact h.2.2.1.2 x hx|exact h.2.1.2 x hx
 simp only[I9,DX,G2,A9]at h2
 first|exact h2.2.2.1.1|exact h2.2.2.1|exact h2.1
def OG {p:Prog} {next:Bool} {d:Nat} {n size:Int} {s:List Int} {x:Node} {y:Int} (h0:0≤n) (h1:n<(p.nodes.length:Int)) (hs:s[n.toNat]? =some y) (hy:y<0) (hx:p.nodes[n.toNat]? =some x) :
    CR p next (d+1) n size s=if EB p next size x then FY (CR p next d) x.op size 0 x.kids (s.set n.toNat size)else none:=by
 have e:s.getD n.toNat 0=y:=by rw[DZ,hs];rfl
 simp only[CR];rw[if_neg (by rw[e];omega),hx]
def Mu {p:Prog} {next:Bool} {d:Nat} {n size:Int} {s:List Int} (h:n<0∨(p.nodes.length:Int)≤n∨0≤s.getD n.toNat 0):CR p next (d+1) n size s=none:=by
 simp only[CR];rw[if_pos h]
set_option maxHeartbeats 4000000 in
def eH (p : Prog) (next:Bool): ∀d:Nat,d≤12→ ∀(n size depth:Int) (s:List Int) (v:V),depth=13 - d→0≤size→size+d≤100→s.length=p.nodes.length→(B5 v).isSome=true→
    Bj Tryz.prog 157 [.a (BR p),eI n,eI size,eI depth,.b next,v] [.own v 1 (iL s)] (Ux v s (CR p next d n size s)):=by
 intro d
 induction d with
 | zero=>
   intro _ n size depth s v hd h0 h1 hl hv σ hs;refine BC.fit (by kernel_rfl) fun hf=>?_
   have⟨p1,p2,p3,p4⟩:=Er hf.1;have hM:=Mx;refine fX kZ ?_
   conv=>whnf
   repeat'((first|apply st|(apply sq;intro K U)|(apply si;intro A B Y Z)|(apply Y;clear Z B Y A)|(apply U;clear U K)|refine⟨rfl,?_⟩|refine oi ?_|refine ol fun x hx=>?_|(constructor<;>intro hc<;>(try rw[hc])<;>(replace hc:=bp hc)<;>(try simp(disch:=omega) only[A9,wrap64,AK]at hc)<;>try(exfalso;omega))|clear U K)<;>conv=>whnf)
   all_goals exact Av hs (.refl _) (.refl _) fun σ' hs'=>⟨_,⟨s,rfl,rfl,.inr ⟨rfl,rfl⟩⟩,hs'⟩
 | succ d ih =>
   intro hd12 n size depth s v hd h0 h1 hl hv σ hs;refine BC.fit (by kernel_rfl) fun hf=>?_
   have⟨p1,p2,p3,p4⟩:=Er hf.1;have hM:=Mx;refine fX kZ ?_
   conv=>whnf
   repeat'((first|apply st|(apply sq;intro K U)|(apply si;intro A B Y Z)|(apply Y;clear Z B Y A)|(apply U;clear U K)|apply dr|refine rk ?_ ?_|exact fun s e=>by cases e;rfl|refine⟨rfl,?_⟩|refine⟨kZ,?_⟩|refine iq fun x hx=>?_|refine ld ?_|refine sn fun σ hs=>?_|refine oi ?_|refine ol fun x hx=>?_|refine oset fun σ hs=>?_|refine Pure.use (lX _ _) ?_|refine Pure.use (bI _ _ _) ?_|(constructor<;>intro hc<;>(try rw[hc])<;>(replace hc:=bp hc)<;>(try simp(disch:=omega) only[A9,wrap64,AK]at hc)<;>try(exfalso;omega))|(intro nn hnn;generalize hg:A0 _ nn _=σ;refine al hg fun hs=>?_;clear hg)|clear U K)<;>conv=>whnf)
   ·exact O1 hs (by simp) (by rw[OG (by assumption) (by assumption) (by assumption) (by assumption) hx];simp[EB, *])
   rotate_left
   ·cases hc
   rotate_left
   ·exact O1 hs (by simp) (by rw[OG (by assumption) (by assumption) (by assumption) (by assumption) hx];simp[EB, *])
   ·exact O1 hs (by simp) (by rw[OG (by assumption) (by assumption) (by assumption) (by assumption) hx];simp[EB, *])
   ·exact O1 hs rfl (Mu (.inr (.inr (by rw[DZ,hx];exact hc))))
   ·exact O1 hs rfl (Mu (.inr (.inl hc)))
   ·exact O1 hs rfl (Mu (.inl hc))
   all_goals
    have hW:CR p next (d+1) n size s=FY (CR p next d) x.op size 0 x.kids (s.set n.toNat size):=by
     rw[OG (by assumption) (by assumption) (by assumption) (by assumption) hx];simp[EB, *]
    rw[hW]
    rename Node=>nd
    refine CA nd.kids.length (fun k (_:List Int)=>[(14,eI (BG k))]) (fun _ s'=>[.own v 1 (iL s'),.obj nn (.cs (I9 nd))]) (fun k s'=>s'.length=s.length∧FY (CR p next d) nd.op size 0 nd.kids (s.set n.toNat size)=FY (CR p next d) nd.op size k (nd.kids.drop k) s') (s.set n.toNat size) rfl ⟨by simp,by simp⟩ hs ?_;clear hs;rintro k s' σ hk ⟨hl',hkids⟩ hs;have hkm:=fH hf.1 (B9 hx);have hck:BG k=k:=AK (by omega);by_cases hlt:k<nd.kids.length
    ·obtain⟨kid,hkid⟩: ∃kid,nd.kids[k]? =some kid:=⟨_,C7 hlt⟩
     have hrec:=fun kid sz h0 h1=>ih (by omega) kid sz (depth+1) s' v (by omega) h0 h1 (by omega) hv
     conv=>whnf
     repeat'((first|apply st|(apply sq;intro K U)|(apply si;intro A B Y Z)|(apply Y;clear Z B Y A)|(apply U;clear U K)|apply dr|refine⟨rfl,?_⟩|refine⟨kZ,?_⟩|refine ix ?_|refine ld ?_|(refine fc (fun x hx hlt hc=>?_) (fun hk hc=>?_)<;>(try rw[hc])<;>clear hc)|(constructor<;>intro hc<;>(try rw[hc])<;>(replace hc:=bp hc)<;>(try simp(disch:=omega) only[A9,wrap64,AK]at hc)<;>try(exfalso;omega))|clear U K)<;>conv=>whnf)
     all_goals try(exfalso;omega)
     all_goals try refine I2 (enc:=fun i:Int=>[V.i .i64 i]) hkid hkm rfl ?_
     conv=>whnf
     all_goals try(exfalso;omega)
     all_goals
      have hK2:=hkids;rw[drop_cons hx,FY]at hK2
      first
       | rw[if_pos (by omega)]at hK2
         rw[wrap64 (by omega) (by omega),wrap64 (by omega) (by omega)];refine(hrec x (size+1) (by omega) (by omega)).use hs ?_
       | rw[if_neg (by omega)]at hK2
         rw[wrap64 (by omega) (by omega)];refine(hrec x size (by omega) (by omega)).use hs ?_
      rintro r post σ' ⟨s2,hl2,rfl,⟨ho,rfl⟩|⟨ho,rfl⟩⟩ hs
      ·rw[ho]at hK2
       conv=>whnf
       repeat'((first|apply st|(apply sq;intro K U)|(apply si;intro A B Y Z)|(apply Y;clear Z B Y A)|(apply U;clear U K)|apply dr|refine⟨rfl,?_⟩|(constructor<;>intro hc<;>(try rw[hc])<;>(replace hc:=bp hc)<;>(try simp(disch:=omega) only[A9,wrap64,AK]at hc))|clear U K)<;>conv=>whnf)
       all_goals first|(exfalso;cases hc;done)|exact⟨hlt,s2,rfl,⟨by omega,hK2⟩,hs⟩
      ·rw[ho]at hK2
       conv=>whnf
       repeat'((first|apply st|(apply sq;intro K U)|(apply si;intro A B Y Z)|(apply Y;clear Z B Y A)|(apply U;clear U K)|apply dr|refine⟨rfl,?_⟩|(constructor<;>intro hc<;>(try rw[hc])<;>(replace hc:=bp hc)<;>(try simp(disch:=omega) only[A9,wrap64,AK]at hc))|clear U K)<;>conv=>whnf)
       all_goals first|exact O1 hs (by omega) hK2|(exfalso;cases hc;done)
    ·have hke:k=nd.kids.length:=by omega
     conv=>whnf
     repeat'((first|apply st|(apply sq;intro K U)|(apply si;intro A B Y Z)|(apply Y;clear Z B Y A)|(apply U;clear U K)|refine⟨rfl,?_⟩|refine ld ?_|(refine fc (fun x hx hlt hc=>?_) (fun hk hc=>?_)<;>(try rw[hc])<;>clear hc)|(constructor<;>intro hc<;>(try rw[hc])<;>(replace hc:=bp hc)<;>try(exfalso;omega))|clear U K)<;>conv=>whnf)
     all_goals try(exfalso;omega)
     rw[hke,As rfl]at hkids;exact Av hs (.cons₂ _ (NT _)) (.refl _) fun σ' hs'=>⟨_,⟨s',hl',rfl,.inl ⟨(by first|rw[hW,hkids,FY]|rw[hkids,FY]),rfl⟩⟩,hs'⟩
end Go.Gl
namespace Go.Gl
variable {P:Program} {σ:AH} {env:Env}
def iqF {xs:List Fact} {f:Bool} {K:V→Prop} {ki:IntKind} {j:Int} (h: ∀x,xs[j.toNat]? =some x→K (.rp (xF x))) (h0:0≤j:=by omega) (h1:j<xs.length:=by omega):AV 6 none (.l (xs.map Ge) f) (.i ki j) K:=by
 refine iq (fun x hx=>?_) h0 h1 (by intro x;rw[BL];rfl);rw[BL];exact h x hx
def lo {l:List At} {i:Nat} {v:V} {sz:Nat} {es:List (List V)} {K:V→Prop} (hk:K (.i .i64 es.length)) (h:Sat σ l:=by assumption)
    (hi:l[i]? =some (.own v sz es):=by first|exact Q4|exact Q3|exact Q2|exact Q1|exact Qz|exact Qy) (hm:es.length≤Ad:=by first|omega|(simp only[A9,List.length_replicate,List.length_set,Ad]at *;omega)):A8 v K:=vg h i hi hm hk
def xn {α:Type} {enc:α→List V} {xs:List α} {f:Bool} {sz:Nat} {ki:IntKind} {j:Int} {K:V→AH→Prop} (h:K (.l ((xs.take j.toNat).map enc) (f&&decide (j=((xs.map enc).length:Nat)))) σ) (h0:0≤j:=by omega) (h1:j≤xs.length:=by first|omega|(simp only[A9]at *;omega)) (hs: ∀x,(enc x).length=sz:=by intro x;first|rfl|simp|(rw[BL];rfl)) :
    AU σ sz (.l (xs.map enc) f) none (some (.i ki j)) none K:=by
 refine⟨fun e he=>?_,?_⟩
 ·obtain⟨x,_,rfl⟩:=MN.1 he
  exact hs x
 ·simp only[NV,A9]
  refine⟨by omega,by omega,by omega,?_⟩;simpa[List.map_take]using h
def Sat.take {l:List At} (h:Sat σ l) (n:Nat):Sat σ (l.take n):=h.less (List.take_sublist _ _)
def Cy {b:Bool} {σ σ':AH}:FV σ σ' (.l [] b) (.l [] false):= .l (fun h=>by cases h) .nil
def dw {b:Bool} {σ σ':AH} {es:List (List V)}:FV σ σ' (.l es b) (.l es false):= .l (fun h=>by cases h) (E6.refl _ _ _)
mutual
def Sc {σ σ':AH}: ∀vs:List V,Dk σ σ' vs vs
 | []=> .nil
 | v::r=> .cons (.refl v) (Sc r)
end
def CY {σ σ':AH}: ∀es:List (List V),E6 σ σ' es es
 | []=> .nil
 | e::r=> .cons (Sc e) (CY r)
def ja {α:Type} {enc:α→List V} {xs:List α} {y:α} {l:List At} {i:Nat} {v x:V} {sz k:Nat} {vc:List V} {K:AH→Prop} (hk: ∀σ',Sat σ' (l.set i (.own v sz ((xs.set k y).map enc)))→K σ') (h:Sat σ l:=by assumption)
    (hi:l[i]? =some (.own v sz (xs.map enc)):=by first|exact Q4|exact Q3|exact Q2|exact Q1|exact Qz|exact Qy) (hc:cellsOf x=some vc:=by rfl) (he:vc=enc y:=by rfl) (hg:FD enc sz:=by first|exact Bk|exact DF|exact OT|exact KY|exact LW)
    (hv:(B5 v).isSome=true:=by rfl) (h1:k<xs.length:=by first|omega|(simp only[A9]at *;omega)):AW σ sz (Fl v sz k) x K:=oset hk h hi hc he hg hv h1
def BI {α:Type} (xs:List α) {k:Nat} (hk:k≤xs.length):(∃x,xs[k]? =some x∧k<xs.length)∨k=xs.length:=by
 rcases Nat.lt_or_ge k xs.length with h|h
 ·exact .inl ⟨_,C7 h,h⟩
 ·exact .inr (by omega)
def CU {α:Type} {enc:α→List V} {xs:List α} {k:Nat} {x:α} {A B:Prop} (h1:decide (BG k<((xs.map enc).length:Nat))=true→A) (hx:xs[k]? =some x:=by assumption) (hm:xs.length≤Ad:=by first|assumption|omega|simp[Ad]<;>omega) :
    (decide (BG k<((xs.map enc).length:Nat))=true→A)∧(decide (BG k<((xs.map enc).length:Nat))=false→B):=by
 refine⟨h1,fun h=>?_⟩;have hlt:=(IS.1 hx).1;rw[AK (by omega),A9]at h;have:=of_decide_eq_false h;omega
def Dl {α:Type} {enc:α→List V} {xs:List α} {k:Nat} {A B:Prop} (h1:decide (BG k<((xs.map enc).length:Nat))=false→B) (hx:k=xs.length:=by assumption) (hm:xs.length≤Ad:=by first|assumption|omega|simp[Ad]<;>omega) :
    (decide (BG k<((xs.map enc).length:Nat))=true→A)∧(decide (BG k<((xs.map enc).length:Nat))=false→B):=by
 refine⟨fun h=>?_,h1⟩;rw[AK (by omega),A9]at h;have:=of_decide_eq_true h;omega
def HI {α:Type} {enc:α→List V} {xs:List α} {f:Bool} {sz:Nat} {K:V→Prop} {ki:IntKind} {j:Int} {x:α} (h:K (.rp (enc x))) (hx:xs[j.toNat]? =some x:=by assumption) (h0:0≤j:=by omega) (hs:(enc x).length=sz:=by first|rfl|simp|(rw[BL];rfl)) :
    AV sz none (.l (xs.map enc) f) (.i ki j) K:=UY j.toNat hx (by omega) hs h
def MY {xs:List Fact} {f:Bool} {K:V→Prop} {ki:IntKind} {j:Int} {x:Fact} (h:K (.rp (xF x))) (hx:xs[j.toNat]? =some x:=by assumption) (h0:0≤j:=by omega):AV 6 none (.l (xs.map Ge) f) (.i ki j) K:=by
 refine HI ?_ hx h0;rw[BL];exact h
class CB (b:Bool) (v:outParam Bool):Prop where
 h:b=v
instance :CB true true:=⟨rfl⟩
instance :CB false false:=⟨rfl⟩
instance {b:Bool} [i:CB b true]:CB (!b) false:=⟨by rw[i.h];rfl⟩
instance {b:Bool} [i:CB b false]:CB (!b) true:=⟨by rw[i.h];rfl⟩
instance {b x y v:Bool} [i:CB b true] [j:CB x v]:CB (bif b then x else y) v:=⟨by rw[i.h,j.h];rfl⟩
instance {b x y v:Bool} [i:CB b false] [j:CB y v]:CB (bif b then x else y) v:=⟨by rw[i.h,j.h];rfl⟩
instance {a b:Bool} [i:CB a true] [j:CB b true]:CB (a==b) true:=⟨by rw[i.h,j.h];rfl⟩
instance {a b:Bool} [i:CB a true] [j:CB b false]:CB (a==b) false:=⟨by rw[i.h,j.h];rfl⟩
instance {a b:Bool} [i:CB a false] [j:CB b true]:CB (a==b) false:=⟨by rw[i.h,j.h];rfl⟩
instance {a b:Bool} [i:CB a false] [j:CB b false]:CB (a==b) true:=⟨by rw[i.h,j.h];rfl⟩
instance {a b:Bool} [i:CB a true] [j:CB b true]:CB (a != b) false:=⟨by rw[i.h,j.h];rfl⟩
instance {a b:Bool} [i:CB a true] [j:CB b false]:CB (a != b) true:=⟨by rw[i.h,j.h];rfl⟩
instance {a b:Bool} [i:CB a false] [j:CB b true]:CB (a != b) true:=⟨by rw[i.h,j.h];rfl⟩
instance {a b:Bool} [i:CB a false] [j:CB b false]:CB (a != b) false:=⟨by rw[i.h,j.h];rfl⟩
def HK {A B:Prop} {b:Bool} [i:CB b true] (h:A):(b=true→A)∧(b=false→B):=⟨fun _=>h,fun e=>(by rw[i.h]at e;cases e)⟩
def FP {A B:Prop} {b:Bool} [i:CB b false] (h:B):(b=true→A)∧(b=false→B):=⟨fun e=>(by rw[i.h]at e;cases e),fun _=>h⟩
def kA {A B:Prop} {b:Bool} [i:CB b true] (h:B):(b=false→A)∧(b=true→B):=⟨fun e=>(by rw[i.h]at e;cases e),fun _=>h⟩
def Qi {A B:Prop} {b:Bool} [i:CB b false] (h:A):(b=false→A)∧(b=true→B):=⟨fun _=>h,fun e=>(by rw[i.h]at e;cases e)⟩
def oi2 {l:List At} {i:Nat} {v:V} {sz:Nat} {es:List (List V)} {ki:IntKind} {j:Int} {K:V→Prop} (hk:K (Fl v sz j.toNat)) (h:Sat σ l:=by assumption)
    (hi:l[i]? =some (.own v sz es):=by first|exact Q4|exact Q3|exact Q2|exact Q1|exact Qz|exact Qy) (h0:0≤j:=by omega) (h1:j<es.length:=by(simp only[A9,List.length_set];omega)):AV sz none v (.i ki j) K:=
 jV h i j.toNat hi (by omega) (by omega) hk
def Oc {α:Type} {enc:α→List V} {xs:List α} {x:α} {l:List At} {i:Nat} {v:V} {sz k:Nat} {agg:Option Nat} {K:V→Prop} (hk:cut agg (enc x) 0 K) (h:Sat σ l:=by assumption)
    (hi:l[i]? =some (.own v sz (xs.map enc)):=by first|exact Q4|exact Q3|exact Q2|exact Q1|exact Qz|exact Qy) (hx:xs[k]? =some x:=by assumption):Ab σ agg (Fl v sz k) K:=
 H6 h i hi (by rw[MP,hx];rfl) hk
def vZ {xs:List Fact} {x:Fact} {l:List At} {i:Nat} {v:V} {k:Nat} {agg:Option Nat} {K:V→Prop} (hk:cut agg (xF x) 0 K) (h:Sat σ l:=by assumption)
    (hi:l[i]? =some (.own v 6 (facts xs)):=by first|exact Q4|exact Q3|exact Q2|exact Q1|exact Qz|exact Qy) (hx:xs[k]? =some x:=by assumption):Ab σ agg (Fl v 6 k) K:=
 H6 h i hi (by rw[MP,hx];exact congrArg some (BL x)) hk
def di {v:V} (h:(B5 v).isSome=true): ∃n l c,v= .sl n l c:=by
 cases v<;>first|(cases h;done)|exact⟨_,_,_,rfl⟩
def oa {l:List At} {i:Nat} {xs:List Fact} {x:Fact} {v:V} {f:Bool} {e:List V} {K:V→AH→Prop} (hk: ∀v' σ',Sat σ' (l.set i (.own v' 6 (facts (xs++[x]))))→(B5 v').isSome=true→K v' σ') (h:Sat σ l:=by assumption)
    (hi:l[i]? =some (.own v 6 (facts xs)):=by first|exact Q4|exact Q3|exact Q2|exact Q1|exact Qz|exact Qy)
    (he:e=xF x:=by rfl)
    {b:Nat} (hl:xs.length<Ad∧(xs.length+1)*b≤140737488355328:=by first|assumption|omega|(simp only[Qv,A9,K2,List.length_nil,K1,oR,List.length_replicate,Ad]at *;omega)):AM b σ 6 v (.l [e] f) K:=
 GL (Fk h i hi hl KY hk (by rw[he,BL]))
end Go.Gl
