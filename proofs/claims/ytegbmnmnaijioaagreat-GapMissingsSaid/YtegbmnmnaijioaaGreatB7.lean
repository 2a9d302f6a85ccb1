import Derived.Test.YtegbmnmnaijioaaGreatB5
import Derived.Test.YtegbmnmnaijioaaGreatB6
set_option linter.all false
set_option linter.defProp false
noncomputable section
namespace Go.Gl
open Go.Proofs
attribute [local irreducible] A8 Ap Ag AT AL Ae AS AU AK Ad AO AP Aw A2 Sat AX A0 Ai W
def oI (g:List (List Int)) (f:Bool) (c:Int) (hg:IG g) (h0:0≤c) (h1:c<3+g.length):Pure Tryz.prog 233 [.l (EX g) f,eI c] (.t [.l (iL ((Bz g).getD c.toNat [])) false,.b (!((Bz g).getD c.toNat []).isEmpty)]):=by
 refine qi kZ ?_
 conv=>whnf
 repeat((first|(refine Ar ?_;intro K U)|(refine Ab ?_;intro I C G F)|(apply G;clear F C G I)|(apply U;clear U K)|fail);conv=>whnf)
 refine(Zo g f hg).use ?_
 conv=>whnf
 have hlen:=Cb g (2+g.length);have hlt:c.toNat<(Bz g).length:=by unfold Bz;omega
 have hq:=Et hlt;refine Tt c.toNat hq (by omega) rfl ?_
 conv=>whnf
 repeat((first|refine⟨rfl,?_⟩|refine Bm ?_|refine Ex ?_|(refine Ar ?_;intro K U)|(refine Ab ?_;intro I C G F)|(apply G;clear F C G I)|refine DV ?_|(apply U;clear U K)|fail);conv=>whnf)
 refine AI ?_;rw[E2,hq,Option.getD_some];cases(Bz g)[c.toNat]with
 | nil=>rfl
 | cons _ _=>simp
def uy (w:AM):Prop:=w.parents.length≤1000∧(∀l∈w.parents,l.length≤Aj)∧w.owner.length≤Aj
def cQ {ps:List (List Int)} {c:Nat} (h3:3≤c) (hc:c<3+ps.length):ps[c - 3]? =some (par ps c):=by
 unfold par;rw[if_neg (by omega),E2,Et (by omega)];rfl
def Xo {bs:List Bool} {j:Nat} (h:j<bs.length):(bL bs)[j]? =some [.b (bs.getD j false)]:=by
 rw[QK,E2,Et h];rfl
def Wc (bs:List Bool) (j:Nat) (x:Bool):(bL bs).set j [.b x]=bL (bs.set j x):=by
 simp[bL,List.map_set]
def tA (w : AM) (c:Nat) (hw:uy w) (ho:ordered w.parents) (hc:c<3+w.parents.length):Pure Tryz.prog 333 [.a (BI w),eI c] (.l (bL (G6 w.parents (3+w.parents.length) c (c - 2))) false):=by
 obtain⟨hw1,hw2,hw3⟩:=hw;have hmL:3+w.parents.length≤Aj:=by simp only[Aj];omega
 refine pS kZ ?_
 conv=>whnf
 repeat((first|refine⟨rfl,?_⟩|refine Bm ?_|refine Ex ?_|(refine Ar ?_;intro K U)|(refine Ab ?_;intro I C G F)|(apply G;clear F C G I)|(apply U;clear U K)|fail);conv=>whnf)
 rw[show IntKind.i64.wrap (3+((EX w.parents).length:Nat))=((3+w.parents.length:Nat):Int) by rw[BW,wrap64 (by omega) (by omega)];omega];refine um Sat.nil (by omega) fun v σ hs hv=>?_
 obtain⟨id,rfl⟩:=hv
 conv=>whnf
 repeat((first|(refine Ar ?_;intro K U)|(refine Ab ?_;intro I C G F)|(apply G;clear F C G I)|(apply U;clear U K)|fail);conv=>whnf)
 refine gQ hs 0 c rfl rfl (by simpa using hc) ?_
 conv=>whnf
 refine LP hs 0 rfl (e:=[.b false]) (by simp[hc]) rfl rfl rfl rfl rfl fun σ hs=>?_
 have e0:(List.replicate (3+w.parents.length) [V.b false]).set c [V.b true]=bL (G6 w.parents (3+w.parents.length) c 0):=by
  simp only[G6];rw[←Wc];simp[bL]
 conv=>whnf
 repeat((first|(refine Ar ?_;intro K U)|(refine Ab ?_;intro I C G F)|(apply G;clear F C G I)|refine Bc ?_|refine DX ?_|(apply U;clear U K)|fail);conv=>whnf)
 refine CD (c - 2) (fun k (_:Unit)=>[(6,eI (NU c k))]) (fun k _=>[.own (.sl id (3+w.parents.length) (3+w.parents.length)) 1 (bL (G6 w.parents (3+w.parents.length) c k))]) (fun _ _=>True) () rfl trivial (e0 ▸ hs) ?_;rintro k - σ hk - hs;have hd:NU c k=(c:Int) - k:=S3 (by omega) (by omega);have hul:=Kx w.parents (3+w.parents.length) c k
 conv=>whnf
 repeat((first|refine⟨rfl,?_⟩|(refine Ar ?_;intro K U)|(refine Ab ?_;intro I C G F)|(apply G;clear F C G I)|refine Bi ?_|(apply U;clear U K)|fail);conv=>whnf)
 refine fork (fun hlt=>?_) (fun hlt=>?_)
 ·rw [hd]at hlt
  have h3:3≤c - k:=by omega
  have hpar:=cQ (ps:=w.parents) h3 (by omega);have hpl:=hw2 _ (Ck hpar)
  conv=>whnf
  repeat((first|refine⟨rfl,?_⟩|refine Bm ?_|(refine Ar ?_;intro K U)|(refine Ab ?_;intro I C G F)|refine Br ?_|refine Bc ?_|(apply U;clear U K)|fail);conv=>whnf)
  refine Tt (c - k - 3) hpar (by rw[hd,wrap64 (by omega) (by omega)];omega) rfl ?_
  conv=>whnf
  repeat((first|refine Bm ?_|refine Ex ?_|(apply G;clear F C G I)|refine Bc ?_|refine DX ?_|(apply U;clear U K)|fail);conv=>whnf)
  refine CD (par w.parents (c - k)).length (fun j (_:Unit)=>[(29,eI (BM j))]) (fun j _=>[.own (.sl id (3+w.parents.length) (3+w.parents.length)) 1 (bL (FL (G6 w.parents (3+w.parents.length) c k) (c - k) ((par w.parents (c - k)).take j)))]) (fun _ _=>True) () rfl trivial hs ?_;rintro j - σ hj - hs;have hml:=MR (c - k) ((par w.parents (c - k)).take j) (G6 w.parents (3+w.parents.length) c k)
  conv=>whnf
  repeat((first|refine⟨rfl,?_⟩|(refine Ar ?_;intro K U)|(refine Ab ?_;intro I C G F)|(apply G;clear F C G I)|refine Bi ?_|(apply U;clear U K)|fail);conv=>whnf)
  refine F6 hj hpl (fun p hp hjlt=>?_) fun hj=>?_
  ·have hpp:=ho _ p (Ck hp)
   have hm:(FL (G6 w.parents (3+w.parents.length) c k) (c - k) ((par w.parents (c - k)).take (j+1)))=(FL (G6 w.parents (3+w.parents.length) c k) (c - k) ((par w.parents (c - k)).take j)).set p.toNat
    ((FL (G6 w.parents (3+w.parents.length) c k) (c - k) ((par w.parents (c - k)).take j)).getD p.toNat false||(FL (G6 w.parents (3+w.parents.length) c k) (c - k) ((par w.parents (c - k)).take j)).getD (c - k) false):=by
    rw[AR hp,Lb];rfl
   generalize hbs:FL (G6 w.parents (3+w.parents.length) c k) (c - k) ((par w.parents (c - k)).take j)=bs at *;have hlp:p.toNat<bs.length:=by omega
   have hlc:c - k<bs.length:=by omega
   conv=>whnf
   repeat((first|(refine Ar ?_;intro K U)|(refine Ab ?_;intro I C G F)|refine Br ?_|refine Bc ?_|(apply U;clear U K)|fail);conv=>whnf)
   refine Ig hp hpl rfl ?_
   conv=>whnf
   repeat((first|refine Bm ?_|(refine Ab ?_;intro I C G F)|(apply G;clear F C G I)|(apply U;clear U K)|fail);conv=>whnf)
   refine gQ hs 0 p.toNat rfl (by omega) (by simpa using hlp) ?_
   conv=>whnf
   refine Hs hs 0 rfl (Xo hlp) ?_
   conv=>whnf
   cases hb:bs.getD p.toNat false with
   | true=>
     rw[hb]at hm
     conv=>whnf
     repeat((first|refine Yw ?_|fail);conv=>whnf)
     refine gQ hs 0 p.toNat rfl (by omega) (by simpa using hlp) ?_
     conv=>whnf
     refine LP hs 0 rfl (Xo hlp) rfl rfl rfl rfl rfl fun σ hs=>?_
     conv=>whnf
     repeat((first|refine⟨rfl,?_⟩|(refine Ab ?_;intro I C G F)|(apply G;clear F C G I)|(apply U;clear U K)|(clear U K));conv=>whnf)
     refine⟨hjlt,(),rfl,trivial,?_⟩;rw[hm,←Wc];exact hs
   | false=>
     rw[hb]at hm
     conv=>whnf
     repeat((first|refine S8 ?_|fail);conv=>whnf)
     refine gQ hs 0 (c - k) rfl (by rw[hd];omega) (by simpa using hlc) ?_
     conv=>whnf
     repeat((first|refine S8 ?_|fail);conv=>whnf)
     refine Hs hs 0 rfl (Xo hlc) ?_
     conv=>whnf
     refine gQ hs 0 p.toNat rfl (by omega) (by simpa using hlp) ?_
     conv=>whnf
     refine LP hs 0 rfl (Xo hlp) rfl rfl rfl rfl rfl fun σ hs=>?_
     conv=>whnf
     repeat((first|refine⟨rfl,?_⟩|(refine Ab ?_;intro I C G F)|(apply G;clear F C G I)|(apply U;clear U K)|(clear U K));conv=>whnf)
     refine⟨hjlt,(),rfl,trivial,?_⟩;rw[hm,←Wc];exact hs
  ·rw[Av hj]at hs
   conv=>whnf
   repeat((first|refine⟨rfl,?_⟩|(refine Ab ?_;intro I C G F)|(apply G;clear F C G I)|refine DY ?_|(apply U;clear U K)|(clear U K));conv=>whnf)
   refine⟨by omega,(),rfl,trivial,hs⟩
 ·rw[hd]at hlt
  conv=>whnf
  repeat((first|(refine Ar ?_;intro K U)|(refine Ab ?_;intro I C G F)|(apply G;clear F C G I)|refine DY ?_|refine DV ?_|(apply U;clear U K)|(clear U K));conv=>whnf)
  have:k=c - 2:=by omega
  subst this;exact EB hs 0 rfl rfl
end Go.Gl
namespace Go.Gl
variable {P:Program} {σ σ':AH}
mutual
def Eu:V→Prop
 | .i k n=>k.min≤n∧n≤k.max
 | .rp cs=>Hi cs
 | .l es _=>es.length≤Aj∧Tl es
 | .f _ a b=>Hi a∧Hi b
 | .Er _ v=>Eu v
 | .a cs=>Hi cs
 | .t vs=>Hi vs
 | _=>True
def Hi:List V→Prop
 | []=>True
 | v::r=>Eu v∧Hi r
def Tl:List (List V)→Prop
 | []=>True
 | e::r=>Hi e∧Tl r
end
mutual
def lZ {H:Nat→Nat→Option Value}: ∀(v:V) (c:Value),Ah H v c→Eu v
 | .b _,_,_| .s _,_,_| .pn,_,_| .p _ _,_,_| .sl _ _ _,_,_| .sv _ _ _ _,_,_| .pe _ _ _ _,_,_| .m _,_,_| .mn,_,_| .Kf,_,_| .Db,_,_| .any,_,_=>by simp only[Eu]
 | .i k n,_,h=>by
   simp only[Ah]at h;simp only[Eu];exact h.2
 | .rp cs,_,h=>by
   simp only[Ah]at h;obtain⟨b,o,rfl,h⟩:=h;simp only[Eu];exact Iv cs o h
 | .l es full,_,h=>by
   simp only[Ah]at h;obtain⟨a,cap,h1,h2,h3,h4,h5,h6⟩:=h;simp only[Eu];refine⟨h4,?_⟩;cases es with
   | nil=>exact trivial
   | cons e es=>
     obtain⟨b,o,sz,h7,h8⟩:=h6 (by simp);exact c9 (e::es) o h8
 | .f fn first cap,_,h=>by
   simp only[Ah]at h;obtain⟨f',c',h1,h2,h3,h4,h5⟩:=h;simp only[Eu];exact⟨Iv first 0 h3,Iv cap 0 h5⟩
 | .Er t v,_,h=>by
   simp only[Ah]at h;obtain⟨c',h1,h2⟩:=h;simp only[Eu];exact lZ v c' h2
 | .a cs,_,h=>by
   simp only[Ah]at h;obtain⟨c',h1,h2,h3⟩:=h;simp only[Eu];exact Iv cs 0 h3
 | .t cs,_,h=>by
   simp only[Ah]at h;obtain⟨c',h1,h2,h3⟩:=h;simp only[Eu];exact Iv cs 0 h3
def Iv {H:Nat→Nat→Option Value} {g:Nat→Option Value}: ∀(vs:List V) (o:Nat),BZ H g o vs→Hi vs
 | [],_,_=>trivial
 | v::vs,o,h=>by
   simp only[BZ]at h;obtain⟨⟨c,h1,h2⟩,h3⟩:=h;exact⟨lZ v c h2,Iv vs (o+1) h3⟩
def c9 {H:Nat→Nat→Option Value} {g:Nat→Option Value} {sz:Nat}: ∀(es:List (List V)) (o:Nat),BJ H g sz o es→Tl es
 | [],_,_=>trivial
 | e::es,o,h=>by
   simp only[BJ]at h;obtain⟨h1,h2,h3⟩:=h;exact⟨Iv e o h2,c9 es (o+sz) h3⟩
end
def A8.fit {f:FuncId} {args:List V} {Q:R→AH→Prop} (hok:okF P f=true) (h:Hi args→A8 P f args σ Q):A8 P f args σ Q:=
 ⟨hok,fun Λ w cs G hv=>(h (Iv args 0 hv.2)).2 Λ w cs G hv⟩
def Pure.fit {f:FuncId} {args:List V} {v:V} (hok:okF P f=true) (h:Hi args→Pure P f args v):Pure P f args v:=A8.fit hok h
def By.fit {f:FuncId} {args:List V} {pre:List At} {Φ:R→List At→Prop} (hok:okF P f=true) (h:Hi args→By P f args pre Φ):By P f args pre Φ:=fun σ hs=>A8.fit hok fun hf=>h hf σ hs
def fL {es:List (List V)}:Tl es↔ ∀e∈es,Hi e:=by
 induction es with
 | nil=>simp[Tl]
 | cons e r ih=>simp[Tl,ih]
def I1 {α:Type} {enc:α→List V} {xs:List α}:Tl (xs.map enc)↔ ∀x∈xs,Hi (enc x):=by
 rw[fL];simp
def Gs {es:List (List V)} {f:Bool}:Eu (.l es f)↔es.length≤Aj∧Tl es:=Iff.rfl
def Gt {cs:List V}:Eu (.a cs)↔Hi cs:=Iff.rfl
def S0 {cs:List V}:Eu (.rp cs)↔Hi cs:=Iff.rfl
def DQ {v:V} {r:List V}:Hi (v::r)↔Eu v∧Hi r:=Iff.rfl
def drop_cons {α:Type} {xs:List α} {k:Nat} {x:α} (h:xs[k]? =some x):xs.drop k=x::xs.drop (k+1):=by
 obtain⟨hk,rfl⟩:=Mn.1 h;exact List.drop_eq_getElem_cons hk
def Al {α:Type} {xs:List α} {k:Nat} (h:k=xs.length):xs.drop k= []:=List.drop_of_length_le (by omega)
end Go.Gl
namespace Go.Gl
variable {P:Program} {σ:AH} {env:Env}
class TZ (AD:Prop) (G':outParam Prop):Prop where
 h:G'→AD
def st {AD G':Prop} [i:TZ AD G'] (h:G'):AD:=i.h h
def sq {l:List Nat} {a b:AY} {Q:Af→Env→AH→Prop} (h: ∀K:Env→AH→Prop,(∀env σ,(pk l env fun E=>W P b Q E σ)→K env σ)→W P a (Af.andThen K Q) env σ):W P (.seq l a b) Q env σ:=Ar h
class uv (AD:Prop) (G':outParam Prop):Prop where
 h:G'→AD
def si {AD G':Prop} [i:uv AD G'] (h:G'):AD:=i.h h
instance {ops:List Au} {Q:Af→Env→AH→Prop}:uv (W P (.DB ops) Q env σ) (∀(I:Env→AH→Prop) (C:Env→V→AH→Prop),(∀env σ,Q .normal env σ→I env σ)→(∀env v σ,Q (.Bf v) env σ→C env v σ)→WT P ops I C env σ):=⟨Ab⟩
instance {l:List Nat} {ops:List Cf} {Q:Af→Env→AH→Prop}:uv (W P (.G9 l ops) Q env σ) (∀(I:Env→AH→Prop) (C:V→AH→Prop),(∀env σ,(pk l env fun E=>Q .normal E σ)→I env σ)→(∀v σ,(∀σ',Sub σ σ'→Q (.Bf v) [] σ')→C v σ)→WD P ops I C env σ):=⟨kW⟩
instance {c:Bj} {a b:AY} {Q:Af→Env→AH→Prop}:TZ (W P (.cond c a b) Q env σ) (match ev env c with
 | some (.b t)=>(t=true→W P a Q env σ)∧(t=false→W P b Q env σ)
 | _=>False):=⟨Bi⟩
instance {id:Nat} {a:AY} {Q:Af→Env→AH→Prop}:TZ (W P (.block id a) Q env σ) (W P a (Af.inBlock id Q) env σ):=⟨Bc⟩
instance {l:List Nat} {a:AY} {Q:Af→Env→AH→Prop}:TZ (W P (.loop l a) Q env σ) (pk l env fun E=>Ai l a (W P a) Q E σ):=⟨DX⟩
instance {id:Nat} {Q:Af→Env→AH→Prop}:TZ (W P (.exit id) Q env σ) (Q (.exit id) env σ):=⟨DY⟩
instance {Q:Af→Env→AH→Prop}:TZ (W P .ret Q env σ) (Q .ret env σ):=⟨DV⟩
instance {Q:Af→Env→AH→Prop}:TZ (W P .skip Q env σ) (Q .normal env σ):=⟨Br⟩
instance {a:AY} {Q:Af→Env→AH→Prop}:TZ (W P (.scope a) Q env σ) (W P a Q env σ):=⟨gA⟩
instance {l:List Nat} {g:Bj} {ps:List Nat} {a b:AY} {Q:Af→Env→AH→Prop}:TZ (W P (.Dh l g ps a b) Q env σ) (match ev env g with
 | some (.f (.func gf) [] cap)=>pk l env fun E=> ∀L,σ L=none→A8 P gf (.f (.yield L) [] []::cap) (Az σ L (.loop .ready E (B4 P ps a b))) (KB L Q env)
 | _=>False):=⟨gB⟩
instance {A B:Prop}:TZ ((true=true→A)∧(true=false→B)) A:=⟨MD⟩
instance {A B:Prop}:TZ ((false=true→A)∧(false=false→B)) B:=⟨SO⟩
instance {A B:Prop}:TZ ((false=false→A)∧(false=true→B)) A:=⟨S8⟩
instance {A B:Prop}:TZ ((true=false→A)∧(true=true→B)) B:=⟨Yw⟩
instance {A B:Prop} {b:Bool}:TZ ((b=true→A)∧(b= !true→B)) ((b=true→A)∧(b=false→B)):=⟨id⟩
instance {A B:Prop} {b:Bool}:TZ ((b=false→A)∧(b= !false→B)) ((b=false→A)∧(b=true→B)):=⟨id⟩
instance {agg:Option Nat} {cs:List V} {K:V→Prop}:TZ (AX σ agg (.rp cs) K) (cut agg cs 0 K):=⟨fun h=>h⟩
instance {es:List (List V)} {f:Bool} {K:V→Prop}:TZ (A0 (.l es f) K) (K (.i .i64 es.length)):=⟨Ex⟩
def kc {K A:Env→AH→Prop} (h:A env σ) (hk: ∀env σ,A env σ→K env σ:=by assumption):K env σ:=hk _ _ h
def kp {K A:Env→V→AH→Prop} {v:V} (h:A env v σ) (hk: ∀env v σ,A env v σ→K env v σ:=by assumption):K env v σ:=hk _ _ _ h
def rk {x:Au} {r:List Au} {A:Prop} (h1:HI P x env σ) (h2:EH P r env σ∧A):EH P (x::r) env σ∧A:=⟨⟨h1,h2.1⟩,h2.2⟩
def dr {A:Prop} (h:A):EH P [] env σ∧A:=⟨trivial,h⟩
class BP (b v:Bool) (p:outParam Prop):Prop where
 h:b=v→p
def bp {b v:Bool} {p:Prop} [i:BP b v p] (h:b=v):p:=i.h h
instance (priority:=low) {b v:Bool}:BP b v (b=v):=⟨id⟩
instance (priority:=mid) {p:Prop} [Decidable p]:BP (decide p) true p:=⟨of_decide_eq_true⟩
instance (priority:=mid) {p:Prop} [Decidable p]:BP (decide p) false (¬p):=⟨of_decide_eq_false⟩
instance {a b:Int}:BP (decide (a<b)) false (b≤a):=⟨fun h=>Int.not_lt.1 (of_decide_eq_false h)⟩
instance {a b:Int}:BP (decide (a≤b)) false (b<a):=⟨fun h=>Int.not_le.1 (of_decide_eq_false h)⟩
instance {a b:Int}:BP (a==b) true (a=b):=⟨fun h=>by simpa using h⟩
instance {a b:Int}:BP (a==b) false (a≠b):=⟨fun h=>by simpa using h⟩
instance {a b:Int}:BP (a != b) true (a≠b):=⟨fun h=>by simpa using h⟩
instance {a b:Int}:BP (a != b) false (a=b):=⟨fun h=>by simpa using h⟩
instance {b:Bool} {p:Prop} [i:BP b false p]:BP (!b) true p:=⟨fun h=>i.h (by simpa using h)⟩
instance {b:Bool} {p:Prop} [i:BP b true p]:BP (!b) false p:=⟨fun h=>i.h (by simpa using h)⟩
instance {b x v:Bool} {p:Prop} [i:BP b v p]:BP (bif false then x else b) v p:=⟨i.h⟩
instance {b x v:Bool} {p:Prop} [i:BP b v p]:BP (bif true then b else x) v p:=⟨i.h⟩
def fc {α:Type} {enc:α→List V} {xs:List α} {k:Nat} {A B:Prop} (h1: ∀x,xs[k]? =some x→k<xs.length→decide (BM k<((xs.map enc).length:Nat))=true→A) (h2:k=xs.length→decide (BM k<((xs.map enc).length:Nat))=false→B) (hk:k≤xs.length:=by assumption) (hm:xs.length≤Aj:=by first|assumption|omega|simp[Aj]<;>omega) :
    (decide (BM k<((xs.map enc).length:Nat))=true→A)∧(decide (BM k<((xs.map enc).length:Nat))=false→B):=
 ⟨fun h=>(F6 (enc:=enc) (A:=A) (B:=True) hk hm (fun x hx hlt=>h1 x hx hlt h) fun _=>trivial).1 h,fun h=>(F6 (enc:=enc) (A:=True) (B:=B) hk hm (fun _ _ _=>trivial) fun he=>h2 he h).2 h⟩
def ix {α:Type} {enc:α→List V} {xs:List α} {f:Bool} {sz:Nat} {K:V→Prop} {ki:IntKind} {k:Nat} {x:α} (h:K (.rp (enc x))) (hx:xs[k]? =some x:=by assumption) (hm:xs.length≤Aj:=by first|assumption|omega|simp[Aj]<;>omega) (hs:(enc x).length=sz:=by first|rfl|simp) :
    AT sz none (.l (xs.map enc) f) (.i ki (BM k)) K:=Ig hx hm hs h
def iq {α:Type} {enc:α→List V} {xs:List α} {f:Bool} {sz:Nat} {K:V→Prop} {ki:IntKind} {j:Int} (h: ∀x,xs[j.toNat]? =some x→K (.rp (enc x))) (h0:0≤j:=by omega) (h1:j<xs.length:=by omega) (hs: ∀x,(enc x).length=sz:=by intro x;first|rfl|simp|(rw[BC];rfl)) :
    AT sz none (.l (xs.map enc) f) (.i ki j) K:=by
 have hlt:j.toNat<xs.length:=by omega
 exact Tt j.toNat (Et hlt) (by omega) (hs _) (h _ (Et hlt))
def uf {α:Type} {enc:α→List V} {xs:List α} {f:Bool} {sz:Nat} {ki:IntKind} {k:Nat} {K:V→AH→Prop} (h:K (.l ((xs.take k).map enc) (f&&decide ((k:Int)=((xs.map enc).length:Nat)))) σ) (hl:k≤xs.length:=by first|assumption|omega) (hm:xs.length≤Aj:=by first|assumption|omega) (hs: ∀x,(enc x).length=sz:=by intro x;first|rfl|simp|(rw[BC];rfl)) :
    AS σ sz (.l (xs.map enc) f) none (some (.i ki (BM k))) none K:=by
 rw[AN (by omega)];refine⟨fun e he=>?_,?_⟩
 ·obtain⟨x,_,rfl⟩:=NP.1 he
  exact hs x
 ·simp only[N2,BW]
  refine⟨by omega,by omega,by omega,?_⟩;rw[Lm];simpa[List.map_take]using h
def Nc {xs:List Fact} {f:Bool} {K:V→Prop} {ki:IntKind} {k:Nat} {x:Fact} (h:K (.rp (xF x))) (hx:xs[k]? =some x:=by assumption) (hm:xs.length≤Aj:=by first|assumption|omega):AT 6 none (.l (xs.map Ef) f) (.i ki (BM k)) K:=by
 refine Ig hx hm (by rw[BC];rfl) ?_;rw[BC];exact h
def Rg {a0:At} {l:List At}:(a0::l)[0]? =some a0:=rfl
def Rf {a0 a1:At} {l:List At}:(a0::a1::l)[1]? =some a1:=rfl
def Re {a0 a1 a2:At} {l:List At}:(a0::a1::a2::l)[2]? =some a2:=rfl
def Rc {a0 a1 a2 a3:At} {l:List At}:(a0::a1::a2::a3::l)[3]? =some a3:=rfl
def Rb {a0 a1 a2 a3 a4:At} {l:List At}:(a0::a1::a2::a3::a4::l)[4]? =some a4:=rfl
def Ra {a0 a1 a2 a3 a4 a5:At} {l:List At}:(a0::a1::a2::a3::a4::a5::l)[5]? =some a5:=rfl
def ld {l:List At} {i n off:Nat} {agg:Option Nat} {vs:List V} {K:V→Prop} (hk:cut agg vs off K) (h:Sat σ l:=by assumption)
    (hi:l[i]? =some (.box n vs):=by first|exact Rg|exact Rf|exact Re|exact Rc|exact Rb|exact Ra):AX σ agg (.p n off) K:=Xj h i hi hk
def s1 {l:List At} {i n off:Nat} {vs:List V} {x:V} {K:AH→Prop} (hk: ∀σ',Sat σ' (l.set i (.box n (vs.set off x)))→K σ') (h:Sat σ l:=by assumption)
    (hi:l[i]? =some (.box n vs):=by first|exact Rg|exact Rf|exact Re|exact Rc|exact Rb|exact Ra)
    (h1:CE x=true:=by first|rfl|exact Ft (by assumption) 0 rfl|exact Ft (by assumption) 1 rfl|exact Ft (by assumption) 2 rfl|exact Ft (by assumption) 3 rfl|simp) (ho:off+1≤vs.length:=by exact Nat.le_of_ble_eq_true rfl):AU σ 1 (.p n off) x K:=
 K2 h i hi h1 ho hk
def sn {l:List At} {i n off sz:Nat} {vs vc:List V} {x:V} {K:AH→Prop} (hk: ∀σ',Sat σ' (l.set i (.box n (putAt vs off vc)))→K σ') (h:Sat σ l:=by assumption)
    (hi:l[i]? =some (.box n vs):=by first|exact Rg|exact Rf|exact Re|exact Rc|exact Rb|exact Ra)
    (hc:cellsOf x=some vc:=by rfl) (hl:vc.length=sz:=by rfl) (h1:vc.all CE=true:=by first|rfl|simp) (ho:off+sz≤vs.length:=by exact Nat.le_of_ble_eq_true rfl):AU σ sz (.p n off) x K:=
 F4 h i hi hc hl h1 ho hk
def F5:Fw (fun f:Fact=>Ef f) 6:=fun f=>by
 simp only[BC];refine⟨rfl,fun v hv=>?_⟩;simp only[G5,List.not_mem_nil,or_false]at hv;rcases hv with rfl|rfl|rfl|rfl|rfl|rfl<;>rfl
def Ns:Fw (fun l:List Fact=>[V.l (facts l) false]) 1:=fun x=>⟨rfl,fun v hv=>by simp at hv;subst hv;rfl⟩
def al {l:List At} {o:O} {n:Nat} {K:Prop} {σ':AH} (e:Az σ n o=σ') (hk:Sat σ' (l++[.obj n o])→K) (hn:σ n=none:=by assumption) (h:Sat σ l:=by assumption):K:=hk (e ▸ bZ h hn)
def oi {l:List At} {i:Nat} {v:V} {sz:Nat} {es:List (List V)} {ki:IntKind} {j:Int} {K:V→Prop} (hk:K (Fy v sz j.toNat)) (h:Sat σ l:=by assumption)
    (hi:l[i]? =some (.own v sz es):=by first|exact Rg|exact Rf|exact Re|exact Rc|exact Rb|exact Ra) (h0:0≤j:=by omega) (h1:j<es.length:=by first|omega|(simp only[BW]at *;omega)):AT sz none v (.i ki j) K:=
 gQ h i j.toNat hi (by omega) (by omega) hk
def oc {l:List At} {i:Nat} {v:V} {sz k:Nat} {es:List (List V)} {ki:IntKind} {K:V→Prop} (hk:K (Fy v sz k)) (h:Sat σ l:=by assumption)
    (hi:l[i]? =some (.own v sz es):=by first|exact Rg|exact Rf|exact Re|exact Rc|exact Rb|exact Ra) (h1:k<es.length:=by first|omega|(simp only[BW]at *;omega)) (hm:k≤Aj:=by first|omega|(simp only[Aj];omega)):AT sz none v (.i ki (BM k)) K:=
 gQ h i k hi (AN (by omega)) h1 hk
def ol {α:Type} {enc:α→List V} {xs:List α} {l:List At} {i:Nat} {v:V} {sz k:Nat} {agg:Option Nat} {K:V→Prop} (hk: ∀x,xs[k]? =some x→cut agg (enc x) 0 K) (h:Sat σ l:=by assumption)
    (hi:l[i]? =some (.own v sz (xs.map enc)):=by first|exact Rg|exact Rf|exact Re|exact Rc|exact Rb|exact Ra) (h1:k<xs.length:=by first|omega|(simp only[BW]at *;omega)):AX σ agg (Fy v sz k) K:=
 Hs h i hi (by rw[QK,Et h1];rfl) (hk _ (Et h1))
def oset {α:Type} {enc:α→List V} {xs:List α} {y:α} {l:List At} {i:Nat} {v x:V} {sz k:Nat} {vc:List V} {K:AH→Prop} (hk: ∀σ',Sat σ' (l.set i (.own v sz ((xs.set k y).map enc)))→K σ') (h:Sat σ l:=by assumption)
    (hi:l[i]? =some (.own v sz (xs.map enc)):=by first|exact Rg|exact Rf|exact Re|exact Rc|exact Rb|exact Ra) (hc:cellsOf x=some vc:=by rfl) (he:vc=enc y:=by rfl) (hg:Fw enc sz:=by first|exact Cr|exact DJ|exact Sx|exact F5|exact Ns)
    (hv:(Dg v).isSome=true:=by assumption) (h1:k<xs.length:=by first|omega|(simp only[BW]at *;omega)):AU σ sz (Fy v sz k) x K:=by
 subst he;refine LP h i hi (by rw[QK,Et h1];rfl) hc (hg y).1 (GP.2 fun v hv=>(hg y).2 v hv) (hg _).1 hv fun σ' hs=>hk σ' ?_
 rw[List.map_set];exact hs
def GF {b sz:Nat} {v:V} {e:List V} {f:Bool} {K:V→AH→Prop} (h:AL b σ sz v (.l [e] f) fun v' σ'=>(Dg v').isSome=true→K v' σ'):AL b σ sz v (.l [e] f) K:=by
 obtain⟨h1,h2,h3⟩:=h;refine⟨h1,h2,?_⟩;cases v with
 | l es full=>exact⟨h3.1,h3.2.1,fun e=>(by cases e),fun e=>⟨(h3.2.2.2 e).1,fun n cap hn hc=>(h3.2.2.2 e).2 n cap hn hc rfl⟩⟩
 | sl n len cap=>
   simp only at h3 ⊢;split at h3
   ·exact⟨h3.1,h3.2.1,h3.2.2.1,h3.2.2.2.1,fun n' cap' hn hc=>h3.2.2.2.2 n' cap' hn hc rfl⟩
   ·exact h3.elim
 | _=>exact h3.elim
def aq {l:List At} {i:Nat} {α:Type} {enc:α→List V} {sz:Nat} {xs:List α} {x:α} {v:V} {f:Bool} {e:List V} {K:V→AH→Prop} (hk: ∀v' σ',Sat σ' (l.set i (.own v' sz ((xs++[x]).map enc)))→(Dg v').isSome=true→K v' σ') (h:Sat σ l:=by assumption)
    (hi:l[i]? =some (.own v sz (xs.map enc)):=by first|exact Rg|exact Rf|exact Re|exact Rc|exact Rb|exact Ra)
    (he:e=enc x:=by rfl) (hg:Fw enc sz:=by first|exact Cr|exact DJ|exact Sx|exact F5|exact Ns)
    {b:Nat} (hl:xs.length<Aj∧(xs.length+1)*b≤140737488355328:=by first|assumption|omega|(simp only[KY,BW,KX,List.length_nil,Mo,kX,List.length_replicate,Aj]at *;omega)):AL b σ sz v (.l [e] f) K:=
 GF (Fc h i hi hl hg hk he)
end Go.Gl
namespace Go.Gl
open Go.Proofs
attribute [local irreducible] A8 Ap Ag AT AL Ae AS AU AK Ad AO AP Aw A2 Sat AX A0 Ai W
def T3 {w:AM} (h:Eu (.a (BI w))):w.parents.length≤Aj∧(∀l∈w.parents,l.length≤Aj)∧w.owner.length≤Aj:=by
 simp only[BI,Gt,DQ,Gs,I1,BW]at h;exact⟨h.1.1,fun l hl=>(h.1.2 l hl).1.1,h.2.1.1⟩
def Kq {xs:List Int} {g:Bool} (h:Eu (.l (iL xs) g)):xs.length≤Aj:=by
 simp only[Gs,BW]at h;exact h.1
def HG {f:Fact} (h:Eu (.a (xF f))):f.kids.length≤Aj∧f.path.length≤Aj∧ ∀k∈f.kids,Eu (.a (xF k)):=by
 simp only[Gt,DQ,Gs,I1,BW]at h;exact⟨h.2.2.2.2.2.1.1,h.2.2.1.1,fun k hk=>by have:=h.2.2.2.2.2.1.2 k hk;rw[BC]at this;exact this⟩
def P5 (w:AM) (c:Int):Bool:=decide (0≤c)&&decide (c<3+w.parents.length)
def fb (w:AM) (c:Int):Pure Tryz.prog 219 [.a (BI w),eI c] (.b (P5 w c)):=by
 refine Pure.fit (by kernel_rfl) fun hf=>?_
 have⟨h1,h2,h3⟩:=T3 hf.1;have hM:=Mx;refine qt kZ ?_
 conv=>whnf
 repeat'((first|apply st|(apply sq;intro K U)|(apply si;intro A B Y Z)|(apply Y;clear Z B Y A)|(apply U;clear U K)|refine⟨rfl,?_⟩|(constructor<;>intro hc<;>(try rw[hc])<;>(replace hc:=bp hc))|fail)<;>conv=>whnf)
 ·exact AI (by rw[BW,wrap64 (by omega) (by omega)];simp[P5,hc])
 ·exact AI (by simp[P5,hc];intros;omega)
def Il (w:AM) (s:Int):Bool:=decide (0≤s)&&decide (s<w.owner.length)
def Ee (w:AM) (p:List Int):Bool:=p.all (Il w)&&decide (p.length≤2)
def iY (w:AM) (p:List Int) (g:Bool):Pure Tryz.prog 220 [.a (BI w),.l (iL p) g] (.b (Ee w p)):=by
 refine Pure.fit (by kernel_rfl) fun hf=>?_
 have⟨h1,h2,h3⟩:=T3 hf.1;have h4:=Kq hf.2.1;have hM:=Mx;refine qs kZ ?_
 conv=>whnf
 repeat'((first|apply st|(apply sq;intro K U)|(apply si;intro A B Y Z)|(apply Y;clear Z B Y A)|(apply U;clear U K)|fail)<;>conv=>whnf)
 refine CD p.length (fun k (_:Unit)=>[(9,eI (BM k))]) (fun _ _=>[]) (fun k _=>p.all (Il w)=(p.drop k).all (Il w)) () rfl rfl Sat.nil ?_;rintro k - σ hk hn hs
 conv=>whnf
 repeat'((first|apply st|(apply sq;intro K U)|(apply si;intro A B Y Z)|(apply Y;clear Z B Y A)|(apply U;clear U K)|refine⟨rfl,?_⟩|refine ix ?_|(refine fc (fun x hx hlt hc=>?_) (fun hk hc=>?_)<;>(try rw[hc])<;>clear hc)|(constructor<;>intro hc<;>(try rw[hc])<;>(replace hc:=bp hc)<;>(try simp(disch:=omega) only[BW,wrap64,AN]at hc))|clear U K)<;>conv=>whnf)
 ·exact AI (by rw[Ee,hn,drop_cons hx];simp[Il,hc];intros;omega)
 ·exact⟨hlt,(),rfl,by rw[hn,drop_cons hx];simp[Il, *],hs⟩
 ·exact AI (by rw[Ee,hn,drop_cons hx];simp[Il,hc];intros;omega)
 ·exact AI (by rw[Ee,hn,Al hk];simp;omega)
def Bt (f:Fact):Bool:=f.op==2||f.op==3||f.op==4
def YS (f:Fact):Pure Tryz.prog 221 [.a (xF f)] (.b (Bt f)):=by
 refine qq kZ ?_
 conv=>whnf
 repeat'((first|apply st|(apply sq;intro K U)|(apply si;intro A B Y Z)|(apply Y;clear Z B Y A)|(apply U;clear U K)|refine⟨rfl,?_⟩|(constructor<;>intro hc<;>(try rw[hc])<;>(replace hc:=bp hc))|fail)<;>conv=>whnf)
 all_goals exact AI (by simp[Bt, *])
def Cv:List (Int→Int)→Int→Int→Int
 | [],n,_=>n
 | k::r,n,most=>if n≤most then Cv r (n+k (most - n)) most else n
def Bh (f:Fact):Int→Int:=f.Ff fun _ l most=>Cv l 1 most
def HW (f:Fact) (most:Int):Bh f most=Cv (f.kids.map Bh) 1 most:=by
 rw[Bh,Fact.Cm];rfl
def PS {most:Int}: ∀(l:List (Int→Int)) (n:Int),(∀g∈l,∀m,0≤m→1≤g m∧g m≤m+1)→1≤n→n≤most+1→1≤Cv l n most∧Cv l n most≤most+1
 | [],n,_,h1,h2=>⟨h1,h2⟩
 | g ::r,n,h,h1,h2=>by
   rw[Cv];split
   ·have:=h g (List.mem_cons_self ..) (most - n) (by omega)
    exact PS r _ (fun g hg=>h g (List.mem_cons_of_mem _ hg)) (by omega) (by omega)
   ·exact⟨h1,h2⟩
def KM (f:Fact): ∀m,0≤m→1≤Bh f m∧Bh f m≤m+1:=by
 induction f using Fact.ind with
 | h f ih=>
   intro m hm;rw[HW];refine PS _ _ (fun g hg=>?_) (by omega) (by omega);obtain⟨k,hk,rfl⟩:=NP.1 hg;exact ih k hk
def ed (f:Fact): ∀most:Int,0≤most→most≤1000→Pure Tryz.prog 88 [.a (xF f),eI most] (eI (Bh f most)):=by
 induction f using Fact.ind with
 | h f ih=>
   intro most h0 h1;refine Pure.fit (by kernel_rfl) fun hf=>?_
   have⟨h2,h3,h4⟩:=HG hf.1;have hM:=Mx;refine tj kZ ?_
   conv=>whnf
   repeat'((first|apply st|(apply sq;intro K U)|(apply si;intro A B Y Z)|(apply Y;clear Z B Y A)|(apply U;clear U K)|fail)<;>conv=>whnf)
   refine CD f.kids.length (fun k (n:Int)=>[(5,eI n),(6,eI (BM k))]) (fun _ _=>[]) (fun k n=>1≤n∧n≤most+1∧Bh f most=Cv ((f.kids.drop k).map Bh) n most) 1 rfl ⟨by omega,by omega,by rw[List.drop_zero];exact HW f most⟩ Sat.nil ?_;rintro k n σ hk ⟨hn1,hn2,hn⟩ hs
   conv=>whnf
   repeat'((first|apply st|(apply sq;intro K U)|(apply si;intro A B Y Z)|(apply Y;clear Z B Y A)|(apply U;clear U K)|refine⟨rfl,?_⟩|refine⟨kZ,?_⟩|refine Nc ?_|(refine fc (fun x hx hlt hc=>?_) (fun hk hc=>?_)<;>(try rw[hc])<;>clear hc)|(constructor<;>intro hc<;>(try rw[hc])<;>(replace hc:=bp hc))|clear U K)<;>conv=>whnf)
   ·rw[wrap64 (by omega) (by omega)]
    have hb:=KM x (most - n) (by omega);refine(ih x (Ck hx) (most - n) (by omega) (by omega)).use ?_
    conv=>whnf
    repeat'((first|(apply si;intro A B Y Z)|(apply Y;clear Z B Y A)|(apply U;clear U K)|refine⟨rfl,?_⟩|clear U K)<;>conv=>whnf)
    rw[wrap64 (by omega) (by omega)];exact⟨hlt,_,rfl,⟨by omega,by omega,by rw[hn,drop_cons hx,C0,Cv,if_pos hc]⟩,hs⟩
   ·exact AI (by rw[hn,drop_cons hx,C0,Cv,if_neg (by omega)])
   ·exact AI (by rw[hn,Al hk];rfl)
def Ol (f:Fact):Pure Tryz.prog 29 [.a (xF f)] (eI (Bh f 24)):=by
 refine tz kZ ?_
 conv=>whnf
 repeat'((first|apply st|(apply sq;intro K U)|(apply si;intro A B Y Z)|(apply Y;clear Z B Y A)|(apply U;clear U K)|refine⟨kZ,?_⟩|fail)<;>conv=>whnf)
 refine(ed f 24 (by omega) (by omega)).use ?_
 conv=>whnf
 repeat'((first|apply st|(apply Y;clear Z B Y A)|(apply U;clear U K)|fail)<;>conv=>whnf)
 exact AI rfl
def B0 (f:Fact):Nat:=f.Ff fun _ l=>1+l.sum
def D3 (f:Fact):B0 f=1+(f.kids.map B0).sum:=Fact.Cm _ f
def Yq {f k:Fact} (h:k∈f.kids):B0 k<B0 f:=by
 have: ∀l:List Fact,k∈l→B0 k≤(l.map B0).sum:=fun l=>by
  induction l with
  | nil=>intro h;cases h
  | cons x r ih=>
    intro h;simp only[C0,List.sum_cons];rcases G5.1 h with rfl|h
    ·omega
    ·have:=ih h;omega
 have:=this _ h;rw[D3 f];omega
def PR {most:Int}: ∀(l:List Fact) (n:Int),(∀k∈l,∀m,0≤m→Bh k m≤m→Bh k m=B0 k)→0≤n→Cv (l.map Bh) n most≤most→Cv (l.map Bh) n most=n+(l.map B0).sum
 | [],n,_,_,_=>by simp[Cv]
 | k :: r, n,h,h0,h1=>by
   simp only[C0,Cv]at *;split at h1
   ·rename_i hc
    rw[if_pos hc];have hb:=KM k (most - n) (by omega)
    have hge: ∀(l:List Fact) (a:Int),a≤Cv (l.map Bh) a most:=fun l=>by
     induction l with
     | nil=>intro a;exact Int.le_refl _
     | cons y l ih=>
       intro a;simp only[C0,Cv];split
       ·have:=KM y (most - a) (by omega)
        have:=ih (a+Bh y (most - a));omega
       ·exact Int.le_refl _
    have h2:=hge r (n+Bh k (most - n));have h3:=h k (List.mem_cons_self ..) (most - n) (by omega) (by omega);have h4:=PR r (n+Bh k (most - n)) (fun k' hk'=>h k' (List.mem_cons_of_mem _ hk')) (by omega) h1;simp only[List.sum_cons];omega
   ·rename_i hc
    omega
def Hz (f:Fact): ∀m,0≤m→Bh f m≤m→Bh f m=B0 f:=by
 induction f using Fact.ind with
 | h f ih=>
   intro m h0 h1;rw[HW]at *;rw[PR f.kids 1 ih (by omega) h1,D3];omega
def JY (a b:Int):Int:=if a<b then b else a
def D2 (f:Fact):Int:=f.Ff fun _ l=>l.foldl JY 0+1
def Ha (f:Fact):D2 f=(f.kids.map D2).foldl JY 0+1:=Fact.Cm _ f
def Jo {m:Int}: ∀(l:List Int) (a:Int),(∀x∈l,x≤m)→a≤m→l.foldl JY a≤m
 | [],_,_,h=>h
 | x::r,a,h,h'=>by
   refine Jo r _ (fun y hy=>h y (List.mem_cons_of_mem _ hy)) ?_;have:=h x (List.mem_cons_self ..);unfold JY;split<;>omega
def Jm: ∀(l:List Int) (a:Int),a≤l.foldl JY a
 | [],_=>Int.le_refl _
 | x::r,a=>by
   refine Int.le_trans ?_ (Jm r _);unfold JY;split<;>omega
def XT (f:Fact):1≤D2 f∧D2 f≤B0 f:=by
 induction f using Fact.ind with
 | h f ih=>
   rw[Ha];have h1:=Jm (f.kids.map D2) 0
   have h2:(f.kids.map D2).foldl JY 0≤(B0 f:Int) - 1:=by
    refine Jo _ _ (fun x hx=>?_) (by have:=D3 f;omega);obtain⟨k,hk,rfl⟩:=NP.1 hx;have:=(ih k hk).2;have:=Yq hk;omega
   omega
def GB {α:Type} {xs:List α} {k:Nat} {x:α} {β:Type} (g:α→β) (h:β→β→β) (a:β) (hx:xs[k]? =some x):((xs.take (k+1)).map g).foldl h a=h (((xs.take k).map g).foldl h a) (g x):=by
 rw[AR hx,Pw,List.foldl_append];rfl
def fV (f:Fact):B0 f≤Aj→Pure Tryz.prog 148 [.a (xF f)] (eI (D2 f)):=by
 induction f using Fact.ind with
 | h f ih=>
   intro hc;refine Pure.fit (by kernel_rfl) fun hf=>?_
   have⟨h2,h3,h4⟩:=HG hf.1;have hM:=Mx;refine rV kZ ?_
   conv=>whnf
   repeat'((first|apply st|(apply sq;intro K U)|(apply si;intro A B Y Z)|(apply Y;clear Z B Y A)|(apply U;clear U K)|fail)<;>conv=>whnf)
   refine CD f.kids.length (fun k (_:Unit)=>[(3,eI (((f.kids.take k).map D2).foldl JY 0)),(9,eI (BM k))]) (fun _ _=>[]) (fun _ _=>True) () rfl trivial Sat.nil ?_;rintro k - σ hk - hs
   conv=>whnf
   repeat'((first|apply st|(apply sq;intro K U)|(apply si;intro A B Y Z)|(apply Y;clear Z B Y A)|(apply U;clear U K)|refine⟨rfl,?_⟩|refine⟨kZ,?_⟩|refine Nc ?_|refine ld ?_|refine sn fun σ hs=>?_|(refine fc (fun x hx hlt hc=>?_) (fun hk hc=>?_)<;>(try rw[hc])<;>clear hc)|(intro nn hnn;generalize hg:Az _ nn _=σ;refine al hg fun hs=>?_;clear hg)|clear U K)<;>conv=>whnf)
   ·refine(ih x (Ck hx) (by have:=Yq (Ck hx);omega)).use ?_
    conv=>whnf
    repeat'((first|(apply si;intro A B Y Z)|(apply Y;clear Z B Y A)|(apply U;clear U K)|refine⟨rfl,?_⟩|clear U K)<;>conv=>whnf)
    exact⟨hlt,(),by rw[GB _ _ _ hx];rfl,trivial,Sat.nil⟩
   ·have:=XT f
    rw[Ha]at this;exact AI (by rw[Av hk,wrap64 (by omega) (by omega),←Ha])
def Gn (f:Fact):Int:=f.Ff fun f l=>l.foldl JY (if Bt f then f.arg+1 else 0)
def JN (f:Fact):Gn f=(f.kids.map Gn).foldl JY (if Bt f then f.arg+1 else 0):=Fact.Cm _ f
def QU (f:Fact):Bool:=f.Ff fun f l=>decide (0≤f.arg)&&decide (f.arg<3)&&l.all id
def O4 (f:Fact):QU f=(decide (0≤f.arg)&&decide (f.arg<3)&&(f.kids.map QU).all id):=Fact.Cm _ f
def eM (f:Fact):QU f=true→Pure Tryz.prog 156 [.a (xF f)] (eI (Gn f)):=by
 induction f using Fact.ind with
 | h f ih=>
   intro ha;refine Pure.fit (by kernel_rfl) fun hf=>?_
   have⟨h2,h3,h4⟩:=HG hf.1;have hM:=Mx;rw[O4]at ha;simp only[BU,DZ,List.all_map,GP]at ha;refine rN kZ ?_
   conv=>whnf
   repeat'((first|apply st|(apply sq;intro K U)|(apply si;intro A B Y Z)|(apply Y;clear Z B Y A)|(apply U;clear U K)|refine⟨kZ,?_⟩|fail)<;>conv=>whnf)
   refine(YS f).use ?_
   conv=>whnf
   repeat'((first|apply st|(apply sq;intro K U)|(apply si;intro A B Y Z)|(apply Y;clear Z B Y A)|(apply U;clear U K)|refine⟨rfl,?_⟩|(constructor<;>intro hc<;>(try rw[hc])<;>(replace hc:=bp hc))|fail)<;>conv=>whnf)
   ·refine CD f.kids.length (fun k (_:Unit)=>[(3,eI (((f.kids.take k).map Gn).foldl JY (if Bt f then f.arg+1 else 0))),(14,eI (BM k))]) (fun _ _=>[]) (fun _ _=>True) () (by rw[wrap64 (by omega) (by omega),if_pos hc];rfl) trivial Sat.nil ?_
    rintro k - σ hk - hs
    conv=>whnf
    repeat'((first|apply st|(apply sq;intro K U)|(apply si;intro A B Y Z)|(apply Y;clear Z B Y A)|(apply U;clear U K)|refine⟨rfl,?_⟩|refine⟨kZ,?_⟩|refine Nc ?_|refine ld ?_|refine sn fun σ hs=>?_|(refine fc (fun x hx hlt hc=>?_) (fun hk hc=>?_)<;>(try rw[hc])<;>clear hc)|(intro nn hnn;generalize hg:Az _ nn _=σ;refine al hg fun hs=>?_;clear hg)|clear U K)<;>conv=>whnf)
    ·refine(ih x (Ck hx) (ha.2 x (Ck hx))).use ?_
     conv=>whnf
     repeat'((first|(apply si;intro A B Y Z)|(apply Y;clear Z B Y A)|(apply U;clear U K)|refine⟨rfl,?_⟩|clear U K)<;>conv=>whnf)
     exact⟨hlt,(),by rw[GB _ _ _ hx];rfl,trivial,Sat.nil⟩
    ·exact AI (by rw[Av hk,←JN])
   ·refine CD f.kids.length (fun k (_:Unit)=>[(3,eI (((f.kids.take k).map Gn).foldl JY (if Bt f then f.arg+1 else 0))),(14,eI (BM k))]) (fun _ _=>[]) (fun _ _=>True) () (by rw[if_neg (c:=Bt f=true) (by simp[hc])];rfl) trivial Sat.nil ?_
    rintro k - σ hk - hs
    conv=>whnf
    repeat'((first|apply st|(apply sq;intro K U)|(apply si;intro A B Y Z)|(apply Y;clear Z B Y A)|(apply U;clear U K)|refine⟨rfl,?_⟩|refine⟨kZ,?_⟩|refine Nc ?_|refine ld ?_|refine sn fun σ hs=>?_|(refine fc (fun x hx hlt hc=>?_) (fun hk hc=>?_)<;>(try rw[hc])<;>clear hc)|(intro nn hnn;generalize hg:Az _ nn _=σ;refine al hg fun hs=>?_;clear hg)|clear U K)<;>conv=>whnf)
    ·refine(ih x (Ck hx) (ha.2 x (Ck hx))).use ?_
     conv=>whnf
     repeat'((first|(apply si;intro A B Y Z)|(apply Y;clear Z B Y A)|(apply U;clear U K)|refine⟨rfl,?_⟩|clear U K)<;>conv=>whnf)
     exact⟨hlt,(),by rw[GB _ _ _ hx];rfl,trivial,Sat.nil⟩
    ·exact AI (by rw[Av hk,←JN])
def Bw (op:Int):Nat:=if op=5 then 1 else if op=6∨op=7 then 2 else 0
def RY (w:AM) (f:Fact):Bool:=
 if f.op=2 then f.n==0&&P5 w f.cls else if f.op=3∨f.op=4 then f.cls==0&&(decide (-1000000000≤f.n)&&decide (f.n≤1000000000))else f.op==1||f.op==5||f.op==6||f.op==7
def Cq (w:AM) (f:Fact):Bool:=
 RY w f&&(f.kids.length==Bw f.op&&(decide (0≤f.arg)&&(decide (f.arg<3)&&(Ee w f.path&&(Bt f||(f.arg==0&&(f.path.length==0&&(f.cls==0&&f.n==0))))))))
def A9 (w:AM) (f:Fact):Bool:=f.Ff fun f l=>Cq w f&&l.all id
def CM (w:AM) (f:Fact):A9 w f=(Cq w f&&f.kids.all (A9 w)):=by rw[A9,Fact.Cm,List.all_map];rfl
def On {w:AM} {f:Fact} (h:Cq w f=false):A9 w f=false:=by rw[CM,h,Bool.false_and]
def uE {f:Fact} (h1:Bt f=false) (h2:f.arg=0) (h3:(f.path.length:Int) > 0):true= !(Bt f||(f.arg==0&&(f.path.length==0&&(f.cls==0&&f.n==0)))):=by
 have:(f.path.length==0)=false:=by simp;intro e;rw[e]at h3;simp at h3
 rw[this,h1,h2];rfl
def iv (w : AM) (f:Fact):Pure Tryz.prog 149 [.a (BI w),.a (xF f)] (.b (A9 w f)):=by
 induction f using Fact.ind with
 | h f ih=>
   refine Pure.fit (by kernel_rfl) fun hf=>?_
   have⟨h2,h3,h4⟩:=HG hf.2.1;have⟨w1,w2,w3⟩:=T3 hf.1;have hM:=Mx;refine rU kZ ?_
   conv=>whnf
   repeat'((first|apply st|(apply sq;intro K U)|(apply si;intro A B Y Z)|(apply Y;clear Z B Y A)|(apply U;clear U K)|refine⟨rfl,?_⟩|fail)<;>conv=>whnf)
   have hJ :=QR U (fun(_:Unit)=>[(5,eI (Bw f.op))]) (fun _=>[]) (fun _=>RY w f=true) [(2,.rp (BI w)),(3,.rp (xF f)),(5,eI 0)] (by
    clear U;rintro - σ ho -
    conv=>whnf
    repeat'((first|apply st|(apply sq;intro K U)|(apply si;intro A B Y Z)|refine⟨rfl,?_⟩|fail)<;>conv=>whnf)
    have hJ :=QR U (fun(b:Bool)=>[(66,.b b)]) (fun _=>[]) (fun b=>b= !(f.kids.length==Bw f.op&&(decide (0≤f.arg)&&(decide (f.arg<3)&&Ee w f.path)))) [(2,.rp (BI w)),(3,.rp (xF f)),(66,.b false)] (by
     clear U;rintro b σ hb -
     conv=>whnf
     repeat'((first|apply st|fail)<;>conv=>whnf)
     have hJ :=QR U (fun(_:Unit)=>[]) (fun _=>[]) (fun _=>b=false) [(2,.rp (BI w)),(3,.rp (xF f))] (by
      clear U;rintro - σ hb' -;rw[hb']at hb
      conv=>whnf
      repeat'((first|apply st|(apply sq;intro K U)|(apply si;intro A B Y Z)|refine⟨kZ,?_⟩|refine Pure.use (YS _) ?_|fail)<;>conv=>whnf)
      have hJ:=QR U (fun(b:Bool)=>[(90,.b b)]) (fun _=>[]) (fun b=>b= !(Bt f||(f.arg==0&&(f.path.length==0&&(f.cls==0&&f.n==0))))) [(2,.rp (BI w)),(3,.rp (xF f)),(90,.b false)] (by
       clear U;rintro b σ hb2 -
       conv=>whnf
       repeat'((first|apply st|fail)<;>conv=>whnf)
       have hJ:=QR U (fun(_:Unit)=>[]) (fun _=>[]) (fun _=>b=false) [(2,.rp (BI w)),(3,.rp (xF f))] (by
        clear U;rintro - σ hb' -;rw[hb']at hb2
        have hh:Cq w f=true:=by
         have hb:(f.kids.length==Bw f.op&&(decide (0≤f.arg)&&(decide (f.arg<3)&&Ee w f.path)))=true:=by rw[←Bool.not_eq_false',←hb]
         have hb2:(Bt f||(f.arg==0&&(f.path.length==0&&(f.cls==0&&f.n==0))))=true:=by rw[←Bool.not_eq_false',←hb2]
         simp only[BU]at hb;simp only[Cq,ho,hb.1,hb.2,hb2,Bool.and_self]
        conv=>whnf
        repeat'((first|apply st|(apply sq;intro K U)|(apply si;intro A B Y Z)|(apply Y;clear Z B Y A)|(apply U;clear U K)|fail)<;>conv=>whnf)
        refine CD f.kids.length (fun k (_:Unit)=>[(94,eI (BM k))]) (fun _ _=>[]) (fun k _=>A9 w f=(f.kids.drop k).all (A9 w)) () rfl (by rw[CM,hh];rfl) Sat.nil ?_;rintro k - σ hk hn hs
        conv=>whnf
        repeat'((first|apply st|(apply sq;intro K U)|(apply si;intro A B Y Z)|(apply Y;clear Z B Y A)|(apply U;clear U K)|refine⟨rfl,?_⟩|refine⟨kZ,?_⟩|refine Nc ?_|refine ld ?_|refine sn fun σ hs=>?_|(refine fc (fun x hx hlt hc=>?_) (fun hk hc=>?_)<;>(try rw[hc])<;>clear hc)|(intro nn hnn;generalize hg:Az _ nn _=σ;refine al hg fun hs=>?_;clear hg)|clear U K)<;>conv=>whnf)
        ·have hxm:=Ck hx
         refine(ih x hxm).use ?_
         conv=>whnf
         repeat'((first|apply st|(apply sq;intro K U)|(apply si;intro A B Y Z)|(apply Y;clear Z B Y A)|(apply U;clear U K)|refine⟨rfl,?_⟩|(constructor<;>intro hc<;>(try rw[hc])<;>(replace hc:=bp hc))|clear U K)<;>conv=>whnf)
         ·exact AI (by rw[hn,drop_cons hx];simp[hc])
         ·exact⟨hlt,(),rfl,by rw[hn,drop_cons hx];simp[hc],Sat.nil⟩
        ·exact AI (by rw[hn,Al hk];rfl))
       clear U
       conv=>whnf
       repeat'((first|apply st|(apply sq;intro K U)|(apply si;intro A B Y Z)|(apply Y;clear Z B Y A)|(apply U;clear U K)|(constructor<;>intro hc<;>(try rw[hc])<;>(replace hc:=bp hc))|fail)<;>conv=>whnf)
       ·have hx:(Bt f||(f.arg==0&&(f.path.length==0&&(f.cls==0&&f.n==0))))=false:=by rw[←Bool.not_eq_true',←hb2,hc]
        exact AI (by rw[On];simp only[Cq,hx,Bool.and_false])
       ·exact hJ () _ _ rfl hc Sat.nil)
      clear U;clear hb
      conv=>whnf
      repeat'((first|apply st|(apply Y;clear Z B Y A)|refine⟨rfl,?_⟩|(constructor<;>intro hc<;>(try rw[hc])<;>(replace hc:=bp hc)<;>(try simp(disch:=omega) only[BW,wrap64,AN]at hc))|fail)<;>conv=>whnf)
      ·have hp:f.path.length=0:=by omega
       exact hJ _ _ _ rfl (by rw[hp];simp[*,bne]) Sat.nil
      ·exact hJ true _ _ rfl (by simp[*]) Sat.nil
      ·exact hJ true _ _ rfl (uE (by assumption) (by assumption) hc) Sat.nil
      ·exact hJ true _ _ rfl (by simp[*]) Sat.nil
      ·exact hJ false _ _ rfl (by simp[*]) Sat.nil)
     clear U
     conv=>whnf
     repeat'((first|apply st|(apply sq;intro K U)|(apply si;intro A B Y Z)|(apply Y;clear Z B Y A)|(apply U;clear U K)|(constructor<;>intro hc<;>(try rw[hc])<;>(replace hc:=bp hc))|fail)<;>conv=>whnf)
     ·have hx:(f.kids.length==Bw f.op&&(decide (0≤f.arg)&&(decide (f.arg<3)&&Ee w f.path)))=false:=by rw[←Bool.not_eq_true',←hb,hc]
      exact AI (by rw[On];simp only[Cq];simp only[Bool.and_eq_false_iff]at hx ⊢;rcases hx with h|h|h|h<;>simp[h])
     ·exact hJ () _ _ rfl hc Sat.nil)
    clear U
    conv=>whnf
    repeat'((first|apply st|(apply Y;clear Z B Y A)|refine⟨rfl,?_⟩|refine⟨kZ,?_⟩|refine Pure.use (iY _ _ _) ?_|(constructor<;>intro hc<;>(try rw[hc])<;>(replace hc:=bp hc)<;>(try simp(disch:=omega) only[BW,wrap64,AN]at hc))|fail)<;>conv=>whnf)
    all_goals exact hJ _ _ _ rfl (by simp[*]<;>omega) Sat.nil)
   clear U
   conv=>whnf
   repeat'((first|apply st|(apply sq;intro K U)|(apply si;intro A B Y Z)|(apply Y;clear Z B Y A)|(apply U;clear U K)|refine⟨rfl,?_⟩|refine⟨kZ,?_⟩|refine Pure.use (fb _ _) ?_|(constructor<;>intro hc<;>(try rw[hc])<;>(replace hc:=bp hc))|fail)<;>conv=>whnf)
   all_goals first
    | exact AI (by rw[On];simp only[Cq,RY];simp[*]<;>omega)
    | exact hJ () _ _ (by simp[Bw, *];rfl) (by simp[RY, *]<;>omega) Sat.nil
def Rt (n:Int):Bool:=decide (-1000000000≤n)&&decide (n≤1000000000)
def lP (n:Int):Pure Tryz.prog 235 [eI n] (.b (Rt n)):=by
 refine qg kZ ?_
 conv=>whnf
 repeat'((first|apply st|(apply sq;intro K U)|(apply si;intro A B Y Z)|(apply Y;clear Z B Y A)|(apply U;clear U K)|refine⟨rfl,?_⟩|(constructor<;>intro hc<;>(try rw[hc])<;>(replace hc:=bp hc))|fail)<;>conv=>whnf)
 all_goals exact AI (by simp[Rt, *]<;>omega)
def Jf (k:Int):Bool:=k==1||k==4
def n8 (k:Int):Pure Tryz.prog 158 [eI k] (.b (Jf k)):=by
 refine rM kZ ?_
 conv=>whnf
 repeat'((first|apply st|(apply sq;intro K U)|(apply si;intro A B Y Z)|(apply Y;clear Z B Y A)|(apply U;clear U K)|refine⟨rfl,?_⟩|(constructor<;>intro hc<;>(try rw[hc])<;>(replace hc:=bp hc))|fail)<;>conv=>whnf)
 all_goals exact AI (by simp[Jf, *])
def Fx {p:Prog} (h:Eu (.a (Ba p))):p.AQ.length≤Aj∧p.Dc.length≤Aj∧p.methods.length≤Aj∧p.nodes.length≤Aj:=by
 simp only[Ba,Gt,DQ,Gs,BW]at h;exact⟨h.1.1,h.2.2.1.1,h.2.2.2.1.1,h.2.2.2.2.1.1⟩
def Im (p:Prog) (x:Node):Int:=
 if x.op=1∨x.op=2∨x.op=3∨x.op=6∨x.op=18 then 0 else
 if x.op=4∨x.op=8∨x.op=17 then 1 else
 if x.op=7∨x.op=9∨x.op=11∨x.op=12∨x.op=13∨x.op=14∨x.op=15∨x.op=16 then 2 else
 if x.op=10 then 3 else
 if x.op=5∧0≤x.n∧x.n<p.Dc.length then p.Dc.getD x.n.toNat 0 else -1
def jO (p:Prog) (x:Node):Pure Tryz.prog 236 [.a (Ba p),.a (Ip x)] (eI (Im p x)):=by
 refine Pure.fit (by kernel_rfl) fun hf=>?_
 have⟨p1,p2,p3,p4⟩:=Fx hf.1;have hM:=Mx;refine qf kZ ?_
 conv=>whnf
 repeat'((first|apply st|(apply sq;intro K U)|(apply si;intro A B Y Z)|(apply Y;clear Z B Y A)|(apply U;clear U K)|refine⟨rfl,?_⟩|refine iq fun x hx=>?_|(constructor<;>intro hc<;>(try rw[hc])<;>(replace hc:=bp hc)<;>(try simp(disch:=omega) only[BW,wrap64,AN]at hc))|clear U K)<;>conv=>whnf)
 all_goals first
  | (refine AI ?_;simp[Im, *];done)
  | (refine AI ?_;simp[Im, *];intros;omega)
  | (have hd:=(Mn.1 hx).2;refine AI ?_;simp[Im, *];done)
def Lr (p:Prog) (x:Node) (size:Int):Bool:=
 if x.op=1 then Rt x.n else if x.op=3 then decide (0≤x.n)&&decide (x.n<size)else if x.op=4∨x.op=7 then decide (0≤x.n)&&decide (x.n<p.AJ)else
 if x.op=5 then decide (0≤x.n)&&decide (x.n<p.Dc.length)else if x.op=6∨x.op=8 then decide (3≤x.n)&&decide (x.n<3+p.AQ.length)else x.n==0
def Zr (p:Prog) (x:Node) (size:Int):Pure Tryz.prog 237 [.a (Ba p),.a (Ip x),eI size] (.b (Lr p x size)):=by
 refine Pure.fit (by kernel_rfl) fun hf=>?_
 have⟨p1,p2,p3,p4⟩:=Fx hf.1;have hM:=Mx;refine qe kZ ?_
 conv=>whnf
 repeat'((first|apply st|(apply sq;intro K U)|(apply si;intro A B Y Z)|(apply Y;clear Z B Y A)|(apply U;clear U K)|refine⟨rfl,?_⟩|refine Pure.use (lP _) ?_|(constructor<;>intro hc<;>(try rw[hc])<;>(replace hc:=bp hc))|clear U K)<;>conv=>whnf)
 all_goals first
  | (refine AI ?_;simp[Lr, *];done)
  | (refine AI ?_;rw[BW,wrap64 (by omega) (by omega)];simp[Lr, *];done)
  | (refine AI ?_;simp[Lr, *];intros;omega)
def Ts (ps:List (List Int)) (a b:Int):Bool:=a==b||(b==0||(decide (3≤a)&&Ja ps a.toNat b.toNat))
def fp (w:AM) (a b:Int) (hl:w.parents.length≤1000) (ho:ordered w.parents) (ha:0≤a) (ha':a<3+w.parents.length) (hb:0≤b) (hb':b<3+w.parents.length):Pure Tryz.prog 298 [.a (BI w),eI a,eI b] (.b (Ts w.parents a b)):=by
 refine Pure.fit (by kernel_rfl) fun hf=>?_
 have⟨w1,w2,w3⟩:=T3 hf.1;have hM:=Mx;refine py kZ ?_
 conv=>whnf
 repeat'((first|apply st|(apply sq;intro K U)|(apply si;intro A B Y Z)|(apply Y;clear Z B Y A)|(apply U;clear U K)|refine⟨rfl,?_⟩|refine⟨kZ,?_⟩|(constructor<;>intro hc<;>(try rw[hc])<;>(replace hc:=bp hc))|clear U K)<;>conv=>whnf)
 ·exact AI (by simp[Ts,hc])
 ·exact AI (by simp[Ts, *];omega)
 ·have hc':0≤a:=ha
  obtain⟨a,rfl⟩: ∃n:Nat,a=n:=⟨a.toNat,by omega⟩
  refine(tA w a ⟨hl,w2,w3⟩ ho (by omega)).use ?_;have hul:=Kx w.parents (3+w.parents.length) a (a - 2)
  conv=>whnf
  repeat'((first|apply st|(apply sq;intro K U)|(apply si;intro A B Y Z)|(apply Y;clear Z B Y A)|(apply U;clear U K)|refine iq fun x hx=>?_|fail)<;>conv=>whnf)
  refine AI ?_;have hu:=Xw ho (n:=3+w.parents.length) (c:=a) (by omega) b.toNat;rw[E2,hx]at hu;simp at hu;have e1:((a:Int)==b)=false:=by simpa using ‹(a:Int)≠b›
  have e2:(b==0)=false:=by simpa using ‹b≠0›
  simp[Ts,e1,e2,hc,hu]
 ·exact AI (by simp[Ts,hc])
structure gF (w:AM):Prop where
 len:w.parents.length≤60
 ord:ordered w.parents
 own: ∀c∈w.owner,(3:Int)≤c∧c<3+w.parents.length
 vC:w.owner.length≤40
def Dr (w:AM) (s:Int):Int:=w.owner.getD s.toNat 0
def hasB (w:AM) (c s:Int):Bool:=decide (3≤c)&&Ts w.parents c (Dr w s)
def oT (w:AM) (c s:Int) (hw:gF w) (hc0:0≤c) (hc1:c<3+w.parents.length) (hs0:0≤s) (hs1:s<w.owner.length):Pure Tryz.prog 234 [.a (BI w),eI c,eI s] (.b (hasB w c s)):=by
 refine Pure.fit (by kernel_rfl) fun hf=>?_
 have⟨w1,w2,w3⟩:=T3 hf.1;have hM:=Mx;have hl:=hw.len;refine qh kZ ?_
 conv=>whnf
 repeat'((first|apply st|(apply sq;intro K U)|(apply si;intro A B Y Z)|(apply Y;clear Z B Y A)|(apply U;clear U K)|apply dr|refine⟨rfl,?_⟩|refine⟨kZ,?_⟩|refine iq fun x hx=>?_|(constructor<;>intro hc<;>(try rw[hc])<;>(replace hc:=bp hc))|fail)<;>conv=>whnf)
 ·have:=hw.own x (Ck hx)
  refine(fp w c x (by omega) hw.ord hc0 hc1 (by omega) (by omega)).use ?_
  conv=>whnf
  repeat'((first|apply st|(apply Y;clear Z B Y A)|(apply U;clear U K)|apply dr|fail)<;>conv=>whnf)
  exact AI (by simp[hasB,Dr,hx,hc])
 ·exact AI (by simp[hasB];omega)
def jR (xs:List Int) (f:Bool) (x:Int):Pure Tryz.prog 296 [.l (iL xs) f,eI x] (.b (xs.contains x)):=Pure.fit (by kernel_rfl) fun hf=>cu xs f x (Kq hf.1)
def Co (w:AM) (f:Fact):Bool:=decide (Bh f 24≤24)&&(decide (D2 f≤12)&&A9 w f)
def Uy (w:AM) (f:Fact):Pure Tryz.prog 86 [.a (BI w),.a (xF f)] (.b (Co w f)):=by
 refine tl kZ ?_
 conv=>whnf
 repeat'((first|apply st|(apply sq;intro K U)|(apply si;intro A B Y Z)|(apply Y;clear Z B Y A)|(apply U;clear U K)|refine⟨rfl,?_⟩|refine⟨kZ,?_⟩|refine Pure.use (Ol _) ?_|(constructor<;>intro hc<;>(try rw[hc])<;>(replace hc:=bp hc))|fail)<;>conv=>whnf)
 ·have:=Hz f 24 (by omega) hc
  refine(fV f (by simp only[Aj];omega)).use ?_
  conv=>whnf
  repeat'((first|apply st|(apply Y;clear Z B Y A)|(apply U;clear U K)|refine⟨rfl,?_⟩|refine⟨kZ,?_⟩|refine Pure.use (iv _ _) ?_|(constructor<;>intro hc<;>(try rw[hc])<;>(replace hc:=bp hc))|fail)<;>conv=>whnf)
  ·exact AI (by simp[Co,hc,‹Bh f 24≤24›])
  ·exact AI (by simp[Co, *];intros;omega)
 ·exact AI (by simp[Co];intros;omega)
def mL (i:Nat) (pre:List Int) (c:Int):Bool:=decide (3≤c)&&(decide (c<3+i)&& !pre.contains c)
def Lv (i:Nat):List Int→List Int→Bool
 | _,[]=>true
 | pre,c::r=>mL i pre c&&Lv i (pre++[c]) r
def ID:Nat→List (List Int)→Bool
 | _,[]=>true
 | i,l::r=>decide (l.length≤3)&&(Lv i [] l&&ID (i+1) r)
def Df (g:List (List Int)):Bool:=decide (g.length≤16)&&ID 0 g
def SD {ls:List (List Int)} {g:Bool} (h:Eu (.l (EX ls) g)):ls.length≤Aj∧ ∀l∈ls,l.length≤Aj:=by
 simp only[Gs,BW,I1,DQ]at h;exact⟨h.1,fun l hl=>(h.2 l hl).1.1⟩
def jV (g:List (List Int)) (f:Bool):Pure Tryz.prog 232 [.l (EX g) f] (.b (Df g)):=by
 refine Pure.fit (by kernel_rfl) fun hf=>?_
 have⟨g1,g2⟩:=SD hf.1;have hM:=Mx;refine qj kZ ?_
 conv=>whnf
 repeat'((first|apply st|(apply sq;intro K U)|(apply si;intro A B Y Z)|(apply Y;clear Z B Y A)|(apply U;clear U K)|refine⟨rfl,?_⟩|(constructor<;>intro hc<;>(try rw[hc])<;>(replace hc:=bp hc)<;>(try simp(disch:=omega) only[BW,wrap64,AN]at hc))|clear U K)<;>conv=>whnf)
 ·exact AI (by simp[Df];intros;omega)
 ·refine CD g.length (fun k (_:Unit)=>[(3,eI (BM k))]) (fun _ _=>[]) (fun k _=>Df g=ID k (g.drop k)) () rfl (by simp[Df];omega) Sat.nil ?_
  rintro k - σ hk hn hs
  conv=>whnf
  repeat'((first|apply st|(apply sq;intro K U)|(apply si;intro A B Y Z)|(apply Y;clear Z B Y A)|(apply U;clear U K)|refine⟨rfl,?_⟩|refine ix ?_|(refine fc (fun x hx hlt hc=>?_) (fun hk hc=>?_)<;>(try rw[hc])<;>clear hc)|(constructor<;>intro hc<;>(try rw[hc])<;>(replace hc:=bp hc)<;>(try simp(disch:=omega) only[BW,wrap64,AN]at hc))|clear U K)<;>conv=>whnf)
  ·exact AI (by rw[hn,drop_cons hx,ID];simp;intros;omega)
  ·revert x
   rintro l hl hl3;have hll:=g2 l (Ck hl);have hn':Df g=(Lv k [] l&&ID (k+1) (g.drop (k+1))):=by rw[hn,drop_cons hl,ID];simp;intros;omega
   refine CD l.length (fun j (_:Unit)=>[(4,eI (BM j))]) (fun _ _=>[]) (fun j _=>Df g=(Lv k (l.take j) (l.drop j)&&ID (k+1) (g.drop (k+1)))) () rfl (by rw[hn'];rfl) Sat.nil ?_;rintro j - σ hj hm hs
   conv=>whnf
   repeat'((first|apply st|(apply sq;intro K U)|(apply si;intro A B Y Z)|(apply Y;clear Z B Y A)|(apply U;clear U K)|apply dr|refine⟨rfl,?_⟩|refine ix ?_|refine uf ?_|(refine fc (fun x hx hlt hc=>?_) (fun hk hc=>?_)<;>(try rw[hc])<;>clear hc)|refine Pure.use (jR _ _ _) ?_|(constructor<;>intro hc<;>(try rw[hc])<;>(replace hc:=bp hc)<;>(try simp(disch:=omega) only[BW,wrap64,AN]at hc))|clear U K)<;>conv=>whnf)
   ·exact AI (by rw[hm,drop_cons hx,Lv,mL,hc];simp)
   ·refine⟨hlt,(),rfl,?_,Sat.nil⟩
    rw[hm,drop_cons hx,Lv,mL,hc,AR hx];simp[*]
   ·exact AI (by rw[hm,drop_cons hx,Lv,mL];simp;intros;omega)
   ·exact AI (by rw[hm,drop_cons hx,Lv,mL];simp;intros;omega)
   ·refine⟨by assumption,(),rfl,?_,Sat.nil⟩
    rw[hm,Al hk,Lv,I8]
  ·exact AI (by rw[hn,Al hk];rfl)
def Kc:Int→List Int→Bool
 | _,[]=>true
 | n,s::r=>s==n&&Kc (n+1) r
def Cg:Int→List Py→Bool
 | _,[]=>true
 | n,c::r=>decide (c.AJ.length≤4)&&(decide (c.parents.length≤3)&&(Kc n c.AJ&&Cg (n+c.AJ.length) r))
def D1 (w:AM) (c n:Int):List (Int×Int)→List (Int×Int)→Bool
 | _,[]=>true
 | pre,x::r=>decide (0≤x.1)&&(decide (x.1<n)&&(hasB w c x.1&&(Rt x.2&&(pre.all (fun y=>y.1 != x.1)&&D1 w c n (pre++[x]) r))))
def gg (g:List (List Int)) (c:Int):Bool:= !((Bz g).getD c.toNat []).isEmpty
def F0 (w:AM) (n:Int):Nat→List Py→Bool
 | _,[]=>true
 | i,c::r=>gg w.parents ((i:Int)+3)&&(D1 w ((i:Int)+3) n [] c.inits&&F0 w n (i+1) r)
def BD (p:Prog):Bool:=decide (p.AQ.length≤10)&&(Cg 0 p.AQ&&((Bk p.AQ:Int)==p.AJ&&(Df (A3 p)&&F0 (AW p) (Bk p.AQ) 0 p.AQ)))
def ta {c:Py} (h:Hi (To c)):c.parents.length≤Aj∧c.AJ.length≤Aj∧c.inits.length≤Aj:=by
 simp only[To,DQ,Gs,BW]at h;exact⟨h.1.1,h.2.1.1,h.2.2.1.1⟩
def IJ {p:Prog} (h:Eu (.a (Ba p))):mg p:=by
 refine⟨(Fx h).1,fun c hc=>?_⟩;simp only[Ba,Gt,DQ,Gs,I1]at h;exact ta (h.1.2 c hc)
def fI (p:Prog) (hk0:p.AQ.length≤1000):Pure Tryz.prog 122 [.a (Ba p)] (.l (EX (A3 p)) false):=Pure.fit (by kernel_rfl) fun hf=>YX p (IJ hf.1) hk0
def E7: ∀(cs:List Py) (n:Int),Cg n cs=true→Bk cs≤4*cs.length∧ ∀c∈cs,c.parents.length≤3∧c.AJ.length≤4
 | [],_,_=>⟨He _,fun _ h=>by cases h⟩
 | c::r,n,h=>by
   simp only[Cg,BU,DZ]at h;have⟨h1,h2⟩:=E7 r _ h.2.2.2;refine⟨by simp only[Bk,C0,List.sum_cons,KX]at *;omega,fun d hd=>?_⟩;rcases G5.1 hd with rfl|hd
   ·exact⟨h.2.1,h.1⟩
   ·exact h2 d hd
def RD {i:Nat}: ∀(r pre:List Int),Lv i pre r=true→pre.Nodup→(pre++r).Nodup∧ ∀c∈r,(3:Int)≤c∧c<3+(i:Int)
 | [],pre,_,h=>⟨by simpa using h,fun _ h=>by cases h⟩
 | c::r,pre,h,hn=>by
   simp only[Lv,mL,BU,DZ,Bool.not_eq_true']at h;have hc:c∉pre:=by simpa using h.1.2.2
   obtain⟨h1,h2⟩:=RD r (pre++[c]) h.2 (List.nodup_append.2 ⟨hn,by simp,fun a ha b hb=>by simp at hb;subst hb;exact fun e=>hc (e ▸ ha)⟩);refine⟨by simpa using h1,fun d hd=>?_⟩;rcases G5.1 hd with rfl|hd
   ·exact⟨h.1.1,h.1.2.1⟩
   ·exact h2 d hd
def PI: ∀(g:List (List Int)) (k:Nat),ID k g=true→ ∀(i:Nat) (l:List Int),g[i]? =some l→l.length≤3∧l.Nodup∧ ∀c∈l,(3:Int)≤c∧c<3+((k+i:Nat):Int)
 | [],_,_,_,_,h=>by cases h
 | l ::r,k,h,i,l',hi=>by
   simp only[ID,BU,DZ]at h;cases i with
   | zero=>
     simp at hi;subst hi;obtain⟨h1,h2⟩:=RD l [] h.2.1 .nil;exact⟨h.1,by simpa using h1,by simpa using h2⟩
   | succ i=>
     simp at hi;have:=PI r (k+1) h.2.2 i l' hi;rw[show k+(i+1)=k+1+i by omega];exact this
def Dm {g:List (List Int)} (h:Df g=true):IG g:=by
 simp only[Df,BU,DZ]at h;refine⟨h.1,fun i l hi=>?_⟩;have:=PI g 0 h.2 i l hi;simpa using this
def JR {g:List (List Int)} (h:IG g):ordered g:=by
 intro c p hp;unfold par at hp;split at hp
 ·cases hp
 ·rename_i h3
  rw[E2]at hp;cases hq:g[c - 3]? with
  | none=>rw[hq]at hp;cases hp
  | some l=>
    rw[hq]at hp;have:=(h.2 _ _ hq).2.2 p hp;omega
def Fl {i:Nat} {cs:List Py} {c:Int} (h:c∈BQ i cs):(3:Int)+i≤c∧c<3+i+cs.length:=by
 induction cs generalizing i with
 | nil=>cases h
 | cons d r ih=>
   simp only[BQ,FJ,List.mem_replicate]at h;simp only[KX];rcases h with⟨_,rfl⟩|h
   ·omega
   ·have:=ih h;omega
def O9 {p:Prog} (h1:p.AQ.length≤10) (h2:Cg 0 p.AQ=true) (h3:Df (A3 p)=true):gF (AW p):=by
 have hl:(AW p).parents.length=p.AQ.length:=by simp[AW,A3]
 refine⟨by omega,JR (Dm h3),fun c hc=>?_,?_⟩
 ·have:=Fl hc
  rw[hl];omega
 ·have:=(E7 _ _ h2).1
  simp only[AW,CW];omega
def af (p : Prog):Pure Tryz.prog 155 [.a (Ba p)] (.b (BD p)):=by
 refine Pure.fit (by kernel_rfl) fun hf=>?_
 have F:=IJ hf.1;have hcl:=F.1;have hM:=Mx;refine rO kZ ?_
 conv=>whnf
 repeat'((first|apply st|(apply sq;intro K U)|(apply si;intro A B Y Z)|(apply Y;clear Z B Y A)|(apply U;clear U K)|refine⟨rfl,?_⟩|(constructor<;>intro hc<;>(try rw[hc])<;>(replace hc:=bp hc)<;>(try simp(disch:=omega) only[BW,wrap64,AN]at hc))|clear U K)<;>conv=>whnf)
 ·exact AI (by simp[BD];intros;omega)
 have h10:p.AQ.length≤10:=by omega
 refine CD p.AQ.length (fun k (n:Int)=>[(3,eI n),(4,eI (BM k))]) (fun _ _=>[]) (fun k n=>Cg 0 p.AQ=Cg n (p.AQ.drop k)∧0≤n∧n+Bk (p.AQ.drop k)=Bk p.AQ∧n≤4*k) 0 rfl (by simp) Sat.nil ?_;rintro k n σ hk ⟨hn,hn0,hn1,hn2⟩ hs
 conv=>whnf
 repeat'((first|apply st|(apply sq;intro K U)|(apply si;intro A B Y Z)|(apply Y;clear Z B Y A)|(apply U;clear U K)|refine⟨rfl,?_⟩|refine⟨kZ,?_⟩|refine ix ?_|(refine fc (fun x hx hlt hc=>?_) (fun hk hc=>?_)<;>(try rw[hc])<;>clear hc)|refine Pure.use (fI _ (by omega)) ?_|refine Pure.use (jV _ _) ?_|(constructor<;>intro hc<;>(try rw[hc])<;>(replace hc:=bp hc)<;>(try simp(disch:=omega) only[BW,wrap64,AN]at hc))|clear U K)<;>conv=>whnf)
 ·exact AI (by simp only[BD];rw[hn,drop_cons hx,Cg];simp;intros;omega)
 ·have hms:n+(x.AJ.length:Int)+Bk (p.AQ.drop (k+1))=Bk p.AQ:=by
   rw[drop_cons hx]at hn1;simp only[Bk,C0,List.sum_cons]at hn1 ⊢;omega
  have hsl:=(F.2 x (Ck hx)).2.1
  have hn':Cg 0 p.AQ=(Kc n x.AJ&&Cg (n+x.AJ.length) (p.AQ.drop (k+1))):=by
   have a1:x.AJ.length≤4:=by omega
   have a2:x.parents.length≤3:=by omega
   rw[hn,drop_cons hx,Cg];simp only[a1,a2,decide_true,I8]
  revert x
  rintro c hx hcs h3 hms hsl hn';refine CD c.AJ.length (fun j (m:Int)=>[(3,eI m),(6,eI (BM j))]) (fun _ _=>[]) (fun j m=>Cg 0 p.AQ=(Kc m (c.AJ.drop j)&&Cg (n+c.AJ.length) (p.AQ.drop (k+1)))∧m=n+j) n rfl ⟨hn',by simp⟩ Sat.nil ?_;rintro j m σ hj ⟨hm,he⟩ hs
  conv=>whnf
  repeat'((first|apply st|(apply sq;intro K U)|(apply si;intro A B Y Z)|(apply Y;clear Z B Y A)|(apply U;clear U K)|refine⟨rfl,?_⟩|refine ix ?_|(refine fc (fun x hx hlt hc=>?_) (fun hk hc=>?_)<;>(try rw[hc])<;>clear hc)|(constructor<;>intro hc<;>(try rw[hc])<;>(replace hc:=bp hc))|clear U K)<;>conv=>whnf)
  ·exact AI (by simp only[BD];rw[hm,drop_cons (by assumption),Kc];simp[hc])
  ·refine⟨hlt,_,rfl,⟨?_,?_⟩,hs⟩
   ·rw[hm,drop_cons (by assumption),Kc,wrap64 (by omega) (by omega)];simp[hc]
   ·rw[wrap64 (by omega) (by omega)];omega
  ·refine⟨by assumption,m,rfl,⟨?_,by omega,by omega,by omega⟩,hs⟩
   rw[hm,Al (by assumption),Kc,I8,he];congr 1;omega
 ·exact AI (by simp only[BD];rw[hn,drop_cons hx,Cg];simp;intros;omega)
 ·have hne:n=Bk p.AQ:=by rw[Al hk]at hn1;simpa[Bk]using hn1
  exact AI (by simp only[BD];rw[hc];simp)
 ·have hne:n=Bk p.AQ:=by rw[Al hk]at hn1;simpa[Bk]using hn1
  have hsb:Cg 0 p.AQ=true:=by rw[hn,Al hk];rfl
  have hms:=(E7 _ _ hsb).1;have hok:=O9 h10 hsb hc
  have hcb:BD p=F0 (AW p) n 0 p.AQ:=by
   simp only[BD,hsb,hc,←hne];simp[*]
  refine(SU p F (by omega) (by omega)).use ?_
  conv=>whnf
  repeat'((first|apply st|(apply sq;intro K U)|(apply si;intro A B Y Z)|(apply Y;clear Z B Y A)|(apply U;clear U K)|refine sn fun σ hs=>?_|(intro nn hnn;generalize hg:Az _ nn _=σ;refine al hg fun hs=>?_;clear hg)|fail)<;>conv=>whnf)
  refine CD p.AQ.length (fun k (_:Unit)=>[(9,eI (BM k))]) (fun _ _=>[.box nn (BI (AW p))]) (fun k _=>BD p=F0 (AW p) n k (p.AQ.drop k)) () rfl (by rw[hcb];rfl) hs ?_;rintro k - σ hk hn hs
  conv=>whnf
  repeat'((first|apply st|(apply sq;intro K U)|(apply si;intro A B Y Z)|(apply Y;clear Z B Y A)|(apply U;clear U K)|refine⟨rfl,?_⟩|(refine fc (fun x hx hlt hc=>?_) (fun hk hc=>?_)<;>(try rw[hc])<;>clear hc)|clear U K)<;>conv=>whnf)
  ·have e3 : IntKind.i64.wrap (BM k+3)=(k:Int)+3:=by rw[AN (by omega),wrap64 (by omega) (by omega)]
   rw[e3];have hgl:(A3 p).length=p.AQ.length:=by simp[A3]
   refine(oI (A3 p) false ((k:Int)+3) (Dm hc) (by omega) (by omega)).use ?_
   conv=>whnf
   repeat'((first|apply st|(apply sq;intro K U)|(apply si;intro A B Y Z)|(apply Y;clear Z B Y A)|(apply U;clear U K)|refine ix ?_|(constructor<;>intro hc<;>(try rw[hc])<;>(replace hc:=bp hc))|clear U K)<;>conv=>whnf)
   ·have hlb:gg (AW p).parents ((k:Int)+3)=false:=by
     show(!((Bz (A3 p)).getD ((k:Int)+3).toNat []).isEmpty)=false;rw[hc];rfl
    exact AI (by rw[hn,drop_cons hx,F0,hlb];rfl)
   ·have hil:=(F.2 x (Ck hx)).2.2
    have hn':BD p=(D1 (AW p) ((k:Int)+3) n [] x.inits&&F0 (AW p) n (k+1) (p.AQ.drop (k+1))):=by
     have hlb:gg (AW p).parents ((k:Int)+3)=true:=by
      show(!((Bz (A3 p)).getD ((k:Int)+3).toNat []).isEmpty)=true;rw[hc];rfl
     rw[hn,drop_cons hx,F0,hlb];rfl
    revert x
    rintro c hx hil hn';refine CD c.inits.length (fun j (_:Unit)=>[(14,eI (BM j))]) (fun _ _=>[.box nn (BI (AW p))]) (fun j _=>BD p=(D1 (AW p) ((k:Int)+3) n (c.inits.take j) (c.inits.drop j)&&F0 (AW p) n (k+1) (p.AQ.drop (k+1)))) () rfl (by rw[hn'];rfl) hs ?_;rintro j - σ hj hm hs
    conv=>whnf
    repeat'((first|apply st|(apply sq;intro K U)|(apply si;intro A B Y Z)|(apply Y;clear Z B Y A)|(apply U;clear U K)|apply dr|refine⟨rfl,?_⟩|refine⟨kZ,?_⟩|refine ix ?_|refine ld ?_|(refine fc (fun x hx hlt hc=>?_) (fun hk hc=>?_)<;>(try rw[hc])<;>clear hc)|(constructor<;>intro hc<;>(try rw[hc])<;>(replace hc:=bp hc))|clear U K)<;>conv=>whnf)
    ·refine(oT (AW p) ((k:Int)+3) x.1 hok (by omega) (by rw[show(AW p).parents=A3 p from rfl];omega) (by omega) (by rw[show(AW p).owner=BQ 0 p.AQ from rfl,CW];omega)).use ?_
     conv=>whnf
     repeat'((first|apply st|(apply sq;intro K U)|(apply si;intro A B Y Z)|(apply Y;clear Z B Y A)|(apply U;clear U K)|apply dr|refine ix ?_|refine Pure.use (lP _) ?_|(constructor<;>intro hc<;>(try rw[hc])<;>(replace hc:=bp hc))|clear U K)<;>conv=>whnf)
     ·exact AI (by rw[hm,drop_cons hx,D1];simp[*])
     ·have hm':BD p=((c.inits.take j).all (fun y=>y.1 != x.1)&&(D1 (AW p) ((k:Int)+3) n (c.inits.take (j+1)) (c.inits.drop (j+1))&&F0 (AW p) n (k+1) (p.AQ.drop (k+1)))):=by
       have b1:decide (0≤x.1)=true:=decide_eq_true (by assumption);have b2:decide (x.1<n)=true:=decide_eq_true (by assumption);rw[hm,drop_cons hx,D1,AR hx,b1,b2,‹hasB _ _ _=true›,hc];simp only[I8,Bool.and_assoc]
      revert x
      rintro x hxj hx0 hx1 hhb hbt hm';refine CD j (fun i (_:Unit)=>[(15,eI (BM i))]) (fun _ _=>[.box nn (BI (AW p))]) (fun i _=>BD p=(((c.inits.take j).drop i).all (fun y=>y.1 != x.1)&&(D1 (AW p) ((k:Int)+3) n (c.inits.take (j+1)) (c.inits.drop (j+1))&&F0 (AW p) n (k+1) (p.AQ.drop (k+1))))) () rfl (by rw[hm'];rfl) hs ?_;rintro i - σ hi hl hs;rcases Nat.lt_or_ge i j with hij|hij
      ·obtain⟨y,hy⟩: ∃y,c.inits[i]? =some y:=⟨_,Et (by omega)⟩
       have hy':(c.inits.take j)[i]? =some y:=by rw[List.getElem?_take,if_pos hij,hy]
       conv=>whnf
       repeat'((first|apply st|(apply sq;intro K U)|(apply si;intro A B Y Z)|(apply Y;clear Z B Y A)|(apply U;clear U K)|apply dr|refine⟨rfl,?_⟩|refine ix ?_|(constructor<;>intro hc<;>(try rw[hc])<;>(replace hc:=bp hc)<;>(try simp(disch:=omega) only[BW,wrap64,AN]at hc)<;>try(exfalso;omega))|clear U K)<;>conv=>whnf)
       ·exact AI (by rw[hl,drop_cons hy',NN,hc];simp)
       ·refine⟨hij,(),rfl,?_,hs⟩
        have hc':(y.1 != x.1)=true:=by simpa using hc
        rw[hl,drop_cons hy',NN,hc',I8]
      ·conv=>whnf
       repeat'((first|apply st|(apply sq;intro K U)|(apply si;intro A B Y Z)|(apply Y;clear Z B Y A)|(apply U;clear U K)|refine⟨rfl,?_⟩|(constructor<;>intro hc<;>(try rw[hc])<;>(replace hc:=bp hc)<;>(try simp(disch:=omega) only[BW,wrap64,AN]at hc)<;>try(exfalso;omega))|clear U K)<;>conv=>whnf)
       refine⟨by assumption,(),rfl,?_,hs⟩;rw[hl,List.drop_of_length_le (by rw[Mo];omega),List.all_nil,I8]
     ·exact AI (by rw[hm,drop_cons hx,D1];simp[*])
    ·exact AI (by rw[hm,drop_cons hx,D1];simp;intros;omega)
    ·exact AI (by rw[hm,drop_cons hx,D1];simp;intros;omega)
    ·refine⟨by assumption,(),rfl,?_,hs⟩
     rw[hm,Al hk,D1,I8]
  ·exact AI (by rw[hn,Al hk];rfl)
 ·have hne:n=Bk p.AQ:=by rw[Al hk]at hn1;simpa[Bk]using hn1
  exact AI (by simp only[BD];rw[←hne];simp[hc])
def FM (f:Int→Int→List Int→Option (List Int)) (op size:Int):Nat→List Int→List Int→Option (List Int)
 | _,[],s=>some s
 | i,k::r,s=>match f k (if op=9∧i=1 then size+1 else size) s with
   | none=>none
   | some s'=>FM f op size (i+1) r s'
def Dz (p:Prog) (next:Bool) (size:Int) (x:Node):Bool:=((x.kids.length:Int)==Im p x)&&(Lr p x size&&(x.op != 18||next))
def CJ (p:Prog) (next:Bool):Nat→Int→Int→List Int→Option (List Int)
 | 0,_,_,_=>none
 | d+1,n,size,s=>
   if n<0∨(p.nodes.length:Int)≤n∨0≤s.getD n.toNat 0 then none else
   match p.nodes[n.toNat]? with
   | none=>none
   | some x=>if Dz p next size x then FM (CJ p next d) x.op size 0 x.kids (s.set n.toNat size)else none
def UJ (v:V) (s:List Int) (o:Option (List Int)) (r:R) (post:List At):Prop:=
 ∃s':List Int,s'.length=s.length∧post= [.own v 1 (iL s')]∧((o=some s'∧r= .ret (.b true))∨(o=none∧r= .ret (.b false)))
def ON {v:V} {s s':List Int} {o:Option (List Int)} {σ:AH} {rest:List At} (hs:Sat σ (.own v 1 (iL s')::rest)) (hl:s'.length=s.length) (ho:o=none):Ap σ (.b false) fun r σ'=> ∃post,UJ v s o r post∧Sat σ' post:=
 A5 hs (.cons₂ _ (QI _)) (.refl _) fun σ' hs'=>⟨_,⟨s',hl,rfl,.inr ⟨ho,rfl⟩⟩,hs'⟩
def c0 {p:Prog} (h:Eu (.a (Ba p))) {x:Node} (hx:x∈p.nodes):x.kids.length≤Aj:=by
 simp only[Ba,Gt,DQ,Gs,I1]at h
 have h2:Hi (Ip x):=by
  first|exact h.2.2.2.2.1.2 x hx|exact h.2.2.2.2.2.1.2 x hx|exact h.2.2.2.1.2 x hx|exact h.2.2.1.2 x hx|exact h.2.1.2 x hx
 simp only[Ip,DQ,Gs,BW]at h2
 first|exact h2.2.2.1.1|exact h2.2.2.1|exact h2.1
def Nd {p:Prog} {next:Bool} {d:Nat} {n size:Int} {s:List Int} {x:Node} {y:Int} (h0:0≤n) (h1:n<(p.nodes.length:Int)) (hs:s[n.toNat]? =some y) (hy:y<0) (hx:p.nodes[n.toNat]? =some x) :
    CJ p next (d+1) n size s=if Dz p next size x then FM (CJ p next d) x.op size 0 x.kids (s.set n.toNat size)else none:=by
 have e:s.getD n.toNat 0=y:=by rw[E2,hs];rfl
 simp only[CJ];rw[if_neg (by rw[e];omega),hx]
def MG {p:Prog} {next:Bool} {d:Nat} {n size:Int} {s:List Int} (h:n<0∨(p.nodes.length:Int)≤n∨0≤s.getD n.toNat 0):CJ p next (d+1) n size s=none:=by
 simp only[CJ];rw[if_pos h]
set_option maxHeartbeats 4000000 in
def cF (p : Prog) (next:Bool): ∀d:Nat,d≤12→ ∀(n size depth:Int) (s:List Int) (v:V),depth=13 - d→0≤size→size+d≤100→s.length=p.nodes.length→(Dg v).isSome=true→
    By Tryz.prog 157 [.a (Ba p),eI n,eI size,eI depth,.b next,v] [.own v 1 (iL s)] (UJ v s (CJ p next d n size s)):=by
 intro d
 induction d with
 | zero=>
   intro _ n size depth s v hd h0 h1 hl hv σ hs;refine A8.fit (by kernel_rfl) fun hf=>?_
   have⟨p1,p2,p3,p4⟩:=Fx hf.1;have hM:=Mx;refine dR kZ ?_
   conv=>whnf
   repeat'((first|apply st|(apply sq;intro K U)|(apply si;intro A B Y Z)|(apply Y;clear Z B Y A)|(apply U;clear U K)|refine⟨rfl,?_⟩|refine oi ?_|refine ol fun x hx=>?_|(constructor<;>intro hc<;>(try rw[hc])<;>(replace hc:=bp hc)<;>(try simp(disch:=omega) only[BW,wrap64,AN]at hc)<;>try(exfalso;omega))|clear U K)<;>conv=>whnf)
   all_goals exact A5 hs (.refl _) (.refl _) fun σ' hs'=>⟨_,⟨s,rfl,rfl,.inr ⟨rfl,rfl⟩⟩,hs'⟩
 | succ d ih =>
   intro hd12 n size depth s v hd h0 h1 hl hv σ hs;refine A8.fit (by kernel_rfl) fun hf=>?_
   have⟨p1,p2,p3,p4⟩:=Fx hf.1;have hM:=Mx;refine dR kZ ?_
   conv=>whnf
   repeat'((first|apply st|(apply sq;intro K U)|(apply si;intro A B Y Z)|(apply Y;clear Z B Y A)|(apply U;clear U K)|apply dr|refine rk ?_ ?_|exact fun s e=>by cases e;rfl|refine⟨rfl,?_⟩|refine⟨kZ,?_⟩|refine iq fun x hx=>?_|refine ld ?_|refine sn fun σ hs=>?_|refine oi ?_|refine ol fun x hx=>?_|refine oset fun σ hs=>?_|refine Pure.use (jO _ _) ?_|refine Pure.use (Zr _ _ _) ?_|(constructor<;>intro hc<;>(try rw[hc])<;>(replace hc:=bp hc)<;>(try simp(disch:=omega) only[BW,wrap64,AN]at hc)<;>try(exfalso;omega))|(intro nn hnn;generalize hg:Az _ nn _=σ;refine al hg fun hs=>?_;clear hg)|clear U K)<;>conv=>whnf)
   ·exact ON hs (by simp) (by rw[Nd (by assumption) (by assumption) (by assumption) (by assumption) hx];simp[Dz, *])
   rotate_left
   ·cases hc
   rotate_left
   ·exact ON hs (by simp) (by rw[Nd (by assumption) (by assumption) (by assumption) (by assumption) hx];simp[Dz, *])
   ·exact ON hs (by simp) (by rw[Nd (by assumption) (by assumption) (by assumption) (by assumption) hx];simp[Dz, *])
   ·exact ON hs rfl (MG (.inr (.inr (by rw[E2,hx];exact hc))))
   ·exact ON hs rfl (MG (.inr (.inl hc)))
   ·exact ON hs rfl (MG (.inl hc))
   all_goals
    have hW:CJ p next (d+1) n size s=FM (CJ p next d) x.op size 0 x.kids (s.set n.toNat size):=by
     rw[Nd (by assumption) (by assumption) (by assumption) (by assumption) hx];simp[Dz, *]
    rw[hW]
    rename Node=>nd
    refine CD nd.kids.length (fun k (_:List Int)=>[(14,eI (BM k))]) (fun _ s'=>[.own v 1 (iL s'),.obj nn (.cs (Ip nd))]) (fun k s'=>s'.length=s.length∧FM (CJ p next d) nd.op size 0 nd.kids (s.set n.toNat size)=FM (CJ p next d) nd.op size k (nd.kids.drop k) s') (s.set n.toNat size) rfl ⟨by simp,by simp⟩ hs ?_;clear hs;rintro k s' σ hk ⟨hl',hkids⟩ hs;have hkm:=c0 hf.1 (Ck hx);have hck:BM k=k:=AN (by omega);by_cases hlt:k<nd.kids.length
    ·obtain⟨kid,hkid⟩: ∃kid,nd.kids[k]? =some kid:=⟨_,Et hlt⟩
     have hrec:=fun kid sz h0 h1=>ih (by omega) kid sz (depth+1) s' v (by omega) h0 h1 (by omega) hv
     conv=>whnf
     repeat'((first|apply st|(apply sq;intro K U)|(apply si;intro A B Y Z)|(apply Y;clear Z B Y A)|(apply U;clear U K)|apply dr|refine⟨rfl,?_⟩|refine⟨kZ,?_⟩|refine ix ?_|refine ld ?_|(refine fc (fun x hx hlt hc=>?_) (fun hk hc=>?_)<;>(try rw[hc])<;>clear hc)|(constructor<;>intro hc<;>(try rw[hc])<;>(replace hc:=bp hc)<;>(try simp(disch:=omega) only[BW,wrap64,AN]at hc)<;>try(exfalso;omega))|clear U K)<;>conv=>whnf)
     all_goals try(exfalso;omega)
     all_goals try refine Ig (enc:=fun i:Int=>[V.i .i64 i]) hkid hkm rfl ?_
     conv=>whnf
     all_goals try(exfalso;omega)
     all_goals
      have hK2:=hkids;rw[drop_cons hx,FM]at hK2
      first
       | rw[if_pos (by omega)]at hK2
         rw[wrap64 (by omega) (by omega),wrap64 (by omega) (by omega)];refine(hrec x (size+1) (by omega) (by omega)).use hs ?_
       | rw[if_neg (by omega)]at hK2
         rw[wrap64 (by omega) (by omega)];refine(hrec x size (by omega) (by omega)).use hs ?_
      rintro r post σ' ⟨s2,hl2,rfl,⟨ho,rfl⟩|⟨ho,rfl⟩⟩ hs
      ·rw[ho]at hK2
       conv=>whnf
       repeat'((first|apply st|(apply sq;intro K U)|(apply si;intro A B Y Z)|(apply Y;clear Z B Y A)|(apply U;clear U K)|apply dr|refine⟨rfl,?_⟩|(constructor<;>intro hc<;>(try rw[hc])<;>(replace hc:=bp hc)<;>(try simp(disch:=omega) only[BW,wrap64,AN]at hc))|clear U K)<;>conv=>whnf)
       all_goals first|(exfalso;cases hc;done)|exact⟨hlt,s2,rfl,⟨by omega,hK2⟩,hs⟩
      ·rw[ho]at hK2
       conv=>whnf
       repeat'((first|apply st|(apply sq;intro K U)|(apply si;intro A B Y Z)|(apply Y;clear Z B Y A)|(apply U;clear U K)|apply dr|refine⟨rfl,?_⟩|(constructor<;>intro hc<;>(try rw[hc])<;>(replace hc:=bp hc)<;>(try simp(disch:=omega) only[BW,wrap64,AN]at hc))|clear U K)<;>conv=>whnf)
       all_goals first|exact ON hs (by omega) hK2|(exfalso;cases hc;done)
    ·have hke:k=nd.kids.length:=by omega
     conv=>whnf
     repeat'((first|apply st|(apply sq;intro K U)|(apply si;intro A B Y Z)|(apply Y;clear Z B Y A)|(apply U;clear U K)|refine⟨rfl,?_⟩|refine ld ?_|(refine fc (fun x hx hlt hc=>?_) (fun hk hc=>?_)<;>(try rw[hc])<;>clear hc)|(constructor<;>intro hc<;>(try rw[hc])<;>(replace hc:=bp hc)<;>try(exfalso;omega))|clear U K)<;>conv=>whnf)
     all_goals try(exfalso;omega)
     rw[hke,Al rfl]at hkids;exact A5 hs (.cons₂ _ (QI _)) (.refl _) fun σ' hs'=>⟨_,⟨s',hl',rfl,.inl ⟨(by first|rw[hW,hkids,FM]|rw[hkids,FM]),rfl⟩⟩,hs'⟩
end Go.Gl
namespace Go.Gl
variable {P:Program} {σ:AH} {env:Env}
def zZ {xs:List Fact} {f:Bool} {K:V→Prop} {ki:IntKind} {j:Int} (h: ∀x,xs[j.toNat]? =some x→K (.rp (xF x))) (h0:0≤j:=by omega) (h1:j<xs.length:=by omega):AT 6 none (.l (xs.map Ef) f) (.i ki j) K:=by
 refine iq (fun x hx=>?_) h0 h1 (by intro x;rw[BC];rfl);rw[BC];exact h x hx
def lo {l:List At} {i:Nat} {v:V} {sz:Nat} {es:List (List V)} {K:V→Prop} (hk:K (.i .i64 es.length)) (h:Sat σ l:=by assumption)
    (hi:l[i]? =some (.own v sz es):=by first|exact Rg|exact Rf|exact Re|exact Rc|exact Rb|exact Ra) (hm:es.length≤Aj:=by first|omega|(simp only[BW,List.length_replicate,List.length_set,Aj]at *;omega)):A0 v K:=su h i hi hm hk
def zT {α:Type} {enc:α→List V} {xs:List α} {f:Bool} {sz:Nat} {ki:IntKind} {j:Int} {K:V→AH→Prop} (h:K (.l ((xs.take j.toNat).map enc) (f&&decide (j=((xs.map enc).length:Nat)))) σ) (h0:0≤j:=by omega) (h1:j≤xs.length:=by first|omega|(simp only[BW]at *;omega)) (hs: ∀x,(enc x).length=sz:=by intro x;first|rfl|simp|(rw[BC];rfl)) :
    AS σ sz (.l (xs.map enc) f) none (some (.i ki j)) none K:=by
 refine⟨fun e he=>?_,?_⟩
 ·obtain⟨x,_,rfl⟩:=NP.1 he
  exact hs x
 ·simp only[N2,BW]
  refine⟨by omega,by omega,by omega,?_⟩;simpa[List.map_take]using h
def Sat.take {l:List At} (h:Sat σ l) (n:Nat):Sat σ (l.take n):=h.less (List.take_sublist _ _)
def CQ {b:Bool} {σ σ':AH}:FF σ σ' (.l [] b) (.l [] false):= .l (fun h=>by cases h) .nil
def b6 {b:Bool} {σ σ':AH} {es:List (List V)}:FF σ σ' (.l es b) (.l es false):= .l (fun h=>by cases h) (E3.refl _ _ _)
mutual
def RX {σ σ':AH}: ∀vs:List V,DS σ σ' vs vs
 | []=> .nil
 | v::r=> .cons (.refl v) (RX r)
end
def CA {σ σ':AH}: ∀es:List (List V),E3 σ σ' es es
 | []=> .nil
 | e::r=> .cons (RX e) (CA r)
def sL {α:Type} {enc:α→List V} {xs:List α} {y:α} {l:List At} {i:Nat} {v x:V} {sz k:Nat} {vc:List V} {K:AH→Prop} (hk: ∀σ',Sat σ' (l.set i (.own v sz ((xs.set k y).map enc)))→K σ') (h:Sat σ l:=by assumption)
    (hi:l[i]? =some (.own v sz (xs.map enc)):=by first|exact Rg|exact Rf|exact Re|exact Rc|exact Rb|exact Ra) (hc:cellsOf x=some vc:=by rfl) (he:vc=enc y:=by rfl) (hg:Fw enc sz:=by first|exact Cr|exact DJ|exact Sx|exact F5|exact Ns)
    (hv:(Dg v).isSome=true:=by rfl) (h1:k<xs.length:=by first|omega|(simp only[BW]at *;omega)):AU σ sz (Fy v sz k) x K:=oset hk h hi hc he hg hv h1
def BS {α:Type} (xs:List α) {k:Nat} (hk:k≤xs.length):(∃x,xs[k]? =some x∧k<xs.length)∨k=xs.length:=by
 rcases Nat.lt_or_ge k xs.length with h|h
 ·exact .inl ⟨_,Et h,h⟩
 ·exact .inr (by omega)
def C8 {α:Type} {enc:α→List V} {xs:List α} {k:Nat} {x:α} {A B:Prop} (h1:decide (BM k<((xs.map enc).length:Nat))=true→A) (hx:xs[k]? =some x:=by assumption) (hm:xs.length≤Aj:=by first|assumption|omega|simp[Aj]<;>omega) :
    (decide (BM k<((xs.map enc).length:Nat))=true→A)∧(decide (BM k<((xs.map enc).length:Nat))=false→B):=by
 refine⟨h1,fun h=>?_⟩;have hlt:=(Mn.1 hx).1;rw[AN (by omega),BW]at h;have:=of_decide_eq_false h;omega
def Es {α:Type} {enc:α→List V} {xs:List α} {k:Nat} {A B:Prop} (h1:decide (BM k<((xs.map enc).length:Nat))=false→B) (hx:k=xs.length:=by assumption) (hm:xs.length≤Aj:=by first|assumption|omega|simp[Aj]<;>omega) :
    (decide (BM k<((xs.map enc).length:Nat))=true→A)∧(decide (BM k<((xs.map enc).length:Nat))=false→B):=by
 refine⟨fun h=>?_,h1⟩;rw[AN (by omega),BW]at h;have:=of_decide_eq_true h;omega
def TX {α:Type} {enc:α→List V} {xs:List α} {f:Bool} {sz:Nat} {K:V→Prop} {ki:IntKind} {j:Int} {x:α} (h:K (.rp (enc x))) (hx:xs[j.toNat]? =some x:=by assumption) (h0:0≤j:=by omega) (hs:(enc x).length=sz:=by first|rfl|simp|(rw[BC];rfl)) :
    AT sz none (.l (xs.map enc) f) (.i ki j) K:=Tt j.toNat hx (by omega) hs h
def Lt {xs:List Fact} {f:Bool} {K:V→Prop} {ki:IntKind} {j:Int} {x:Fact} (h:K (.rp (xF x))) (hx:xs[j.toNat]? =some x:=by assumption) (h0:0≤j:=by omega):AT 6 none (.l (xs.map Ef) f) (.i ki j) K:=by
 refine TX ?_ hx h0;rw[BC];exact h
class CB (b:Bool) (v:outParam Bool):Prop where
 h:b=v
instance :CB true true:=⟨rfl⟩
instance :CB false false:=⟨rfl⟩
instance {b:Bool} [i:CB b true]:CB (!b) false:=⟨by rw[i.h];rfl⟩
instance {b:Bool} [i:CB b false]:CB (!b) true:=⟨by rw[i.h];rfl⟩
instance {b x y v:Bool} [i:CB b true] [j:CB x v]:CB (bif b then x else y) v:=⟨by rw[i.h,j.h];rfl⟩
instance {b x y v:Bool} [i:CB b false] [j:CB y v]:CB (bif b then x else y) v:=⟨by rw[i.h,j.h];rfl⟩
instance {a b:Bool} [i:CB a true] [j:CB b true]:CB (a==b) true:=⟨by rw[i.h,j.h];rfl⟩
instance {a b:Bool} [i:CB a true] [j:CB b false]:CB (a==b) false:=⟨by rw[i.h,j.h];rfl⟩
instance {a b:Bool} [i:CB a false] [j:CB b true]:CB (a==b) false:=⟨by rw[i.h,j.h];rfl⟩
instance {a b:Bool} [i:CB a false] [j:CB b false]:CB (a==b) true:=⟨by rw[i.h,j.h];rfl⟩
instance {a b:Bool} [i:CB a true] [j:CB b true]:CB (a != b) false:=⟨by rw[i.h,j.h];rfl⟩
instance {a b:Bool} [i:CB a true] [j:CB b false]:CB (a != b) true:=⟨by rw[i.h,j.h];rfl⟩
instance {a b:Bool} [i:CB a false] [j:CB b true]:CB (a != b) true:=⟨by rw[i.h,j.h];rfl⟩
instance {a b:Bool} [i:CB a false] [j:CB b false]:CB (a != b) false:=⟨by rw[i.h,j.h];rfl⟩
def JB {A B:Prop} {b:Bool} [i:CB b true] (h:A):(b=true→A)∧(b=false→B):=⟨fun _=>h,fun e=>(by rw[i.h]at e;cases e)⟩
def G3 {A B:Prop} {b:Bool} [i:CB b false] (h:B):(b=true→A)∧(b=false→B):=⟨fun e=>(by rw[i.h]at e;cases e),fun _=>h⟩
def s5 {A B:Prop} {b:Bool} [i:CB b true] (h:B):(b=false→A)∧(b=true→B):=⟨fun e=>(by rw[i.h]at e;cases e),fun _=>h⟩
def ml {A B:Prop} {b:Bool} [i:CB b false] (h:A):(b=false→A)∧(b=true→B):=⟨fun _=>h,fun e=>(by rw[i.h]at e;cases e)⟩
def Vp {α:Type} {enc:α→List V} {xs:List α} {x:α} {l:List At} {i:Nat} {v:V} {sz k:Nat} {agg:Option Nat} {K:V→Prop} (hk:cut agg (enc x) 0 K) (h:Sat σ l:=by assumption)
    (hi:l[i]? =some (.own v sz (xs.map enc)):=by first|exact Rg|exact Rf|exact Re|exact Rc|exact Rb|exact Ra) (hx:xs[k]? =some x:=by assumption):AX σ agg (Fy v sz k) K:=
 Hs h i hi (by rw[QK,hx];rfl) hk
def P3 {xs:List Fact} {x:Fact} {l:List At} {i:Nat} {v:V} {k:Nat} {agg:Option Nat} {K:V→Prop} (hk:cut agg (xF x) 0 K) (h:Sat σ l:=by assumption)
    (hi:l[i]? =some (.own v 6 (facts xs)):=by first|exact Rg|exact Rf|exact Re|exact Rc|exact Rb|exact Ra) (hx:xs[k]? =some x:=by assumption):AX σ agg (Fy v 6 k) K:=
 Hs h i hi (by rw[QK,hx];exact congrArg some (BC x)) hk
def k9 {v:V} (h:(Dg v).isSome=true): ∃n l c,v= .sl n l c:=by
 cases v<;>first|(cases h;done)|exact⟨_,_,_,rfl⟩
def kr {l:List At} {i:Nat} {xs:List Fact} {x:Fact} {v:V} {f:Bool} {e:List V} {K:V→AH→Prop} (hk: ∀v' σ',Sat σ' (l.set i (.own v' 6 (facts (xs++[x]))))→(Dg v').isSome=true→K v' σ') (h:Sat σ l:=by assumption)
    (hi:l[i]? =some (.own v 6 (facts xs)):=by first|exact Rg|exact Rf|exact Re|exact Rc|exact Rb|exact Ra)
    (he:e=xF x:=by rfl)
    {b:Nat} (hl:xs.length<Aj∧(xs.length+1)*b≤140737488355328:=by first|assumption|omega|(simp only[KY,BW,KX,List.length_nil,Mo,kX,List.length_replicate,Aj]at *;omega)):AL b σ 6 v (.l [e] f) K:=
 GF (Fc h i hi hl F5 hk (by rw[he,BC]))
end Go.Gl
