import Derived.ChangeOld
import Derived.Below
import Derived.Carry
import Derived.ChangeArms
import Derived.Deep.Slices
import Derived.Test.YtegbmnmnaijioaaGreatProg
import Derived.KernelRfl
import Derived.Test.YtegbmnmnaijioaaGreatH5
set_option linter.all false
set_option linter.defProp false
noncomputable section
namespace Go.Gl
structure Qm where
 parents:List Int
 AK:List Int
 inits:List (Int×Int)
 deriving DecidableEq,Inhabited
structure Node where
 op:Int
 n:Int
 kids:List Int
 deriving DecidableEq,Inhabited
inductive Fact where
 | mk (op arg:Int) (path:List Int) (cls n:Int) (kids:List Fact)
 deriving Inhabited
namespace Fact
def op:Fact→Int|mk o _ _ _ _ _=>o
def arg:Fact→Int|mk _ a _ _ _ _=>a
def path:Fact→List Int|mk _ _ p _ _ _=>p
def cls:Fact→Int|mk _ _ _ c _ _=>c
def n:Fact→Int|mk _ _ _ _ n _=>n
def kids:Fact→List Fact|mk _ _ _ _ _ k=>k
mutual
def FL {α:Type} (g:Fact→List α→α):Fact→α
 | .mk o a p c n k=>g (.mk o a p c n k) (ZB g k)
 termination_by structural f=>f
def ZB {α:Type} (g:Fact→List α→α):List Fact→List α
 | []=>[]
 | x::r=>FL g x::ZB g r
 termination_by structural l=>l
end
def js {α:Type} (g:Fact→List α→α) (l:List Fact):ZB g l=l.map (FL g):=by
 induction l with
 | nil=>rfl
 | cons x r ih=>simp[ZB,ih]
def CG {α:Type} (g:Fact→List α→α) (f:Fact):FL g f=g f (f.kids.map (FL g)):=by
 cases f with
 | mk o a p c n k=>simp[FL,js,kids]
def ind {motive:Fact→Prop} (h: ∀f,(∀k∈f.kids,motive k)→motive f) (f:Fact):motive f:=by
 refine Fact.rec (motive_1:=motive) (motive_2:=fun l=> ∀k∈l,motive k) (fun o a p c n k ih=>h _ ih) (fun _ h=>by cases h) (fun x r hx hr k hk=>?_) f;rcases F7.1 hk with rfl|hk
 ·exact hx
 ·exact hr k hk
def size (f:Fact):Nat:=FL (fun f l=>1+f.path.length+f.kids.length+l.sum) f
end Fact
structure MX where
 kind:Int
 gen:Int
 fact:Fact
 node:Int
 deriving Inhabited
structure Prog where
 AQ:List Qm
 AK:Int
 C1:List Int
 methods:List MX
 nodes:List Node
 main:Int
 deriving Inhabited
structure AJ where
 parents:List (List Int)
 owner:List Int
 deriving DecidableEq,Inhabited
abbrev eI (n:Int):V:= .i .i64 n
def Ui (c:Qm):List V:=[.l (iL c.parents) false,.l (iL c.AK) false,.l (c.inits.map fun p=>[eI p.1,eI p.2]) false]
def I8 (x:Node):List V:=[eI x.op,eI x.n,.l (iL x.kids) false]
def Fw (f:Fact):List V:=f.FL fun f l=>[eI f.op,eI f.arg,.l (iL f.path) false,eI f.cls,eI f.n,.l l false]
abbrev xF (f:Fact):List V:=[eI f.op,eI f.arg,.l (iL f.path) false,eI f.cls,eI f.n,.l (f.kids.map Fw) false]
def Ba (f:Fact):Fw f=xF f:=Fact.CG _ f
abbrev facts (l:List Fact):List (List V):=l.map Fw
def fA (m:MX):List V:=[eI m.kind,eI m.gen,eI m.fact.op,eI m.fact.arg,.l (iL m.fact.path) false,eI m.fact.cls,eI m.fact.n,.l (facts m.fact.kids) false,eI m.node]
def Be (p:Prog):List V:=[.l (p.AQ.map Ui) false,eI p.AK,.l (iL p.C1) false,.l (p.methods.map fA) false,.l (p.nodes.map I8) false,eI p.main]
def BC (w:AJ):List V:=[.l (E3 w.parents) false,.l (iL w.owner) false]
end Go.Gl
namespace Go.Gl
open Go.ChangeShapes Go.WideShapes Go.ChangeAt Go.RowKit
def jz {w w':World} (h:B8 (fun _=>False) emp w emp w'):Below w.heap.size w w':=
 ⟨h.os,h.tape,h.output,h.size,fun k hk=>h.frame k hk rfl⟩
def r9 {w:World} {b o:Nat}:Hh (fun _=>False) emp w b o=w.cell? ⟨b,o,none⟩:=by
 unfold Hh;rw[if_neg (by simp[emp])]
def Nt {α:Type} {Q:Nat→α→Prop}: ∀(len:Nat),(∀i,i<len→ ∃v,Q i v)→ ∃l:List α,l.length=len∧ ∀i v,l[i]? =some v→Q i v
 | 0,_=>⟨[],rfl,fun i v h=>by simp at h⟩
 | k + 1,h=>by
   obtain⟨l,hl,hl2⟩:=Nt k fun i hi=>h i (by omega)
   obtain⟨u,hu⟩:=h k (by omega);refine⟨l++[u],by simp[hl],fun i v hv=>?_⟩;by_cases hi:i<l.length
   ·rw[oN hi]at hv
    exact hl2 i v hv
   ·rw[List.getElem?_append_right (by omega)]at hv
    have:i - l.length=0:=by
     have:=(MK.1 hv).1;simp at this;omega
    have hik:i=k:=by omega
    subst hik;rw[this]at hv;rw[←Option.some.inj hv];exact hu
section
variable {H:Type} {enc:TypeId×Value→H} {P:Program} {W:World}
def kR {H:Type} (enc:TypeId×Value→H) (P:Program) (W:World) (n:Nat) (t:TypeId) {α:Type} (ea:α→List V):Prop:=
 ∀(cs:List Value) (d:DataW H) (ps:List MemPlace),DataW.trod enc P W 0 (fun _=>true) true n t cs=some (d,ps)→(∀x∈d.weights P t,x≤reachBytes)→ ∃a:α,cs.length=(ea a).length∧Bb (Hh (fun _=>False) emp W) (fun i=>cs[i]?) 0 (ea a)
def Qr {H:Type} (enc:TypeId×Value→H) (P:Program) (W:World) (t:TypeId) {α:Type} (ea:α→List V):Prop:= ∀n,kR enc P W n t ea
def Lg {t:TypeId} {α:Type} {ea:α→List V}:kR enc P W 0 t ea:=fun cs d ps h=>by simp[DataW.trod]at h
def GH {n:Nat} {t:TypeId} {α β:Type} {ea:α→List V} {eb:β→List V} (h:kR enc P W n t ea) (g:α→β) (hg: ∀a,ea a=eb (g a)):kR enc P W n t eb:=fun cs d ps h1 h2=>by
 obtain⟨a,h3,h4⟩:=h cs d ps h1 h2;exact⟨g a,by rw[←hg];exact h3,by rw[←hg];exact h4⟩
def O8 {t:TypeId} (ht:P.underlying t=some (.int .i64)):Qr enc P W t fun x:Int=>[V.i .i64 x]:=fun n cs d ps h _=>by
 obtain⟨k,rfl,-,hw⟩:=DataW.trod_int ht h;simp only[Lit.wf,A9,Cf]at hw;refine⟨k,rfl,⟨_,rfl,?_⟩,trivial⟩;simp only[Ai]
 first
  | exact⟨rfl,hw⟩
  | exact⟨trivial,hw⟩
  | exact hw
def Rk {n:Nat} {t e:TypeId} {sz:Nat} {α:Type} {ea:α→List V} (ht:P.underlying t=some (.slice e)) (hc:P.cellsOf e=sz) (hsz:0<sz) (hb:8≤P.bytesOf e) (he: ∀a,(ea a).length=sz) (h:kR enc P W n e ea) :
    kR enc P W (n+1) t fun l:List α=>[V.l (l.map ea) false]:=by
 intro cs d ps htr hw;rcases DataW.trod_slice ht htr with⟨rfl,hx⟩|⟨a,len,cap,elems,rest,n',hn,rfl,hx,-,hl,hm,hlen,hel,-,-⟩
 ·refine⟨[],rfl,⟨_,rfl,?_⟩,trivial⟩
  simp only[List.map_nil,Ai];exact⟨none,0,rfl,Ht _,fun h=>(by cases h),Nat.zero_le _,fun _=>rfl,fun h=>absurd rfl h⟩
 ·obtain rfl:n'=n:=by omega
  simp only[Prod.mk.injEq]at hx;obtain⟨rfl,-⟩:=hx;simp only[DataW.weights,ht,F7,FK]at hw;have hwl:=hw _ (.inl rfl)
  have hwe: ∀(l:List (DataW H)) (D:DataW H),D∈l→ ∀x∈D.weights P e,x∈DataW.weightsAll P e l:=by
   intro l
   induction l with
   | nil=>intro D hD;cases hD
   | cons y r ih=>
     intro D hD x hx;simp only[DataW.weightsAll,FK];rcases F7.1 hD with rfl|hD
     ·exact .inl hx
     ·exact .inr (ih D hD x hx)
  have hM:len≤Aj:=by
   simp only[BT,hlen,reachBytes]at hwl;have h8:(len+rest.length)*8≤(len+rest.length)*P.bytesOf e:=Nat.mul_le_mul_left _ hb;unfold Aj;omega
  have each: ∀i,i<len→ ∃v:α,∃cs',W.cells? 0 (a.add (i*sz)) sz=some cs'∧Bb (Hh (fun _=>False) emp W) (fun j=>cs'[j]?) 0 (ea v):=fun i hi=>by
   have hi':=hel i hi;obtain⟨x,hx⟩: ∃x,elems[i]? =some x:=⟨_,EN (by omega)⟩
   rw[hx,Option.bind_eq_some_iff,hc]at hi';obtain⟨cs',h1,h2⟩:=hi';obtain⟨v,-,h4⟩:=h cs' x.1 x.2 h2 fun y hy=>hw y (.inr (.inl (hwe _ x.1 (KE.2 ⟨x,DL hx,rfl⟩) y hy)))
   exact⟨v,cs',h1,h4⟩
  obtain⟨l,hll,hlc⟩:=Nt len each;refine⟨l,rfl,⟨_,rfl,?_⟩,trivial⟩;simp only[Ai,BT];refine⟨some a,cap,by rw[hll],by omega,fun h=>(by cases h),by omega,fun h=>(by cases h),fun hne=>?_⟩;obtain⟨b,o,spot⟩:=a
  have h0:0<l.length:=by
   rcases l with _|⟨v,r⟩
   ·exact absurd rfl hne
   ·simp
  have hspot:spot=none:=by
   obtain⟨cs',h1,-⟩:=hlc 0 l[0] (EN h0);obtain⟨-,h3,h4⟩:=World.cells?_some h1;have h5:=h4 0 hsz;rw[EN (by omega)]at h5;have:=World.cell?_spot h5;simpa[Addr.add]using this
  subst hspot
  have hcell: ∀i v,l[i]? =some v→ ∀k u,(ea v)[k]? =some u→ ∃c,W.cell? ⟨b,o+i*sz+k,none⟩=some c∧Ai (Hh (fun _=>False) emp W) u c:=fun i v hv k u hu=>by
   obtain⟨cs',h1,h2⟩:=hlc i v hv;obtain⟨-,h3,h4⟩:=World.cells?_some h1;have hk:k<sz:=by rw[←he v];exact(MK.1 hu).1
   obtain⟨c,hc',hr⟩:=Bm.1 h2 k u hu;have h5:=h4 k hk;simp only[G7]at hc';rw[add_plain,add_plain]at h5;exact⟨c,by rw[←hc',←h5],hr⟩
  refine⟨b,o,sz,rfl,BJ.2 fun j e hj=>?_⟩;rw[Q8]at hj;obtain⟨v,hv,rfl⟩:=Option.map_eq_some_iff.1 hj;refine⟨he v,Bm.2 fun k u hu=>?_⟩;obtain⟨c,h1,h2⟩:=hcell j v hv k u hu;exact⟨c,by rw[r9];exact h1,h2⟩
def Gc {t e:TypeId} {sz:Nat} {α:Type} {ea:α→List V} (ht:P.underlying t=some (.slice e)) (hc:P.cellsOf e=sz) (hsz:0<sz) (hb:8≤P.bytesOf e) (he: ∀a,(ea a).length=sz) (h:Qr enc P W e ea) :
    Qr enc P W t fun l:List α=>[V.l (l.map ea) false]
 | 0=>Lg
 | n+1=>Rk ht hc hsz hb he (h n)
def wR {H:Type} (enc:TypeId×Value→H) (P:Program) (W:World) (n:Nat) (fs:List Field) (o:Nat) {α:Type} (ea:α→List V):Prop:=
 ∀ (cs:List Value) (xs:List (DataW H×List MemPlace)),xs.length=fs.length→(∀(i:Nat) (f:Field),fs[i]? =some f→DataW.trod enc P W 0 (fun _=>true) true n (Field.type f) ((cs.drop (Field.offset f)).take (P.cellsOf (Field.type f)))=xs[i]?)→
   (∀x∈DataW.weightsEach P (fs.map fun f:Field=>f.type) (xs.map (·.1)),x≤reachBytes)→ ∃a:α,Bb (Hh (fun _=>False) emp W) (fun i=>cs[i]?) o (ea a)
def GI {n o:Nat}:wR enc P W n [] o fun _:Unit=>([]:List V):=fun _ _ _ _ _=>⟨(),trivial⟩
def BK {n o c:Nat} {f:Field} {fs:List Field} {α β:Type} {ea:α→List V} {eb:β→List V} (hf:f.offset=o) (hc:P.cellsOf f.type=c) (he: ∀a,(ea a).length=c) (h1:kR enc P W n f.type ea) (h2:wR enc P W n fs (o+c) eb) :
    wR enc P W n (f::fs) o fun p:α×β=>ea p.1++eb p.2:=by
 intro cs xs hl hx hw
 match xs,hl with
 | x ::r,hl=>
   have hx0:=hx 0 f rfl;simp only[pc]at hx0;simp only[Ct,DataW.weightsEach,FK]at hw;obtain⟨a,ha1,ha2⟩:=h1 _ x.1 x.2 hx0 fun y hy=>hw y (.inl hy)
   obtain⟨b,hb⟩:=h2 cs r (by simpa using hl) (fun i g hg=>by
    have:=hx (i+1) g (by simpa using hg)
    simpa using this) fun y hy=>hw y (.inr hy)
   refine⟨(a,b),Nc (Bm.2 fun k u hu=>?_) (by rw[he];exact hb)⟩;obtain⟨cc,h3,h4⟩:=Bm.1 ha2 k u hu;have hk:k<c:=by rw[←he a];exact(MK.1 hu).1
   refine⟨cc,?_,h4⟩;rw[hf,hc,G7,List.getElem?_take,if_pos hk,kN]at h3;exact h3
def P8 {n:Nat} {t:TypeId} {fs:List Field} {α:Type} {ea:α→List V} (ht:P.underlying t=some (.struct fs.toArray)) (h:wR enc P W n fs 0 ea) (hl: ∀a,(ea a).length=P.cellsOf t):kR enc P W (n+1) t ea:=by
 intro cs d ps htr hw;obtain⟨xs,k,hk,hx,hcl,hxl,hf⟩:=DataW.trod_struct ht htr;obtain rfl:k=n:=by omega
 simp only[Prod.mk.injEq]at hx;obtain⟨rfl,-⟩:=hx;simp only[DataW.weights,ht]at hw;obtain⟨a,ha⟩:=h cs xs (by rw[hxl];simp) (fun i f hfi=>hf i f (by simpa using hfi)) (by simpa using hw);exact⟨a,by rw[hcl,hl],ha⟩
def Er {t:TypeId} {fs:List Field} {α:Type} {ea:α→List V} (ht:P.underlying t=some (.struct fs.toArray)) (h: ∀n,wR enc P W n fs 0 ea) (hl: ∀a,(ea a).length=P.cellsOf t):Qr enc P W t ea
 | 0=>Lg
 | n+1=>P8 ht (h n) hl
end
end Go.Gl
namespace Go.Gl
open Go.Proofs
section
variable {H:Type} {enc:TypeId×Value→H} {W:World}
def b8 {n:Nat} (h:Nat.ble 8 n=true):8≤n:=Nat.le_of_ble_eq_true h
def K5:Qr enc Tryz.prog W 3 fun x:Int=>[V.i .i64 x]:=O8 Tryz.underlying3
def Uu:Qr enc Tryz.prog W 23 fun l:List Int=>[V.l (iL l) false]:=Gc Tryz.underlying23 (by kernel_rfl) (by decide) (b8 (by kernel_rfl)) (fun _=>rfl) K5
def qt:Qr enc Tryz.prog W 314 fun p:Int×Int=>[eI p.1,eI p.2]:=fun n=>
 GH (Er Tryz.underlying314
  (fun n=>BK (c:=1) rfl (by kernel_rfl) (fun _=>rfl) (K5 n) (BK (c:=1) rfl (by kernel_rfl) (fun _=>rfl) (K5 n) GI)) (fun _=>(show _=2 from rfl).trans (by kernel_rfl)) n) (fun x=>(x.1,x.2.1)) fun _=>rfl
def lz:Qr enc Tryz.prog W 59 fun l:List (Int×Int)=>[V.l (l.map fun p=>[eI p.1,eI p.2]) false]:=Gc (sz:=2) Tryz.underlying59 (by kernel_rfl) (by decide) (b8 (by kernel_rfl)) (fun _=>rfl) qt
def xE:Qr enc Tryz.prog W 61 Ui:=fun n=>
 GH (Er Tryz.underlying61
  (fun n=>BK (c:=1) rfl (by kernel_rfl) (fun _=>rfl) (Uu n) (BK (c:=1) rfl (by kernel_rfl) (fun _=>rfl) (Uu n)
   (BK (c:=1) rfl (by kernel_rfl) (fun _=>rfl) (lz n) GI))) (fun _=>(show _=3 from rfl).trans (by kernel_rfl)) n) (fun x=>⟨x.1,x.2.1,x.2.2.1⟩) fun _=>rfl
def qq:Qr enc Tryz.prog W 199 I8:=fun n=>
 GH (Er Tryz.underlying199
  (fun n=>BK (c:=1) rfl (by kernel_rfl) (fun _=>rfl) (O8 Tryz.underlying197 n) (BK (c:=1) rfl (by kernel_rfl) (fun _=>rfl) (K5 n)
   (BK (c:=1) rfl (by kernel_rfl) (fun _=>rfl) (Uu n) GI))) (fun _=>(show _=3 from rfl).trans (by kernel_rfl)) n) (fun x=>⟨x.1,x.2.1,x.2.2.1⟩) fun _=>rfl
def lu:Qr enc Tryz.prog W 25 fun l:List Node=>[V.l (l.map I8) false]:=Gc (sz:=3) Tryz.underlying25 (by kernel_rfl) (by decide) (b8 (by kernel_rfl)) (fun _=>rfl) qq
def qv:Qr enc Tryz.prog W 22 fun l:List Qm=>[V.l (l.map Ui) false]:=Gc (sz:=3) Tryz.underlying22 (by kernel_rfl) (by decide) (b8 (by kernel_rfl)) (fun _=>rfl) xE
def NC (f:Fact):(Fw f).length=6:=by rw[Ba];rfl
def ZW: ∀n,kR enc Tryz.prog W n 44 Fw∧kR enc Tryz.prog W n 42 fun l:List Fact=>[V.l (facts l) false]
 | 0=>⟨Lg,Lg⟩
 | n + 1 =>by
   obtain⟨h1,h2⟩:=ZW n;refine⟨?_,Rk Tryz.underlying42 (by kernel_rfl) (by decide) (b8 (by kernel_rfl)) NC h1⟩
   exact GH (P8 Tryz.underlying44
    (BK (c:=1) rfl (by kernel_rfl) (fun _=>rfl) (O8 Tryz.underlying41 n) (BK (c:=1) rfl (by kernel_rfl) (fun _=>rfl) (K5 n)
     (BK (c:=1) rfl (by kernel_rfl) (fun _=>rfl) (Uu n) (BK (c:=1) rfl (by kernel_rfl) (fun _=>rfl) (K5 n)
      (BK (c:=1) rfl (by kernel_rfl) (fun _=>rfl) (K5 n) (BK (c:=1) rfl (by kernel_rfl) (fun _=>rfl) h2 GI)))))) (fun _=>(show _=6 from rfl).trans (by kernel_rfl)))
    (fun x=>Fact.mk x.1 x.2.1 x.2.2.1 x.2.2.2.1 x.2.2.2.2.1 x.2.2.2.2.2.1) fun x=>by rw[Ba];rfl
def qu:Qr enc Tryz.prog W 44 Fw:=fun n=>(ZW n).1
def qs:Qr enc Tryz.prog W 81 fA:=fun n=>
 GH (Er Tryz.underlying81
  (fun n=>BK (c:=1) rfl (by kernel_rfl) (fun _=>rfl) (O8 Tryz.underlying79 n) (BK (c:=1) rfl (by kernel_rfl) (fun _=>rfl) (K5 n)
   (BK (c:=6) rfl (by kernel_rfl) NC (qu n) (BK (c:=1) rfl (by kernel_rfl) (fun _=>rfl) (K5 n) GI)))) (fun x=>(show _=9 from by simp only[Qi,NC];rfl).trans (by kernel_rfl)) n) (fun x=>⟨x.1,x.2.1,x.2.2.1,x.2.2.2.1⟩) fun x=>by rw[Ba];rfl
def ly:Qr enc Tryz.prog W 24 fun l:List MX=>[V.l (l.map fA) false]:=Gc (sz:=9) Tryz.underlying24 (by kernel_rfl) (by decide) (b8 (by kernel_rfl)) (fun _=>rfl) qs
def qp : Qr enc Tryz.prog W 27 Be:=fun n=>
 GH (Er Tryz.underlying27
  (fun n=>BK (c:=1) rfl (by kernel_rfl) (fun _=>rfl) (qv n)
   (BK (c:=1) rfl (by kernel_rfl) (fun _=>rfl) (K5 n) (BK (c:=1) rfl (by kernel_rfl) (fun _=>rfl) (Uu n)
    (BK (c:=1) rfl (by kernel_rfl) (fun _=>rfl) (ly n)
     (BK (c:=1) rfl (by kernel_rfl) (fun _=>rfl) (lu n)
      (BK (c:=1) rfl (by kernel_rfl) (fun _=>rfl) (K5 n) GI)))))) (fun _=>(show _=6 from rfl).trans (by kernel_rfl)) n) (fun x=>⟨x.1,x.2.1,x.2.2.1,x.2.2.2.1,x.2.2.2.2.1,x.2.2.2.2.2.1⟩) fun _=>rfl
end
end Go.Gl
namespace Go.Gl
def axI (n:Nat):List Nat→List Nat
 | []=>[n]
 | x::r=>bif Nat.beq n x then x::r else bif Nat.ble n x then n::x::r else x::axI n r
def wE:List Nat→List Nat→List Nat
 | [],l=>l
 | n::r,l=>wE r (axI n l)
def yk (n:Nat):List Nat→List Nat
 | []=>[]
 | x::r=>bif Nat.beq x n then r else x::yk n r
def yj:List Nat→List Nat→List Nat
 | [],l=>l
 | n::r,l=>yj r (yk n l)
def axO (o:Av) (n:List Nat):List Nat:=wE (looks o) (match o.dst with|some d=>yk d n|none=>n)
def qQ:List Av→List Nat→List Nat
 | [],n=>n
 | o::r,n=>axO o (qQ r n)
def axX (i:Nat):List (Nat×List Nat)→List Nat
 | []=>[]
 | (j,l)::r=>bif Nat.beq i j then l else axX i r
def W8 (rs:List Nat):AY→List (Nat×List Nat)→List Nat→List Nat
 | .skip,_,n=>n
 | .ret,_,_=>rs
 | .exit i,X,_=>axX i X
 | .DT ops,_,n=>qQ ops n
 | .HQ _ ops,_,n=>qQ (ops.map (·.o)) n
 | .seq _ a b,X,n=>W8 rs a X (W8 rs b X n)
 | .cond c a b,X,n=>wE (rd c) (wE (W8 rs a X n) (W8 rs b X n))
 | .block i a,X,n=>W8 rs a ((i,n)::X) n
 | .scope a,X,n=>W8 rs a X n
 | .D0 _ g ps a b,_,n=>wE (rd g) (wE n (yj ps (W8 [] a [] (W8 [] b [] []))))
 | .loop _ a,X,_=>W8 rs a X []
def a8 (rs:List Nat):AY→List (Nat×List Nat)→List Nat→AY
 | .skip,_,_=> .skip
 | .ret,_,_=> .ret
 | .exit i,_,_=> .exit i
 | .DT ops,_,_=> .DT ops
 | .HQ _ ops,_,n=> .HQ n ops
 | .seq _ a b,X,n=> .seq (W8 rs b X n) (a8 rs a X (W8 rs b X n)) (a8 rs b X n)
 | .cond c a b,X,n=> .cond c (a8 rs a X n) (a8 rs b X n)
 | .block i a,X,n=> .block i (a8 rs a ((i,n)::X) n)
 | .scope a,X,n=> .scope (a8 rs a X n)
 | .D0 _ g ps a b,_,_=> .D0 (yj ps (W8 [] a [] (W8 [] b [] []))) g ps (a8 [] a [] (W8 [] b [] [])) (a8 [] b [] [])
 | .loop _ a,X,_=> .loop (W8 rs a X []) (a8 rs a X (W8 rs a X []))
variable {P:Program}
def CtrX (P:Program) (k n:Nat) (ac:AY) (rs:List Nat):Prop:= ∀ ⦃args:List V⦄,args.length≤n→ ∀ ⦃σ:AH⦄ ⦃Q:R→AH→Prop⦄,W P ac (lI rs Q) (BD 0 args) σ→A7 P k args σ Q
def yE (P:Program) (k n:Nat) (ac:AY) (rs:List RS):Prop:= ∀ ⦃args:List V⦄,args.length≤n→ ∀ ⦃σ:AH⦄ ⦃Q:R→AH→Prop⦄,W P ac (Un rs Q) (BD 0 args) σ→A7 P k args σ Q
def wF:RS→Nat
 | .t n=>n
 | .c n _=>n
def cX {k n:Nat} {fn:Func} {ac:AY} {rs:List Nat} (pu fz:List Nat) (hf:P.funcs[k]? =some fn)
    (hn:fn.ntmps=n:=by conv=>lhs;reduce)
    (hr:Gb fn.results.toList=some rs:=by conv=>lhs;reduce)
    (hc:a8 rs ((fn.body.bind (res P fn.ntmps pu fz)).getD .skip) [] rs=ac:=by conv=>lhs;reduce;try simp only[Int.reduceOfNat,Int.reduceNegSucc])
    (hb:fn.body.bind (res P fn.ntmps pu fz)=some (erase ac):=by kernel_rfl) (hok:okF P k=true:=by kernel_rfl):CtrX P k n ac rs:=
 fun _ ha _ _ h=>QY hf hok hb hr (hn ▸ ha) (oU h)
def Q9 {k n:Nat} {fn:Func} {ac:AY} {rs:List RS} (pu fz:List Nat) (hf:P.funcs[k]? =some fn)
    (hn:fn.ntmps=n:=by conv=>lhs;reduce)
    (hr:MP P fn.results.toList=some rs:=by conv=>lhs;reduce)
    (hc:a8 (rs.map wF) ((fn.body.bind (res P fn.ntmps pu fz)).getD .skip) [] (rs.map wF)=ac:=by conv=>lhs;reduce;try simp only[Int.reduceOfNat,Int.reduceNegSucc])
    (hb:fn.body.bind (res P fn.ntmps pu fz)=some (erase ac):=by kernel_rfl) (hok:okF P k=true:=by kernel_rfl):yE P k n ac rs:=
 fun _ ha _ _ h=>Eu hf hok hb hr (hn ▸ ha) (oU h)
end Go.Gl
namespace Go.Gl
open Go.Proofs
set_option maxRecDepth 100000
set_option maxHeartbeats 4000000
def pN:=cX [] [1] Tryz.func12
def x7:=cX [] [1] Tryz.func29
def fD:=Q9 [] [2] Tryz.func31
def x6:=cX [] [] Tryz.func34
def x5:=cX [] [1] Tryz.func36
def VA:=cX [] [4] Tryz.func47
def x4:=cX [] [4] Tryz.func48
def pM:=cX [] [] Tryz.func49
set_option maxRecDepth 100000
set_option maxHeartbeats 4000000
def pK:=cX [] [] Tryz.func50
def x3:=cX [] [2] Tryz.func51
def pJ:=cX [] [4,5] Tryz.func52
def xz:=Q9 [] [1] Tryz.func53
def fC:=Q9 [] [3] Tryz.func59
def xy:=cX [] [1] Tryz.func71
def xx:=Q9 [] [1] Tryz.func82
def pH:=Q9 [] [2,3] Tryz.func83
def fB:=Q9 [] [] Tryz.func84
def xw:=cX [] [2,3] Tryz.func86
def xv:=cX [] [2] Tryz.func87
def xu:=cX [] [2] Tryz.func88
def pG:=Q9 [] [1] Tryz.func92
def xr:=Q9 [] [2] Tryz.func93
def xq:=cX [] [] Tryz.func95
def xp:=cX [] [] Tryz.func96
def xn:=cX [] [1] Tryz.func97
set_option maxRecDepth 100000
set_option maxHeartbeats 4000000
def vO:=cX [] [] Tryz.func102
def vN:=cX [] [2] Tryz.func112
def vM:=cX [] [] Tryz.func113
def gd:=cX [] [1,16] Tryz.func114
def Ml:=cX [] [5] Tryz.func115
def vL:=cX [] [4,5,7] Tryz.func116
def gb:=cX [] [] Tryz.func117
def vK:=cX [] [2] Tryz.func118
def TE:=cX [] [4] Tryz.func119
def vJ:=cX [] [1] Tryz.func120
def H7:=cX [181] [5] Tryz.func121
def vI:=cX [] [1,19] Tryz.func122
def vH:=cX [] [2,3] Tryz.func125
def vG:=cX [] [2,3] Tryz.func126
abbrev gy:AY:=(.DT [⟨(some 4),.alloc [(.b false)],none⟩])
def oo:List Av:=[⟨(some 5),.dh (.func 191) [] [(.t 4)],none⟩]
abbrev gw:AY:=(.seq [4] (.DT [⟨(some 6),.mv (.t 0),none⟩,
 ⟨(some 7),.mv (.t 1),none⟩,
 ⟨(some 8),.call 128 [(.t 6),(.t 7)],none⟩,
 ⟨(some 9),.call 192 [(.t 8)],none⟩])
 (.seq [4] (.DT [⟨none,.store 1 (.t 4) (.c (.b true)),none⟩])
 .ret))
def qm:Tryz.f127.body.bind (KN Tryz.prog Tryz.f127.ntmps [] [])=some (erase gy,oo,(.t 5),erase gw):=by kernel_rfl
def vF {args:List V} (hn:args.length≤10) {σ:AH} {Q:R→AH→Prop} (h:W Tryz.prog (.seq [0,1,4] gy (.DT oo)) (Ck (eY Tryz.prog (.t 5) [0,1,4] gw [.c 4 none] Q)) (BD 0 args) σ):A7 Tryz.prog 127 args σ Q:=
 IP Tryz.func127 (by kernel_rfl) qm (by kernel_rfl) hn (pX h)
def vE:=cX [] [11] Tryz.func128
def Xn:=Q9 [] [2] Tryz.func131
def vD:=cX [] [1] Tryz.func132
set_option maxRecDepth 100000
set_option maxHeartbeats 4000000
def vC:=cX [] [2,3] Tryz.func146
def vB:=Q9 [] [1] Tryz.func147
def vA:=cX [] [1] Tryz.func148
def u9:=cX [] [2,3] Tryz.func149
def u7:=cX [] [1] Tryz.func150
def u6:=Q9 [] [1] Tryz.func151
def u0:=Q9 [] [2,3] Tryz.func152
def uz:=Q9 [] [] Tryz.func153
def uy:=cX [] [1] Tryz.func155
def ux:=cX [] [1] Tryz.func156
def ga:=cX [] [6] Tryz.func157
def uw:=cX [] [] Tryz.func158
def uv:=cX [] [] Tryz.func160
def uu:=cX [] [2] Tryz.func163
def ur:=cX [] [2] Tryz.func164
def uq:=cX [] [2] Tryz.func165
def gZ:=cX [] [] Tryz.func166
def uo:=cX [] [] Tryz.func167
def um:=cX [] [2] Tryz.func168
def uj:=cX [] [2] Tryz.func169
def ui:=cX [] [] Tryz.func170
def uh:=cX [] [] Tryz.func171
def ug:=cX [] [2,3] Tryz.func172
def uf:=cX [] [] Tryz.func173
def ue:=cX [] [1] Tryz.func174
def ud:=cX [] [2] Tryz.func175
def gY:=cX [] [2,3] Tryz.func176
def uc:=cX [] [3] Tryz.func177
def ub:=cX [] [2] Tryz.func178
def ua:=cX [] [2] Tryz.func179
def uZ:=cX [] [1] Tryz.func180
def uY:=Q9 [] [] Tryz.func181
def uX:=cX [] [] Tryz.func182
def uW:=cX [] [] Tryz.func186
def uV:=cX [] [4,5,6] Tryz.func187
def uU:=cX [] [5] Tryz.func188
def uT:=cX [] [] Tryz.func189
def uS:=cX [] [] Tryz.func190
def om:List Av:=[⟨(some 5),.dd 260 (.a []) true (.t 4),none⟩,
    ⟨(some 3),.mv (.t 5),none⟩,
    ⟨(some 6),.extract 0 (.t 3),none⟩,
    ⟨(some 7),.extract 1 (.t 3),none⟩,
    ⟨(some 1),.alloc [],none⟩,
    ⟨none,.store 0 (.t 1) (.t 6),none⟩,
    ⟨(some 2),.mv (.t 7),none⟩]
abbrev gv:AY:=(.seq [0,8] (.DT [⟨(some 8),.mv (.t 2),none⟩])
 (.cond (.t 8)
 (.DT [⟨none,.store 1 (.t 0) (.c (.b false)),none⟩])
 .skip))
def ql:Tryz.f191.body.bind (resRec Tryz.prog Tryz.f191.ntmps [] [])=some (4,om,erase gv):=by kernel_rfl
def aK {args:List V} (hn:args.length≤9) {m:Option V} {σ:AH} {Q:AH→Prop} (h:W Tryz.prog (.seq [0,2] (.DT om) gv) (N6 Q) (put (some 4) (m.getD .Dv) (BD 0 args)) σ):HS Tryz.prog 191 args m σ Q:=
 Jm Tryz.func191 (by kernel_rfl) ql rfl hn (oU h)
def uR:=cX [] [] Tryz.func192
def uQ:=cX [] [3] Tryz.func193
set_option maxRecDepth 100000
set_option maxHeartbeats 4000000
def uP:=cX [] [3] Tryz.func194
def uO:=cX [] [3] Tryz.func195
def uN:=cX [] [3] Tryz.func196
def uM:=Q9 [] [] Tryz.func199
def gX:=cX [] [] Tryz.func200
def uL:=cX [] [] Tryz.func218
def uK:=cX [] [2] Tryz.func219
def uJ:=cX [] [2] Tryz.func220
def uI:=cX [] [1] Tryz.func221
def uH:=cX [] [1] Tryz.func222
def uG:=cX [] [1] Tryz.func223
def gW:=Q9 [] [1] Tryz.func224
def uF:=cX [] [2,3] Tryz.func225
def uE:=cX [] [7] Tryz.func226
def gV:=cX [] [2,3] Tryz.func227
def gU:=Q9 [] [5] Tryz.func228
def uD:=cX [] [4,5] Tryz.func229
def uC:=cX [] [] Tryz.func232
def uB:=cX [] [] Tryz.func233
def uA:=cX [] [3] Tryz.func234
def tz:=cX [] [] Tryz.func235
def tx:=cX [] [2,3] Tryz.func236
def tw:=cX [] [3,4] Tryz.func237
def tv:=cX [] [] Tryz.func239
def tu:=cX [] [] Tryz.func241
set_option maxRecDepth 100000
set_option maxHeartbeats 4000000
def tt:=cX [] [] Tryz.func242
def ts:=cX [] [] Tryz.func243
def tr:=cX [] [] Tryz.func244
def tq:=cX [] [] Tryz.func245
def gT:=cX [] [3] Tryz.func246
def gS:=cX [] [] Tryz.func247
def tp:=cX [] [3] Tryz.func248
def tn:=cX [] [2] Tryz.func249
def tl:=cX [] [4,5,6,7] Tryz.func250
def tk:=cX [] [3] Tryz.func251
def Xm:=cX [] [3] Tryz.func252
def tj:=cX [] [] Tryz.func253
def ti:=cX [] [2] Tryz.func254
def th:=cX [] [] Tryz.func255
def tg:=cX [] [2] Tryz.func256
def tf:=cX [] [] Tryz.func257
def te:=cX [] [] Tryz.func264
def td:=cX [] [] Tryz.func265
def tc:=cX [] [2] Tryz.func266
def gR:=cX [] [3] Tryz.func267
def tb:=cX [] [] Tryz.func268
def ta:=cX [] [3] Tryz.func269
def tZ:=cX [] [4] Tryz.func270
abbrev gx:AY:=(.DT [⟨(some 2),.alloc [(.b false)],none⟩])
def oj:List Av:=[⟨(some 3),.dh (.func 322) [] [(.t 2)],none⟩]
abbrev gu:AY:=(.seq [2] (.DT [⟨(some 4),.mv (.t 0),none⟩,
 ⟨(some 5),.JA (.t 4) [],none⟩])
 (.seq [2] (.DT [⟨none,.store 1 (.t 2) (.c (.b true)),none⟩])
 .ret))
def qj:Tryz.f280.body.bind (KN Tryz.prog Tryz.f280.ntmps [] [])=some (erase gx,oj,(.t 3),erase gu):=by kernel_rfl
def tY {args:List V} (hn:args.length≤6) {σ:AH} {Q:R→AH→Prop} (h:W Tryz.prog (.seq [0,2] gx (.DT oj)) (Ck (eY Tryz.prog (.t 3) [0,2] gu [.c 2 none] Q)) (BD 0 args) σ):A7 Tryz.prog 280 args σ Q:=
 IP Tryz.func280 (by kernel_rfl) qj (by kernel_rfl) hn (pX h)
def tX:=cX [] [] Tryz.func281
def tW:=cX [] [1] Tryz.func282
def gQ:=cX [] [] Tryz.func283
def tV:=cX [] [7] Tryz.func284
def tU:=cX [] [3,4,5] Tryz.func285
def tT:=cX [] [3,4] Tryz.func286
def tS:=cX [] [] Tryz.func287
def tR:=cX [] [1] Tryz.func288
def tQ:=cX [] [] Tryz.func289
set_option maxRecDepth 100000
set_option maxHeartbeats 4000000
def tP:=cX [] [1] Tryz.func290
def tN:=cX [] [] Tryz.func291
def tM:=cX [] [2] Tryz.func292
def gP:=cX [] [] Tryz.func293
def tL:=cX [] [] Tryz.func294
def tK:=Q9 [] [2,3] Tryz.func295
def tJ:=cX [] [] Tryz.func296
def tI:=cX [] [3,5] Tryz.func297
def tH:=cX [] [3] Tryz.func298
def gO:=cX [] [] Tryz.func301
def tG:=cX [] [2] Tryz.func302
def tF:=cX [] [] Tryz.func303
def tE:=cX [] [] Tryz.func304
def tD:=cX [] [] Tryz.func305
def tC:=cX [] [4] Tryz.func306
def tB:=cX [] [] Tryz.func307
def tA:=cX [] [2] Tryz.func308
def s9:=cX [] [] Tryz.func309
def s8:=cX [] [] Tryz.func313
def s7:=cX [] [] Tryz.func314
def s6:=cX [] [] Tryz.func315
def s5:=cX [] [2,3] Tryz.func316
def oh:List Av:=[⟨(some 1),.mv (.t 4),none⟩]
abbrev gr:AY:=(.seq [0,1,6] (.DT [⟨(some 5),.mv (.t 1),none⟩,
 ⟨(some 6),.dj 2 true (.t 5),none⟩])
 (.cond (.t 6)
 (.seq [0] (.seq [0,1,3] (.DT [⟨(some 8),.mv (.t 1),none⟩,
  ⟨(some 9),.dd 377 (.a []) true (.t 8),none⟩,
  ⟨(some 7),.mv (.t 9),none⟩,
  ⟨(some 10),.extract 0 (.t 7),none⟩,
  ⟨(some 11),.extract 1 (.t 7),none⟩,
  ⟨(some 2),.alloc [],none⟩,
  ⟨none,.store 0 (.t 2) (.t 10),none⟩,
  ⟨(some 3),.mv (.t 11),none⟩])
 (.seq [0,1,13] (.DT [⟨(some 12),.mv (.t 3),none⟩,
  ⟨(some 13),.not (.t 12),none⟩])
 (.cond (.t 13)
 (.DT [⟨(some 14),.mv (.t 1),none⟩,
  ⟨none,.panic (.t 14),none⟩])
 .skip)))
 (.DT [⟨none,.store 1 (.t 0) (.c (.b false)),none⟩]))
 .skip))
def qi:Tryz.f322.body.bind (resRec Tryz.prog Tryz.f322.ntmps [] [])=some (4,oh,erase gr):=by kernel_rfl
def aJ {args:List V} (hn:args.length≤15) {m:Option V} {σ:AH} {Q:AH→Prop} (h:W Tryz.prog (.seq [0,1] (.DT oh) gr) (N6 Q) (put (some 4) (m.getD .Dv) (BD 0 args)) σ):HS Tryz.prog 322 args m σ Q:=
 Jm Tryz.func322 (by kernel_rfl) qi rfl hn (oU h)
def s4:=cX [] [] Tryz.func323
def sy:=cX [] [] Tryz.func324
def sx:=cX [] [2] Tryz.func325
def sw:=cX [] [] Tryz.func326
def su:=cX [] [4] Tryz.func327
def gN:=cX [] [6] Tryz.func328
def sr:=cX [] [] Tryz.func329
def so:=cX [] [] Tryz.func330
def sm:=cX [] [] Tryz.func331
def sj:=cX [] [0] Tryz.func332
def sh:=cX [] [2] Tryz.func333
def sg:=cX [] [] Tryz.func336
def sf:=cX [] [] Tryz.func337
set_option maxRecDepth 100000
set_option maxHeartbeats 4000000
def se:=cX [] [] Tryz.func339
def sd:=cX [] [] Tryz.func349
def sc:=cX [] [] Tryz.func350
def sb:=cX [] [] Tryz.func352
def sa:=cX [] [] Tryz.func353
def sZ:=cX [] [] Tryz.func354
def sY:=cX [] [] Tryz.func355
def sX:=cX [] [] Tryz.func356
def sW:=Q9 [] [] Tryz.func366
def sV:=Q9 [] [3] Tryz.func367
def sU:=cX [] [] Tryz.func368
def sT:=cX [] [] Tryz.func376
def sS:=cX [] [0] Tryz.func377
def sR:=cX [] [] Tryz.func379
def gM:=cX [] [] Tryz.func380
def sQ:=cX [] [] Tryz.func381
def sP:=cX [] [] Tryz.func382
def sO:=cX [] [4,5] Tryz.func399
def sN:=cX [] [3,4,5] Tryz.func400
end Go.Gl
namespace Go.Gl
open Go.Proofs
attribute [local irreducible] A7 Ap Af AT AM Ae AS AU AL Ad AO AP Aw A1 Sat AX Az Ah W
def A2 (p:Prog):List (List Int):=p.AQ.map (·.parents)
def qO (p:Prog):Prop:=p.AQ.length≤Aj∧ ∀c∈p.AQ,c.parents.length≤Aj∧c.AK.length≤Aj∧c.inits.length≤Aj
def Zy (p:Prog) (hp:qO p) (hk0:p.AQ.length≤1000):Pure Tryz.prog 122 [.a (Be p)] (.l (E3 (A2 p)) false):=by
 refine vI kZ ?_
 conv=>whnf
 repeat((first|(refine Ar ?_;intro K U)|(refine Ab ?_;intro I C G F)|(apply G;clear F C G I)|refine Bi ?_|refine Dt ?_|(apply U;clear U K)|fail);conv=>whnf)
 refine C3 p.AQ.length (fun k v=>[(3,v),(4,eI (Bc k))]) (fun k v=>[.own v 1 (E3 ((p.AQ.take k).map (·.parents)))]) (fun _ _=>True) (.l [] true) rfl trivial (GV Sat.nil 1) ?_;rintro k v σ hk - hs
 conv=>whnf
 repeat((first|refine⟨rfl,?_⟩|refine Bw ?_|refine FO ?_|(refine Ar ?_;intro K U)|(refine Ab ?_;intro I C G F)|(apply G;clear F C G I)|refine Bq ?_|(apply U;clear U K)|fail);conv=>whnf)
 refine GZ hk hp.1 (fun c hc hlt=>?_) fun hk=>?_
 ·have hcm:=hp.2 c (DL hc)
  conv=>whnf
  repeat((first|refine Bw ?_|(refine Ar ?_;intro K U)|(refine Ab ?_;intro I C G F)|refine B2 ?_|refine Bi ?_|(apply U;clear U K)|fail);conv=>whnf)
  refine I3 hc hp.1 rfl ?_
  conv=>whnf
  repeat((first|refine Bw ?_|fail);conv=>whnf)
  refine sB DV (by have:=hcm.1;have hM:=Mx;omega) ?_
  conv=>whnf
  refine GC hs 0 (x:=c.parents) rfl (by have hM:=Mx;simp only[BT,Ny];omega) D5 fun v' σ' hs'=>?_
  conv=>whnf
  repeat((first|refine⟨rfl,?_⟩|(refine Ab ?_;intro I C G F)|(apply G;clear F C G I)|(apply U;clear U K)|(clear U K));conv=>whnf)
  refine⟨hlt,v',rfl,trivial,?_⟩;rw[Aa hc,Qn];exact hs'
 ·conv=>whnf
  repeat((first|(refine Ar ?_;intro K U)|(refine Ab ?_;intro I C G F)|(apply G;clear F C G I)|refine Du ?_|refine Dp ?_|(apply U;clear U K)|(clear U K));conv=>whnf)
  exact Ge hs 0 rfl (by rw[BI hk];rfl)
def BR (i:Nat):List Qm→List Int
 | []=>[]
 | c::r=>List.replicate c.AK.length ((i:Int)+3)++BR (i+1) r
def AR (p:Prog):AJ:=⟨A2 p,BR 0 p.AQ⟩
def Ik (i:Nat) (a b:List Qm):BR i (a++b)=BR i a++BR (i+a.length) b:=by
 induction a generalizing i with
 | nil=>simp[BR]
 | cons c r ih=>
   simp only[List.cons_append,BR,ih,W5,K1];rw[show i+1+r.length=i+(r.length+1) by omega]
def Bu (cs:List Qm):Nat:=(cs.map (·.AK.length)).sum
def Ce (i:Nat) (cs:List Qm):(BR i cs).length=Bu cs:=by
 induction cs generalizing i with
 | nil=>rfl
 | cons c r ih=>simp[BR,ih,Bu]
def QN {cs:List Qm} {k:Nat} {c:Qm} (h:cs[k]? =some c):Bu (cs.take k)+c.AK.length≤Bu cs:=by
 induction cs generalizing k with
 | nil=>cases h
 | cons d r ih=>
   cases k with
   | zero=>simp at h;subst h;simp[Bu]
   | succ k=>simp at h;have:=ih h;simp only[Bu,List.take_succ_cons,Ct,List.sum_cons]at *;omega
def OC (p:Prog) (hp:qO p) (hk0:p.AQ.length≤1000) (hm:Bu p.AQ≤Aj):Pure Tryz.prog 53 [.a (Be p)] (.a (BC (AR p))):=by
 refine xz kZ ?_
 conv=>whnf
 repeat((first|(refine Ar ?_;intro K U)|(refine Ab ?_;intro I C G F)|fail);conv=>whnf)
 intro n hn;have hs:=eP (l:=[]) (σ:=emp) Sat.nil hn (o:= .cs [.l [] true,.l [] true])
 conv=>whnf
 repeat((first|refine⟨kZ,?_⟩|refine Bw ?_|(refine Ar ?_;intro K U)|(refine Ab ?_;intro I C G F)|(apply G;clear F C G I)|(apply U;clear U K)|fail);conv=>whnf)
 refine(Zy p hp hk0).use ?_
 conv=>whnf
 intro m hm;have hs:=eP hs hm (o:= .cs [.l [] true,.l [] true])
 conv=>whnf
 refine H5 hs 1 rfl rfl rfl rfl (by decide) fun σ hs=>?_
 conv=>whnf
 repeat((first|(refine Ar ?_;intro K U)|(refine Ab ?_;intro I C G F)|(apply G;clear F C G I)|refine Bi ?_|refine Dt ?_|(apply U;clear U K)|fail);conv=>whnf)
 refine C3 p.AQ.length (fun k _=>[(4,eI (Bc k))]) (fun k v=>[.box n [.l [] true,.l [] true],.box m [.l (E3 (A2 p)) false,v],.own v 1 (iL (BR 0 (p.AQ.take k)))]) (fun _ _=>True) (.l [] true) rfl trivial (GV hs 1) ?_;rintro k v σ hk - hs
 conv=>whnf
 repeat((first|refine⟨rfl,?_⟩|refine Bw ?_|refine FO ?_|(refine Ar ?_;intro K U)|(refine Ab ?_;intro I C G F)|(apply G;clear F C G I)|refine Bq ?_|(apply U;clear U K)|fail);conv=>whnf)
 refine GZ hk hp.1 (fun c hc hlt=>?_) fun hk=>?_
 ·have hcm:=hp.2 c (DL hc)
  have htk:=QN hc
  conv=>whnf
  repeat((first|(refine Ar ?_;intro K U)|(refine Ab ?_;intro I C G F)|(apply G;clear F C G I)|refine B2 ?_|refine Bi ?_|refine Dt ?_|(apply U;clear U K)|fail);conv=>whnf)
  refine C3 c.AK.length (fun j _=>[(5,eI (Bc j))]) (fun j v=>[.box n [.l [] true,.l [] true],.box m [.l (E3 (A2 p)) false,v],.own v 1 (iL (BR 0 (p.AQ.take k)++List.replicate j ((k:Int)+3)))]) (fun _ _=>True) v rfl trivial (by simpa using hs) ?_;rintro j v σ hj - hs
  conv=>whnf
  repeat((first|refine Bw ?_|(refine Ar ?_;intro K U)|(refine Ab ?_;intro I C G F)|fail);conv=>whnf)
  refine I3 hc hp.1 rfl ?_
  conv=>whnf
  repeat((first|refine⟨rfl,?_⟩|refine Bw ?_|refine FO ?_|(apply G;clear F C G I)|refine Bq ?_|(apply U;clear U K)|fail);conv=>whnf)
  refine GZ hj hcm.2.1 (fun s hsl hjlt=>?_) fun hj=>?_
  ·conv=>whnf
   repeat((first|(refine Ar ?_;intro K U)|(refine Ab ?_;intro I C G F)|refine B2 ?_|refine Bi ?_|(apply U;clear U K)|fail);conv=>whnf)
   refine Y8 hs 1 rfl ?_
   conv=>whnf
   repeat((first|refine⟨rfl,?_⟩|fail);conv=>whnf)
   have he:IntKind.i64.wrap (Bc k+3)=(k:Int)+3:=by
    have:=hp.1;rw[AN (by omega),wrap64 (by omega) (by simp only[Aj]at *;omega)]
   refine GC hs 2 (x:=IntKind.i64.wrap (Bc k+3)) rfl (by have hM:=Mx;simp only[Qi,Ce,List.length_replicate];omega) DV fun v' σ' hs'=>?_
   conv=>whnf
   refine LR hs' 1 rfl (G9 hs' 2 rfl) kZ fun σ2 hs2=>?_
   conv=>whnf
   repeat((first|refine⟨rfl,?_⟩|(refine Ab ?_;intro I C G F)|(apply G;clear F C G I)|(apply U;clear U K)|(clear U K));conv=>whnf)
   refine⟨hjlt,v',rfl,trivial,?_⟩;rw[List.replicate_succ',←W5];rw[he]at hs2;exact hs2
  ·conv=>whnf
   repeat((first|refine⟨rfl,?_⟩|(refine Ab ?_;intro I C G F)|(apply G;clear F C G I)|refine Du ?_|(apply U;clear U K)|(clear U K));conv=>whnf)
   refine⟨hlt,v,rfl,trivial,?_⟩;rw[Aa hc,Ik];have:(p.AQ.take k).length=k:=by simp;omega
   rw[this];simpa[BR,hj]using hs
 ·conv=>whnf
  repeat((first|(refine Ar ?_;intro K U)|(refine Ab ?_;intro I C G F)|refine Du ?_|(apply U;clear U K)|(clear U K));conv=>whnf)
  refine Y8 hs 1 rfl ?_
  conv=>whnf
  repeat((first|refine⟨kZ,?_⟩|fail);conv=>whnf)
  refine H5 hs 0 rfl rfl rfl (by simp[G9 hs 2 rfl]) kZ fun σ2 hs2=>?_
  conv=>whnf
  repeat((first|(apply G;clear F C G I)|refine Dp ?_|(apply U;clear U K)|fail);conv=>whnf)
  refine Y8 hs2 0 rfl ?_
  conv=>whnf
  repeat((first|refine⟨kZ,?_⟩|fail);conv=>whnf)
  refine A8 (.a (.cons (.refl _) (.cons ?_ .nil)));have:=hs2.IV 2 rfl;rw[BI hk]at this;exact this
def gA (xs:List Int) (f:Bool) (x:Int) (hx:xs.length≤Aj):Pure Tryz.prog 296 [.l (iL xs) f,.i .i64 x] (.b (xs.contains x)):=by
 refine tJ kZ ?_
 conv=>whnf
 repeat((first|(refine Ar ?_;intro K U)|(refine Ab ?_;intro I C G F)|(apply G;clear F C G I)|refine Bi ?_|refine Dt ?_|(apply U;clear U K)|fail);conv=>whnf)
 refine C3 xs.length (fun k (_:Unit)=>[(5,eI (Bc k))]) (fun _ _=>[]) (fun k _=>x∉xs.take k) () rfl (by simp) Sat.nil ?_;rintro k - σ hk hn -
 conv=>whnf
 repeat((first|refine⟨rfl,?_⟩|refine FO ?_|(refine Ar ?_;intro K U)|(refine Ab ?_;intro I C G F)|(apply G;clear F C G I)|refine Bq ?_|(apply U;clear U K)|fail);conv=>whnf)
 refine GZ hk hx (fun y hy hlt=>?_) fun hk=>?_
 ·conv=>whnf
  repeat((first|(refine Ar ?_;intro K U)|(refine Ab ?_;intro I C G F)|refine B2 ?_|refine Bi ?_|(apply U;clear U K)|fail);conv=>whnf)
  refine I3 hy hx rfl ?_
  conv=>whnf
  repeat((first|refine⟨rfl,?_⟩|refine Bw ?_|(apply G;clear F C G I)|refine Bq ?_|(apply U;clear U K)|fail);conv=>whnf)
  refine Z5 (fun he=>?_) (fun he=>?_)
  ·conv=>whnf
   repeat((first|(refine Ar ?_;intro K U)|(refine Ab ?_;intro I C G F)|(apply G;clear F C G I)|refine Dp ?_|(apply U;clear U K)|(clear U K));conv=>whnf)
   refine AI ?_;have:x∈xs:=he ▸ DL hy;simp[this]
  ·conv=>whnf
   repeat((first|refine⟨rfl,?_⟩|(refine Ab ?_;intro I C G F)|(apply G;clear F C G I)|refine B2 ?_|(apply U;clear U K)|(clear U K));conv=>whnf)
   refine⟨hlt,(),rfl,?_,Sat.nil⟩;rw[Aa hy];simp only[FK,Nx,not_or];exact⟨hn,fun e=>he e.symm⟩
 ·conv=>whnf
  repeat((first|(refine Ar ?_;intro K U)|(refine Ab ?_;intro I C G F)|(apply G;clear F C G I)|refine Du ?_|refine Dp ?_|(apply U;clear U K)|(clear U K));conv=>whnf)
  refine AI ?_;rw[BI hk]at hn;simp[hn]
def Px (xs:List Int) (f:Bool) (x:Int) (hx:xs.length≤Aj):Pure Tryz.prog 355 [.l (iL xs) f,.i .i64 x] (.l (iL (xs.filter (· != x))) false):=by
 refine sY kZ ?_
 conv=>whnf
 repeat((first|(refine Ar ?_;intro K U)|(refine Ab ?_;intro I C G F)|(apply G;clear F C G I)|refine Bi ?_|refine Dt ?_|(apply U;clear U K)|fail);conv=>whnf)
 refine C3 xs.length (fun k v=>[(5,v),(6,eI (Bc k))]) (fun k v=>[.own v 1 (iL ((xs.take k).filter (· != x)))]) (fun _ _=>True) (.l [] true) rfl trivial (GV Sat.nil 1) ?_;rintro k v σ hk - hs
 conv=>whnf
 repeat((first|refine⟨rfl,?_⟩|refine FO ?_|(refine Ar ?_;intro K U)|(refine Ab ?_;intro I C G F)|(apply G;clear F C G I)|refine Bq ?_|(apply U;clear U K)|fail);conv=>whnf)
 refine GZ hk hx (fun y hy hlt=>?_) fun hk=>?_
 ·conv=>whnf
  repeat((first|(refine Ar ?_;intro K U)|(refine Ab ?_;intro I C G F)|refine B2 ?_|refine Bi ?_|(apply U;clear U K)|fail);conv=>whnf)
  refine I3 hy hx rfl ?_
  conv=>whnf
  repeat((first|refine⟨rfl,?_⟩|refine Bw ?_|(apply G;clear F C G I)|refine Bq ?_|(apply U;clear U K)|fail);conv=>whnf)
  refine nK (fun he=>?_) (fun he=>?_)
  ·conv=>whnf
   repeat((first|(refine Ab ?_;intro I C G F)|fail);conv=>whnf)
   refine I3 hy hx rfl ?_
   conv=>whnf
   repeat((first|refine Bw ?_|fail);conv=>whnf)
   refine GC hs 0 (x:=y) rfl (by have:=Q7 (· != x) (xs.take k);simp only[Ny]at this;have hM:=Mx;omega) DV fun v' σ' hs'=>?_
   conv=>whnf
   repeat((first|refine⟨rfl,?_⟩|(refine Ab ?_;intro I C G F)|(apply G;clear F C G I)|(apply U;clear U K)|(clear U K));conv=>whnf)
   refine⟨hlt,v',rfl,trivial,?_⟩;rw[Aa hy,List.filter_append];simpa[he]using hs'
  ·conv=>whnf
   repeat((first|refine⟨rfl,?_⟩|(refine Ab ?_;intro I C G F)|(apply G;clear F C G I)|refine B2 ?_|(apply U;clear U K)|(clear U K));conv=>whnf)
   refine⟨hlt,v,rfl,trivial,?_⟩;rw[Aa hy,List.filter_append];simpa[he]using hs
 ·conv=>whnf
  repeat((first|(refine Ar ?_;intro K U)|(refine Ab ?_;intro I C G F)|(apply G;clear F C G I)|refine Du ?_|refine Dp ?_|(apply U;clear U K)|(clear U K));conv=>whnf)
  exact Ge hs 0 rfl (by rw[BI hk])
def free (ls:List (List Int)) (x:Int):Bool:=ls.all fun l=> !(l.drop 1).contains x
def nJ (ls:List (List Int)) (f:Bool) (x:Int) (hl:ls.length≤Aj) (hls: ∀l∈ls,l.length≤Aj):Pure Tryz.prog 356 [.l (E3 ls) f,.i .i64 x] (.b (free ls x)):=by
 refine sX kZ ?_
 conv=>whnf
 repeat((first|(refine Ar ?_;intro K U)|(refine Ab ?_;intro I C G F)|(apply G;clear F C G I)|refine Bi ?_|refine Dt ?_|(apply U;clear U K)|fail);conv=>whnf)
 refine C3 ls.length (fun k (_:Unit)=>[(5,eI (Bc k))]) (fun _ _=>[]) (fun k _=> ∀l∈ls.take k,x∉l.drop 1) () rfl (by simp) Sat.nil ?_;rintro k - σ hk hn -
 conv=>whnf
 repeat((first|refine⟨rfl,?_⟩|refine FO ?_|(refine Ar ?_;intro K U)|(refine Ab ?_;intro I C G F)|(apply G;clear F C G I)|refine Bq ?_|(apply U;clear U K)|fail);conv=>whnf)
 refine GZ hk hl (fun y hy hlt=>?_) fun hk=>?_
 ·have hb:=hls _ (DL hy)
  have next:(x∉y.drop 1)→ ∀l∈ls.take (k+1),x∉l.drop 1:=fun hc l hm=>by
   rw[Aa hy]at hm;rcases FK.1 hm with hm|hm
   ·exact hn l hm
   ·rw[Nx.1 hm];exact hc
  conv=>whnf
  repeat((first|(refine Ar ?_;intro K U)|(refine Ab ?_;intro I C G F)|refine B2 ?_|refine Bi ?_|(apply U;clear U K)|fail);conv=>whnf)
  refine I3 hy hl rfl ?_
  conv=>whnf
  repeat((first|refine⟨rfl,?_⟩|refine Bw ?_|refine FO ?_|fail);conv=>whnf)
  refine⟨fun h=>?_,fun h=>?_⟩<;>(try rw[h])
  ·have hp:=of_decide_eq_true h
   simp only[BT]at hp
   conv=>whnf
   repeat((first|refine Mo ?_|fail);conv=>whnf)
   refine I3 hy hl rfl ?_
   conv=>whnf
   repeat((first|refine Mo ?_|refine Bw ?_|fail);conv=>whnf)
   refine VY 1 rfl (by omega) (fun _=>rfl) ?_
   conv=>whnf
   repeat((first|refine Mo ?_|fail);conv=>whnf)
   refine(gA _ _ _ (by rw[wJ];omega)).use ?_
   conv=>whnf
   repeat((first|(apply G;clear F C G I)|refine Bq ?_|(apply U;clear U K)|fail);conv=>whnf)
   refine⟨fun hc=>?_,fun hc=>?_⟩
   ·conv=>whnf
    repeat((first|(refine Ar ?_;intro K U)|(refine Ab ?_;intro I C G F)|(apply G;clear F C G I)|refine Dp ?_|(apply U;clear U K)|(clear U K));conv=>whnf)
    refine AI ?_
    have:free ls x=false:=by
     simp only[free,List.all_eq_false];exact⟨y,DL hy,by simpa using hc⟩
    rw[this]
   ·conv=>whnf
    repeat((first|refine⟨rfl,?_⟩|(refine Ab ?_;intro I C G F)|(apply G;clear F C G I)|refine B2 ?_|(apply U;clear U K)|(clear U K));conv=>whnf)
    exact⟨hlt,(),rfl,next (by simpa using hc),Sat.nil⟩
  ·have hp: ¬_:=of_decide_eq_false h
   simp only[BT]at hp
   conv=>whnf
   repeat((first|refine⟨rfl,?_⟩|refine TI ?_|(refine Ab ?_;intro I C G F)|(apply G;clear F C G I)|refine Bq ?_|refine B2 ?_|(apply U;clear U K)|(clear U K));conv=>whnf)
   refine⟨hlt,(),rfl,next ?_,Sat.nil⟩;rw[List.drop_eq_nil_of_le (by omega)];simp
 ·conv=>whnf
  repeat((first|(refine Ar ?_;intro K U)|(refine Ab ?_;intro I C G F)|(apply G;clear F C G I)|refine Du ?_|refine Dp ?_|(apply U;clear U K)|(clear U K));conv=>whnf)
  rw[BI hk]at hn;refine AI ?_;have:free ls x=true:=by simpa[free]using hn
  rw[this]
def A0 (ls:List (List Int)) (c:Int):List Int:=if c<3 then []else ls.getD (c - 3).toNat []
def YK (ls:List (List Int)) (f:Bool) (c:Int) (hc:c<3+ls.length) (hm:ls.length≤Aj):Pure Tryz.prog 354 [.l (E3 ls) f,.i .i64 c] (.l (iL (A0 ls c)) false):=by
 refine sZ kZ ?_
 conv=>whnf
 repeat((first|refine⟨rfl,?_⟩|(refine Ar ?_;intro K U)|(refine Ab ?_;intro I C G F)|(apply G;clear F C G I)|refine Bq ?_|(apply U;clear U K)|fail);conv=>whnf)
 refine fork (fun h=>?_) (fun h=>?_)
 ·conv=>whnf
  repeat((first|(refine Ar ?_;intro K U)|(refine Ab ?_;intro I C G F)|(apply G;clear F C G I)|refine Dp ?_|(apply U;clear U K)|(clear U K));conv=>whnf)
  refine A8 (.l (fun h=>(by cases h)) ?_);rw[A0,if_pos h];exact .nil
 ·conv=>whnf
  repeat((first|refine⟨rfl,?_⟩|(refine Ar ?_;intro K U)|(refine Ab ?_;intro I C G F)|refine B2 ?_|(apply U;clear U K)|fail);conv=>whnf)
  simp only[Aj]at hm;have hlt:(c - 3).toNat<ls.length:=by omega
  refine Ul (c - 3).toNat (EN hlt) (by rw[wrap64 (by omega) (by omega)];omega) rfl ?_
  conv=>whnf
  repeat((first|refine Bw ?_|(apply G;clear F C G I)|refine Dp ?_|(apply U;clear U K)|fail);conv=>whnf)
  refine AI ?_;rw[A0,if_neg h,D9,EN hlt];rfl
def EU (ls os:List (List Int)) (c:Int):Option (List (List Int)):=
 if(A0 ls c).any fun p=>(os.getD p.toNat []).isEmpty then none else some ((A0 ls c).map (fun p=>(os.getD p.toNat []).filter (· != 0))++[A0 ls c])
def xK (o:Option (List (List Int))):V:=match o with|some l=> .t [.l (E3 l) false,.b true]|none=> .t [.l [] false,.b false]
def jF (ls os:List (List Int)) (f:Bool) (w:V) (c:Int) (hc:c<3+ls.length) (hm:ls.length≤Aj) (hos: ∀o∈os,o.length≤Aj) (hpl:(A0 ls c).length<1000000)
    (hp: ∀p∈A0 ls c,0≤p∧p.toNat<os.length):B3 Tryz.prog 331 [.l (E3 ls) f,w,.i .i64 c] [.own w 1 (E3 os)] fun r post=>r= .ret (xK (EU ls os c))∧post= [.own w 1 (E3 os)]:=by
 have hM:=Mx;intro σ hs;refine sm kZ ?_
 conv=>whnf
 repeat((first|(refine Ar ?_;intro K U)|(refine Ab ?_;intro I C G F)|(apply G;clear F C G I)|(apply U;clear U K)|fail);conv=>whnf)
 refine(YK _ _ _ hc hm).use ?_
 conv=>whnf
 repeat((first|(refine Ar ?_;intro K U)|(refine Ab ?_;intro I C G F)|(apply G;clear F C G I)|refine Bi ?_|refine Dt ?_|(apply U;clear U K)|fail);conv=>whnf)
 refine C3 (A0 ls c).length (fun k v=>[(8,v),(10,eI (Bc k))]) (fun k v=>[.own w 1 (E3 os),.own v 1 (E3 (((A0 ls c).take k).map fun p=>(os.getD p.toNat []).filter (· != 0)))]) (fun k _=> ∀p∈(A0 ls c).take k,(os.getD p.toNat []).isEmpty=false)
  (.l [] true) rfl (by simp) (GV hs 1) ?_
 rintro k v σ hk hne hs
 conv=>whnf
 repeat((first|refine⟨rfl,?_⟩|refine FO ?_|(refine Ar ?_;intro K U)|(refine Ab ?_;intro I C G F)|(apply G;clear F C G I)|refine Bq ?_|(apply U;clear U K)|fail);conv=>whnf)
 refine GZ hk (by omega) (fun p hpk hlt=>?_) fun hk=>?_
 ·obtain ⟨hp0,hp1⟩:=hp _ (DL hpk)
  have hq:=EN hp1
  have hgd:os.getD p.toNat []=os[p.toNat]:=by
   rw[D9,hq];rfl
  have hqm:(E3 os)[p.toNat]? =some [.l (iL os[p.toNat]) false]:=by rw[Q8,hq];rfl
  conv=>whnf
  repeat((first|(refine Ar ?_;intro K U)|(refine Ab ?_;intro I C G F)|refine B2 ?_|refine Bi ?_|(apply U;clear U K)|fail);conv=>whnf)
  refine I3 hpk (by omega) rfl ?_
  conv=>whnf
  repeat((first|refine Bw ?_|fail);conv=>whnf)
  refine kX hs 0 p.toNat rfl (by omega) (by simpa using hp1) ?_
  conv=>whnf
  refine ID hs 0 rfl hqm ?_
  conv=>whnf
  repeat((first|refine⟨rfl,?_⟩|refine FO ?_|(apply G;clear F C G I)|refine Bq ?_|(apply U;clear U K)|fail);conv=>whnf)
  refine Z5 (fun he=>?_) (fun he=>?_)
  ·conv=>whnf
   repeat((first|(refine Ar ?_;intro K U)|(refine Ab ?_;intro I C G F)|(apply G;clear F C G I)|refine Dp ?_|(apply U;clear U K)|(clear U K));conv=>whnf)
   have hn:EU ls os c=none:=by
    simp only[EU];rw[if_pos];rw[JR];refine⟨p,DL hpk,?_⟩;rw[hgd];have:(os[p.toNat]).length=0:=by simpa using he
    simp[W4.1 this]
   rw[hn];exact A4 (l':=[.own w 1 (E3 os)]) hs (by simp) (.t (.cons (.l (fun h=>(by cases h)) .nil) (.cons (.refl _) .nil))) fun σ' hs'=>⟨_,⟨rfl,rfl⟩,hs'⟩
  ·conv=>whnf
   repeat((first|(refine Ab ?_;intro I C G F)|refine B2 ?_|(apply U;clear U K)|fail);conv=>whnf)
   refine I3 hpk (by omega) rfl ?_
   conv=>whnf
   repeat((first|refine Bw ?_|fail);conv=>whnf)
   refine kX hs 0 p.toNat rfl (by omega) (by simpa using hp1) ?_
   conv=>whnf
   refine ID hs 0 rfl hqm ?_
   conv=>whnf
   refine(Px _ _ _ (hos _ (List.getElem_mem hp1))).use ?_
   conv=>whnf
   refine GC hs 1 (x:=os[p.toNat].filter (· != 0)) rfl (by have hM:=Mx;simp;omega) D5 fun v' σ' hs'=>?_
   conv=>whnf
   repeat((first|refine⟨rfl,?_⟩|(refine Ab ?_;intro I C G F)|(apply G;clear F C G I)|(apply U;clear U K)|(clear U K));conv=>whnf)
   refine⟨hlt,v',rfl,fun q hm=>?_,?_⟩
   ·rw [Aa hpk]at hm
    rcases FK.1 hm with hm|hm
    ·exact hne q hm
    ·rw[Nx.1 hm,hgd]
     have:(os[p.toNat]).length≠0:=by
      intro e;exact he (by simp[e])
     cases hq:os[p.toNat]with
     | nil=>rw[hq]at this;exact absurd rfl this
     | cons _ _=>rfl
   ·rw[Aa hpk,Qn,List.map_singleton,hgd]
    exact hs'
 ·rw[BI hk]at hne hs
  conv=>whnf
  repeat((first|(refine Ar ?_;intro K U)|(refine Ab ?_;intro I C G F)|refine Du ?_|(apply U;clear U K)|(clear U K));conv=>whnf)
  refine GC hs 1 (x:=A0 ls c) rfl (by have hM:=Mx;simp;omega) D5 fun v' σ' hs'=>?_
  conv=>whnf
  repeat((first|(apply G;clear F C G I)|refine Dp ?_|(apply U;clear U K)|fail);conv=>whnf)
  have hn:EU ls os c=some ((A0 ls c).map (fun p=>(os.getD p.toNat []).filter (· != 0))++[A0 ls c]):=by
   simp only[EU];rw[if_neg];rw[JR];rintro⟨p,h1,h2⟩;rw[hne p h1]at h2;cases h2
  rw[hn];obtain⟨σ2,h1,h2,h3⟩:=NX hs' 1 rfl;exact Jc h1 (.t (.cons h2 (.cons (.refl _) .nil))) ⟨_,⟨rfl,rfl⟩,h3⟩
def pick (ls:List (List Int)):Option Int:=(ls.find? fun l=>match l with| []=>false|x::_=>free ls x).bind List.head?
def total (ls:List (List Int)):Nat:=(ls.map List.length).sum
def DU:Nat→List (List Int)→List Int→List Int×Bool
 | 0,ls,out=>(out,ls.all List.isEmpty)
 | n+1,ls,out=>match pick ls with
   | none=>(out,ls.all List.isEmpty)
   | some x=>DU n (ls.map fun l=>l.filter (· != x)) (out++[x])
def CM (ls:List (List Int)):List Int×Bool:=DU (total ls) ls []
def IG {ls:List (List Int)} {x:Int} (h:pick ls=some x):total (ls.map fun l=>l.filter (· != x))<total ls:=by
 unfold pick at h;rw[Option.bind_eq_some_iff]at h;obtain⟨l,h1,h2⟩:=h;have hm:=List.mem_of_find?_eq_some h1;clear h1;cases l with
 | nil=>cases h2
 | cons y r=>
   simp only[List.head?_cons,IU]at h2;subst h2
   have hle: ∀ls:List (List Int),total (ls.map fun l=>l.filter (· != y))≤total ls:=fun ls=>by
    induction ls with
    | nil=>simp[total]
    | cons a bs ih=>
      have:=Q7 (· != y) a;simp only[total,Ct,List.sum_cons]at *;omega
   induction ls with
   | nil=>cases hm
   | cons a bs ih=>
     rcases F7.1 hm with rfl|hm
     ·have h1:=hle bs
      have h2:=Q7 (· != y) r;simp only[total,Ct,List.sum_cons]at *;have:((y::r).filter (· != y)).length≤r.length:=by simpa using h2
      simp only[K1];omega
     ·have h1:=ih hm
      have h2:=Q7 (· != y) a;simp only[total,Ct,List.sum_cons]at *;omega
def MQ (ls:List (List Int)):Prop:=ls.length≤1000000∧ ∀l∈ls,l.length≤Aj∧ ∀x∈l,0≤x
def MQ.filter {ls:List (List Int)} (h:MQ ls) (x:Int):MQ (ls.map fun l=>l.filter (· != x)):=by
 refine⟨by rw[BT];exact h.1,fun l hl=>?_⟩;obtain⟨l',hl',rfl⟩:=KE.1 hl;obtain⟨h1,h2⟩:=h.2 l' hl';exact⟨Nat.le_trans (Q7 _ _) h1,fun y hy=>h2 y (JS.1 hy).1⟩
def D1 (ls:List (List Int)) (k:Nat):Int:=((((ls.take k).find? fun l=>match l with| []=>false|x::_=>free ls x).bind List.head?).getD (-1))
def We : ∀ (n:Nat) (ls:List (List Int)) (out:List Int),total ls≤n→DU n ls out=DU (total ls) ls out:=by
 intro n
 induction n using Nat.strongRecOn with
 | _ n ih=>
   intro ls out hn;by_cases he:total ls=n
   ·rw[he]
   ·cases n with
    | zero=>omega
    | succ n=>
      cases hp:pick ls with
      | none=>
        cases ht:total ls with
        | zero=>simp[DU,hp]
        | succ m=>simp[DU,hp]
      | some x=>
        have h1:=IG hp;cases ht:total ls with
        | zero=>omega
        | succ m=>
          simp only[DU,hp];rw[ih n (by omega) _ _ (by omega),ih m (by omega) _ _ (by omega)]
def Nl {ls:List (List Int)} {x:Int} {out:List Int} (hp:pick ls=some x):DU (total ls) ls out=DU (total (ls.map fun l=>l.filter (· != x))) (ls.map fun l=>l.filter (· != x)) (out++[x]):=by
 have h1:=IG hp;cases ht:total ls with
 | zero=>omega
 | succ m=>
   simp only[DU,hp];exact We m _ _ (by omega)
def QL {ls:List (List Int)} {out:List Int} (hp:pick ls=none):DU (total ls) ls out=(out,ls.all List.isEmpty):=by
 cases ht:total ls with
 | zero=>rfl
 | succ m=>simp only[DU,hp]
def FQ (ls:List (List Int)) (l:List Int):Bool:=match l with| []=>false|x::_=>free ls x
def Hm (ls:List (List Int)) (k:Nat):D1 ls k=(((ls.take k).find? (FQ ls)).bind List.head?).getD (-1):=rfl
def IK {ls:List (List Int)} (hok:MQ ls) {k:Nat} (h:D1 ls k<0):(ls.take k).find? (FQ ls)=none:=by
 rw[Hm]at h;cases hf:(ls.take k).find? (FQ ls)with
 | none=>rfl
 | some l=>
   rw[hf]at h;have hm:=List.mem_of_mem_take (List.mem_of_find?_eq_some hf);have hg:=List.find?_some hf;cases l with
   | nil=>cases hg
   | cons x r=>
     have:=(hok.2 _ hm).2 x (.head _);simp at h;omega
def Wc {ls:List (List Int)} (hok:MQ ls) {k:Nat} (hk:k<ls.length) (h:D1 ls k<0):D1 ls (k+1)=if FQ ls ls[k]then(ls[k].head?).getD (-1)else -1:=by
 rw[Hm,List.take_succ_eq_append_getElem hk,List.find?_append,IK hok h];by_cases hg:FQ ls ls[k]=true
 ·simp[hg]
 ·simp[hg]
def QA {ls:List (List Int)} {k:Nat} (h:0≤D1 ls k):pick ls=some (D1 ls k):=by
 rw[Hm]at *;show((ls.find? (FQ ls)).bind List.head?)=_;cases hf:(ls.take k).find? (FQ ls)with
 | none=>rw[hf]at h;simp at h
 | some l=>
   have h1:ls.find? (FQ ls)=some l:=by
    have:=List.take_append_drop k ls;rw[←this,List.find?_append,this,hf];rfl
   rw[h1];rw[hf]at h;cases l with
   | nil=>simp at h
   | cons x r=>simp
def JL {ls:List (List Int)} (hok:MQ ls) {k:Nat} {l:List Int} (hl:ls[k]? =some l) (h:D1 ls k<0):D1 ls (k+1)=if FQ ls l then(l.head?).getD (-1)else -1:=by
 obtain⟨hk,rfl⟩:=MK.1 hl;exact Wc hok hk h
def bS {ls:List (List Int)} {l:List Int} (h:l∈ls):l.length≤total ls:=by
 induction ls with
 | nil=>cases h
 | cons a r ih=>
   simp only[total,Ct,List.sum_cons]at *;rcases F7.1 h with rfl|h
   ·omega
   ·have:=ih h;omega
def jB (ls:List (List Int)) (f:Bool) (hok:MQ ls) (ht:total ls<Aj):Pure Tryz.prog 332 [.l (E3 ls) f] (.t [.l (iL (CM ls).1) false,.b (CM ls).2]):=by
 have hM:=Mx;refine sj kZ ?_
 conv=>whnf
 repeat((first|(refine Ar ?_;intro K U)|(refine Ab ?_;intro I C G F)|(apply G;clear F C G I)|refine Bi ?_|refine Dt ?_|(apply U;clear U K)|fail);conv=>whnf)
 refine KI (fun(x:List (List Int)×Bool×V×List Int)=>total x.1) (fun x=>[(0,.l (E3 x.1) x.2.1),(4,x.2.2.1)]) (fun x=>[.own x.2.2.1 1 (iL x.2.2.2)])
  (fun x=>MQ x.1∧x.2.2.2.length+total x.1≤total ls∧DU (total x.1) x.1 x.2.2.2=CM ls) (ls,f,.l [] true,[]) rfl ⟨hok,by simp,rfl⟩ (GV Sat.nil 1) ?_
 rintro⟨ls',f',v,out⟩ σ ⟨hok',hlen,hm⟩ hs;dsimp only at hok' hlen hm hs;have hlm:ls'.length≤Aj:=by have:=hok'.1;omega
 conv=>whnf
 repeat((first|(refine Ar ?_;intro K U)|(refine Ab ?_;intro I C G F)|(apply G;clear F C G I)|refine Bi ?_|refine Dt ?_|(apply U;clear U K)|fail);conv=>whnf)
 have hJ :=RI U (fun(y:Int×Bool)=>[(5,.i .i64 y.1),(6,.b y.2)]) (fun _=>[.own v 1 (iL out)]) (fun y=>(0≤y.1∧pick ls'=some y.1)∨(y.1<0∧pick ls'=none∧y.2=ls'.any fun l=> !l.isEmpty))
  [(0,.l (E3 ls') f'),(4,v),(5,.pn),(6,.pn)] (by
  rintro⟨nx,lf⟩ σ hor hs;dsimp only at hor
  conv=>whnf
  repeat((first|refine⟨rfl,?_⟩|(refine Ar ?_;intro K U)|(refine Ab ?_;intro I C G F)|(apply G;clear F C G I)|refine Bq ?_|(apply U;clear U K)|fail);conv=>whnf)
  refine fork (fun hneg=>?_) (fun hneg=>?_)
  ·conv=>whnf
   repeat((first|(refine Ar ?_;intro K U)|(refine Ab ?_;intro I C G F)|(apply G;clear F C G I)|refine Dp ?_|(apply U;clear U K)|(clear U K));conv=>whnf)
   rcases hor with⟨h0,_⟩|⟨_,hp,rfl⟩
   ·omega
   ·rw[QL hp]at hm
    refine A8 ?_;rw[←hm];refine .t (.cons (hs.IV 0 rfl) (.cons ?_ .nil));have:(!ls'.any fun l=> !l.isEmpty)=ls'.all List.isEmpty:=by simp[List.all_eq_not_any_not]
    rw[←this];exact .refl _
  ·conv=>whnf
   repeat((first|(refine Ar ?_;intro K U)|(refine Ab ?_;intro I C G F)|refine B2 ?_|(apply U;clear U K)|fail);conv=>whnf)
   rcases hor with⟨_,hp⟩|⟨h0,_⟩
   ·have hlt:=IG hp
    refine GC hs 0 (x:=nx) rfl (by omega) DV fun v' σ hs=>?_
    conv=>whnf
    repeat((first|(refine Ar ?_;intro K U)|(refine Ab ?_;intro I C G F)|(apply G;clear F C G I)|refine Bi ?_|refine Dt ?_|(apply U;clear U K)|fail);conv=>whnf)
    refine C3 ls'.length (fun k u=>[(8,u),(9,eI (Bc k))]) (fun k u=>[.own v' 1 (iL (out++[nx])),.own u 1 (E3 ((ls'.take k).map fun l=>l.filter (· != nx)))]) (fun _ _=>True) (.l [] true) rfl trivial (GV hs 1) ?_;rintro k u σ hk - hs
    conv=>whnf
    repeat((first|refine⟨rfl,?_⟩|refine FO ?_|(refine Ar ?_;intro K U)|(refine Ab ?_;intro I C G F)|(apply G;clear F C G I)|refine Bq ?_|(apply U;clear U K)|fail);conv=>whnf)
    refine GZ hk hlm (fun l hl hlt'=>?_) fun hk=>?_
    ·conv=>whnf
     repeat((first|(refine Ar ?_;intro K U)|(refine Ab ?_;intro I C G F)|refine B2 ?_|refine Bi ?_|(apply U;clear U K)|fail);conv=>whnf)
     refine I3 hl hlm rfl ?_
     conv=>whnf
     repeat((first|refine Bw ?_|fail);conv=>whnf)
     refine(Px _ _ _ (hok'.2 _ (DL hl)).1).use ?_
     conv=>whnf
     refine GC hs 1 (x:=l.filter (· != nx)) rfl (by have:=hok'.1;simp;omega) D5 fun u' σ' hs'=>?_
     conv=>whnf
     repeat((first|refine⟨rfl,?_⟩|(refine Ab ?_;intro I C G F)|(apply G;clear F C G I)|(apply U;clear U K)|(clear U K));conv=>whnf)
     refine⟨hlt',u',rfl,trivial,?_⟩;rw[Aa hl,Qn];exact hs'
    ·rw[BI hk]at hs
     conv=>whnf
     repeat((first|(refine Ab ?_;intro I C G F)|refine Du ?_|(apply U;clear U K)|(clear U K));conv=>whnf)
     refine qL hs 1 rfl fun σ' hs'=>?_
     conv=>whnf
     repeat((first|(apply G;clear F C G I)|fail);conv=>whnf)
     refine⟨(ls'.map fun l=>l.filter (· != nx),false,v',out++[nx]),hlt,rfl,⟨hok'.filter nx,by simp;omega,?_⟩,hs'⟩;rw[←Nl hp];exact hm
   ·omega)
 clear U
 ·refine C3 ls'.length (fun k (_:Unit)=>[(5,.i .i64 (D1 ls' k)),(6,.b ((ls'.take k).any fun l=> !l.isEmpty)),(7,eI (Bc k))]) (fun _ _=>[.own v 1 (iL out)]) (fun _ _=>True) () rfl trivial hs ?_
  rintro k - σ hk - hs
  conv=>whnf
  repeat((first|refine⟨rfl,?_⟩|refine FO ?_|(refine Ar ?_;intro K U)|(refine Ab ?_;intro I C G F)|fail);conv=>whnf)
  refine⟨fun h=>?_,fun h=>?_⟩<;>(try rw[h])
  ·have hlt:=of_decide_eq_true h
   rw[AN (by have:=hok'.1;omega)]at hlt;have hlt:=fm hlt;have hl:=EN hlt;have hb:=hok'.2 _ (List.getElem_mem hlt);generalize ls'[k]=l at *
   conv=>whnf
   repeat((first|refine⟨rfl,?_⟩|refine Mo ?_|(apply G;clear F C G I)|refine Bq ?_|(apply U;clear U K)|fail);conv=>whnf)
   refine fork (fun hneg=>?_) (fun hneg=>?_)
   ·conv=>whnf
    repeat((first|(refine Ar ?_;intro K U)|(refine Ab ?_;intro I C G F)|refine B2 ?_|refine Bi ?_|(apply U;clear U K)|fail);conv=>whnf)
    refine I3 hl hlm rfl ?_
    conv=>whnf
    repeat((first|refine⟨rfl,?_⟩|refine Bw ?_|refine FO ?_|(apply G;clear F C G I)|refine Bq ?_|(apply U;clear U K)|fail);conv=>whnf)
    refine fork (fun hp=>?_) (fun hp=>?_)
    ·simp only[BT]at hp
     obtain⟨x,r,rfl⟩: ∃x r,l=x::r:=by cases l with
      | nil=>simp at hp
      | cons x r=>exact⟨x,r,rfl⟩
     have hany:((ls'.take (k+1)).any fun l=> !l.isEmpty)=true:=by
      rw[Aa hl];simp
     conv=>whnf
     repeat((first|(refine Ar ?_;intro K U)|(refine Ab ?_;intro I C G F)|(apply G;clear F C G I)|(apply U;clear U K)|fail);conv=>whnf)
     refine I3 hl hlm rfl ?_
     conv=>whnf
     repeat((first|refine Bw ?_|fail);conv=>whnf)
     refine Ul 0 rfl rfl rfl ?_
     conv=>whnf
     repeat((first|refine Bw ?_|fail);conv=>whnf)
     refine(nJ _ _ _ hlm fun l hl=>(hok'.2 l hl).1).use ?_
     conv=>whnf
     repeat((first|(apply G;clear F C G I)|refine Bq ?_|(apply U;clear U K)|fail);conv=>whnf)
     refine⟨fun hf=>?_,fun hf=>?_⟩
     ·conv=>whnf
      repeat((first|(refine Ab ?_;intro I C G F)|fail);conv=>whnf)
      refine I3 hl hlm rfl ?_
      conv=>whnf
      repeat((first|refine Bw ?_|fail);conv=>whnf)
      refine Ul 0 rfl rfl rfl ?_
      conv=>whnf
      repeat((first|refine⟨rfl,?_⟩|refine Bw ?_|(refine Ab ?_;intro I C G F)|(apply G;clear F C G I)|(apply U;clear U K)|fail);conv=>whnf)
      refine⟨hlt,(),?_,trivial,hs⟩;have:D1 ls' (k+1)=x:=by rw[JL hok' hl hneg];simp[FQ,hf]
      dsimp only;rw[this,hany];rfl
     ·conv=>whnf
      repeat((first|refine⟨rfl,?_⟩|(refine Ab ?_;intro I C G F)|(apply G;clear F C G I)|refine B2 ?_|(apply U;clear U K)|fail);conv=>whnf)
      refine⟨hlt,(),?_,trivial,hs⟩;have:D1 ls' (k+1)=D1 ls' k:=by rw[JL hok' hl hneg,Hm ls' k,IK hok' hneg];simp[FQ,hf]
      dsimp only;rw[this,hany];rfl
    ·simp only[BT]at hp
     obtain rfl:l= []:=W4.1 (by omega)
     conv=>whnf
     repeat((first|refine⟨rfl,?_⟩|(refine Ab ?_;intro I C G F)|(apply G;clear F C G I)|refine B2 ?_|(apply U;clear U K)|fail);conv=>whnf)
     refine⟨hlt,(),?_,trivial,hs⟩;have:D1 ls' (k+1)=D1 ls' k:=by rw[JL hok' hl hneg,Hm ls' k,IK hok' hneg];simp[FQ]
     have hany:((ls'.take (k+1)).any fun l=> !l.isEmpty)=((ls'.take k).any fun l=> !l.isEmpty):=by
      rw[Aa hl,List.any_append];simp
     dsimp only;rw[this,hany];rfl
   ·conv=>whnf
    repeat((first|refine Du ?_|(clear U K));conv=>whnf)
    refine hJ (D1 ls' k,(ls'.take k).any fun l=> !l.isEmpty) _ _ rfl (.inl ⟨by omega,?_⟩) hs;exact QA (by omega)
  ·have hlt:=of_decide_eq_false h
   rw[AN (by have:=hok'.1;omega)]at hlt;have hke:=aE hk hlt
   conv=>whnf
   repeat((first|refine TI ?_|(apply G;clear F C G I)|refine Bq ?_|refine Du ?_|(apply U;clear U K)|(clear U K));conv=>whnf)
   refine hJ (D1 ls' k,(ls'.take k).any fun l=> !l.isEmpty) _ _ rfl ?_ hs;rw[BI hke];by_cases h0:0≤D1 ls' k
   ·exact .inl ⟨h0,QA h0⟩
   ·refine .inr ⟨by omega,?_,rfl⟩
    have:=IK hok' (k:=k) (by omega);rw[BI hke]at this;show((ls'.find? (FQ ls')).bind List.head?)=none;rw[this];rfl
def ED (g os:List (List Int)) (c:Int):List Int:=
 match EU g os c with
 | none=>[]
 | some l=>if(CM l).2 then [c]++(CM l).1++[0]else []
def Bh (g:List (List Int)):Nat→List (List Int)
 | 0=>[[0]]
 | k+1=>Bh g k++[ED g (Bh g k) ((k:Int)+1)]
def CC (g:List (List Int)):List (List Int):=Bh g (2+g.length)
def Ib (g:List (List Int)):Prop:=g.length≤16∧ ∀(i:Nat) (l:List Int),g[i]? =some l→l.length≤3∧l.Nodup∧ ∀c∈l,(3:Int)≤c∧c<3+(i:Int)
def Cn (g:List (List Int)): ∀k,(Bh g k).length=k+1
 | 0=>rfl
 | k+1=>by simp[Bh,Cn g k]
def IM: ∀(n:Nat) (ls:List (List Int)) (out:List Int),(DU n ls out).1.length≤out.length+n
 | 0,ls,out=>by simp[DU]
 | n + 1,ls,out=>by
   simp only[DU];split
   ·simp
   ·rename_i x _
    have:=IM n (ls.map fun l=>l.filter (· != x)) (out++[x]);simp only[Qi,List.length_singleton]at this;refine Nat.le_trans this ?_;omega
def Wb {ls:List (List Int)} (h: ∀l∈ls,∀x∈l,(0:Int)≤x) {x:Int} (hp:pick ls=some x):0≤x:=by
 unfold pick at hp;rw[Option.bind_eq_some_iff]at hp;obtain⟨l,h1,h2⟩:=hp;have hm:=List.mem_of_find?_eq_some h1;cases l with
 | nil=>cases h2
 | cons y r=>cases h2;exact h _ hm _ (.head _)
def J9: ∀(n:Nat) (ls:List (List Int)) (out:List Int),(∀l∈ls,∀x∈l,(0:Int)≤x)→(∀x∈out,(0:Int)≤x)→ ∀x∈(DU n ls out).1,(0:Int)≤x
 | 0,ls,out,_,h2=>h2
 | n + 1,ls,out,h1,h2=>by
   simp only[DU];split
   ·exact h2
   ·rename_i y hy
    refine J9 n _ _ (fun l hl x hx=>?_) fun x hx=>?_
    ·obtain⟨l',hl',rfl⟩:=KE.1 hl
     exact h1 _ hl' _ (JS.1 hx).1
    ·rcases FK.1 hx with hx|hx
     ·exact h2 x hx
     ·rw[Nx.1 hx];exact Wb h1 hy
def Dk {g:List (List Int)} (hg:Ib g) {c p:Int} (hp:p∈A0 g c):3≤p∧p<c:=by
 unfold A0 at hp;split at hp
 ·cases hp
 ·rename_i hc
  rw[D9]at hp;cases hq:g[(c - 3).toNat]? with
  | none=>rw[hq]at hp;cases hp
  | some l=>
    rw[hq]at hp;obtain⟨_,_,h⟩:=hg.2 _ _ hq;have:=h p hp;omega
def DG {g:List (List Int)} (hg:Ib g) (c:Int):(A0 g c).length≤3:=by
 unfold A0;split
 ·simp
 ·rw[D9]
  cases hq:g[(c - 3).toNat]? with
  | none=>simp
  | some l=>exact(hg.2 _ _ hq).1
def G6 {g os:List (List Int)} {c:Int} {ls:List (List Int)} (h:EU g os c=some ls):ls=(A0 g c).map (fun p=>(os.getD p.toNat []).filter (· != 0))++[A0 g c]:=by
 unfold EU at h;split at h
 ·cases h
 ·exact(Option.some.inj h).symm
def Vz {os:List (List Int)} {B:Nat} (h: ∀o∈os,o.length≤B) (n:Nat):(os.getD n []).length≤B:=by
 rw[D9];cases hq:os[n]? with
 | none=>simp
 | some l=>exact h _ (DL hq)
def Pf {os:List (List Int)} {Q:Int→Prop} (h: ∀o∈os,∀x∈o,Q x) (n:Nat): ∀x∈os.getD n [],Q x:=by
 rw[D9];cases hq:os[n]? with
 | none=>simp
 | some l=>exact h _ (DL hq)
def Fm {g os:List (List Int)} {c:Int} {ls:List (List Int)} (h:EU g os c=some ls) {B:Nat} (Z: ∀o∈os,o.length≤B):total ls≤(A0 g c).length*(B+1):=by
 rw[G6 h];simp only[total,Qn,List.map_map,List.sum_append,Ct,List.map_nil,List.sum_cons,List.sum_nil,Nat.add_zero]
 have: ∀ps:List Int,(ps.map (List.length∘fun p=>(os.getD p.toNat []).filter (· != 0))).sum≤ps.length*B:=fun ps=>by
  induction ps with
  | nil=>simp
  | cons p r ih=>
    simp only[Ct,List.sum_cons,Function.comp,K1,Nat.succ_mul];have h1:=Q7 (· != 0) (os.getD p.toNat []);have h2:=Vz Z p.toNat;simp only[Function.comp_def]at *;omega
 have:=this (A0 g c);rw[Nat.mul_add,Nat.mul_one];simp only[Function.comp_def]at *;omega
def Wd {g os:List (List Int)} {c:Int} {B:Nat} (Z: ∀o∈os,o.length≤B):(ED g os c).length≤(A0 g c).length*(B+1)+2:=by
 unfold ED;split
 ·simp
 ·rename_i ls h
  have h1:=Fm h Z;have h2:=IM (total ls) ls [];simp only[List.length_nil,G7]at h2;split
  ·simp only[Qi,List.length_singleton,CM]
   omega
  ·simp
def Qh {g os:List (List Int)} {c:Int} (hg:Ib g) (hc:0≤c) (h: ∀o∈os,∀x∈o,(0:Int)≤x): ∀x∈ED g os c,0≤x:=by
 unfold ED;split
 ·simp
 ·rename_i ls hl
  split
  ·intro x hx
   have hls: ∀l∈ls,∀x∈l,(0:Int)≤x:=by
    rw[G6 hl];intro l hl x hx;rcases FK.1 hl with hl|hl
    ·obtain⟨p,_,rfl⟩:=KE.1 hl
     exact Pf h p.toNat x (JS.1 hx).1
    ·rw[Nx.1 hl]at hx
     have:=Dk hg hx;omega
   simp only[FK,Nx]at hx;rcases hx with(rfl|hx)|rfl
   ·exact hc
   ·exact J9 _ _ _ hls (by simp) x hx
   ·exact Int.le_refl _
  ·simp
def I1 (k:Nat):Nat:=5*3 ^ (k - 3) - 3
def qz (n:Nat):1≤3 ^ n:=Nat.one_le_pow _ _ (by omega)
def IT {g : List (List Int)} (hg:Ib g): ∀(k:Nat),∀o∈Bh g k,o.length≤I1 k∧ ∀x∈o,(0:Int)≤x
 | 0,o,ho=>by
   simp only[Bh,Nx]at ho;subst ho;simp[I1]
 | k + 1,o,ho=>by
   have ih:=IT hg k
   have hmono:I1 k≤I1 (k+1):=by
    unfold I1;have:3 ^ (k - 3)≤3 ^ (k+1 - 3):=Nat.pow_le_pow_right (by omega) (by omega);omega
   simp only[Bh,FK,Nx]at ho;rcases ho with ho|rfl
   ·exact⟨Nat.le_trans (ih o ho).1 hmono,(ih o ho).2⟩
   ·refine⟨?_,Qh hg (by omega) fun o ho=>(ih o ho).2⟩
    have h1:=Wd (g:=g) (c:=(k:Int)+1) fun o ho=>(ih o ho).1
    by_cases hk:k<3
    ·have:A0 g ((k:Int)+1)= []:=by
      apply List.eq_nil_iff_forall_not_mem.2;intro p hp;have:=Dk hg hp;omega
     rw[this]at h1
     have:I1 (k+1)=2:=by
      have:k+1 - 3=0:=by omega
      simp[I1,this]
     simpa[this]using h1
    ·have h2:=DG hg ((k:Int)+1)
     have h3:(A0 g ((k:Int)+1)).length*(I1 k+1)≤3*(I1 k+1):=UN _ h2;have:k+1 - 3=(k - 3)+1:=by omega
     unfold I1 at *;rw[this,Nat.pow_succ];have:=qz (k - 3);omega
def aT {k:Nat} (h:k≤18):I1 k≤71744535:=by
 unfold I1;have:3 ^ (k - 3)≤3 ^ 15:=Nat.pow_le_pow_right (by omega) (by omega);have e:(3:Nat) ^ 15=14348907:=by decide
 omega
def FG {g:List (List Int)}: ∀ {k j:Nat},j≤k→(Bh g k)[j]? =(Bh g j)[j]?
 | 0,j,h=>by(obtain rfl:j=0:=by omega);rfl
 | k+1,j,h=>by
   by_cases e:j=k+1
   ·subst e;rfl
   ·rw[←FG (k:=k) (by omega),Bh,oN (by rw[Cn];omega)]
def YL {g os:List (List Int)} {c:Int} {ls:List (List Int)} (hg:Ib g) (h:EU g os c=some ls) {B:Nat} (Z: ∀o∈os,o.length≤B∧ ∀x∈o,(0:Int)≤x) (hb:B≤100000000):MQ ls∧total ls<Aj:=by
 have h3:=DG hg c;have ht:=Fm h fun o ho=>(Z o ho).1
 have:(A0 g c).length*(B+1)≤3*(B+1):=UN _ h3;have htl:total ls<Aj:=by simp only[Aj];omega
 refine⟨⟨?_,fun l hl=>⟨?_,?_⟩⟩,htl⟩
 ·rw[G6 h]
  simp only[Qi,BT,List.length_singleton,Aj];omega
 ·have:=bS hl
  simp only[Aj]at *;omega
 ·intro x hx
  rw[G6 h]at hl;rcases FK.1 hl with hl|hl
  ·obtain⟨p,_,rfl⟩:=KE.1 hl
   exact Pf (fun o ho=>(Z o ho).2) p.toNat x (JS.1 hx).1
  ·rw[Nx.1 hl]at hx
   have:=Dk hg hx;omega
def bz (g : List (List Int)) (f:Bool) (hg:Ib g):Pure Tryz.prog 297 [.l (E3 g) f] (.l (E3 (CC g)) false):=by
 refine tI kZ ?_
 conv=>whnf
 repeat((first|(refine Ar ?_;intro K U)|(refine Ab ?_;intro I C G F)|(apply G;clear F C G I)|(apply U;clear U K)|fail);conv=>whnf)
 have hg16:=hg.1;have hgm:g.length≤Aj:=by simp only[Aj];omega
 refine⟨.l (E3 [[0]]) true,emp,fun _ _ h=>h,.l (fun _=>rfl) (.cons (.cons (.l (fun h=>(by cases h)) (.refl _ _ _)) .nil) .nil),?_⟩
 conv=>whnf
 repeat((first|(refine Ar ?_;intro K U)|(refine Ab ?_;intro I C G F)|(apply G;clear F C G I)|refine Bi ?_|refine Dt ?_|(apply U;clear U K)|fail);conv=>whnf)
 refine C3 (2+g.length) (fun k v=>[(3,v),(4,eI (K8 1 k))]) (fun k v=>[.own v 1 (E3 (Bh g k))]) (fun _ _=>True) (.l (E3 [[0]]) true) rfl trivial (qK Sat.nil (by simp)) ?_;rintro k v σ hk - hs;have hc1:K8 1 k=(k:Int)+1:=by rw[OV (by omega) (by omega)];omega
 have hw:IntKind.i64.wrap (3+((E3 g).length:Nat))=3+(g.length:Int):=by rw[BT,wrap64 (by omega) (by omega)]
 conv=>whnf
 repeat((first|refine⟨rfl,?_⟩|refine FO ?_|(refine Ar ?_;intro K U)|(refine Ab ?_;intro I C G F)|(apply G;clear F C G I)|refine Bq ?_|(apply U;clear U K)|fail);conv=>whnf)
 rw[hc1];rw[hw];refine fork (fun hlt=>?_) (fun hlt=>?_)
 ·have hlt':k<2+g.length:=by omega
  have Z:=IT hg k;have hb18:I1 k≤71744535:=aT (by omega);have hc2:K8 1 (k+1)=IntKind.i64.wrap ((k:Int)+1+1):=by rw[K8,hc1]
  conv=>whnf
  repeat((first|(refine Ar ?_;intro K U)|(refine Ab ?_;intro I C G F)|refine B2 ?_|refine Bi ?_|(apply U;clear U K)|fail);conv=>whnf)
  refine⟨.l (iL []) false,σ,fun _ _ h=>h,.l (fun h=>(by cases h)) (.refl _ _ _),?_⟩
  conv=>whnf
  repeat((first|(refine Ar ?_;intro K U)|(refine Ab ?_;intro I C G F)|(apply G;clear F C G I)|(apply U;clear U K)|fail);conv=>whnf)
  refine(jF g (Bh g k) f v ((k:Int)+1) (by omega) hgm (fun o ho=>by have:=(Z o ho).1;simp only[Aj];omega) (by have:=DG hg ((k:Int)+1);omega)
   (fun p hp=>by have:=Dk hg hp;rw[Cn];omega)).use (rest:=[]) hs ?_
  rintro r post σ' ⟨rfl,rfl⟩ hs;cases hl:EU g (Bh g k) ((k:Int)+1)with
  | none=>
    conv=>whnf
    repeat((first|refine TI ?_|(refine Ar ?_;intro K U)|(refine Ab ?_;intro I C G F)|(apply G;clear F C G I)|refine Bq ?_|refine B2 ?_|(apply U;clear U K)|fail);conv=>whnf)
    refine GC hs 0 (x:=[]) rfl (by rw[Cn];simp only[Aj];omega) D5 fun v' σ' hs'=>?_
    conv=>whnf
    refine⟨v',σ',fun _ _ h=>h,.refl _,?_⟩
    conv=>whnf
    repeat((first|refine⟨rfl,?_⟩|(refine Ab ?_;intro I C G F)|(apply G;clear F C G I)|(apply U;clear U K)|(clear U K));conv=>whnf)
    refine⟨hlt',v',?_,trivial,?_⟩
    ·skip
     rw[hc2];rfl
    ·have:ED g (Bh g k) ((k:Int)+1)= []:=by simp[ED,hl,]
     rw[Bh,this];exact hs'
  | some ls=>
    obtain⟨hok,htot⟩:=YL hg hl Z (by omega)
    conv=>whnf
    repeat((first|refine Mo ?_|(refine Ar ?_;intro K U)|(refine Ab ?_;intro I C G F)|(apply G;clear F C G I)|refine Bq ?_|(apply U;clear U K)|fail);conv=>whnf)
    refine(jB ls false hok htot).use ?_;have hml:=IM (total ls) ls [];simp only[List.length_nil,G7]at hml
    conv=>whnf
    repeat((first|(refine Ar ?_;intro K U)|(refine Ab ?_;intro I C G F)|(apply G;clear F C G I)|refine Bq ?_|(apply U;clear U K)|fail);conv=>whnf)
    refine⟨fun h=>?_,fun h=>?_⟩<;>(try rw[h])
    ·conv=>whnf
     repeat((first|(refine Ab ?_;intro I C G F)|fail);conv=>whnf)
     refine J2 (qK hs (by simp)) 1 (xs:=[(k:Int)+1]) rfl (by simp[CM];have:=Fm hl fun o ho=>(Z o ho).1;have h3:=DG hg ((k:Int)+1);have:(A0 g ((k:Int)+1)).length*(I1 k+1)≤3*(I1 k+1):=UN _ h3;simp only[Aj]at *;omega) DV fun u σ1 hs=>?_
     conv=>whnf
     refine GC hs 1 (x:=0) rfl (by simp[CM];have:=Fm hl fun o ho=>(Z o ho).1;have h3:=DG hg ((k:Int)+1);have:(A0 g ((k:Int)+1)).length*(I1 k+1)≤3*(I1 k+1):=UN _ h3;simp only[Aj]at *;omega) DV fun u σ1 hs=>?_
     conv=>whnf
     refine qL hs 1 rfl fun σ' hs=>?_
     conv=>whnf
     repeat((first|(refine Ab ?_;intro I C G F)|(apply G;clear F C G I)|(apply U;clear U K)|fail);conv=>whnf)
     refine GC hs 0 (x:=([(k:Int)+1]++(CM ls).1++[0])) rfl (by rw[Cn];simp only[Aj];omega) D5 fun v' σ' hs'=>?_
     conv=>whnf
     refine⟨v',σ',fun _ _ h=>h,.refl _,?_⟩
     conv=>whnf
     repeat((first|refine⟨rfl,?_⟩|(refine Ab ?_;intro I C G F)|(apply G;clear F C G I)|(apply U;clear U K)|(clear U K));conv=>whnf)
     refine⟨hlt',v',?_,trivial,?_⟩
     ·skip
      rw[hc2];rfl
     ·have:ED g (Bh g k) ((k:Int)+1)=([(k:Int)+1]++(CM ls).1++[0]):=by simp[ED,hl,h]
      rw[Bh,this];exact hs'
    ·conv=>whnf
     repeat((first|(refine Ab ?_;intro I C G F)|refine B2 ?_|(apply U;clear U K)|fail);conv=>whnf)
     refine GC hs 0 (x:=[]) rfl (by rw[Cn];simp only[Aj];omega) D5 fun v' σ' hs'=>?_
     conv=>whnf
     refine⟨v',σ',fun _ _ h=>h,.refl _,?_⟩
     conv=>whnf
     repeat((first|refine⟨rfl,?_⟩|(refine Ab ?_;intro I C G F)|(apply G;clear F C G I)|(apply U;clear U K)|(clear U K));conv=>whnf)
     refine⟨hlt',v',?_,trivial,?_⟩
     ·skip
      rw[hc2];rfl
     ·have:ED g (Bh g k) ((k:Int)+1)= []:=by simp[ED,hl,h]
      rw[Bh,this];exact hs'
 ·conv=>whnf
  repeat((first|(refine Ar ?_;intro K U)|(refine Ab ?_;intro I C G F)|(apply G;clear F C G I)|refine Du ?_|refine Dp ?_|(apply U;clear U K)|(clear U K));conv=>whnf)
  have hke:k=2+g.length:=by omega
  subst hke;exact Ge hs 0 rfl rfl
end Go.Gl
namespace Go.Gl
def par (ps:List (List Int)) (c:Nat):List Int:=if c<3 then []else ps.getD (c - 3) []
def ordered (ps:List (List Int)):Prop:= ∀c p,p∈par ps c→3≤p∧p<(c:Int)
def du (ps:List (List Int)):Nat→Nat→Nat→Bool
 | 0,c,b=>c==b
 | f+1,c,b=>c==b||(par ps c).any fun p=>du ps f p.toNat b
def Im (ps:List (List Int)) (c b:Nat):Bool:=du ps c c b
def Ki {ps:List (List Int)} (ho:ordered ps): ∀(f c b:Nat),c≤f→du ps f c b=Im ps c b
 | 0,c,b,h=>by(obtain rfl:c=0:=by omega);rfl
 | f + 1,c,b,h=>by
   cases c with
   | zero=>
     have:par ps 0= []:=rfl;simp[Im,du,this]
   | succ c=>
     simp only[Im,du];congr 1
     have key: ∀l:List Int,(∀p∈l,p∈par ps (c+1))→(l.any fun p=>du ps f p.toNat b)=l.any fun p=>du ps c p.toNat b:=by
      intro l hl
      induction l with
      | nil=>rfl
      | cons p r ih=>
        have hp:=ho (c+1) p (hl p (.head _));simp only[SY];rw[ih fun q hq=>hl q (.tail _ hq),Ki ho f p.toNat b (by omega),Ki ho c p.toNat b (by omega)]
     exact key _ fun p hp=>hp
def EZ {ps:List (List Int)} (ho:ordered ps) (c b:Nat):Im ps c b=(c==b||(par ps c).any fun p=>Im ps p.toNat b):=by
 cases c with
 | zero=>simp[Im,du,par]
 | succ c=>
   simp only[Im,du];congr 1
   have key: ∀l:List Int,(∀p∈l,p∈par ps (c+1))→(l.any fun p=>du ps c p.toNat b)=l.any fun p=>du ps p.toNat p.toNat b:=by
    intro l hl
    induction l with
    | nil=>rfl
    | cons p r ih=>
      have hp:=ho (c+1) p (hl p (.head _));simp only[SY];rw[ih fun q hq=>hl q (.tail _ hq),Ki ho c p.toNat b (by omega)];rfl
   exact key _ fun p hp=>hp
def D2 {ps:List (List Int)} (ho:ordered ps) (c:Nat):Im ps c c=true:=by rw[EZ ho];simp
def fN {ps:List (List Int)} (ho:ordered ps): ∀(c b:Nat),Im ps c b=true→b≤c:=by
 intro c
 induction c using Nat.strongRecOn with
 | _ c ih=>
   intro b h;rw[EZ ho]at h;simp only[F6,DK,JR]at h;rcases h with rfl|⟨p,hp,h⟩
   ·omega
   ·have:=ho c p hp
    have:=ih p.toNat (by omega) b h;omega
def Jg {ps:List (List Int)} (ho:ordered ps): ∀(a b c:Nat),Im ps a b=true→Im ps b c=true→Im ps a c=true:=by
 intro a
 induction a using Nat.strongRecOn with
 | _ a ih=>
   intro b c h k;rw[EZ ho]at h ⊢;simp only[F6,DK,JR]at h ⊢;rcases h with rfl|⟨p,hp,h⟩
   ·rw[EZ ho]at k
    simpa using k
   ·have:=ho a p hp
    exact .inr ⟨p,hp,ih p.toNat (by omega) b c h k⟩
def Ft (bs:List Bool) (i:Nat):List Int→List Bool
 | []=>bs
 | p::r=>Ft (bs.set p.toNat (bs.getD p.toNat false||bs.getD i false)) i r
def L6 (i:Nat): ∀(a b:List Int) (bs:List Bool),Ft bs i (a++b)=Ft (Ft bs i a) i b
 | [],b,bs=>rfl
 | p::r,b,bs=>by simp only[List.cons_append,Ft];exact L6 i r b _
def M5 (i:Nat): ∀(l:List Int) (bs:List Bool),(Ft bs i l).length=bs.length
 | [],bs=>rfl
 | p::r,bs=>by simp only[Ft];rw[M5 i r];simp
def HN (ps:List (List Int)) (n c:Nat):Nat→List Bool
 | 0=>(List.replicate n false).set c true
 | k+1=>Ft (HN ps n c k) (c - k) (par ps (c - k))
def LN (ps:List (List Int)) (n c:Nat): ∀k,(HN ps n c k).length=n
 | 0=>by simp[HN]
 | k+1=>by simp only[HN];rw[M5,LN ps n c k]
def FE {bs:List Bool} {j:Nat} {x:Bool} (hj:j<bs.length) (b:Nat):(bs.set j x).getD b false=if b=j then x else bs.getD b false:=by
 simp only[D9,List.getElem?_set];by_cases h:j=b
 ·subst h;simp[hj]
 ·rw[if_neg h,if_neg (fun e=>h e.symm)]
def M6 {i:Nat}: ∀(l:List Int) (bs:List Bool),(∀p∈l,0≤p∧p.toNat<bs.length∧p.toNat<i)→ ∀b,(Ft bs i l).getD b false=(bs.getD b false||(bs.getD i false&&l.contains (b:Int)))
 | [],bs,_,b=>by simp[Ft]
 | p ::r,bs,h,b=>by
   obtain⟨h1,h2,h3⟩:=h p (.head _);simp only[Ft];have hi:i≠p.toNat:=by omega
   rw[M6 r _ (fun q hq=>by have:=h q (.tail _ hq);simpa using this),FE h2,FE h2,if_neg hi];by_cases hb:b=p.toNat
   ·subst hb
    have:((p.toNat:Nat):Int)=p:=by omega
    simp only[if_true,this,List.contains_cons,beq_self_eq_true,Bool.true_or,Bool.and_true];cases bs.getD p.toNat false<;>cases bs.getD i false<;>simp
   ·rw[if_neg hb]
    have:((b:Int)==p)=false:=by simp;omega
    simp only[List.contains_cons,this,Bool.false_or]
def VM {ps:List (List Int)} (ho:ordered ps) {n c:Nat} (hc:c<n): ∀k,k≤c - 2→(∀b,(HN ps n c k).getD b false=true→Im ps c b=true)∧(HN ps n c k).getD c false=true∧
    (∀j p,c - k<j→(HN ps n c k).getD j false=true→p∈par ps j→(HN ps n c k).getD p.toNat false=true)
 | 0,_=>by
   have hg: ∀b,(HN ps n c 0).getD b false=decide (b=c):=fun b=>by
    simp only[HN];rw[FE (by simpa using hc)];by_cases h:b=c
    ·simp[h]
    ·rw[if_neg h]
     simp[h,D9,List.getElem?_replicate];split<;>rfl
   refine⟨fun b hb=>?_,by rw[hg];simp,fun j p hj hb hp=>?_⟩
   ·rw[hg]at hb
    simp only[Cf]at hb;subst hb;exact D2 ho _
   ·rw[hg]at hb
    simp only[Cf]at hb;omega
 | k + 1,hk=>by
   obtain⟨h1,h2,h3⟩:=VM ho hc k (by omega)
   have hpar: ∀p∈par ps (c - k),0≤p∧p.toNat<(HN ps n c k).length∧p.toNat<c - k:=fun p hp=>by
    have:=ho _ p hp;rw[LN];omega
   have hg: ∀b,(HN ps n c (k+1)).getD b false=((HN ps n c k).getD b false||((HN ps n c k).getD (c - k) false&&(par ps (c - k)).contains (b:Int))):=fun b=>by
    simp only[HN];exact M6 _ _ hpar b
   refine⟨fun b hb=>?_,by rw[hg,h2];rfl,fun j p hj hb hp=>?_⟩
   ·rw[hg]at hb
    simp only[F6,A9,List.contains_iff_mem]at hb;rcases hb with hb|⟨hb,hm⟩
    ·exact h1 b hb
    ·refine Jg ho c (c - k) b (h1 _ hb) ?_
     rw[EZ ho];simp only[F6,JR];exact .inr ⟨b,hm,by simpa using D2 ho b⟩
   ·have hjp:=ho j p hp
    have hb':(HN ps n c k).getD j false=true:=by
     rw[hg]at hb;simp only[F6,A9,List.contains_iff_mem]at hb;rcases hb with hb|⟨_,hm⟩
     ·exact hb
     ·have:=ho _ _ hm
      omega
    rw[hg];by_cases e:j=c - k
    ·subst e
     rw[hb'];have:((p.toNat:Nat):Int)=p:=by omega
     simp only[this,EW,F6,List.contains_iff_mem];exact .inr hp
    ·rw[h3 j p (by omega) hb' hp]
     rfl
def ZK {ps:List (List Int)} (ho:ordered ps) {n c:Nat} (hc:c<n) (b:Nat):(HN ps n c (c - 2)).getD b false=Im ps c b:=by
 obtain⟨h1,h2,h3⟩:=VM ho hc (c - 2) (Ht _)
 have key: ∀a,(HN ps n c (c - 2)).getD a false=true→ ∀b,Im ps a b=true→(HN ps n c (c - 2)).getD b false=true:=by
  intro a
  induction a using Nat.strongRecOn with
  | _ a ih=>
    intro ha b hb;rw[EZ ho]at hb;simp only[F6,DK,JR]at hb;rcases hb with rfl|⟨p,hp,hb⟩
    ·exact ha
    ·have:=ho a p hp
     exact ih p.toNat (by omega) (h3 a p (by omega) ha hp) b hb
 cases hb:Im ps c b with
 | true=>exact key c h2 b hb
 | false=>
   cases hq:(HN ps n c (c - 2)).getD b false with
   | false=>rfl
   | true=>rw[h1 b hq]at hb;cases hb
end Go.Gl
