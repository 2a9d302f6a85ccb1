import Derived.ChangeOld
import Derived.Below
import Derived.Carry
import Derived.ChangeArms
import Derived.Deep.Slices
import Derived.Test.YtegbmnmnaijioaaGreatProg
import Derived.KernelRfl
import Derived.Test.YtegbmnmnaijioaaGreatA5
set_option linter.all false
set_option linter.defProp false
noncomputable section
namespace Go.Gl
structure Qa where
 parents:List Int
 AJ:List Int
 inits:List (Int×Int)
 deriving DecidableEq,Inhabited
structure Node where
 op:Int
 n:Int
 kids:List Int
 deriving DecidableEq,Inhabited
inductive Fact where
 | mk (op arg:Int) (path:List Int) (cls n:Int) (kids:List Fact)
 deriving Inhabited
namespace Fact
def op:Fact→Int|mk o _ _ _ _ _=>o
def arg:Fact→Int|mk _ a _ _ _ _=>a
def path:Fact→List Int|mk _ _ p _ _ _=>p
def cls:Fact→Int|mk _ _ _ c _ _=>c
def n:Fact→Int|mk _ _ _ _ n _=>n
def kids:Fact→List Fact|mk _ _ _ _ _ k=>k
mutual
def Ht {α:Type} (g:Fact→List α→α):Fact→α
 | .mk o a p c n k=>g (.mk o a p c n k) (Yd g k)
 termination_by structural f=>f
def Yd {α:Type} (g:Fact→List α→α):List Fact→List α
 | []=>[]
 | x::r=>Ht g x::Yd g r
 termination_by structural l=>l
end
def iw {α:Type} (g:Fact→List α→α) (l:List Fact):Yd g l=l.map (Ht g):=by
 induction l with
 | nil=>rfl
 | cons x r ih=>simp[Yd,ih]
def D4 {α:Type} (g:Fact→List α→α) (f:Fact):Ht g f=g f (f.kids.map (Ht g)):=by
 cases f with
 | mk o a p c n k=>simp[Ht,iw,kids]
def ind {motive:Fact→Prop} (h: ∀f,(∀k∈f.kids,motive k)→motive f) (f:Fact):motive f:=by
 refine Fact.rec (motive_1:=motive) (motive_2:=fun l=> ∀k∈l,motive k) (fun o a p c n k ih=>h _ ih) (fun _ h=>by cases h) (fun x r hx hr k hk=>?_) f;rcases F6.1 hk with rfl|hk
 ·exact hx
 ·exact hr k hk
def size (f:Fact):Nat:=Ht (fun f l=>1+f.path.length+f.kids.length+l.sum) f
end Fact
structure Mc where
 kind:Int
 gen:Int
 fact:Fact
 node:Int
 deriving Inhabited
structure Prog where
 AP:List Qa
 AJ:Int
 Dj:List Int
 methods:List Mc
 nodes:List Node
 main:Int
 deriving Inhabited
structure AL where
 parents:List (List Int)
 owner:List Int
 deriving DecidableEq,Inhabited
abbrev eI (n:Int):V:= .i .i64 n
def UT (c:Qa):List V:=[.l (iL c.parents) false,.l (iL c.AJ) false,.l (c.inits.map fun p=>[eI p.1,eI p.2]) false]
def I9 (x:Node):List V:=[eI x.op,eI x.n,.l (iL x.kids) false]
def Ge (f:Fact):List V:=f.Ht fun f l=>[eI f.op,eI f.arg,.l (iL f.path) false,eI f.cls,eI f.n,.l l false]
abbrev xF (f:Fact):List V:=[eI f.op,eI f.arg,.l (iL f.path) false,eI f.cls,eI f.n,.l (f.kids.map Ge) false]
def BL (f:Fact):Ge f=xF f:=Fact.D4 _ f
abbrev facts (l:List Fact):List (List V):=l.map Ge
def dx (m:Mc):List V:=[eI m.kind,eI m.gen,eI m.fact.op,eI m.fact.arg,.l (iL m.fact.path) false,eI m.fact.cls,eI m.fact.n,.l (facts m.fact.kids) false,eI m.node]
def BR (p:Prog):List V:=[.l (p.AP.map UT) false,eI p.AJ,.l (iL p.Dj) false,.l (p.methods.map dx) false,.l (p.nodes.map I9) false,eI p.main]
def A7 (w:AL):List V:=[.l (Eh w.parents) false,.l (iL w.owner) false]
end Go.Gl
namespace Go.Gl
open Go.ChangeShapes Go.WideShapes Go.ChangeAt Go.RowKit
def Vp {w w':World} (h:B3 (fun _=>False) emp w emp w'):Below w.heap.size w w':=
 ⟨h.os,h.tape,h.output,h.size,fun k hk=>h.frame k hk rfl⟩
def qh {w:World} {b o:Nat}:Hh (fun _=>False) emp w b o=w.cell? ⟨b,o,none⟩:=by
 unfold Hh;rw[if_neg (by simp[emp])]
def Nx {α:Type} {Q:Nat→α→Prop}: ∀(len:Nat),(∀i,i<len→ ∃v,Q i v)→ ∃l:List α,l.length=len∧ ∀i v,l[i]? =some v→Q i v
 | 0,_=>⟨[],rfl,fun i v h=>by simp at h⟩
 | k + 1,h=>by
   obtain⟨l,hl,hl2⟩:=Nx k fun i hi=>h i (by omega)
   obtain⟨u,hu⟩:=h k (by omega);refine⟨l++[u],by simp[hl],fun i v hv=>?_⟩;by_cases hi:i<l.length
   ·rw[jS hi]at hv
    exact hl2 i v hv
   ·rw[List.getElem?_append_right (by omega)]at hv
    have:i - l.length=0:=by
     have:=(IS.1 hv).1;simp at this;omega
    have hik:i=k:=by omega
    subst hik;rw[this]at hv;rw[←Option.some.inj hv];exact hu
section
variable {H:Type} {enc:TypeId×Value→H} {P:Program} {W:World}
def jY {H:Type} (enc:TypeId×Value→H) (P:Program) (W:World) (n:Nat) (t:TypeId) {α:Type} (ea:α→List V):Prop:=
 ∀(cs:List Value) (d:DataW H) (ps:List MemPlace),DataW.trod enc P W 0 (fun _=>true) true n t cs=some (d,ps)→(∀x∈d.weights P t,x≤reachBytes)→ ∃a:α,cs.length=(ea a).length∧BZ (Hh (fun _=>False) emp W) (fun i=>cs[i]?) 0 (ea a)
def UG {H:Type} (enc:TypeId×Value→H) (P:Program) (W:World) (t:TypeId) {α:Type} (ea:α→List V):Prop:= ∀n,jY enc P W n t ea
def Lm {t:TypeId} {α:Type} {ea:α→List V}:jY enc P W 0 t ea:=fun cs d ps h=>by simp[DataW.trod]at h
def H2 {n:Nat} {t:TypeId} {α β:Type} {ea:α→List V} {eb:β→List V} (h:jY enc P W n t ea) (g:α→β) (hg: ∀a,ea a=eb (g a)):jY enc P W n t eb:=fun cs d ps h1 h2=>by
 obtain⟨a,h3,h4⟩:=h cs d ps h1 h2;exact⟨g a,by rw[←hg];exact h3,by rw[←hg];exact h4⟩
def O6 {t:TypeId} (ht:P.underlying t=some (.int .i64)):UG enc P W t fun x:Int=>[V.i .i64 x]:=fun n cs d ps h _=>by
 obtain⟨k,rfl,-,hw⟩:=DataW.trod_int ht h;simp only[Lit.wf,BJ,Cn]at hw;refine⟨k,rfl,⟨_,rfl,?_⟩,trivial⟩;simp only[Af]
 first
  | exact⟨rfl,hw⟩
  | exact⟨trivial,hw⟩
  | exact hw
def Rk {n:Nat} {t e:TypeId} {sz:Nat} {α:Type} {ea:α→List V} (ht:P.underlying t=some (.slice e)) (hc:P.cellsOf e=sz) (hsz:0<sz) (hb:8≤P.bytesOf e) (he: ∀a,(ea a).length=sz) (h:jY enc P W n e ea) :
    jY enc P W (n+1) t fun l:List α=>[V.l (l.map ea) false]:=by
 intro cs d ps htr hw;rcases DataW.trod_slice ht htr with⟨rfl,hx⟩|⟨a,len,cap,elems,rest,n',hn,rfl,hx,-,hl,hm,hlen,hel,-,-⟩
 ·refine⟨[],rfl,⟨_,rfl,?_⟩,trivial⟩
  simp only[List.map_nil,Af];exact⟨none,0,rfl,Iu _,fun h=>(by cases h),Nat.zero_le _,fun _=>rfl,fun h=>absurd rfl h⟩
 ·obtain rfl:n'=n:=by omega
  simp only[Prod.mk.injEq]at hx;obtain⟨rfl,-⟩:=hx;simp only[DataW.weights,ht,F6,E7]at hw;have hwl:=hw _ (.inl rfl)
  have hwe: ∀(l:List (DataW H)) (D:DataW H),D∈l→ ∀x∈D.weights P e,x∈DataW.weightsAll P e l:=by
   intro l
   induction l with
   | nil=>intro D hD;cases hD
   | cons y r ih=>
     intro D hD x hx;simp only[DataW.weightsAll,E7];rcases F6.1 hD with rfl|hD
     ·exact .inl hx
     ·exact .inr (ih D hD x hx)
  have hM:len≤Ad:=by
   simp only[A9,hlen,reachBytes]at hwl;have h8:(len+rest.length)*8≤(len+rest.length)*P.bytesOf e:=Nat.mul_le_mul_left _ hb;unfold Ad;omega
  have each: ∀i,i<len→ ∃v:α,∃cs',W.cells? 0 (a.add (i*sz)) sz=some cs'∧BZ (Hh (fun _=>False) emp W) (fun j=>cs'[j]?) 0 (ea v):=fun i hi=>by
   have hi':=hel i hi;obtain⟨x,hx⟩: ∃x,elems[i]? =some x:=⟨_,C7 (by omega)⟩
   rw[hx,Option.bind_eq_some_iff,hc]at hi';obtain⟨cs',h1,h2⟩:=hi';obtain⟨v,-,h4⟩:=h cs' x.1 x.2 h2 fun y hy=>hw y (.inr (.inl (hwe _ x.1 (MN.2 ⟨x,B9 hx,rfl⟩) y hy)))
   exact⟨v,cs',h1,h4⟩
  obtain⟨l,hll,hlc⟩:=Nx len each;refine⟨l,rfl,⟨_,rfl,?_⟩,trivial⟩;simp only[Af,A9];refine⟨some a,cap,by rw[hll],by omega,fun h=>(by cases h),by omega,fun h=>(by cases h),fun hne=>?_⟩;obtain⟨b,o,spot⟩:=a
  have h0:0<l.length:=by
   rcases l with _|⟨v,r⟩
   ·exact absurd rfl hne
   ·simp
  have hspot:spot=none:=by
   obtain⟨cs',h1,-⟩:=hlc 0 l[0] (C7 h0);obtain⟨-,h3,h4⟩:=World.cells?_some h1;have h5:=h4 0 hsz;rw[C7 (by omega)]at h5;have:=World.cell?_spot h5;simpa[Addr.add]using this
  subst hspot
  have hcell: ∀i v,l[i]? =some v→ ∀k u,(ea v)[k]? =some u→ ∃c,W.cell? ⟨b,o+i*sz+k,none⟩=some c∧Af (Hh (fun _=>False) emp W) u c:=fun i v hv k u hu=>by
   obtain⟨cs',h1,h2⟩:=hlc i v hv;obtain⟨-,h3,h4⟩:=World.cells?_some h1;have hk:k<sz:=by rw[←he v];exact(IS.1 hu).1
   obtain⟨c,hc',hr⟩:=Bg.1 h2 k u hu;have h5:=h4 k hk;simp only[HD]at hc';rw[add_plain,add_plain]at h5;exact⟨c,by rw[←hc',←h5],hr⟩
  refine⟨b,o,sz,rfl,BK.2 fun j e hj=>?_⟩;rw[MP]at hj;obtain⟨v,hv,rfl⟩:=Option.map_eq_some_iff.1 hj;refine⟨he v,Bg.2 fun k u hu=>?_⟩;obtain⟨c,h1,h2⟩:=hcell j v hv k u hu;exact⟨c,by rw[qh];exact h1,h2⟩
def JJ {t e:TypeId} {sz:Nat} {α:Type} {ea:α→List V} (ht:P.underlying t=some (.slice e)) (hc:P.cellsOf e=sz) (hsz:0<sz) (hb:8≤P.bytesOf e) (he: ∀a,(ea a).length=sz) (h:UG enc P W e ea) :
    UG enc P W t fun l:List α=>[V.l (l.map ea) false]
 | 0=>Lm
 | n+1=>Rk ht hc hsz hb he (h n)
def vO {H:Type} (enc:TypeId×Value→H) (P:Program) (W:World) (n:Nat) (fs:List Field) (o:Nat) {α:Type} (ea:α→List V):Prop:=
 ∀ (cs:List Value) (xs:List (DataW H×List MemPlace)),xs.length=fs.length→(∀(i:Nat) (f:Field),fs[i]? =some f→DataW.trod enc P W 0 (fun _=>true) true n (Field.type f) ((cs.drop (Field.offset f)).take (P.cellsOf (Field.type f)))=xs[i]?)→
   (∀x∈DataW.weightsEach P (fs.map fun f:Field=>f.type) (xs.map (·.1)),x≤reachBytes)→ ∃a:α,BZ (Hh (fun _=>False) emp W) (fun i=>cs[i]?) o (ea a)
def H3 {n o:Nat}:vO enc P W n [] o fun _:Unit=>([]:List V):=fun _ _ _ _ _=>⟨(),trivial⟩
def BU {n o c:Nat} {f:Field} {fs:List Field} {α β:Type} {ea:α→List V} {eb:β→List V} (hf:f.offset=o) (hc:P.cellsOf f.type=c) (he: ∀a,(ea a).length=c) (h1:jY enc P W n f.type ea) (h2:vO enc P W n fs (o+c) eb) :
    vO enc P W n (f::fs) o fun p:α×β=>ea p.1++eb p.2:=by
 intro cs xs hl hx hw
 match xs,hl with
 | x ::r,hl=>
   have hx0:=hx 0 f rfl;simp only[oT]at hx0;simp only[E3,DataW.weightsEach,E7]at hw;obtain⟨a,ha1,ha2⟩:=h1 _ x.1 x.2 hx0 fun y hy=>hw y (.inl hy)
   obtain⟨b,hb⟩:=h2 cs r (by simpa using hl) (fun i g hg=>by
    have:=hx (i+1) g (by simpa using hg)
    simpa using this) fun y hy=>hw y (.inr hy)
   refine⟨(a,b),Nj (Bg.2 fun k u hu=>?_) (by rw[he];exact hb)⟩;obtain⟨cc,h3,h4⟩:=Bg.1 ha2 k u hu;have hk:k<c:=by rw[←he a];exact(IS.1 hu).1
   refine⟨cc,?_,h4⟩;rw[hf,hc,HD,List.getElem?_take,if_pos hk,ur]at h3;exact h3
def Px {n:Nat} {t:TypeId} {fs:List Field} {α:Type} {ea:α→List V} (ht:P.underlying t=some (.struct fs.toArray)) (h:vO enc P W n fs 0 ea) (hl: ∀a,(ea a).length=P.cellsOf t):jY enc P W (n+1) t ea:=by
 intro cs d ps htr hw;obtain⟨xs,k,hk,hx,hcl,hxl,hf⟩:=DataW.trod_struct ht htr;obtain rfl:k=n:=by omega
 simp only[Prod.mk.injEq]at hx;obtain⟨rfl,-⟩:=hx;simp only[DataW.weights,ht]at hw;obtain⟨a,ha⟩:=h cs xs (by rw[hxl];simp) (fun i f hfi=>hf i f (by simpa using hfi)) (by simpa using hw);exact⟨a,by rw[hcl,hl],ha⟩
def Fy {t:TypeId} {fs:List Field} {α:Type} {ea:α→List V} (ht:P.underlying t=some (.struct fs.toArray)) (h: ∀n,vO enc P W n fs 0 ea) (hl: ∀a,(ea a).length=P.cellsOf t):UG enc P W t ea
 | 0=>Lm
 | n+1=>Px ht (h n) hl
end
end Go.Gl
namespace Go.Gl
open Go.Proofs
section
variable {H:Type} {enc:TypeId×Value→H} {W:World}
def b8 {n:Nat} (h:Nat.ble 8 n=true):8≤n:=Nat.le_of_ble_eq_true h
def N2:UG enc Tryz.prog W 3 fun x:Int=>[V.i .i64 x]:=O6 Tryz.underlying3
def Ou:UG enc Tryz.prog W 23 fun l:List Int=>[V.l (iL l) false]:=JJ Tryz.underlying23 (by kernel_rfl) (by decide) (b8 (by kernel_rfl)) (fun _=>rfl) N2
def pg:UG enc Tryz.prog W 314 fun p:Int×Int=>[eI p.1,eI p.2]:=fun n=>
 H2 (Fy Tryz.underlying314
  (fun n=>BU (c:=1) rfl (by kernel_rfl) (fun _=>rfl) (N2 n) (BU (c:=1) rfl (by kernel_rfl) (fun _=>rfl) (N2 n) H3)) (fun _=>(show _=2 from rfl).trans (by kernel_rfl)) n) (fun x=>(x.1,x.2.1)) fun _=>rfl
def kr:UG enc Tryz.prog W 59 fun l:List (Int×Int)=>[V.l (l.map fun p=>[eI p.1,eI p.2]) false]:=JJ (sz:=2) Tryz.underlying59 (by kernel_rfl) (by decide) (b8 (by kernel_rfl)) (fun _=>rfl) pg
def wE:UG enc Tryz.prog W 61 UT:=fun n=>
 H2 (Fy Tryz.underlying61
  (fun n=>BU (c:=1) rfl (by kernel_rfl) (fun _=>rfl) (Ou n) (BU (c:=1) rfl (by kernel_rfl) (fun _=>rfl) (Ou n)
   (BU (c:=1) rfl (by kernel_rfl) (fun _=>rfl) (kr n) H3))) (fun _=>(show _=3 from rfl).trans (by kernel_rfl)) n) (fun x=>⟨x.1,x.2.1,x.2.2.1⟩) fun _=>rfl
def pd:UG enc Tryz.prog W 199 I9:=fun n=>
 H2 (Fy Tryz.underlying199
  (fun n=>BU (c:=1) rfl (by kernel_rfl) (fun _=>rfl) (O6 Tryz.underlying197 n) (BU (c:=1) rfl (by kernel_rfl) (fun _=>rfl) (N2 n)
   (BU (c:=1) rfl (by kernel_rfl) (fun _=>rfl) (Ou n) H3))) (fun _=>(show _=3 from rfl).trans (by kernel_rfl)) n) (fun x=>⟨x.1,x.2.1,x.2.2.1⟩) fun _=>rfl
def ko:UG enc Tryz.prog W 25 fun l:List Node=>[V.l (l.map I9) false]:=JJ (sz:=3) Tryz.underlying25 (by kernel_rfl) (by decide) (b8 (by kernel_rfl)) (fun _=>rfl) pd
def pj:UG enc Tryz.prog W 22 fun l:List Qa=>[V.l (l.map UT) false]:=JJ (sz:=3) Tryz.underlying22 (by kernel_rfl) (by decide) (b8 (by kernel_rfl)) (fun _=>rfl) wE
def NJ (f:Fact):(Ge f).length=6:=by rw[BL];rfl
def Yy: ∀n,jY enc Tryz.prog W n 44 Ge∧jY enc Tryz.prog W n 42 fun l:List Fact=>[V.l (facts l) false]
 | 0=>⟨Lm,Lm⟩
 | n + 1 =>by
   obtain⟨h1,h2⟩:=Yy n;refine⟨?_,Rk Tryz.underlying42 (by kernel_rfl) (by decide) (b8 (by kernel_rfl)) NJ h1⟩
   exact H2 (Px Tryz.underlying44
    (BU (c:=1) rfl (by kernel_rfl) (fun _=>rfl) (O6 Tryz.underlying41 n) (BU (c:=1) rfl (by kernel_rfl) (fun _=>rfl) (N2 n)
     (BU (c:=1) rfl (by kernel_rfl) (fun _=>rfl) (Ou n) (BU (c:=1) rfl (by kernel_rfl) (fun _=>rfl) (N2 n)
      (BU (c:=1) rfl (by kernel_rfl) (fun _=>rfl) (N2 n) (BU (c:=1) rfl (by kernel_rfl) (fun _=>rfl) h2 H3)))))) (fun _=>(show _=6 from rfl).trans (by kernel_rfl)))
    (fun x=>Fact.mk x.1 x.2.1 x.2.2.1 x.2.2.2.1 x.2.2.2.2.1 x.2.2.2.2.2.1) fun x=>by rw[BL];rfl
def ph:UG enc Tryz.prog W 44 Ge:=fun n=>(Yy n).1
def pf:UG enc Tryz.prog W 81 dx:=fun n=>
 H2 (Fy Tryz.underlying81
  (fun n=>BU (c:=1) rfl (by kernel_rfl) (fun _=>rfl) (O6 Tryz.underlying79 n) (BU (c:=1) rfl (by kernel_rfl) (fun _=>rfl) (N2 n)
   (BU (c:=6) rfl (by kernel_rfl) NJ (ph n) (BU (c:=1) rfl (by kernel_rfl) (fun _=>rfl) (N2 n) H3)))) (fun x=>(show _=9 from by simp only[Qv,NJ];rfl).trans (by kernel_rfl)) n) (fun x=>⟨x.1,x.2.1,x.2.2.1,x.2.2.2.1⟩) fun x=>by rw[BL];rfl
def kq:UG enc Tryz.prog W 24 fun l:List Mc=>[V.l (l.map dx) false]:=JJ (sz:=9) Tryz.underlying24 (by kernel_rfl) (by decide) (b8 (by kernel_rfl)) (fun _=>rfl) pf
def pc : UG enc Tryz.prog W 27 BR:=fun n=>
 H2 (Fy Tryz.underlying27
  (fun n=>BU (c:=1) rfl (by kernel_rfl) (fun _=>rfl) (pj n)
   (BU (c:=1) rfl (by kernel_rfl) (fun _=>rfl) (N2 n) (BU (c:=1) rfl (by kernel_rfl) (fun _=>rfl) (Ou n)
    (BU (c:=1) rfl (by kernel_rfl) (fun _=>rfl) (kq n)
     (BU (c:=1) rfl (by kernel_rfl) (fun _=>rfl) (ko n)
      (BU (c:=1) rfl (by kernel_rfl) (fun _=>rfl) (N2 n) H3)))))) (fun _=>(show _=6 from rfl).trans (by kernel_rfl)) n) (fun x=>⟨x.1,x.2.1,x.2.2.1,x.2.2.2.1,x.2.2.2.2.1,x.2.2.2.2.2.1⟩) fun _=>rfl
end
end Go.Gl
namespace Go.Gl
def axI (n:Nat):List Nat→List Nat
 | []=>[n]
 | x::r=>bif Nat.beq n x then x::r else bif Nat.ble n x then n::x::r else x::axI n r
def vB:List Nat→List Nat→List Nat
 | [],l=>l
 | n::r,l=>vB r (axI n l)
def x5 (n:Nat):List Nat→List Nat
 | []=>[]
 | x::r=>bif Nat.beq x n then r else x::x5 n r
def x4:List Nat→List Nat→List Nat
 | [],l=>l
 | n::r,l=>x4 r (x5 n l)
def axO (o:Au) (n:List Nat):List Nat:=vB (looks o) (match o.dst with|some d=>x5 d n|none=>n)
def pD:List Au→List Nat→List Nat
 | [],n=>n
 | o::r,n=>axO o (pD r n)
def axX (i:Nat):List (Nat×List Nat)→List Nat
 | []=>[]
 | (j,l)::r=>bif Nat.beq i j then l else axX i r
def Wg (rs:List Nat):AY→List (Nat×List Nat)→List Nat→List Nat
 | .skip,_,n=>n
 | .ret,_,_=>rs
 | .exit i,X,_=>axX i X
 | .DJ ops,_,n=>pD ops n
 | .HM _ ops,_,n=>pD (ops.map (·.o)) n
 | .seq _ a b,X,n=>Wg rs a X (Wg rs b X n)
 | .cond c a b,X,n=>vB (rd c) (vB (Wg rs a X n) (Wg rs b X n))
 | .block i a,X,n=>Wg rs a ((i,n)::X) n
 | .scope a,X,n=>Wg rs a X n
 | .Dt _ g ps a b,_,n=>vB (rd g) (vB n (x4 ps (Wg [] a [] (Wg [] b [] []))))
 | .loop _ a,X,_=>Wg rs a X []
def Z8 (rs:List Nat):AY→List (Nat×List Nat)→List Nat→AY
 | .skip,_,_=> .skip
 | .ret,_,_=> .ret
 | .exit i,_,_=> .exit i
 | .DJ ops,_,_=> .DJ ops
 | .HM _ ops,_,n=> .HM n ops
 | .seq _ a b,X,n=> .seq (Wg rs b X n) (Z8 rs a X (Wg rs b X n)) (Z8 rs b X n)
 | .cond c a b,X,n=> .cond c (Z8 rs a X n) (Z8 rs b X n)
 | .block i a,X,n=> .block i (Z8 rs a ((i,n)::X) n)
 | .scope a,X,n=> .scope (Z8 rs a X n)
 | .Dt _ g ps a b,_,_=> .Dt (x4 ps (Wg [] a [] (Wg [] b [] []))) g ps (Z8 [] a [] (Wg [] b [] [])) (Z8 [] b [] [])
 | .loop _ a,X,_=> .loop (Wg rs a X []) (Z8 rs a X (Wg rs a X []))
variable {P:Program}
def CtrX (P:Program) (k n:Nat) (ac:AY) (rs:List Nat):Prop:= ∀ ⦃args:List V⦄,args.length≤n→ ∀ ⦃σ:AH⦄ ⦃Q:R→AH→Prop⦄,W P ac (kC rs Q) (BD 0 args) σ→BC P k args σ Q
def xN (P:Program) (k n:Nat) (ac:AY) (rs:List RS):Prop:= ∀ ⦃args:List V⦄,args.length≤n→ ∀ ⦃σ:AH⦄ ⦃Q:R→AH→Prop⦄,W P ac (Ua rs Q) (BD 0 args) σ→BC P k args σ Q
def vC:RS→Nat
 | .t n=>n
 | .c n _=>n
def cX {k n:Nat} {fn:Func} {ac:AY} {rs:List Nat} (pu fz:List Nat) (hf:P.funcs[k]? =some fn)
    (hn:fn.ntmps=n:=by conv=>lhs;reduce)
    (hr:GF fn.results.toList=some rs:=by conv=>lhs;reduce)
    (hc:Z8 rs ((fn.body.bind (res P fn.ntmps pu fz)).getD .skip) [] rs=ac:=by conv=>lhs;reduce;try simp only[Int.reduceOfNat,Int.reduceNegSucc])
    (hb:fn.body.bind (res P fn.ntmps pu fz)=some (erase ac):=by kernel_rfl) (hok:okF P k=true:=by kernel_rfl):CtrX P k n ac rs:=
 fun _ ha _ _ h=>QN hf hok hb hr (hn ▸ ha) (nE h)
def NU {k n:Nat} {fn:Func} {ac:AY} {rs:List RS} (pu fz:List Nat) (hf:P.funcs[k]? =some fn)
    (hn:fn.ntmps=n:=by conv=>lhs;reduce)
    (hr:MT P fn.results.toList=some rs:=by conv=>lhs;reduce)
    (hc:Z8 (rs.map vC) ((fn.body.bind (res P fn.ntmps pu fz)).getD .skip) [] (rs.map vC)=ac:=by conv=>lhs;reduce;try simp only[Int.reduceOfNat,Int.reduceNegSucc])
    (hb:fn.body.bind (res P fn.ntmps pu fz)=some (erase ac):=by kernel_rfl) (hok:okF P k=true:=by kernel_rfl):xN P k n ac rs:=
 fun _ ha _ _ h=>Ee hf hok hb hr (hn ▸ ha) (nE h)
end Go.Gl
namespace Go.Gl
open Go.Proofs
set_option maxRecDepth 100000
set_option maxHeartbeats 4000000
def ctr3:=cX [] [1] Tryz.func3
def ctr6:=cX [] [1] Tryz.func6
def Yc:=cX [] [3,5] Tryz.func15
def Yb:=cX [] [3] Tryz.func16
def Ya:=NU [] [3,5] Tryz.func25
def Us:=NU [] [3] Tryz.func26
def xI:=cX [] [2,3] Tryz.func27
def xH:=cX [] [2] Tryz.func28
def xG:=cX [] [1] Tryz.func29
def xE:=cX [] [] Tryz.func34
def xD:=cX [] [1] Tryz.func36
def xC:=cX [] [] Tryz.func40
def oE:=cX [] [] Tryz.func49
set_option maxRecDepth 100000
set_option maxHeartbeats 4000000
def xB:=cX [] [2] Tryz.func51
def xA:=NU [] [1] Tryz.func53
def dz:=NU [] [3] Tryz.func59
def w9:=cX [] [2] Tryz.func60
def w8:=cX [] [2] Tryz.func61
def oD:=cX [] [2] Tryz.func62
def w7:=cX [] [3] Tryz.func63
def wz:=cX [] [2] Tryz.func64
def wy:=cX [] [2] Tryz.func65
def wx:=NU [] [1] Tryz.func68
def wu:=NU [] [2,3] Tryz.func70
def wq:=cX [] [2] Tryz.func81
def wm:=NU [] [1] Tryz.func82
def oC:=NU [] [2,3] Tryz.func83
def dy:=NU [] [] Tryz.func84
def wk:=NU [] [3] Tryz.func85
def wj:=cX [] [2,3] Tryz.func86
def wi:=cX [] [2] Tryz.func87
def wh:=cX [] [2] Tryz.func88
def wg:=cX [] [2] Tryz.func89
def we:=NU [] [] Tryz.func90
def oB:=NU [] [] Tryz.func91
def oA:=NU [] [1] Tryz.func92
def wc:=cX [] [] Tryz.func95
def wb:=cX [] [] Tryz.func96
def wa:=cX [] [1] Tryz.func97
set_option maxRecDepth 100000
set_option maxHeartbeats 4000000
def uU:=cX [] [] Tryz.func102
def fb:=cX [] [1,16] Tryz.func114
def fZ:=cX [] [] Tryz.func117
def uT:=cX [] [2] Tryz.func118
def uS:=cX [] [1,19] Tryz.func122
def uR:=NU [] [] Tryz.func124
def uQ:=cX [] [2,3] Tryz.func125
def uP:=cX [] [2,3] Tryz.func126
abbrev fu:AY:=(.DJ [⟨(some 4),.alloc [(.b false)],none⟩])
def nZ:List Au:=[⟨(some 5),.dB (.func 191) [] [(.t 4)],none⟩]
abbrev fq:AY:=(.seq [4] (.DJ [⟨(some 6),.mv (.t 0),none⟩,
 ⟨(some 7),.mv (.t 1),none⟩,
 ⟨(some 8),.call 128 [(.t 6),(.t 7)],none⟩,
 ⟨(some 9),.call 192 [(.t 8)],none⟩])
 (.seq [4] (.DJ [⟨none,.store 1 (.t 4) (.c (.b true)),none⟩])
 .ret))
def pY:Tryz.f127.body.bind (KO Tryz.prog Tryz.f127.ntmps [] [])=some (erase fu,nZ,(.t 5),erase fq):=by kernel_rfl
def uO {args:List V} (hn:args.length≤10) {σ:AH} {Q:R→AH→Prop} (h:W Tryz.prog (.seq [0,1,4] fu (.DJ nZ)) (Cg (de Tryz.prog (.t 5) [0,1,4] fq [.c 4 none] Q)) (BD 0 args) σ):BC Tryz.prog 127 args σ Q:=
 IK Tryz.func127 (by kernel_rfl) pY (by kernel_rfl) hn (oM h)
def uN:=cX [] [11] Tryz.func128
def XJ:=NU [] [2] Tryz.func131
def uM:=cX [] [1] Tryz.func132
def uL:=NU [] [2] Tryz.func133
def uK:=cX [] [] Tryz.func134
def fY:=cX [] [3] Tryz.func135
def uJ:=cX [] [2] Tryz.func136
set_option maxRecDepth 100000
set_option maxHeartbeats 4000000
def uI:=cX [] [2,3] Tryz.func146
def uH:=NU [] [1] Tryz.func147
def uG:=cX [] [1] Tryz.func148
def uF:=cX [] [2,3] Tryz.func149
def uE:=cX [] [1] Tryz.func150
def uD:=NU [] [1] Tryz.func151
def uC:=cX [] [1] Tryz.func155
def uB:=cX [] [1] Tryz.func156
def fX:=cX [] [6] Tryz.func157
def uA:=cX [] [] Tryz.func158
def tz:=cX [] [] Tryz.func160
def tx:=cX [] [] Tryz.func170
def tw:=cX [] [] Tryz.func171
def tv:=cX [] [1] Tryz.func174
def tu:=cX [] [2] Tryz.func175
def tt:=cX [] [1] Tryz.func180
def ts:=cX [] [] Tryz.func182
def tr:=cX [] [] Tryz.func183
def fW:=cX [] [2] Tryz.func184
def tq:=cX [] [] Tryz.func185
def tp:=cX [] [] Tryz.func186
def tn:=cX [] [4,5,6] Tryz.func187
def tl:=cX [] [5] Tryz.func188
def tk:=cX [] [] Tryz.func189
def tj:=cX [] [] Tryz.func190
def nY:List Au:=[⟨(some 5),.c8 260 (.a []) true (.t 4),none⟩,
    ⟨(some 3),.mv (.t 5),none⟩,
    ⟨(some 6),.extract 0 (.t 3),none⟩,
    ⟨(some 7),.extract 1 (.t 3),none⟩,
    ⟨(some 1),.alloc [],none⟩,
    ⟨none,.store 0 (.t 1) (.t 6),none⟩,
    ⟨(some 2),.mv (.t 7),none⟩]
abbrev fp:AY:=(.seq [0,8] (.DJ [⟨(some 8),.mv (.t 2),none⟩])
 (.cond (.t 8)
 (.DJ [⟨none,.store 1 (.t 0) (.c (.b false)),none⟩])
 .skip))
def pX:Tryz.f191.body.bind (resRec Tryz.prog Tryz.f191.ntmps [] [])=some (4,nY,erase fp):=by kernel_rfl
def Zj {args:List V} (hn:args.length≤9) {m:Option V} {σ:AH} {Q:AH→Prop} (h:W Tryz.prog (.seq [0,2] (.DJ nY) fp) (N9 Q) (put (some 4) (m.getD .Dm) (BD 0 args)) σ):HO Tryz.prog 191 args m σ Q:=
 Jq Tryz.func191 (by kernel_rfl) pX rfl hn (nE h)
def ti:=cX [] [] Tryz.func192
def th:=cX [] [3] Tryz.func193
set_option maxRecDepth 100000
set_option maxHeartbeats 4000000
def tg:=cX [] [3] Tryz.func194
def tf:=cX [] [3] Tryz.func195
def te:=cX [] [3] Tryz.func196
def td:=NU [] [] Tryz.func199
def fV:=cX [] [] Tryz.func200
def XI:=cX [] [] Tryz.func201
def tc:=NU [] [3] Tryz.func202
def tb:=cX [] [3] Tryz.func203
def ta:=cX [] [3,4,5] Tryz.func204
def tZ:=cX [] [] Tryz.func218
def tY:=cX [] [2] Tryz.func219
def tX:=cX [] [2] Tryz.func220
def tW:=cX [] [1] Tryz.func221
def tV:=cX [] [1] Tryz.func222
def tU:=cX [] [1] Tryz.func223
def tT:=NU [] [1] Tryz.func224
def tS:=cX [] [2,3] Tryz.func227
def tR:=cX [] [4,5] Tryz.func229
def tQ:=cX [] [] Tryz.func232
def tP:=cX [] [] Tryz.func233
def tN:=cX [] [3] Tryz.func234
def tM:=cX [] [] Tryz.func235
def tL:=cX [] [2,3] Tryz.func236
def tK:=cX [] [3,4] Tryz.func237
def tJ:=cX [] [] Tryz.func239
set_option maxRecDepth 100000
set_option maxHeartbeats 4000000
def fU:=cX [] [] Tryz.func242
def tI:=cX [] [] Tryz.func243
def tH:=cX [] [] Tryz.func245
def fT:=cX [] [3] Tryz.func246
def tG:=cX [] [] Tryz.func247
def tF:=cX [] [3] Tryz.func248
def tE:=cX [] [2] Tryz.func249
def tD:=cX [] [4,5,6,7] Tryz.func250
def tC:=cX [] [] Tryz.func258
def tB:=cX [] [3] Tryz.func259
def tA:=cX [] [] Tryz.func260
def s9:=cX [] [1] Tryz.func261
def s8:=cX [] [3] Tryz.func262
def s7:=cX [] [] Tryz.func263
def s6:=cX [] [] Tryz.func264
def s5:=cX [] [] Tryz.func265
def sy:=cX [] [2] Tryz.func266
def fS:=cX [] [3] Tryz.func267
def sx:=cX [] [] Tryz.func268
def sw:=cX [] [3] Tryz.func269
def su:=cX [] [4] Tryz.func270
def fR:=cX [] [2] Tryz.func272
def ss:=cX [] [] Tryz.func273
def sr:=cX [] [3] Tryz.func274
def so:=cX [] [] Tryz.func275
def sm:=cX [] [] Tryz.func276
def sj:=cX [] [2,3] Tryz.func277
abbrev ft:AY:=(.DJ [⟨(some 2),.alloc [(.b false)],none⟩])
def nX:List Au:=[⟨(some 3),.dB (.func 322) [] [(.t 2)],none⟩]
abbrev fo:AY:=(.seq [2] (.DJ [⟨(some 4),.mv (.t 0),none⟩,
 ⟨(some 5),.JB (.t 4) [],none⟩])
 (.seq [2] (.DJ [⟨none,.store 1 (.t 2) (.c (.b true)),none⟩])
 .ret))
def pW:Tryz.f280.body.bind (KO Tryz.prog Tryz.f280.ntmps [] [])=some (erase ft,nX,(.t 3),erase fo):=by kernel_rfl
def sh {args:List V} (hn:args.length≤6) {σ:AH} {Q:R→AH→Prop} (h:W Tryz.prog (.seq [0,2] ft (.DJ nX)) (Cg (de Tryz.prog (.t 3) [0,2] fo [.c 2 none] Q)) (BD 0 args) σ):BC Tryz.prog 280 args σ Q:=
 IK Tryz.func280 (by kernel_rfl) pW (by kernel_rfl) hn (oM h)
def sg:=cX [] [] Tryz.func281
def sf:=cX [] [1] Tryz.func282
def fQ:=cX [] [] Tryz.func283
def se:=cX [] [7] Tryz.func284
def sd:=cX [] [3,4,5] Tryz.func285
def sc:=cX [] [3,4] Tryz.func286
def sb:=cX [] [] Tryz.func287
def sa:=cX [] [1] Tryz.func288
def sZ:=cX [] [] Tryz.func289
set_option maxRecDepth 100000
set_option maxHeartbeats 4000000
def sY:=cX [] [1] Tryz.func290
def sX:=cX [] [] Tryz.func291
def sW:=cX [] [] Tryz.func293
def sV:=NU [] [2,3] Tryz.func295
def sU:=cX [] [] Tryz.func296
def sT:=cX [] [3,5] Tryz.func297
def sS:=cX [] [3] Tryz.func298
def sR:=cX [] [2] Tryz.func300
def fP:=cX [] [] Tryz.func301
def sQ:=cX [] [2] Tryz.func302
def sP:=cX [] [] Tryz.func303
def sO:=cX [] [] Tryz.func304
def sN:=cX [] [] Tryz.func305
def sM:=cX [] [4] Tryz.func306
def sL:=cX [] [] Tryz.func310
def sK:=cX [] [] Tryz.func311
def sJ:=cX [] [] Tryz.func312
def sI:=cX [] [] Tryz.func313
def sH:=cX [] [] Tryz.func314
def sG:=cX [] [] Tryz.func315
def sF:=cX [] [2,3] Tryz.func316
def sE:=cX [] [] Tryz.func317
def sD:=cX [] [] Tryz.func318
def sC:=cX [] [] Tryz.func319
def sB:=cX [] [] Tryz.func320
def sA:=cX [] [2] Tryz.func321
def nV:List Au:=[⟨(some 1),.mv (.t 4),none⟩]
abbrev fm:AY:=(.seq [0,1,6] (.DJ [⟨(some 5),.mv (.t 1),none⟩,
 ⟨(some 6),.dF 2 true (.t 5),none⟩])
 (.cond (.t 6)
 (.seq [0] (.seq [0,1,3] (.DJ [⟨(some 8),.mv (.t 1),none⟩,
  ⟨(some 9),.c8 377 (.a []) true (.t 8),none⟩,
  ⟨(some 7),.mv (.t 9),none⟩,
  ⟨(some 10),.extract 0 (.t 7),none⟩,
  ⟨(some 11),.extract 1 (.t 7),none⟩,
  ⟨(some 2),.alloc [],none⟩,
  ⟨none,.store 0 (.t 2) (.t 10),none⟩,
  ⟨(some 3),.mv (.t 11),none⟩])
 (.seq [0,1,13] (.DJ [⟨(some 12),.mv (.t 3),none⟩,
  ⟨(some 13),.not (.t 12),none⟩])
 (.cond (.t 13)
 (.DJ [⟨(some 14),.mv (.t 1),none⟩,
  ⟨none,.panic (.t 14),none⟩])
 .skip)))
 (.DJ [⟨none,.store 1 (.t 0) (.c (.b false)),none⟩]))
 .skip))
def pV:Tryz.f322.body.bind (resRec Tryz.prog Tryz.f322.ntmps [] [])=some (4,nV,erase fm):=by kernel_rfl
def Zi {args:List V} (hn:args.length≤15) {m:Option V} {σ:AH} {Q:AH→Prop} (h:W Tryz.prog (.seq [0,1] (.DJ nV) fm) (N9 Q) (put (some 4) (m.getD .Dm) (BD 0 args)) σ):HO Tryz.prog 322 args m σ Q:=
 Jq Tryz.func322 (by kernel_rfl) pV rfl hn (nE h)
def r9:=cX [] [] Tryz.func323
def r8:=cX [] [] Tryz.func324
def r5:=cX [] [2] Tryz.func325
def rz:=cX [] [] Tryz.func326
def ry:=cX [] [4] Tryz.func327
def fO:=cX [] [6] Tryz.func328
def ru:=cX [] [] Tryz.func329
def rn:=cX [] [] Tryz.func330
def rm:=cX [] [] Tryz.func331
def rl:=cX [] [0] Tryz.func332
def rj:=cX [] [2] Tryz.func333
def ri:=cX [] [] Tryz.func335
def rh:=cX [] [] Tryz.func336
set_option maxRecDepth 100000
set_option maxHeartbeats 4000000
def rf:=cX [] [3,4,5] Tryz.func338
def rZ:=cX [] [] Tryz.func339
def rY:=cX [] [] Tryz.func349
def rX:=cX [] [] Tryz.func350
def fN:=cX [] [1] Tryz.func351
def rW:=cX [] [] Tryz.func352
def rV:=cX [] [] Tryz.func353
def rU:=cX [] [] Tryz.func354
def rT:=cX [] [] Tryz.func355
def rS:=cX [] [] Tryz.func356
def rR:=cX [] [1] Tryz.func357
def rQ:=cX [] [1] Tryz.func358
def rP:=cX [] [1] Tryz.func365
def rO:=NU [] [] Tryz.func366
def rN:=NU [] [3] Tryz.func367
def rM:=cX [] [] Tryz.func368
def rL:=cX [] [1] Tryz.func369
def rK:=NU [] [1] Tryz.func370
def rJ:=cX [] [1] Tryz.func371
def rI:=cX [] [1] Tryz.func372
def rH:=NU [] [2] Tryz.func373
def rG:=cX [] [1] Tryz.func374
def rF:=cX [] [] Tryz.func376
def rE:=cX [] [0] Tryz.func377
def rD:=cX [] [] Tryz.func378
def rC:=cX [] [] Tryz.func379
def fM:=cX [] [] Tryz.func380
def rB:=cX [] [] Tryz.func381
def rA:=cX [] [] Tryz.func382
def qz:=cX [] [4,5] Tryz.func399
def qy:=cX [] [3,4,5] Tryz.func400
end Go.Gl
namespace Go.Gl
open Go.Proofs
attribute [local irreducible] BC Aw Ai AV AM Ah AU AW AN Ag AQ AS A3 BA Sat Ab A8 Ak W
def A4 (p:Prog):List (List Int):=p.AP.map (·.parents)
def pB (p:Prog):Prop:=p.AP.length≤Ad∧ ∀c∈p.AP,c.parents.length≤Ad∧c.AJ.length≤Ad∧c.inits.length≤Ad
def ZP (p:Prog) (hp:pB p) (hk0:p.AP.length≤1000):Pure Tryz.prog 122 [.a (BR p)] (.l (Eh (A4 p)) false):=by
 refine uS kZ ?_
 conv=>whnf
 repeat((first|(refine Aq ?_;intro K U)|(refine Aa ?_;intro I C G F)|(apply G;clear F C G I)|refine Be ?_|refine Dg ?_|(apply U;clear U K)|fail);conv=>whnf)
 refine CA p.AP.length (fun k v=>[(3,v),(4,eI (BG k))]) (fun k v=>[.own v 1 (Eh ((p.AP.take k).map (·.parents)))]) (fun _ _=>True) (.l [] true) rfl trivial (EM Sat.nil 1) ?_;rintro k v σ hk - hs
 conv=>whnf
 repeat((first|refine⟨rfl,?_⟩|refine Bs ?_|refine FB ?_|(refine Aq ?_;intro K U)|(refine Aa ?_;intro I C G F)|(apply G;clear F C G I)|refine Bl ?_|(apply U;clear U K)|fail);conv=>whnf)
 refine GD hk hp.1 (fun c hc hlt=>?_) fun hk=>?_
 ·have hcm:=hp.2 c (B9 hc)
  conv=>whnf
  repeat((first|refine Bs ?_|(refine Aq ?_;intro K U)|(refine Aa ?_;intro I C G F)|refine Bz ?_|refine Be ?_|(apply U;clear U K)|fail);conv=>whnf)
  refine I2 hc hp.1 rfl ?_
  conv=>whnf
  repeat((first|refine Bs ?_|fail);conv=>whnf)
  refine fF Bk (by have:=hcm.1;have hM:=Mx;omega) ?_
  conv=>whnf
  refine Fk hs 0 (x:=c.parents) rfl (by have hM:=Mx;simp only[A9,K1];omega) DF fun v' σ' hs'=>?_
  conv=>whnf
  repeat((first|refine⟨rfl,?_⟩|(refine Aa ?_;intro I C G F)|(apply G;clear F C G I)|(apply U;clear U K)|(clear U K));conv=>whnf)
  refine⟨hlt,v',rfl,trivial,?_⟩;rw[AO hc,Sd];exact hs'
 ·conv=>whnf
  repeat((first|(refine Aq ?_;intro K U)|(refine Aa ?_;intro I C G F)|(apply G;clear F C G I)|refine Dh ?_|refine Dd ?_|(apply U;clear U K)|(clear U K));conv=>whnf)
  exact EK hs 0 rfl (by rw[Ap hk];rfl)
def BV (i:Nat):List Qa→List Int
 | []=>[]
 | c::r=>List.replicate c.AJ.length ((i:Int)+3)++BV (i+1) r
def AR (p:Prog):AL:=⟨A4 p,BV 0 p.AP⟩
def Ik (i:Nat) (a b:List Qa):BV i (a++b)=BV i a++BV (i+a.length) b:=by
 induction a generalizing i with
 | nil=>simp[BV]
 | cons c r ih=>
   simp only[List.cons_append,BV,ih,Wd,K2];rw[show i+1+r.length=i+(r.length+1) by omega]
def Bp (cs:List Qa):Nat:=(cs.map (·.AJ.length)).sum
def Ce (i:Nat) (cs:List Qa):(BV i cs).length=Bp cs:=by
 induction cs generalizing i with
 | nil=>rfl
 | cons c r ih=>simp[BV,ih,Bp]
def P8 {cs:List Qa} {k:Nat} {c:Qa} (h:cs[k]? =some c):Bp (cs.take k)+c.AJ.length≤Bp cs:=by
 induction cs generalizing k with
 | nil=>cases h
 | cons d r ih=>
   cases k with
   | zero=>simp at h;subst h;simp[Bp]
   | succ k=>simp at h;have:=ih h;simp only[Bp,List.take_succ_cons,E3,List.sum_cons]at *;omega
def OF (p:Prog) (hp:pB p) (hk0:p.AP.length≤1000) (hm:Bp p.AP≤Ad):Pure Tryz.prog 53 [.a (BR p)] (.a (A7 (AR p))):=by
 refine xA kZ ?_
 conv=>whnf
 repeat((first|(refine Aq ?_;intro K U)|(refine Aa ?_;intro I C G F)|fail);conv=>whnf)
 intro n hn;have hs:=dY (l:=[]) (σ:=emp) Sat.nil hn (o:= .cs [.l [] true,.l [] true])
 conv=>whnf
 repeat((first|refine⟨kZ,?_⟩|refine Bs ?_|(refine Aq ?_;intro K U)|(refine Aa ?_;intro I C G F)|(apply G;clear F C G I)|(apply U;clear U K)|fail);conv=>whnf)
 refine(ZP p hp hk0).use ?_
 conv=>whnf
 intro m hm;have hs:=dY hs hm (o:= .cs [.l [] true,.l [] true])
 conv=>whnf
 refine G1 hs 1 rfl rfl rfl rfl (by decide) fun σ hs=>?_
 conv=>whnf
 repeat((first|(refine Aq ?_;intro K U)|(refine Aa ?_;intro I C G F)|(apply G;clear F C G I)|refine Be ?_|refine Dg ?_|(apply U;clear U K)|fail);conv=>whnf)
 refine CA p.AP.length (fun k _=>[(4,eI (BG k))]) (fun k v=>[.box n [.l [] true,.l [] true],.box m [.l (Eh (A4 p)) false,v],.own v 1 (iL (BV 0 (p.AP.take k)))]) (fun _ _=>True) (.l [] true) rfl trivial (EM hs 1) ?_;rintro k v σ hk - hs
 conv=>whnf
 repeat((first|refine⟨rfl,?_⟩|refine Bs ?_|refine FB ?_|(refine Aq ?_;intro K U)|(refine Aa ?_;intro I C G F)|(apply G;clear F C G I)|refine Bl ?_|(apply U;clear U K)|fail);conv=>whnf)
 refine GD hk hp.1 (fun c hc hlt=>?_) fun hk=>?_
 ·have hcm:=hp.2 c (B9 hc)
  have htk:=P8 hc
  conv=>whnf
  repeat((first|(refine Aq ?_;intro K U)|(refine Aa ?_;intro I C G F)|(apply G;clear F C G I)|refine Bz ?_|refine Be ?_|refine Dg ?_|(apply U;clear U K)|fail);conv=>whnf)
  refine CA c.AJ.length (fun j _=>[(5,eI (BG j))]) (fun j v=>[.box n [.l [] true,.l [] true],.box m [.l (Eh (A4 p)) false,v],.own v 1 (iL (BV 0 (p.AP.take k)++List.replicate j ((k:Int)+3)))]) (fun _ _=>True) v rfl trivial (by simpa using hs) ?_;rintro j v σ hj - hs
  conv=>whnf
  repeat((first|refine Bs ?_|(refine Aq ?_;intro K U)|(refine Aa ?_;intro I C G F)|fail);conv=>whnf)
  refine I2 hc hp.1 rfl ?_
  conv=>whnf
  repeat((first|refine⟨rfl,?_⟩|refine Bs ?_|refine FB ?_|(apply G;clear F C G I)|refine Bl ?_|(apply U;clear U K)|fail);conv=>whnf)
  refine GD hj hcm.2.1 (fun s hsl hjlt=>?_) fun hj=>?_
  ·conv=>whnf
   repeat((first|(refine Aq ?_;intro K U)|(refine Aa ?_;intro I C G F)|refine Bz ?_|refine Be ?_|(apply U;clear U K)|fail);conv=>whnf)
   refine Uh hs 1 rfl ?_
   conv=>whnf
   repeat((first|refine⟨rfl,?_⟩|fail);conv=>whnf)
   have he:IntKind.i64.wrap (BG k+3)=(k:Int)+3:=by
    have:=hp.1;rw[AK (by omega),wrap64 (by omega) (by simp only[Ad]at *;omega)]
   refine Fk hs 2 (x:=IntKind.i64.wrap (BG k+3)) rfl (by have hM:=Mx;simp only[Qv,Ce,List.length_replicate];omega) Bk fun v' σ' hs'=>?_
   conv=>whnf
   refine LV hs' 1 rfl (Gw hs' 2 rfl) kZ fun σ2 hs2=>?_
   conv=>whnf
   repeat((first|refine⟨rfl,?_⟩|(refine Aa ?_;intro I C G F)|(apply G;clear F C G I)|(apply U;clear U K)|(clear U K));conv=>whnf)
   refine⟨hjlt,v',rfl,trivial,?_⟩;rw[List.replicate_succ',←Wd];rw[he]at hs2;exact hs2
  ·conv=>whnf
   repeat((first|refine⟨rfl,?_⟩|(refine Aa ?_;intro I C G F)|(apply G;clear F C G I)|refine Dh ?_|(apply U;clear U K)|(clear U K));conv=>whnf)
   refine⟨hlt,v,rfl,trivial,?_⟩;rw[AO hc,Ik];have:(p.AP.take k).length=k:=by simp;omega
   rw[this];simpa[BV,hj]using hs
 ·conv=>whnf
  repeat((first|(refine Aq ?_;intro K U)|(refine Aa ?_;intro I C G F)|refine Dh ?_|(apply U;clear U K)|(clear U K));conv=>whnf)
  refine Uh hs 1 rfl ?_
  conv=>whnf
  repeat((first|refine⟨kZ,?_⟩|fail);conv=>whnf)
  refine G1 hs 0 rfl rfl rfl (by simp[Gw hs 2 rfl]) kZ fun σ2 hs2=>?_
  conv=>whnf
  repeat((first|(apply G;clear F C G I)|refine Dd ?_|(apply U;clear U K)|fail);conv=>whnf)
  refine Uh hs2 0 rfl ?_
  conv=>whnf
  repeat((first|refine⟨kZ,?_⟩|fail);conv=>whnf)
  refine Al (.a (.cons (.refl _) (.cons ?_ .nil)));have:=hs2.GX 2 rfl;rw[Ap hk]at this;exact this
def fE (xs:List Int) (f:Bool) (x:Int) (hx:xs.length≤Ad):Pure Tryz.prog 296 [.l (iL xs) f,.i .i64 x] (.b (xs.contains x)):=by
 refine sU kZ ?_
 conv=>whnf
 repeat((first|(refine Aq ?_;intro K U)|(refine Aa ?_;intro I C G F)|(apply G;clear F C G I)|refine Be ?_|refine Dg ?_|(apply U;clear U K)|fail);conv=>whnf)
 refine CA xs.length (fun k (_:Unit)=>[(5,eI (BG k))]) (fun _ _=>[]) (fun k _=>x∉xs.take k) () rfl (by simp) Sat.nil ?_;rintro k - σ hk hn -
 conv=>whnf
 repeat((first|refine⟨rfl,?_⟩|refine FB ?_|(refine Aq ?_;intro K U)|(refine Aa ?_;intro I C G F)|(apply G;clear F C G I)|refine Bl ?_|(apply U;clear U K)|fail);conv=>whnf)
 refine GD hk hx (fun y hy hlt=>?_) fun hk=>?_
 ·conv=>whnf
  repeat((first|(refine Aq ?_;intro K U)|(refine Aa ?_;intro I C G F)|refine Bz ?_|refine Be ?_|(apply U;clear U K)|fail);conv=>whnf)
  refine I2 hy hx rfl ?_
  conv=>whnf
  repeat((first|refine⟨rfl,?_⟩|refine Bs ?_|(apply G;clear F C G I)|refine Bl ?_|(apply U;clear U K)|fail);conv=>whnf)
  refine ZX (fun he=>?_) (fun he=>?_)
  ·conv=>whnf
   repeat((first|(refine Aq ?_;intro K U)|(refine Aa ?_;intro I C G F)|(apply G;clear F C G I)|refine Dd ?_|(apply U;clear U K)|(clear U K));conv=>whnf)
   refine AI ?_;have:x∈xs:=he ▸ B9 hy;simp[this]
  ·conv=>whnf
   repeat((first|refine⟨rfl,?_⟩|(refine Aa ?_;intro I C G F)|(apply G;clear F C G I)|refine Bz ?_|(apply U;clear U K)|(clear U K));conv=>whnf)
   refine⟨hlt,(),rfl,?_,Sat.nil⟩;rw[AO hy];simp only[E7,Kz,not_or];exact⟨hn,fun e=>he e.symm⟩
 ·conv=>whnf
  repeat((first|(refine Aq ?_;intro K U)|(refine Aa ?_;intro I C G F)|(apply G;clear F C G I)|refine Dh ?_|refine Dd ?_|(apply U;clear U K)|(clear U K));conv=>whnf)
  refine AI ?_;rw[Ap hk]at hn;simp[hn]
def Pp (xs:List Int) (f:Bool) (x:Int) (hx:xs.length≤Ad):Pure Tryz.prog 355 [.l (iL xs) f,.i .i64 x] (.l (iL (xs.filter (· != x))) false):=by
 refine rT kZ ?_
 conv=>whnf
 repeat((first|(refine Aq ?_;intro K U)|(refine Aa ?_;intro I C G F)|(apply G;clear F C G I)|refine Be ?_|refine Dg ?_|(apply U;clear U K)|fail);conv=>whnf)
 refine CA xs.length (fun k v=>[(5,v),(6,eI (BG k))]) (fun k v=>[.own v 1 (iL ((xs.take k).filter (· != x)))]) (fun _ _=>True) (.l [] true) rfl trivial (EM Sat.nil 1) ?_;rintro k v σ hk - hs
 conv=>whnf
 repeat((first|refine⟨rfl,?_⟩|refine FB ?_|(refine Aq ?_;intro K U)|(refine Aa ?_;intro I C G F)|(apply G;clear F C G I)|refine Bl ?_|(apply U;clear U K)|fail);conv=>whnf)
 refine GD hk hx (fun y hy hlt=>?_) fun hk=>?_
 ·conv=>whnf
  repeat((first|(refine Aq ?_;intro K U)|(refine Aa ?_;intro I C G F)|refine Bz ?_|refine Be ?_|(apply U;clear U K)|fail);conv=>whnf)
  refine I2 hy hx rfl ?_
  conv=>whnf
  repeat((first|refine⟨rfl,?_⟩|refine Bs ?_|(apply G;clear F C G I)|refine Bl ?_|(apply U;clear U K)|fail);conv=>whnf)
  refine mF (fun he=>?_) (fun he=>?_)
  ·conv=>whnf
   repeat((first|(refine Aa ?_;intro I C G F)|fail);conv=>whnf)
   refine I2 hy hx rfl ?_
   conv=>whnf
   repeat((first|refine Bs ?_|fail);conv=>whnf)
   refine Fk hs 0 (x:=y) rfl (by have:=Oa (· != x) (xs.take k);simp only[K1]at this;have hM:=Mx;omega) Bk fun v' σ' hs'=>?_
   conv=>whnf
   repeat((first|refine⟨rfl,?_⟩|(refine Aa ?_;intro I C G F)|(apply G;clear F C G I)|(apply U;clear U K)|(clear U K));conv=>whnf)
   refine⟨hlt,v',rfl,trivial,?_⟩;rw[AO hy,List.filter_append];simpa[he]using hs'
  ·conv=>whnf
   repeat((first|refine⟨rfl,?_⟩|(refine Aa ?_;intro I C G F)|(apply G;clear F C G I)|refine Bz ?_|(apply U;clear U K)|(clear U K));conv=>whnf)
   refine⟨hlt,v,rfl,trivial,?_⟩;rw[AO hy,List.filter_append];simpa[he]using hs
 ·conv=>whnf
  repeat((first|(refine Aq ?_;intro K U)|(refine Aa ?_;intro I C G F)|(apply G;clear F C G I)|refine Dh ?_|refine Dd ?_|(apply U;clear U K)|(clear U K));conv=>whnf)
  exact EK hs 0 rfl (by rw[Ap hk])
def free (ls:List (List Int)) (x:Int):Bool:=ls.all fun l=> !(l.drop 1).contains x
def mC (ls:List (List Int)) (f:Bool) (x:Int) (hl:ls.length≤Ad) (hls: ∀l∈ls,l.length≤Ad):Pure Tryz.prog 356 [.l (Eh ls) f,.i .i64 x] (.b (free ls x)):=by
 refine rS kZ ?_
 conv=>whnf
 repeat((first|(refine Aq ?_;intro K U)|(refine Aa ?_;intro I C G F)|(apply G;clear F C G I)|refine Be ?_|refine Dg ?_|(apply U;clear U K)|fail);conv=>whnf)
 refine CA ls.length (fun k (_:Unit)=>[(5,eI (BG k))]) (fun _ _=>[]) (fun k _=> ∀l∈ls.take k,x∉l.drop 1) () rfl (by simp) Sat.nil ?_;rintro k - σ hk hn -
 conv=>whnf
 repeat((first|refine⟨rfl,?_⟩|refine FB ?_|(refine Aq ?_;intro K U)|(refine Aa ?_;intro I C G F)|(apply G;clear F C G I)|refine Bl ?_|(apply U;clear U K)|fail);conv=>whnf)
 refine GD hk hl (fun y hy hlt=>?_) fun hk=>?_
 ·have hb:=hls _ (B9 hy)
  have next:(x∉y.drop 1)→ ∀l∈ls.take (k+1),x∉l.drop 1:=fun hc l hm=>by
   rw[AO hy]at hm;rcases E7.1 hm with hm|hm
   ·exact hn l hm
   ·rw[Kz.1 hm];exact hc
  conv=>whnf
  repeat((first|(refine Aq ?_;intro K U)|(refine Aa ?_;intro I C G F)|refine Bz ?_|refine Be ?_|(apply U;clear U K)|fail);conv=>whnf)
  refine I2 hy hl rfl ?_
  conv=>whnf
  repeat((first|refine⟨rfl,?_⟩|refine Bs ?_|refine FB ?_|fail);conv=>whnf)
  refine⟨fun h=>?_,fun h=>?_⟩<;>(try rw[h])
  ·have hp:=of_decide_eq_true h
   simp only[A9]at hp
   conv=>whnf
   repeat((first|refine Mq ?_|fail);conv=>whnf)
   refine I2 hy hl rfl ?_
   conv=>whnf
   repeat((first|refine Mq ?_|refine Bs ?_|fail);conv=>whnf)
   refine U9 1 rfl (by omega) (fun _=>rfl) ?_
   conv=>whnf
   repeat((first|refine Mq ?_|fail);conv=>whnf)
   refine(fE _ _ _ (by rw[oR];omega)).use ?_
   conv=>whnf
   repeat((first|(apply G;clear F C G I)|refine Bl ?_|(apply U;clear U K)|fail);conv=>whnf)
   refine⟨fun hc=>?_,fun hc=>?_⟩
   ·conv=>whnf
    repeat((first|(refine Aq ?_;intro K U)|(refine Aa ?_;intro I C G F)|(apply G;clear F C G I)|refine Dd ?_|(apply U;clear U K)|(clear U K));conv=>whnf)
    refine AI ?_
    have:free ls x=false:=by
     simp only[free,List.all_eq_false];exact⟨y,B9 hy,by simpa using hc⟩
    rw[this]
   ·conv=>whnf
    repeat((first|refine⟨rfl,?_⟩|(refine Aa ?_;intro I C G F)|(apply G;clear F C G I)|refine Bz ?_|(apply U;clear U K)|(clear U K));conv=>whnf)
    exact⟨hlt,(),rfl,next (by simpa using hc),Sat.nil⟩
  ·have hp: ¬_:=of_decide_eq_false h
   simp only[A9]at hp
   conv=>whnf
   repeat((first|refine⟨rfl,?_⟩|refine TJ ?_|(refine Aa ?_;intro I C G F)|(apply G;clear F C G I)|refine Bl ?_|refine Bz ?_|(apply U;clear U K)|(clear U K));conv=>whnf)
   refine⟨hlt,(),rfl,next ?_,Sat.nil⟩;rw[List.drop_eq_nil_of_le (by omega)];simp
 ·conv=>whnf
  repeat((first|(refine Aq ?_;intro K U)|(refine Aa ?_;intro I C G F)|(apply G;clear F C G I)|refine Dh ?_|refine Dd ?_|(apply U;clear U K)|(clear U K));conv=>whnf)
  rw[Ap hk]at hn;refine AI ?_;have:free ls x=true:=by simpa[free]using hn
  rw[this]
def A2 (ls:List (List Int)) (c:Int):List Int:=if c<3 then []else ls.getD (c - 3).toNat []
def Xj (ls:List (List Int)) (f:Bool) (c:Int) (hc:c<3+ls.length) (hm:ls.length≤Ad):Pure Tryz.prog 354 [.l (Eh ls) f,.i .i64 c] (.l (iL (A2 ls c)) false):=by
 refine rU kZ ?_
 conv=>whnf
 repeat((first|refine⟨rfl,?_⟩|(refine Aq ?_;intro K U)|(refine Aa ?_;intro I C G F)|(apply G;clear F C G I)|refine Bl ?_|(apply U;clear U K)|fail);conv=>whnf)
 refine fork (fun h=>?_) (fun h=>?_)
 ·conv=>whnf
  repeat((first|(refine Aq ?_;intro K U)|(refine Aa ?_;intro I C G F)|(apply G;clear F C G I)|refine Dd ?_|(apply U;clear U K)|(clear U K));conv=>whnf)
  refine Al (.l (fun h=>(by cases h)) ?_);rw[A2,if_pos h];exact .nil
 ·conv=>whnf
  repeat((first|refine⟨rfl,?_⟩|(refine Aq ?_;intro K U)|(refine Aa ?_;intro I C G F)|refine Bz ?_|(apply U;clear U K)|fail);conv=>whnf)
  simp only[Ad]at hm;have hlt:(c - 3).toNat<ls.length:=by omega
  refine UY (c - 3).toNat (C7 hlt) (by rw[wrap64 (by omega) (by omega)];omega) rfl ?_
  conv=>whnf
  repeat((first|refine Bs ?_|(apply G;clear F C G I)|refine Dd ?_|(apply U;clear U K)|fail);conv=>whnf)
  refine AI ?_;rw[A2,if_neg h,DZ,C7 hlt];rfl
def EL (ls os:List (List Int)) (c:Int):Option (List (List Int)):=
 if(A2 ls c).any fun p=>(os.getD p.toNat []).isEmpty then none else some ((A2 ls c).map (fun p=>(os.getD p.toNat []).filter (· != 0))++[A2 ls c])
def wH (o:Option (List (List Int))):V:=match o with|some l=> .t [.l (Eh l) false,.b true]|none=> .t [.l [] false,.b false]
def iF (ls os:List (List Int)) (f:Bool) (w:V) (c:Int) (hc:c<3+ls.length) (hm:ls.length≤Ad) (hos: ∀o∈os,o.length≤Ad) (hpl:(A2 ls c).length<1000000)
    (hp: ∀p∈A2 ls c,0≤p∧p.toNat<os.length):Bj Tryz.prog 331 [.l (Eh ls) f,w,.i .i64 c] [.own w 1 (Eh os)] fun r post=>r= .ret (wH (EL ls os c))∧post= [.own w 1 (Eh os)]:=by
 have hM:=Mx;intro σ hs;refine rm kZ ?_
 conv=>whnf
 repeat((first|(refine Aq ?_;intro K U)|(refine Aa ?_;intro I C G F)|(apply G;clear F C G I)|(apply U;clear U K)|fail);conv=>whnf)
 refine(Xj _ _ _ hc hm).use ?_
 conv=>whnf
 repeat((first|(refine Aq ?_;intro K U)|(refine Aa ?_;intro I C G F)|(apply G;clear F C G I)|refine Be ?_|refine Dg ?_|(apply U;clear U K)|fail);conv=>whnf)
 refine CA (A2 ls c).length (fun k v=>[(8,v),(10,eI (BG k))]) (fun k v=>[.own w 1 (Eh os),.own v 1 (Eh (((A2 ls c).take k).map fun p=>(os.getD p.toNat []).filter (· != 0)))]) (fun k _=> ∀p∈(A2 ls c).take k,(os.getD p.toNat []).isEmpty=false)
  (.l [] true) rfl (by simp) (EM hs 1) ?_
 rintro k v σ hk hne hs
 conv=>whnf
 repeat((first|refine⟨rfl,?_⟩|refine FB ?_|(refine Aq ?_;intro K U)|(refine Aa ?_;intro I C G F)|(apply G;clear F C G I)|refine Bl ?_|(apply U;clear U K)|fail);conv=>whnf)
 refine GD hk (by omega) (fun p hpk hlt=>?_) fun hk=>?_
 ·obtain ⟨hp0,hp1⟩:=hp _ (B9 hpk)
  have hq:=C7 hp1
  have hgd:os.getD p.toNat []=os[p.toNat]:=by
   rw[DZ,hq];rfl
  have hqm:(Eh os)[p.toNat]? =some [.l (iL os[p.toNat]) false]:=by rw[MP,hq];rfl
  conv=>whnf
  repeat((first|(refine Aq ?_;intro K U)|(refine Aa ?_;intro I C G F)|refine Bz ?_|refine Be ?_|(apply U;clear U K)|fail);conv=>whnf)
  refine I2 hpk (by omega) rfl ?_
  conv=>whnf
  repeat((first|refine Bs ?_|fail);conv=>whnf)
  refine jV hs 0 p.toNat rfl (by omega) (by simpa using hp1) ?_
  conv=>whnf
  refine H6 hs 0 rfl hqm ?_
  conv=>whnf
  repeat((first|refine⟨rfl,?_⟩|refine FB ?_|(apply G;clear F C G I)|refine Bl ?_|(apply U;clear U K)|fail);conv=>whnf)
  refine ZX (fun he=>?_) (fun he=>?_)
  ·conv=>whnf
   repeat((first|(refine Aq ?_;intro K U)|(refine Aa ?_;intro I C G F)|(apply G;clear F C G I)|refine Dd ?_|(apply U;clear U K)|(clear U K));conv=>whnf)
   have hn:EL ls os c=none:=by
    simp only[EL];rw[if_pos];rw[Jy];refine⟨p,B9 hpk,?_⟩;rw[hgd];have:(os[p.toNat]).length=0:=by simpa using he
    simp[YL.1 this]
   rw[hn];exact Av (l':=[.own w 1 (Eh os)]) hs (by simp) (.t (.cons (.l (fun h=>(by cases h)) .nil) (.cons (.refl _) .nil))) fun σ' hs'=>⟨_,⟨rfl,rfl⟩,hs'⟩
  ·conv=>whnf
   repeat((first|(refine Aa ?_;intro I C G F)|refine Bz ?_|(apply U;clear U K)|fail);conv=>whnf)
   refine I2 hpk (by omega) rfl ?_
   conv=>whnf
   repeat((first|refine Bs ?_|fail);conv=>whnf)
   refine jV hs 0 p.toNat rfl (by omega) (by simpa using hp1) ?_
   conv=>whnf
   refine H6 hs 0 rfl hqm ?_
   conv=>whnf
   refine(Pp _ _ _ (hos _ (List.getElem_mem hp1))).use ?_
   conv=>whnf
   refine Fk hs 1 (x:=os[p.toNat].filter (· != 0)) rfl (by have hM:=Mx;simp;omega) DF fun v' σ' hs'=>?_
   conv=>whnf
   repeat((first|refine⟨rfl,?_⟩|(refine Aa ?_;intro I C G F)|(apply G;clear F C G I)|(apply U;clear U K)|(clear U K));conv=>whnf)
   refine⟨hlt,v',rfl,fun q hm=>?_,?_⟩
   ·rw [AO hpk]at hm
    rcases E7.1 hm with hm|hm
    ·exact hne q hm
    ·rw[Kz.1 hm,hgd]
     have:(os[p.toNat]).length≠0:=by
      intro e;exact he (by simp[e])
     cases hq:os[p.toNat]with
     | nil=>rw[hq]at this;exact absurd rfl this
     | cons _ _=>rfl
   ·rw[AO hpk,Sd,List.map_singleton,hgd]
    exact hs'
 ·rw[Ap hk]at hne hs
  conv=>whnf
  repeat((first|(refine Aq ?_;intro K U)|(refine Aa ?_;intro I C G F)|refine Dh ?_|(apply U;clear U K)|(clear U K));conv=>whnf)
  refine Fk hs 1 (x:=A2 ls c) rfl (by have hM:=Mx;simp;omega) DF fun v' σ' hs'=>?_
  conv=>whnf
  repeat((first|(apply G;clear F C G I)|refine Dd ?_|(apply U;clear U K)|fail);conv=>whnf)
  have hn:EL ls os c=some ((A2 ls c).map (fun p=>(os.getD p.toNat []).filter (· != 0))++[A2 ls c]):=by
   simp only[EL];rw[if_neg];rw[Jy];rintro⟨p,h1,h2⟩;rw[hne p h1]at h2;cases h2
  rw[hn];obtain⟨σ2,h1,h2,h3⟩:=I5 hs' 1 rfl;exact Gp h1 (.t (.cons h2 (.cons (.refl _) .nil))) ⟨_,⟨rfl,rfl⟩,h3⟩
def pick (ls:List (List Int)):Option Int:=(ls.find? fun l=>match l with| []=>false|x::_=>free ls x).bind List.head?
def total (ls:List (List Int)):Nat:=(ls.map List.length).sum
def DL:Nat→List (List Int)→List Int→List Int×Bool
 | 0,ls,out=>(out,ls.all List.isEmpty)
 | n+1,ls,out=>match pick ls with
   | none=>(out,ls.all List.isEmpty)
   | some x=>DL n (ls.map fun l=>l.filter (· != x)) (out++[x])
def CM (ls:List (List Int)):List Int×Bool:=DL (total ls) ls []
def IB {ls:List (List Int)} {x:Int} (h:pick ls=some x):total (ls.map fun l=>l.filter (· != x))<total ls:=by
 unfold pick at h;rw[Option.bind_eq_some_iff]at h;obtain⟨l,h1,h2⟩:=h;have hm:=List.mem_of_find?_eq_some h1;clear h1;cases l with
 | nil=>cases h2
 | cons y r=>
   simp only[List.head?_cons,IT]at h2;subst h2
   have hle: ∀ls:List (List Int),total (ls.map fun l=>l.filter (· != y))≤total ls:=fun ls=>by
    induction ls with
    | nil=>simp[total]
    | cons a bs ih=>
      have:=Oa (· != y) a;simp only[total,E3,List.sum_cons]at *;omega
   induction ls with
   | nil=>cases hm
   | cons a bs ih=>
     rcases F6.1 hm with rfl|hm
     ·have h1:=hle bs
      have h2:=Oa (· != y) r;simp only[total,E3,List.sum_cons]at *;have:((y::r).filter (· != y)).length≤r.length:=by simpa using h2
      simp only[K2];omega
     ·have h1:=ih hm
      have h2:=Oa (· != y) a;simp only[total,E3,List.sum_cons]at *;omega
def MU (ls:List (List Int)):Prop:=ls.length≤1000000∧ ∀l∈ls,l.length≤Ad∧ ∀x∈l,0≤x
def MU.filter {ls:List (List Int)} (h:MU ls) (x:Int):MU (ls.map fun l=>l.filter (· != x)):=by
 refine⟨by rw[A9];exact h.1,fun l hl=>?_⟩;obtain⟨l',hl',rfl⟩:=MN.1 hl;obtain⟨h1,h2⟩:=h.2 l' hl';exact⟨Nat.le_trans (Oa _ _) h1,fun y hy=>h2 y (K0.1 hy).1⟩
def Du (ls:List (List Int)) (k:Nat):Int:=((((ls.take k).find? fun l=>match l with| []=>false|x::_=>free ls x).bind List.head?).getD (-1))
def WG : ∀ (n:Nat) (ls:List (List Int)) (out:List Int),total ls≤n→DL n ls out=DL (total ls) ls out:=by
 intro n
 induction n using Nat.strongRecOn with
 | _ n ih=>
   intro ls out hn;by_cases he:total ls=n
   ·rw[he]
   ·cases n with
    | zero=>omega
    | succ n=>
      cases hp:pick ls with
      | none=>
        cases ht:total ls with
        | zero=>simp[DL,hp]
        | succ m=>simp[DL,hp]
      | some x=>
        have h1:=IB hp;cases ht:total ls with
        | zero=>omega
        | succ m=>
          simp only[DL,hp];rw[ih n (by omega) _ _ (by omega),ih m (by omega) _ _ (by omega)]
def Nq {ls:List (List Int)} {x:Int} {out:List Int} (hp:pick ls=some x):DL (total ls) ls out=DL (total (ls.map fun l=>l.filter (· != x))) (ls.map fun l=>l.filter (· != x)) (out++[x]):=by
 have h1:=IB hp;cases ht:total ls with
 | zero=>omega
 | succ m=>
   simp only[DL,hp];exact WG m _ _ (by omega)
def P6 {ls:List (List Int)} {out:List Int} (hp:pick ls=none):DL (total ls) ls out=(out,ls.all List.isEmpty):=by
 cases ht:total ls with
 | zero=>rfl
 | succ m=>simp only[DL,hp]
def FC (ls:List (List Int)) (l:List Int):Bool:=match l with| []=>false|x::_=>free ls x
def Hk (ls:List (List Int)) (k:Nat):Du ls k=(((ls.take k).find? (FC ls)).bind List.head?).getD (-1):=rfl
def ID {ls:List (List Int)} (hok:MU ls) {k:Nat} (h:Du ls k<0):(ls.take k).find? (FC ls)=none:=by
 rw[Hk]at h;cases hf:(ls.take k).find? (FC ls)with
 | none=>rfl
 | some l=>
   rw[hf]at h;have hm:=List.mem_of_mem_take (List.mem_of_find?_eq_some hf);have hg:=List.find?_some hf;cases l with
   | nil=>cases hg
   | cons x r=>
     have:=(hok.2 _ hm).2 x (.head _);simp at h;omega
def WC {ls:List (List Int)} (hok:MU ls) {k:Nat} (hk:k<ls.length) (h:Du ls k<0):Du ls (k+1)=if FC ls ls[k]then(ls[k].head?).getD (-1)else -1:=by
 rw[Hk,List.take_succ_eq_append_getElem hk,List.find?_append,ID hok h];by_cases hg:FC ls ls[k]=true
 ·simp[hg]
 ·simp[hg]
def Pz {ls:List (List Int)} {k:Nat} (h:0≤Du ls k):pick ls=some (Du ls k):=by
 rw[Hk]at *;show((ls.find? (FC ls)).bind List.head?)=_;cases hf:(ls.take k).find? (FC ls)with
 | none=>rw[hf]at h;simp at h
 | some l=>
   have h1:ls.find? (FC ls)=some l:=by
    have:=List.take_append_drop k ls;rw[←this,List.find?_append,this,hf];rfl
   rw[h1];rw[hf]at h;cases l with
   | nil=>simp at h
   | cons x r=>simp
def JP {ls:List (List Int)} (hok:MU ls) {k:Nat} {l:List Int} (hl:ls[k]? =some l) (h:Du ls k<0):Du ls (k+1)=if FC ls l then(l.head?).getD (-1)else -1:=by
 obtain⟨hk,rfl⟩:=IS.1 hl;exact WC hok hk h
def aU {ls:List (List Int)} {l:List Int} (h:l∈ls):l.length≤total ls:=by
 induction ls with
 | nil=>cases h
 | cons a r ih=>
   simp only[total,E3,List.sum_cons]at *;rcases F6.1 h with rfl|h
   ·omega
   ·have:=ih h;omega
def iB (ls:List (List Int)) (f:Bool) (hok:MU ls) (ht:total ls<Ad):Pure Tryz.prog 332 [.l (Eh ls) f] (.t [.l (iL (CM ls).1) false,.b (CM ls).2]):=by
 have hM:=Mx;refine rl kZ ?_
 conv=>whnf
 repeat((first|(refine Aq ?_;intro K U)|(refine Aa ?_;intro I C G F)|(apply G;clear F C G I)|refine Be ?_|refine Dg ?_|(apply U;clear U K)|fail);conv=>whnf)
 refine EA (fun(x:List (List Int)×Bool×V×List Int)=>total x.1) (fun x=>[(0,.l (Eh x.1) x.2.1),(4,x.2.2.1)]) (fun x=>[.own x.2.2.1 1 (iL x.2.2.2)])
  (fun x=>MU x.1∧x.2.2.2.length+total x.1≤total ls∧DL (total x.1) x.1 x.2.2.2=CM ls) (ls,f,.l [] true,[]) rfl ⟨hok,by simp,rfl⟩ (EM Sat.nil 1) ?_
 rintro⟨ls',f',v,out⟩ σ ⟨hok',hlen,hm⟩ hs;dsimp only at hok' hlen hm hs;have hlm:ls'.length≤Ad:=by have:=hok'.1;omega
 conv=>whnf
 repeat((first|(refine Aq ?_;intro K U)|(refine Aa ?_;intro I C G F)|(apply G;clear F C G I)|refine Be ?_|refine Dg ?_|(apply U;clear U K)|fail);conv=>whnf)
 have hJ :=RA U (fun(y:Int×Bool)=>[(5,.i .i64 y.1),(6,.b y.2)]) (fun _=>[.own v 1 (iL out)]) (fun y=>(0≤y.1∧pick ls'=some y.1)∨(y.1<0∧pick ls'=none∧y.2=ls'.any fun l=> !l.isEmpty))
  [(0,.l (Eh ls') f'),(4,v),(5,.pn),(6,.pn)] (by
  rintro⟨nx,lf⟩ σ hor hs;dsimp only at hor
  conv=>whnf
  repeat((first|refine⟨rfl,?_⟩|(refine Aq ?_;intro K U)|(refine Aa ?_;intro I C G F)|(apply G;clear F C G I)|refine Bl ?_|(apply U;clear U K)|fail);conv=>whnf)
  refine fork (fun hneg=>?_) (fun hneg=>?_)
  ·conv=>whnf
   repeat((first|(refine Aq ?_;intro K U)|(refine Aa ?_;intro I C G F)|(apply G;clear F C G I)|refine Dd ?_|(apply U;clear U K)|(clear U K));conv=>whnf)
   rcases hor with⟨h0,_⟩|⟨_,hp,rfl⟩
   ·omega
   ·rw[P6 hp]at hm
    refine Al ?_;rw[←hm];refine .t (.cons (hs.GX 0 rfl) (.cons ?_ .nil));have:(!ls'.any fun l=> !l.isEmpty)=ls'.all List.isEmpty:=by simp[List.all_eq_not_any_not]
    rw[←this];exact .refl _
  ·conv=>whnf
   repeat((first|(refine Aq ?_;intro K U)|(refine Aa ?_;intro I C G F)|refine Bz ?_|(apply U;clear U K)|fail);conv=>whnf)
   rcases hor with⟨_,hp⟩|⟨h0,_⟩
   ·have hlt:=IB hp
    refine Fk hs 0 (x:=nx) rfl (by omega) Bk fun v' σ hs=>?_
    conv=>whnf
    repeat((first|(refine Aq ?_;intro K U)|(refine Aa ?_;intro I C G F)|(apply G;clear F C G I)|refine Be ?_|refine Dg ?_|(apply U;clear U K)|fail);conv=>whnf)
    refine CA ls'.length (fun k u=>[(8,u),(9,eI (BG k))]) (fun k u=>[.own v' 1 (iL (out++[nx])),.own u 1 (Eh ((ls'.take k).map fun l=>l.filter (· != nx)))]) (fun _ _=>True) (.l [] true) rfl trivial (EM hs 1) ?_;rintro k u σ hk - hs
    conv=>whnf
    repeat((first|refine⟨rfl,?_⟩|refine FB ?_|(refine Aq ?_;intro K U)|(refine Aa ?_;intro I C G F)|(apply G;clear F C G I)|refine Bl ?_|(apply U;clear U K)|fail);conv=>whnf)
    refine GD hk hlm (fun l hl hlt'=>?_) fun hk=>?_
    ·conv=>whnf
     repeat((first|(refine Aq ?_;intro K U)|(refine Aa ?_;intro I C G F)|refine Bz ?_|refine Be ?_|(apply U;clear U K)|fail);conv=>whnf)
     refine I2 hl hlm rfl ?_
     conv=>whnf
     repeat((first|refine Bs ?_|fail);conv=>whnf)
     refine(Pp _ _ _ (hok'.2 _ (B9 hl)).1).use ?_
     conv=>whnf
     refine Fk hs 1 (x:=l.filter (· != nx)) rfl (by have:=hok'.1;simp;omega) DF fun u' σ' hs'=>?_
     conv=>whnf
     repeat((first|refine⟨rfl,?_⟩|(refine Aa ?_;intro I C G F)|(apply G;clear F C G I)|(apply U;clear U K)|(clear U K));conv=>whnf)
     refine⟨hlt',u',rfl,trivial,?_⟩;rw[AO hl,Sd];exact hs'
    ·rw[Ap hk]at hs
     conv=>whnf
     repeat((first|(refine Aa ?_;intro I C G F)|refine Dh ?_|(apply U;clear U K)|(clear U K));conv=>whnf)
     refine o7 hs 1 rfl fun σ' hs'=>?_
     conv=>whnf
     repeat((first|(apply G;clear F C G I)|fail);conv=>whnf)
     refine⟨(ls'.map fun l=>l.filter (· != nx),false,v',out++[nx]),hlt,rfl,⟨hok'.filter nx,by simp;omega,?_⟩,hs'⟩;rw[←Nq hp];exact hm
   ·omega)
 clear U
 ·refine CA ls'.length (fun k (_:Unit)=>[(5,.i .i64 (Du ls' k)),(6,.b ((ls'.take k).any fun l=> !l.isEmpty)),(7,eI (BG k))]) (fun _ _=>[.own v 1 (iL out)]) (fun _ _=>True) () rfl trivial hs ?_
  rintro k - σ hk - hs
  conv=>whnf
  repeat((first|refine⟨rfl,?_⟩|refine FB ?_|(refine Aq ?_;intro K U)|(refine Aa ?_;intro I C G F)|fail);conv=>whnf)
  refine⟨fun h=>?_,fun h=>?_⟩<;>(try rw[h])
  ·have hlt:=of_decide_eq_true h
   rw[AK (by have:=hok'.1;omega)]at hlt;have hlt:=er hlt;have hl:=C7 hlt;have hb:=hok'.2 _ (List.getElem_mem hlt);generalize ls'[k]=l at *
   conv=>whnf
   repeat((first|refine⟨rfl,?_⟩|refine Mq ?_|(apply G;clear F C G I)|refine Bl ?_|(apply U;clear U K)|fail);conv=>whnf)
   refine fork (fun hneg=>?_) (fun hneg=>?_)
   ·conv=>whnf
    repeat((first|(refine Aq ?_;intro K U)|(refine Aa ?_;intro I C G F)|refine Bz ?_|refine Be ?_|(apply U;clear U K)|fail);conv=>whnf)
    refine I2 hl hlm rfl ?_
    conv=>whnf
    repeat((first|refine⟨rfl,?_⟩|refine Bs ?_|refine FB ?_|(apply G;clear F C G I)|refine Bl ?_|(apply U;clear U K)|fail);conv=>whnf)
    refine fork (fun hp=>?_) (fun hp=>?_)
    ·simp only[A9]at hp
     obtain⟨x,r,rfl⟩: ∃x r,l=x::r:=by cases l with
      | nil=>simp at hp
      | cons x r=>exact⟨x,r,rfl⟩
     have hany:((ls'.take (k+1)).any fun l=> !l.isEmpty)=true:=by
      rw[AO hl];simp
     conv=>whnf
     repeat((first|(refine Aq ?_;intro K U)|(refine Aa ?_;intro I C G F)|(apply G;clear F C G I)|(apply U;clear U K)|fail);conv=>whnf)
     refine I2 hl hlm rfl ?_
     conv=>whnf
     repeat((first|refine Bs ?_|fail);conv=>whnf)
     refine UY 0 rfl rfl rfl ?_
     conv=>whnf
     repeat((first|refine Bs ?_|fail);conv=>whnf)
     refine(mC _ _ _ hlm fun l hl=>(hok'.2 l hl).1).use ?_
     conv=>whnf
     repeat((first|(apply G;clear F C G I)|refine Bl ?_|(apply U;clear U K)|fail);conv=>whnf)
     refine⟨fun hf=>?_,fun hf=>?_⟩
     ·conv=>whnf
      repeat((first|(refine Aa ?_;intro I C G F)|fail);conv=>whnf)
      refine I2 hl hlm rfl ?_
      conv=>whnf
      repeat((first|refine Bs ?_|fail);conv=>whnf)
      refine UY 0 rfl rfl rfl ?_
      conv=>whnf
      repeat((first|refine⟨rfl,?_⟩|refine Bs ?_|(refine Aa ?_;intro I C G F)|(apply G;clear F C G I)|(apply U;clear U K)|fail);conv=>whnf)
      refine⟨hlt,(),?_,trivial,hs⟩;have:Du ls' (k+1)=x:=by rw[JP hok' hl hneg];simp[FC,hf]
      dsimp only;rw[this,hany];rfl
     ·conv=>whnf
      repeat((first|refine⟨rfl,?_⟩|(refine Aa ?_;intro I C G F)|(apply G;clear F C G I)|refine Bz ?_|(apply U;clear U K)|fail);conv=>whnf)
      refine⟨hlt,(),?_,trivial,hs⟩;have:Du ls' (k+1)=Du ls' k:=by rw[JP hok' hl hneg,Hk ls' k,ID hok' hneg];simp[FC,hf]
      dsimp only;rw[this,hany];rfl
    ·simp only[A9]at hp
     obtain rfl:l= []:=YL.1 (by omega)
     conv=>whnf
     repeat((first|refine⟨rfl,?_⟩|(refine Aa ?_;intro I C G F)|(apply G;clear F C G I)|refine Bz ?_|(apply U;clear U K)|fail);conv=>whnf)
     refine⟨hlt,(),?_,trivial,hs⟩;have:Du ls' (k+1)=Du ls' k:=by rw[JP hok' hl hneg,Hk ls' k,ID hok' hneg];simp[FC]
     have hany:((ls'.take (k+1)).any fun l=> !l.isEmpty)=((ls'.take k).any fun l=> !l.isEmpty):=by
      rw[AO hl,List.any_append];simp
     dsimp only;rw[this,hany];rfl
   ·conv=>whnf
    repeat((first|refine Dh ?_|(clear U K));conv=>whnf)
    refine hJ (Du ls' k,(ls'.take k).any fun l=> !l.isEmpty) _ _ rfl (.inl ⟨by omega,?_⟩) hs;exact Pz (by omega)
  ·have hlt:=of_decide_eq_false h
   rw[AK (by have:=hok'.1;omega)]at hlt;have hke:=Ze hk hlt
   conv=>whnf
   repeat((first|refine TJ ?_|(apply G;clear F C G I)|refine Bl ?_|refine Dh ?_|(apply U;clear U K)|(clear U K));conv=>whnf)
   refine hJ (Du ls' k,(ls'.take k).any fun l=> !l.isEmpty) _ _ rfl ?_ hs;rw[Ap hke];by_cases h0:0≤Du ls' k
   ·exact .inl ⟨h0,Pz h0⟩
   ·refine .inr ⟨by omega,?_,rfl⟩
    have:=ID hok' (k:=k) (by omega);rw[Ap hke]at this;show((ls'.find? (FC ls')).bind List.head?)=none;rw[this];rfl
def D3 (g os:List (List Int)) (c:Int):List Int:=
 match EL g os c with
 | none=>[]
 | some l=>if(CM l).2 then [c]++(CM l).1++[0]else []
def Bd (g:List (List Int)):Nat→List (List Int)
 | 0=>[[0]]
 | k+1=>Bd g k++[D3 g (Bd g k) ((k:Int)+1)]
def B7 (g:List (List Int)):List (List Int):=Bd g (2+g.length)
def Ib (g:List (List Int)):Prop:=g.length≤16∧ ∀(i:Nat) (l:List Int),g[i]? =some l→l.length≤3∧l.Nodup∧ ∀c∈l,(3:Int)≤c∧c<3+(i:Int)
def Ck (g:List (List Int)): ∀k,(Bd g k).length=k+1
 | 0=>rfl
 | k+1=>by simp[Bd,Ck g k]
def IF: ∀(n:Nat) (ls:List (List Int)) (out:List Int),(DL n ls out).1.length≤out.length+n
 | 0,ls,out=>by simp[DL]
 | n + 1,ls,out=>by
   simp only[DL];split
   ·simp
   ·rename_i x _
    have:=IF n (ls.map fun l=>l.filter (· != x)) (out++[x]);simp only[Qv,List.length_singleton]at this;refine Nat.le_trans this ?_;omega
def WB {ls:List (List Int)} (h: ∀l∈ls,∀x∈l,(0:Int)≤x) {x:Int} (hp:pick ls=some x):0≤x:=by
 unfold pick at hp;rw[Option.bind_eq_some_iff]at hp;obtain⟨l,h1,h2⟩:=hp;have hm:=List.mem_of_find?_eq_some h1;cases l with
 | nil=>cases h2
 | cons y r=>cases h2;exact h _ hm _ (.head _)
def J9: ∀(n:Nat) (ls:List (List Int)) (out:List Int),(∀l∈ls,∀x∈l,(0:Int)≤x)→(∀x∈out,(0:Int)≤x)→ ∀x∈(DL n ls out).1,(0:Int)≤x
 | 0,ls,out,_,h2=>h2
 | n + 1,ls,out,h1,h2=>by
   simp only[DL];split
   ·exact h2
   ·rename_i y hy
    refine J9 n _ _ (fun l hl x hx=>?_) fun x hx=>?_
    ·obtain⟨l',hl',rfl⟩:=MN.1 hl
     exact h1 _ hl' _ (K0.1 hx).1
    ·rcases E7.1 hx with hx|hx
     ·exact h2 x hx
     ·rw[Kz.1 hx];exact WB h1 hy
def DY {g:List (List Int)} (hg:Ib g) {c p:Int} (hp:p∈A2 g c):3≤p∧p<c:=by
 unfold A2 at hp;split at hp
 ·cases hp
 ·rename_i hc
  rw[DZ]at hp;cases hq:g[(c - 3).toNat]? with
  | none=>rw[hq]at hp;cases hp
  | some l=>
    rw[hq]at hp;obtain⟨_,_,h⟩:=hg.2 _ _ hq;have:=h p hp;omega
def C5 {g:List (List Int)} (hg:Ib g) (c:Int):(A2 g c).length≤3:=by
 unfold A2;split
 ·simp
 ·rw[DZ]
  cases hq:g[(c - 3).toNat]? with
  | none=>simp
  | some l=>exact(hg.2 _ _ hq).1
def Gr {g os:List (List Int)} {c:Int} {ls:List (List Int)} (h:EL g os c=some ls):ls=(A2 g c).map (fun p=>(os.getD p.toNat []).filter (· != 0))++[A2 g c]:=by
 unfold EL at h;split at h
 ·cases h
 ·exact(Option.some.inj h).symm
def VV {os:List (List Int)} {B:Nat} (h: ∀o∈os,o.length≤B) (n:Nat):(os.getD n []).length≤B:=by
 rw[DZ];cases hq:os[n]? with
 | none=>simp
 | some l=>exact h _ (B9 hq)
def PW {os:List (List Int)} {Q:Int→Prop} (h: ∀o∈os,∀x∈o,Q x) (n:Nat): ∀x∈os.getD n [],Q x:=by
 rw[DZ];cases hq:os[n]? with
 | none=>simp
 | some l=>exact h _ (B9 hq)
def FU {g os:List (List Int)} {c:Int} {ls:List (List Int)} (h:EL g os c=some ls) {B:Nat} (Z: ∀o∈os,o.length≤B):total ls≤(A2 g c).length*(B+1):=by
 rw[Gr h];simp only[total,Sd,List.map_map,List.sum_append,E3,List.map_nil,List.sum_cons,List.sum_nil,Nat.add_zero]
 have: ∀ps:List Int,(ps.map (List.length∘fun p=>(os.getD p.toNat []).filter (· != 0))).sum≤ps.length*B:=fun ps=>by
  induction ps with
  | nil=>simp
  | cons p r ih=>
    simp only[E3,List.sum_cons,Function.comp,K2,Nat.succ_mul];have h1:=Oa (· != 0) (os.getD p.toNat []);have h2:=VV Z p.toNat;simp only[Function.comp_def]at *;omega
 have:=this (A2 g c);rw[Nat.mul_add,Nat.mul_one];simp only[Function.comp_def]at *;omega
def WE {g os:List (List Int)} {c:Int} {B:Nat} (Z: ∀o∈os,o.length≤B):(D3 g os c).length≤(A2 g c).length*(B+1)+2:=by
 unfold D3;split
 ·simp
 ·rename_i ls h
  have h1:=FU h Z;have h2:=IF (total ls) ls [];simp only[List.length_nil,HD]at h2;split
  ·simp only[Qv,List.length_singleton,CM]
   omega
  ·simp
def QZ {g os:List (List Int)} {c:Int} (hg:Ib g) (hc:0≤c) (h: ∀o∈os,∀x∈o,(0:Int)≤x): ∀x∈D3 g os c,0≤x:=by
 unfold D3;split
 ·simp
 ·rename_i ls hl
  split
  ·intro x hx
   have hls: ∀l∈ls,∀x∈l,(0:Int)≤x:=by
    rw[Gr hl];intro l hl x hx;rcases E7.1 hl with hl|hl
    ·obtain⟨p,_,rfl⟩:=MN.1 hl
     exact PW h p.toNat x (K0.1 hx).1
    ·rw[Kz.1 hl]at hx
     have:=DY hg hx;omega
   simp only[E7,Kz]at hx;rcases hx with(rfl|hx)|rfl
   ·exact hc
   ·exact J9 _ _ _ hls (by simp) x hx
   ·exact Int.le_refl _
  ·simp
def I1 (k:Nat):Nat:=5*3 ^ (k - 3) - 3
def pq (n:Nat):1≤3 ^ n:=Nat.one_le_pow _ _ (by omega)
def IN {g : List (List Int)} (hg:Ib g): ∀(k:Nat),∀o∈Bd g k,o.length≤I1 k∧ ∀x∈o,(0:Int)≤x
 | 0,o,ho=>by
   simp only[Bd,Kz]at ho;subst ho;simp[I1]
 | k + 1,o,ho=>by
   have ih:=IN hg k
   have hmono:I1 k≤I1 (k+1):=by
    unfold I1;have:3 ^ (k - 3)≤3 ^ (k+1 - 3):=Nat.pow_le_pow_right (by omega) (by omega);omega
   simp only[Bd,E7,Kz]at ho;rcases ho with ho|rfl
   ·exact⟨Nat.le_trans (ih o ho).1 hmono,(ih o ho).2⟩
   ·refine⟨?_,QZ hg (by omega) fun o ho=>(ih o ho).2⟩
    have h1:=WE (g:=g) (c:=(k:Int)+1) fun o ho=>(ih o ho).1
    by_cases hk:k<3
    ·have:A2 g ((k:Int)+1)= []:=by
      apply List.eq_nil_iff_forall_not_mem.2;intro p hp;have:=DY hg hp;omega
     rw[this]at h1
     have:I1 (k+1)=2:=by
      have:k+1 - 3=0:=by omega
      simp[I1,this]
     simpa[this]using h1
    ·have h2:=C5 hg ((k:Int)+1)
     have h3:(A2 g ((k:Int)+1)).length*(I1 k+1)≤3*(I1 k+1):=T7 _ h2;have:k+1 - 3=(k - 3)+1:=by omega
     unfold I1 at *;rw[this,Nat.pow_succ];have:=pq (k - 3);omega
def Zo {k:Nat} (h:k≤18):I1 k≤71744535:=by
 unfold I1;have:3 ^ (k - 3)≤3 ^ 15:=Nat.pow_le_pow_right (by omega) (by omega);have e:(3:Nat) ^ 15=14348907:=by decide
 omega
def Ez {g:List (List Int)}: ∀ {k j:Nat},j≤k→(Bd g k)[j]? =(Bd g j)[j]?
 | 0,j,h=>by(obtain rfl:j=0:=by omega);rfl
 | k+1,j,h=>by
   by_cases e:j=k+1
   ·subst e;rfl
   ·rw[←Ez (k:=k) (by omega),Bd,jS (by rw[Ck];omega)]
def Xk {g os:List (List Int)} {c:Int} {ls:List (List Int)} (hg:Ib g) (h:EL g os c=some ls) {B:Nat} (Z: ∀o∈os,o.length≤B∧ ∀x∈o,(0:Int)≤x) (hb:B≤100000000):MU ls∧total ls<Ad:=by
 have h3:=C5 hg c;have ht:=FU h fun o ho=>(Z o ho).1
 have:(A2 g c).length*(B+1)≤3*(B+1):=T7 _ h3;have htl:total ls<Ad:=by simp only[Ad];omega
 refine⟨⟨?_,fun l hl=>⟨?_,?_⟩⟩,htl⟩
 ·rw[Gr h]
  simp only[Qv,A9,List.length_singleton,Ad];omega
 ·have:=aU hl
  simp only[Ad]at *;omega
 ·intro x hx
  rw[Gr h]at hl;rcases E7.1 hl with hl|hl
  ·obtain⟨p,_,rfl⟩:=MN.1 hl
   exact PW (fun o ho=>(Z o ho).2) p.toNat x (K0.1 hx).1
  ·rw[Kz.1 hl]at hx
   have:=DY hg hx;omega
def bF (g : List (List Int)) (f:Bool) (hg:Ib g):Pure Tryz.prog 297 [.l (Eh g) f] (.l (Eh (B7 g)) false):=by
 refine sT kZ ?_
 conv=>whnf
 repeat((first|(refine Aq ?_;intro K U)|(refine Aa ?_;intro I C G F)|(apply G;clear F C G I)|(apply U;clear U K)|fail);conv=>whnf)
 have hg16:=hg.1;have hgm:g.length≤Ad:=by simp only[Ad];omega
 refine⟨.l (Eh [[0]]) true,emp,fun _ _ h=>h,.l (fun _=>rfl) (.cons (.cons (.l (fun h=>(by cases h)) (.refl _ _ _)) .nil) .nil),?_⟩
 conv=>whnf
 repeat((first|(refine Aq ?_;intro K U)|(refine Aa ?_;intro I C G F)|(apply G;clear F C G I)|refine Be ?_|refine Dg ?_|(apply U;clear U K)|fail);conv=>whnf)
 refine CA (2+g.length) (fun k v=>[(3,v),(4,eI (LC 1 k))]) (fun k v=>[.own v 1 (Eh (Bd g k))]) (fun _ _=>True) (.l (Eh [[0]]) true) rfl trivial (jv Sat.nil (by simp)) ?_;rintro k v σ hk - hs;have hc1:LC 1 k=(k:Int)+1:=by rw[OX (by omega) (by omega)];omega
 have hw:IntKind.i64.wrap (3+((Eh g).length:Nat))=3+(g.length:Int):=by rw[A9,wrap64 (by omega) (by omega)]
 conv=>whnf
 repeat((first|refine⟨rfl,?_⟩|refine FB ?_|(refine Aq ?_;intro K U)|(refine Aa ?_;intro I C G F)|(apply G;clear F C G I)|refine Bl ?_|(apply U;clear U K)|fail);conv=>whnf)
 rw[hc1];rw[hw];refine fork (fun hlt=>?_) (fun hlt=>?_)
 ·have hlt':k<2+g.length:=by omega
  have Z:=IN hg k;have hb18:I1 k≤71744535:=Zo (by omega);have hc2:LC 1 (k+1)=IntKind.i64.wrap ((k:Int)+1+1):=by rw[LC,hc1]
  conv=>whnf
  repeat((first|(refine Aq ?_;intro K U)|(refine Aa ?_;intro I C G F)|refine Bz ?_|refine Be ?_|(apply U;clear U K)|fail);conv=>whnf)
  refine⟨.l (iL []) false,σ,fun _ _ h=>h,.l (fun h=>(by cases h)) (.refl _ _ _),?_⟩
  conv=>whnf
  repeat((first|(refine Aq ?_;intro K U)|(refine Aa ?_;intro I C G F)|(apply G;clear F C G I)|(apply U;clear U K)|fail);conv=>whnf)
  refine(iF g (Bd g k) f v ((k:Int)+1) (by omega) hgm (fun o ho=>by have:=(Z o ho).1;simp only[Ad];omega) (by have:=C5 hg ((k:Int)+1);omega)
   (fun p hp=>by have:=DY hg hp;rw[Ck];omega)).use (rest:=[]) hs ?_
  rintro r post σ' ⟨rfl,rfl⟩ hs;cases hl:EL g (Bd g k) ((k:Int)+1)with
  | none=>
    conv=>whnf
    repeat((first|refine TJ ?_|(refine Aq ?_;intro K U)|(refine Aa ?_;intro I C G F)|(apply G;clear F C G I)|refine Bl ?_|refine Bz ?_|(apply U;clear U K)|fail);conv=>whnf)
    refine Fk hs 0 (x:=[]) rfl (by rw[Ck];simp only[Ad];omega) DF fun v' σ' hs'=>?_
    conv=>whnf
    refine⟨v',σ',fun _ _ h=>h,.refl _,?_⟩
    conv=>whnf
    repeat((first|refine⟨rfl,?_⟩|(refine Aa ?_;intro I C G F)|(apply G;clear F C G I)|(apply U;clear U K)|(clear U K));conv=>whnf)
    refine⟨hlt',v',?_,trivial,?_⟩
    ·skip
     rw[hc2];rfl
    ·have:D3 g (Bd g k) ((k:Int)+1)= []:=by simp[D3,hl,]
     rw[Bd,this];exact hs'
  | some ls=>
    obtain⟨hok,htot⟩:=Xk hg hl Z (by omega)
    conv=>whnf
    repeat((first|refine Mq ?_|(refine Aq ?_;intro K U)|(refine Aa ?_;intro I C G F)|(apply G;clear F C G I)|refine Bl ?_|(apply U;clear U K)|fail);conv=>whnf)
    refine(iB ls false hok htot).use ?_;have hml:=IF (total ls) ls [];simp only[List.length_nil,HD]at hml
    conv=>whnf
    repeat((first|(refine Aq ?_;intro K U)|(refine Aa ?_;intro I C G F)|(apply G;clear F C G I)|refine Bl ?_|(apply U;clear U K)|fail);conv=>whnf)
    refine⟨fun h=>?_,fun h=>?_⟩<;>(try rw[h])
    ·conv=>whnf
     repeat((first|(refine Aa ?_;intro I C G F)|fail);conv=>whnf)
     refine HU (jv hs (by simp)) 1 (xs:=[(k:Int)+1]) rfl (by simp[CM];have:=FU hl fun o ho=>(Z o ho).1;have h3:=C5 hg ((k:Int)+1);have:(A2 g ((k:Int)+1)).length*(I1 k+1)≤3*(I1 k+1):=T7 _ h3;simp only[Ad]at *;omega) Bk fun u σ1 hs=>?_
     conv=>whnf
     refine Fk hs 1 (x:=0) rfl (by simp[CM];have:=FU hl fun o ho=>(Z o ho).1;have h3:=C5 hg ((k:Int)+1);have:(A2 g ((k:Int)+1)).length*(I1 k+1)≤3*(I1 k+1):=T7 _ h3;simp only[Ad]at *;omega) Bk fun u σ1 hs=>?_
     conv=>whnf
     refine o7 hs 1 rfl fun σ' hs=>?_
     conv=>whnf
     repeat((first|(refine Aa ?_;intro I C G F)|(apply G;clear F C G I)|(apply U;clear U K)|fail);conv=>whnf)
     refine Fk hs 0 (x:=([(k:Int)+1]++(CM ls).1++[0])) rfl (by rw[Ck];simp only[Ad];omega) DF fun v' σ' hs'=>?_
     conv=>whnf
     refine⟨v',σ',fun _ _ h=>h,.refl _,?_⟩
     conv=>whnf
     repeat((first|refine⟨rfl,?_⟩|(refine Aa ?_;intro I C G F)|(apply G;clear F C G I)|(apply U;clear U K)|(clear U K));conv=>whnf)
     refine⟨hlt',v',?_,trivial,?_⟩
     ·skip
      rw[hc2];rfl
     ·have:D3 g (Bd g k) ((k:Int)+1)=([(k:Int)+1]++(CM ls).1++[0]):=by simp[D3,hl,h]
      rw[Bd,this];exact hs'
    ·conv=>whnf
     repeat((first|(refine Aa ?_;intro I C G F)|refine Bz ?_|(apply U;clear U K)|fail);conv=>whnf)
     refine Fk hs 0 (x:=[]) rfl (by rw[Ck];simp only[Ad];omega) DF fun v' σ' hs'=>?_
     conv=>whnf
     refine⟨v',σ',fun _ _ h=>h,.refl _,?_⟩
     conv=>whnf
     repeat((first|refine⟨rfl,?_⟩|(refine Aa ?_;intro I C G F)|(apply G;clear F C G I)|(apply U;clear U K)|(clear U K));conv=>whnf)
     refine⟨hlt',v',?_,trivial,?_⟩
     ·skip
      rw[hc2];rfl
     ·have:D3 g (Bd g k) ((k:Int)+1)= []:=by simp[D3,hl,h]
      rw[Bd,this];exact hs'
 ·conv=>whnf
  repeat((first|(refine Aq ?_;intro K U)|(refine Aa ?_;intro I C G F)|(apply G;clear F C G I)|refine Dh ?_|refine Dd ?_|(apply U;clear U K)|(clear U K));conv=>whnf)
  have hke:k=2+g.length:=by omega
  subst hke;exact EK hs 0 rfl rfl
end Go.Gl
namespace Go.Gl
def par (ps:List (List Int)) (c:Nat):List Int:=if c<3 then []else ps.getD (c - 3) []
def ordered (ps:List (List Int)):Prop:= ∀c p,p∈par ps c→3≤p∧p<(c:Int)
def dJ (ps:List (List Int)):Nat→Nat→Nat→Bool
 | 0,c,b=>c==b
 | f+1,c,b=>c==b||(par ps c).any fun p=>dJ ps f p.toNat b
def Ju (ps:List (List Int)) (c b:Nat):Bool:=dJ ps c c b
def Kg {ps:List (List Int)} (ho:ordered ps): ∀(f c b:Nat),c≤f→dJ ps f c b=Ju ps c b
 | 0,c,b,h=>by(obtain rfl:c=0:=by omega);rfl
 | f + 1,c,b,h=>by
   cases c with
   | zero=>
     have:par ps 0= []:=rfl;simp[Ju,dJ,this]
   | succ c=>
     simp only[Ju,dJ];congr 1
     have key: ∀l:List Int,(∀p∈l,p∈par ps (c+1))→(l.any fun p=>dJ ps f p.toNat b)=l.any fun p=>dJ ps c p.toNat b:=by
      intro l hl
      induction l with
      | nil=>rfl
      | cons p r ih=>
        have hp:=ho (c+1) p (hl p (.head _));simp only[Qb];rw[ih fun q hq=>hl q (.tail _ hq),Kg ho f p.toNat b (by omega),Kg ho c p.toNat b (by omega)]
     exact key _ fun p hp=>hp
def FH {ps:List (List Int)} (ho:ordered ps) (c b:Nat):Ju ps c b=(c==b||(par ps c).any fun p=>Ju ps p.toNat b):=by
 cases c with
 | zero=>simp[Ju,dJ,par]
 | succ c=>
   simp only[Ju,dJ];congr 1
   have key: ∀l:List Int,(∀p∈l,p∈par ps (c+1))→(l.any fun p=>dJ ps c p.toNat b)=l.any fun p=>dJ ps p.toNat p.toNat b:=by
    intro l hl
    induction l with
    | nil=>rfl
    | cons p r ih=>
      have hp:=ho (c+1) p (hl p (.head _));simp only[Qb];rw[ih fun q hq=>hl q (.tail _ hq),Kg ho c p.toNat b (by omega)];rfl
   exact key _ fun p hp=>hp
def HY {ps:List (List Int)} (ho:ordered ps) (c:Nat):Ju ps c c=true:=by rw[FH ho];simp
def eM {ps:List (List Int)} (ho:ordered ps): ∀(c b:Nat),Ju ps c b=true→b≤c:=by
 intro c
 induction c using Nat.strongRecOn with
 | _ c ih=>
   intro b h;rw[FH ho]at h;simp only[Fo,D9,Jy]at h;rcases h with rfl|⟨p,hp,h⟩
   ·omega
   ·have:=ho c p hp
    have:=ih p.toNat (by omega) b h;omega
def Mv {ps:List (List Int)} (ho:ordered ps): ∀(a b c:Nat),Ju ps a b=true→Ju ps b c=true→Ju ps a c=true:=by
 intro a
 induction a using Nat.strongRecOn with
 | _ a ih=>
   intro b c h k;rw[FH ho]at h ⊢;simp only[Fo,D9,Jy]at h ⊢;rcases h with rfl|⟨p,hp,h⟩
   ·rw[FH ho]at k
    simpa using k
   ·have:=ho a p hp
    exact .inr ⟨p,hp,ih p.toNat (by omega) b c h k⟩
def FX (bs:List Bool) (i:Nat):List Int→List Bool
 | []=>bs
 | p::r=>FX (bs.set p.toNat (bs.getD p.toNat false||bs.getD i false)) i r
def MA (i:Nat): ∀(a b:List Int) (bs:List Bool),FX bs i (a++b)=FX (FX bs i a) i b
 | [],b,bs=>rfl
 | p::r,b,bs=>by simp only[List.cons_append,FX];exact MA i r b _
def M7 (i:Nat): ∀(l:List Int) (bs:List Bool),(FX bs i l).length=bs.length
 | [],bs=>rfl
 | p::r,bs=>by simp only[FX];rw[M7 i r];simp
def HH (ps:List (List Int)) (n c:Nat):Nat→List Bool
 | 0=>(List.replicate n false).set c true
 | k+1=>FX (HH ps n c k) (c - k) (par ps (c - k))
def LR (ps:List (List Int)) (n c:Nat): ∀k,(HH ps n c k).length=n
 | 0=>by simp[HH]
 | k+1=>by simp only[HH];rw[M7,LR ps n c k]
def EI {bs:List Bool} {j:Nat} {x:Bool} (hj:j<bs.length) (b:Nat):(bs.set j x).getD b false=if b=j then x else bs.getD b false:=by
 simp only[DZ,List.getElem?_set];by_cases h:j=b
 ·subst h;simp[hj]
 ·rw[if_neg h,if_neg (fun e=>h e.symm)]
def M8 {i:Nat}: ∀(l:List Int) (bs:List Bool),(∀p∈l,0≤p∧p.toNat<bs.length∧p.toNat<i)→ ∀b,(FX bs i l).getD b false=(bs.getD b false||(bs.getD i false&&l.contains (b:Int)))
 | [],bs,_,b=>by simp[FX]
 | p ::r,bs,h,b=>by
   obtain⟨h1,h2,h3⟩:=h p (.head _);simp only[FX];have hi:i≠p.toNat:=by omega
   rw[M8 r _ (fun q hq=>by have:=h q (.tail _ hq);simpa using this),EI h2,EI h2,if_neg hi];by_cases hb:b=p.toNat
   ·subst hb
    have:((p.toNat:Nat):Int)=p:=by omega
    simp only[if_true,this,List.contains_cons,beq_self_eq_true,Bool.true_or,Bool.and_true];cases bs.getD p.toNat false<;>cases bs.getD i false<;>simp
   ·rw[if_neg hb]
    have:((b:Int)==p)=false:=by simp;omega
    simp only[List.contains_cons,this,Bool.false_or]
def U3 {ps:List (List Int)} (ho:ordered ps) {n c:Nat} (hc:c<n): ∀k,k≤c - 2→(∀b,(HH ps n c k).getD b false=true→Ju ps c b=true)∧(HH ps n c k).getD c false=true∧
    (∀j p,c - k<j→(HH ps n c k).getD j false=true→p∈par ps j→(HH ps n c k).getD p.toNat false=true)
 | 0,_=>by
   have hg: ∀b,(HH ps n c 0).getD b false=decide (b=c):=fun b=>by
    simp only[HH];rw[EI (by simpa using hc)];by_cases h:b=c
    ·simp[h]
    ·rw[if_neg h]
     simp[h,DZ,List.getElem?_replicate];split<;>rfl
   refine⟨fun b hb=>?_,by rw[hg];simp,fun j p hj hb hp=>?_⟩
   ·rw[hg]at hb
    simp only[Cn]at hb;subst hb;exact HY ho _
   ·rw[hg]at hb
    simp only[Cn]at hb;omega
 | k + 1,hk=>by
   obtain⟨h1,h2,h3⟩:=U3 ho hc k (by omega)
   have hpar: ∀p∈par ps (c - k),0≤p∧p.toNat<(HH ps n c k).length∧p.toNat<c - k:=fun p hp=>by
    have:=ho _ p hp;rw[LR];omega
   have hg: ∀b,(HH ps n c (k+1)).getD b false=((HH ps n c k).getD b false||((HH ps n c k).getD (c - k) false&&(par ps (c - k)).contains (b:Int))):=fun b=>by
    simp only[HH];exact M8 _ _ hpar b
   refine⟨fun b hb=>?_,by rw[hg,h2];rfl,fun j p hj hb hp=>?_⟩
   ·rw[hg]at hb
    simp only[Fo,BJ,List.contains_iff_mem]at hb;rcases hb with hb|⟨hb,hm⟩
    ·exact h1 b hb
    ·refine Mv ho c (c - k) b (h1 _ hb) ?_
     rw[FH ho];simp only[Fo,Jy];exact .inr ⟨b,hm,by simpa using HY ho b⟩
   ·have hjp:=ho j p hp
    have hb':(HH ps n c k).getD j false=true:=by
     rw[hg]at hb;simp only[Fo,BJ,List.contains_iff_mem]at hb;rcases hb with hb|⟨_,hm⟩
     ·exact hb
     ·have:=ho _ _ hm
      omega
    rw[hg];by_cases e:j=c - k
    ·subst e
     rw[hb'];have:((p.toNat:Nat):Int)=p:=by omega
     simp only[this,Il,Fo,List.contains_iff_mem];exact .inr hp
    ·rw[h3 j p (by omega) hb' hp]
     rfl
def Yj {ps:List (List Int)} (ho:ordered ps) {n c:Nat} (hc:c<n) (b:Nat):(HH ps n c (c - 2)).getD b false=Ju ps c b:=by
 obtain⟨h1,h2,h3⟩:=U3 ho hc (c - 2) (Iu _)
 have key: ∀a,(HH ps n c (c - 2)).getD a false=true→ ∀b,Ju ps a b=true→(HH ps n c (c - 2)).getD b false=true:=by
  intro a
  induction a using Nat.strongRecOn with
  | _ a ih=>
    intro ha b hb;rw[FH ho]at hb;simp only[Fo,D9,Jy]at hb;rcases hb with rfl|⟨p,hp,hb⟩
    ·exact ha
    ·have:=ho a p hp
     exact ih p.toNat (by omega) (h3 a p (by omega) ha hp) b hb
 cases hb:Ju ps c b with
 | true=>exact key c h2 b hb
 | false=>
   cases hq:(HH ps n c (c - 2)).getD b false with
   | false=>rfl
   | true=>rw[h1 b hq]at hb;cases hb
end Go.Gl
