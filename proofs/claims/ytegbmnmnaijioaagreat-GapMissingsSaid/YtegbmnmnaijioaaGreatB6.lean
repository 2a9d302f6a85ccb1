import Derived.ChangeOld
import Derived.Below
import Derived.Carry
import Derived.ChangeArms
import Derived.Deep.Slices
import Derived.Test.YtegbmnmnaijioaaGreatProg
import Derived.KernelRfl
import Derived.Test.YtegbmnmnaijioaaGreatB5
set_option linter.all false
set_option linter.defProp false
noncomputable section
namespace Go.Gl
structure Py where
 parents:List Int
 AJ:List Int
 inits:List (Int×Int)
 deriving DecidableEq,Inhabited
structure Node where
 op:Int
 n:Int
 kids:List Int
 deriving DecidableEq,Inhabited
inductive Fact where
 | mk (op arg:Int) (path:List Int) (cls n:Int) (kids:List Fact)
 deriving Inhabited
namespace Fact
def op:Fact→Int|mk o _ _ _ _ _=>o
def arg:Fact→Int|mk _ a _ _ _ _=>a
def path:Fact→List Int|mk _ _ p _ _ _=>p
def cls:Fact→Int|mk _ _ _ c _ _=>c
def n:Fact→Int|mk _ _ _ _ n _=>n
def kids:Fact→List Fact|mk _ _ _ _ _ k=>k
mutual
def Ff {α:Type} (g:Fact→List α→α):Fact→α
 | .mk o a p c n k=>g (.mk o a p c n k) (Xn g k)
 termination_by structural f=>f
def Xn {α:Type} (g:Fact→List α→α):List Fact→List α
 | []=>[]
 | x::r=>Ff g x::Xn g r
 termination_by structural l=>l
end
def fe {α:Type} (g:Fact→List α→α) (l:List Fact):Xn g l=l.map (Ff g):=by
 induction l with
 | nil=>rfl
 | cons x r ih=>simp[Xn,ih]
def Cm {α:Type} (g:Fact→List α→α) (f:Fact):Ff g f=g f (f.kids.map (Ff g)):=by
 cases f with
 | mk o a p c n k=>simp[Ff,fe,kids]
def ind {motive:Fact→Prop} (h: ∀f,(∀k∈f.kids,motive k)→motive f) (f:Fact):motive f:=by
 refine Fact.rec (motive_1:=motive) (motive_2:=fun l=> ∀k∈l,motive k) (fun o a p c n k ih=>h _ ih) (fun _ h=>by cases h) (fun x r hx hr k hk=>?_) f;rcases G5.1 hk with rfl|hk
 ·exact hx
 ·exact hr k hk
def size (f:Fact):Nat:=Ff (fun f l=>1+f.path.length+f.kids.length+l.sum) f
end Fact
structure NW where
 kind:Int
 gen:Int
 fact:Fact
 node:Int
 deriving Inhabited
structure Prog where
 AQ:List Py
 AJ:Int
 Dc:List Int
 methods:List NW
 nodes:List Node
 main:Int
 deriving Inhabited
structure AM where
 parents:List (List Int)
 owner:List Int
 deriving DecidableEq,Inhabited
abbrev eI (n:Int):V:= .i .i64 n
def To (c:Py):List V:=[.l (iL c.parents) false,.l (iL c.AJ) false,.l (c.inits.map fun p=>[eI p.1,eI p.2]) false]
def Ip (x:Node):List V:=[eI x.op,eI x.n,.l (iL x.kids) false]
def Ef (f:Fact):List V:=f.Ff fun f l=>[eI f.op,eI f.arg,.l (iL f.path) false,eI f.cls,eI f.n,.l l false]
abbrev xF (f:Fact):List V:=[eI f.op,eI f.arg,.l (iL f.path) false,eI f.cls,eI f.n,.l (f.kids.map Ef) false]
def BC (f:Fact):Ef f=xF f:=Fact.Cm _ f
abbrev facts (l:List Fact):List (List V):=l.map Ef
def b7 (m:NW):List V:=[eI m.kind,eI m.gen,eI m.fact.op,eI m.fact.arg,.l (iL m.fact.path) false,eI m.fact.cls,eI m.fact.n,.l (facts m.fact.kids) false,eI m.node]
def Ba (p:Prog):List V:=[.l (p.AQ.map To) false,eI p.AJ,.l (iL p.Dc) false,.l (p.methods.map b7) false,.l (p.nodes.map Ip) false,eI p.main]
def BI (w:AM):List V:=[.l (EX w.parents) false,.l (iL w.owner) false]
end Go.Gl
namespace Go.Gl
open Go.ChangeShapes Go.WideShapes Go.ChangeAt Go.RowKit
def fm {w w':World} (h:Bx (fun _=>False) emp w emp w'):Below w.heap.size w w':=
 ⟨h.os,h.tape,h.output,h.size,fun k hk=>h.frame k hk rfl⟩
def oR {w:World} {b o:Nat}:Hh (fun _=>False) emp w b o=w.cell? ⟨b,o,none⟩:=by
 unfold Hh;rw[if_neg (by simp[emp])]
def NJ {α:Type} {Q:Nat→α→Prop}: ∀(len:Nat),(∀i,i<len→ ∃v,Q i v)→ ∃l:List α,l.length=len∧ ∀i v,l[i]? =some v→Q i v
 | 0,_=>⟨[],rfl,fun i v h=>by simp at h⟩
 | k + 1,h=>by
   obtain⟨l,hl,hl2⟩:=NJ k fun i hi=>h i (by omega)
   obtain⟨u,hu⟩:=h k (by omega);refine⟨l++[u],by simp[hl],fun i v hv=>?_⟩;by_cases hi:i<l.length
   ·rw[kY hi]at hv
    exact hl2 i v hv
   ·rw[List.getElem?_append_right (by omega)]at hv
    have:i - l.length=0:=by
     have:=(Mn.1 hv).1;simp at this;omega
    have hik:i=k:=by omega
    subst hik;rw[this]at hv;rw[←Option.some.inj hv];exact hu
section
variable {H:Type} {enc:TypeId×Value→H} {P:Program} {W:World}
def gK {H:Type} (enc:TypeId×Value→H) (P:Program) (W:World) (n:Nat) (t:TypeId) {α:Type} (ea:α→List V):Prop:=
 ∀(cs:List Value) (d:DataW H) (ps:List MemPlace),DataW.trod enc P W 0 (fun _=>true) true n t cs=some (d,ps)→(∀x∈d.weights P t,x≤reachBytes)→ ∃a:α,cs.length=(ea a).length∧BZ (Hh (fun _=>False) emp W) (fun i=>cs[i]?) 0 (ea a)
def Ta {H:Type} (enc:TypeId×Value→H) (P:Program) (W:World) (t:TypeId) {α:Type} (ea:α→List V):Prop:= ∀n,gK enc P W n t ea
def LH {t:TypeId} {α:Type} {ea:α→List V}:gK enc P W 0 t ea:=fun cs d ps h=>by simp[DataW.trod]at h
def Hp {n:Nat} {t:TypeId} {α β:Type} {ea:α→List V} {eb:β→List V} (h:gK enc P W n t ea) (g:α→β) (hg: ∀a,ea a=eb (g a)):gK enc P W n t eb:=fun cs d ps h1 h2=>by
 obtain⟨a,h3,h4⟩:=h cs d ps h1 h2;exact⟨g a,by rw[←hg];exact h3,by rw[←hg];exact h4⟩
def OR {t:TypeId} (ht:P.underlying t=some (.int .i64)):Ta enc P W t fun x:Int=>[V.i .i64 x]:=fun n cs d ps h _=>by
 obtain⟨k,rfl,-,hw⟩:=DataW.trod_int ht h;simp only[Lit.wf,BU,DZ]at hw;refine⟨k,rfl,⟨_,rfl,?_⟩,trivial⟩;simp only[Ah]
 first
  | exact⟨rfl,hw⟩
  | exact⟨trivial,hw⟩
  | exact hw
def Qk {n:Nat} {t e:TypeId} {sz:Nat} {α:Type} {ea:α→List V} (ht:P.underlying t=some (.slice e)) (hc:P.cellsOf e=sz) (hsz:0<sz) (hb:8≤P.bytesOf e) (he: ∀a,(ea a).length=sz) (h:gK enc P W n e ea) :
    gK enc P W (n+1) t fun l:List α=>[V.l (l.map ea) false]:=by
 intro cs d ps htr hw;rcases DataW.trod_slice ht htr with⟨rfl,hx⟩|⟨a,len,cap,elems,rest,n',hn,rfl,hx,-,hl,hm,hlen,hel,-,-⟩
 ·refine⟨[],rfl,⟨_,rfl,?_⟩,trivial⟩
  simp only[List.map_nil,Ah];exact⟨none,0,rfl,He _,fun h=>(by cases h),Nat.zero_le _,fun _=>rfl,fun h=>absurd rfl h⟩
 ·obtain rfl:n'=n:=by omega
  simp only[Prod.mk.injEq]at hx;obtain⟨rfl,-⟩:=hx;simp only[DataW.weights,ht,G5,FJ]at hw;have hwl:=hw _ (.inl rfl)
  have hwe: ∀(l:List (DataW H)) (D:DataW H),D∈l→ ∀x∈D.weights P e,x∈DataW.weightsAll P e l:=by
   intro l
   induction l with
   | nil=>intro D hD;cases hD
   | cons y r ih=>
     intro D hD x hx;simp only[DataW.weightsAll,FJ];rcases G5.1 hD with rfl|hD
     ·exact .inl hx
     ·exact .inr (ih D hD x hx)
  have hM:len≤Aj:=by
   simp only[BW,hlen,reachBytes]at hwl;have h8:(len+rest.length)*8≤(len+rest.length)*P.bytesOf e:=Nat.mul_le_mul_left _ hb;unfold Aj;omega
  have each: ∀i,i<len→ ∃v:α,∃cs',W.cells? 0 (a.add (i*sz)) sz=some cs'∧BZ (Hh (fun _=>False) emp W) (fun j=>cs'[j]?) 0 (ea v):=fun i hi=>by
   have hi':=hel i hi;obtain⟨x,hx⟩: ∃x,elems[i]? =some x:=⟨_,Et (by omega)⟩
   rw[hx,Option.bind_eq_some_iff,hc]at hi';obtain⟨cs',h1,h2⟩:=hi';obtain⟨v,-,h4⟩:=h cs' x.1 x.2 h2 fun y hy=>hw y (.inr (.inl (hwe _ x.1 (NP.2 ⟨x,Ck hx,rfl⟩) y hy)))
   exact⟨v,cs',h1,h4⟩
  obtain⟨l,hll,hlc⟩:=NJ len each;refine⟨l,rfl,⟨_,rfl,?_⟩,trivial⟩;simp only[Ah,BW];refine⟨some a,cap,by rw[hll],by omega,fun h=>(by cases h),by omega,fun h=>(by cases h),fun hne=>?_⟩;obtain⟨b,o,spot⟩:=a
  have h0:0<l.length:=by
   rcases l with _|⟨v,r⟩
   ·exact absurd rfl hne
   ·simp
  have hspot:spot=none:=by
   obtain⟨cs',h1,-⟩:=hlc 0 l[0] (Et h0);obtain⟨-,h3,h4⟩:=World.cells?_some h1;have h5:=h4 0 hsz;rw[Et (by omega)]at h5;have:=World.cell?_spot h5;simpa[Addr.add]using this
  subst hspot
  have hcell: ∀i v,l[i]? =some v→ ∀k u,(ea v)[k]? =some u→ ∃c,W.cell? ⟨b,o+i*sz+k,none⟩=some c∧Ah (Hh (fun _=>False) emp W) u c:=fun i v hv k u hu=>by
   obtain⟨cs',h1,h2⟩:=hlc i v hv;obtain⟨-,h3,h4⟩:=World.cells?_some h1;have hk:k<sz:=by rw[←he v];exact(Mn.1 hu).1
   obtain⟨c,hc',hr⟩:=Be.1 h2 k u hu;have h5:=h4 k hk;simp only[G2]at hc';rw[add_plain,add_plain]at h5;exact⟨c,by rw[←hc',←h5],hr⟩
  refine⟨b,o,sz,rfl,BG.2 fun j e hj=>?_⟩;rw[QK]at hj;obtain⟨v,hv,rfl⟩:=Option.map_eq_some_iff.1 hj;refine⟨he v,Be.2 fun k u hu=>?_⟩;obtain⟨c,h1,h2⟩:=hcell j v hv k u hu;exact⟨c,by rw[oR];exact h1,h2⟩
def Iz {t e:TypeId} {sz:Nat} {α:Type} {ea:α→List V} (ht:P.underlying t=some (.slice e)) (hc:P.cellsOf e=sz) (hsz:0<sz) (hb:8≤P.bytesOf e) (he: ∀a,(ea a).length=sz) (h:Ta enc P W e ea) :
    Ta enc P W t fun l:List α=>[V.l (l.map ea) false]
 | 0=>LH
 | n+1=>Qk ht hc hsz hb he (h n)
def sa {H:Type} (enc:TypeId×Value→H) (P:Program) (W:World) (n:Nat) (fs:List Field) (o:Nat) {α:Type} (ea:α→List V):Prop:=
 ∀ (cs:List Value) (xs:List (DataW H×List MemPlace)),xs.length=fs.length→(∀(i:Nat) (f:Field),fs[i]? =some f→DataW.trod enc P W 0 (fun _=>true) true n (Field.type f) ((cs.drop (Field.offset f)).take (P.cellsOf (Field.type f)))=xs[i]?)→
   (∀x∈DataW.weightsEach P (fs.map fun f:Field=>f.type) (xs.map (·.1)),x≤reachBytes)→ ∃a:α,BZ (Hh (fun _=>False) emp W) (fun i=>cs[i]?) o (ea a)
def Hq {n o:Nat}:sa enc P W n [] o fun _:Unit=>([]:List V):=fun _ _ _ _ _=>⟨(),trivial⟩
def BO {n o c:Nat} {f:Field} {fs:List Field} {α β:Type} {ea:α→List V} {eb:β→List V} (hf:f.offset=o) (hc:P.cellsOf f.type=c) (he: ∀a,(ea a).length=c) (h1:gK enc P W n f.type ea) (h2:sa enc P W n fs (o+c) eb) :
    sa enc P W n (f::fs) o fun p:α×β=>ea p.1++eb p.2:=by
 intro cs xs hl hx hw
 match xs,hl with
 | x ::r,hl=>
   have hx0:=hx 0 f rfl;simp only[mD]at hx0;simp only[C0,DataW.weightsEach,FJ]at hw;obtain⟨a,ha1,ha2⟩:=h1 _ x.1 x.2 hx0 fun y hy=>hw y (.inl hy)
   obtain⟨b,hb⟩:=h2 cs r (by simpa using hl) (fun i g hg=>by
    have:=hx (i+1) g (by simpa using hg)
    simpa using this) fun y hy=>hw y (.inr hy)
   refine⟨(a,b),M3 (Be.2 fun k u hu=>?_) (by rw[he];exact hb)⟩;obtain⟨cc,h3,h4⟩:=Be.1 ha2 k u hu;have hk:k<c:=by rw[←he a];exact(Mn.1 hu).1
   refine⟨cc,?_,h4⟩;rw[hf,hc,G2,List.getElem?_take,if_pos hk,sG]at h3;exact h3
def PJ {n:Nat} {t:TypeId} {fs:List Field} {α:Type} {ea:α→List V} (ht:P.underlying t=some (.struct fs.toArray)) (h:sa enc P W n fs 0 ea) (hl: ∀a,(ea a).length=P.cellsOf t):gK enc P W (n+1) t ea:=by
 intro cs d ps htr hw;obtain⟨xs,k,hk,hx,hcl,hxl,hf⟩:=DataW.trod_struct ht htr;obtain rfl:k=n:=by omega
 simp only[Prod.mk.injEq]at hx;obtain⟨rfl,-⟩:=hx;simp only[DataW.weights,ht]at hw;obtain⟨a,ha⟩:=h cs xs (by rw[hxl];simp) (fun i f hfi=>hf i f (by simpa using hfi)) (by simpa using hw);exact⟨a,by rw[hcl,hl],ha⟩
def Fo {t:TypeId} {fs:List Field} {α:Type} {ea:α→List V} (ht:P.underlying t=some (.struct fs.toArray)) (h: ∀n,sa enc P W n fs 0 ea) (hl: ∀a,(ea a).length=P.cellsOf t):Ta enc P W t ea
 | 0=>LH
 | n+1=>PJ ht (h n) hl
end
end Go.Gl
namespace Go.Gl
open Go.Proofs
section
variable {H:Type} {enc:TypeId×Value→H} {W:World}
def b8 {n:Nat} (h:Nat.ble 8 n=true):8≤n:=Nat.le_of_ble_eq_true h
def NR:Ta enc Tryz.prog W 3 fun x:Int=>[V.i .i64 x]:=OR Tryz.underlying3
def OE:Ta enc Tryz.prog W 23 fun l:List Int=>[V.l (iL l) false]:=Iz Tryz.underlying23 (by kernel_rfl) (by decide) (b8 (by kernel_rfl)) (fun _=>rfl) NR
def nK:Ta enc Tryz.prog W 314 fun p:Int×Int=>[eI p.1,eI p.2]:=fun n=>
 Hp (Fo Tryz.underlying314
  (fun n=>BO (c:=1) rfl (by kernel_rfl) (fun _=>rfl) (NR n) (BO (c:=1) rfl (by kernel_rfl) (fun _=>rfl) (NR n) Hq)) (fun _=>(show _=2 from rfl).trans (by kernel_rfl)) n) (fun x=>(x.1,x.2.1)) fun _=>rfl
def iS:Ta enc Tryz.prog W 59 fun l:List (Int×Int)=>[V.l (l.map fun p=>[eI p.1,eI p.2]) false]:=Iz (sz:=2) Tryz.underlying59 (by kernel_rfl) (by decide) (b8 (by kernel_rfl)) (fun _=>rfl) nK
def tE:Ta enc Tryz.prog W 61 To:=fun n=>
 Hp (Fo Tryz.underlying61
  (fun n=>BO (c:=1) rfl (by kernel_rfl) (fun _=>rfl) (OE n) (BO (c:=1) rfl (by kernel_rfl) (fun _=>rfl) (OE n)
   (BO (c:=1) rfl (by kernel_rfl) (fun _=>rfl) (iS n) Hq))) (fun _=>(show _=3 from rfl).trans (by kernel_rfl)) n) (fun x=>⟨x.1,x.2.1,x.2.2.1⟩) fun _=>rfl
def nI:Ta enc Tryz.prog W 199 Ip:=fun n=>
 Hp (Fo Tryz.underlying199
  (fun n=>BO (c:=1) rfl (by kernel_rfl) (fun _=>rfl) (OR Tryz.underlying197 n) (BO (c:=1) rfl (by kernel_rfl) (fun _=>rfl) (NR n)
   (BO (c:=1) rfl (by kernel_rfl) (fun _=>rfl) (OE n) Hq))) (fun _=>(show _=3 from rfl).trans (by kernel_rfl)) n) (fun x=>⟨x.1,x.2.1,x.2.2.1⟩) fun _=>rfl
def iQ:Ta enc Tryz.prog W 25 fun l:List Node=>[V.l (l.map Ip) false]:=Iz (sz:=3) Tryz.underlying25 (by kernel_rfl) (by decide) (b8 (by kernel_rfl)) (fun _=>rfl) nI
def nN:Ta enc Tryz.prog W 22 fun l:List Py=>[V.l (l.map To) false]:=Iz (sz:=3) Tryz.underlying22 (by kernel_rfl) (by decide) (b8 (by kernel_rfl)) (fun _=>rfl) tE
def Mc (f:Fact):(Ef f).length=6:=by rw[BC];rfl
def X8: ∀n,gK enc Tryz.prog W n 44 Ef∧gK enc Tryz.prog W n 42 fun l:List Fact=>[V.l (facts l) false]
 | 0=>⟨LH,LH⟩
 | n + 1 =>by
   obtain⟨h1,h2⟩:=X8 n;refine⟨?_,Qk Tryz.underlying42 (by kernel_rfl) (by decide) (b8 (by kernel_rfl)) Mc h1⟩
   exact Hp (PJ Tryz.underlying44
    (BO (c:=1) rfl (by kernel_rfl) (fun _=>rfl) (OR Tryz.underlying41 n) (BO (c:=1) rfl (by kernel_rfl) (fun _=>rfl) (NR n)
     (BO (c:=1) rfl (by kernel_rfl) (fun _=>rfl) (OE n) (BO (c:=1) rfl (by kernel_rfl) (fun _=>rfl) (NR n)
      (BO (c:=1) rfl (by kernel_rfl) (fun _=>rfl) (NR n) (BO (c:=1) rfl (by kernel_rfl) (fun _=>rfl) h2 Hq)))))) (fun _=>(show _=6 from rfl).trans (by kernel_rfl)))
    (fun x=>Fact.mk x.1 x.2.1 x.2.2.1 x.2.2.2.1 x.2.2.2.2.1 x.2.2.2.2.2.1) fun x=>by rw[BC];rfl
def nM:Ta enc Tryz.prog W 44 Ef:=fun n=>(X8 n).1
def nJ:Ta enc Tryz.prog W 81 b7:=fun n=>
 Hp (Fo Tryz.underlying81
  (fun n=>BO (c:=1) rfl (by kernel_rfl) (fun _=>rfl) (OR Tryz.underlying79 n) (BO (c:=1) rfl (by kernel_rfl) (fun _=>rfl) (NR n)
   (BO (c:=6) rfl (by kernel_rfl) Mc (nM n) (BO (c:=1) rfl (by kernel_rfl) (fun _=>rfl) (NR n) Hq)))) (fun x=>(show _=9 from by simp only[KY,Mc];rfl).trans (by kernel_rfl)) n) (fun x=>⟨x.1,x.2.1,x.2.2.1,x.2.2.2.1⟩) fun x=>by rw[BC];rfl
def iR:Ta enc Tryz.prog W 24 fun l:List NW=>[V.l (l.map b7) false]:=Iz (sz:=9) Tryz.underlying24 (by kernel_rfl) (by decide) (b8 (by kernel_rfl)) (fun _=>rfl) nJ
def nH : Ta enc Tryz.prog W 27 Ba:=fun n=>
 Hp (Fo Tryz.underlying27
  (fun n=>BO (c:=1) rfl (by kernel_rfl) (fun _=>rfl) (nN n)
   (BO (c:=1) rfl (by kernel_rfl) (fun _=>rfl) (NR n) (BO (c:=1) rfl (by kernel_rfl) (fun _=>rfl) (OE n)
    (BO (c:=1) rfl (by kernel_rfl) (fun _=>rfl) (iR n)
     (BO (c:=1) rfl (by kernel_rfl) (fun _=>rfl) (iQ n)
      (BO (c:=1) rfl (by kernel_rfl) (fun _=>rfl) (NR n) Hq)))))) (fun _=>(show _=6 from rfl).trans (by kernel_rfl)) n) (fun x=>⟨x.1,x.2.1,x.2.2.1,x.2.2.2.1,x.2.2.2.2.1,x.2.2.2.2.2.1⟩) fun _=>rfl
end
end Go.Gl
namespace Go.Gl
def zK (n:Nat):List Nat→List Nat
 | []=>[n]
 | x::r=>bif Nat.beq n x then x::r else bif Nat.ble n x then n::x::r else x::zK n r
def sQ:List Nat→List Nat→List Nat
 | [],l=>l
 | n::r,l=>sQ r (zK n l)
def uu (n:Nat):List Nat→List Nat
 | []=>[]
 | x::r=>bif Nat.beq x n then r else x::uu n r
def ur:List Nat→List Nat→List Nat
 | [],l=>l
 | n::r,l=>ur r (uu n l)
def axO (o:Au) (n:List Nat):List Nat:=sQ (looks o) (match o.dst with|some d=>uu d n|none=>n)
def mo:List Au→List Nat→List Nat
 | [],n=>n
 | o::r,n=>axO o (mo r n)
def zJ (i:Nat):List (Nat×List Nat)→List Nat
 | []=>[]
 | (j,l)::r=>bif Nat.beq i j then l else zJ i r
def Vs (rs:List Nat):AY→List (Nat×List Nat)→List Nat→List Nat
 | .skip,_,n=>n
 | .ret,_,_=>rs
 | .exit i,X,_=>zJ i X
 | .DB ops,_,n=>mo ops n
 | .G9 _ ops,_,n=>mo (ops.map (·.o)) n
 | .seq _ a b,X,n=>Vs rs a X (Vs rs b X n)
 | .cond c a b,X,n=>sQ (rd c) (sQ (Vs rs a X n) (Vs rs b X n))
 | .block i a,X,n=>Vs rs a ((i,n)::X) n
 | .scope a,X,n=>Vs rs a X n
 | .Dh _ g ps a b,_,n=>sQ (rd g) (sQ n (ur ps (Vs [] a [] (Vs [] b [] []))))
 | .loop _ a,X,_=>Vs rs a X []
def ZE (rs:List Nat):AY→List (Nat×List Nat)→List Nat→AY
 | .skip,_,_=> .skip
 | .ret,_,_=> .ret
 | .exit i,_,_=> .exit i
 | .DB ops,_,_=> .DB ops
 | .G9 _ ops,_,n=> .G9 n ops
 | .seq _ a b,X,n=> .seq (Vs rs b X n) (ZE rs a X (Vs rs b X n)) (ZE rs b X n)
 | .cond c a b,X,n=> .cond c (ZE rs a X n) (ZE rs b X n)
 | .block i a,X,n=> .block i (ZE rs a ((i,n)::X) n)
 | .scope a,X,n=> .scope (ZE rs a X n)
 | .Dh _ g ps a b,_,_=> .Dh (ur ps (Vs [] a [] (Vs [] b [] []))) g ps (ZE [] a [] (Vs [] b [] [])) (ZE [] b [] [])
 | .loop _ a,X,_=> .loop (Vs rs a X []) (ZE rs a X (Vs rs a X []))
variable {P:Program}
def y5 (P:Program) (k n:Nat) (ac:AY) (rs:List Nat):Prop:= ∀ ⦃args:List V⦄,args.length≤n→ ∀ ⦃σ:AH⦄ ⦃Q:R→AH→Prop⦄,W P ac (gp rs Q) (BA 0 args) σ→A8 P k args σ Q
def uG (P:Program) (k n:Nat) (ac:AY) (rs:List RS):Prop:= ∀ ⦃args:List V⦄,args.length≤n→ ∀ ⦃σ:AH⦄ ⦃Q:R→AH→Prop⦄,W P ac (Tv rs Q) (BA 0 args) σ→A8 P k args σ Q
def sR:RS→Nat
 | .t n=>n
 | .c n _=>n
def cX {k n:Nat} {fn:Func} {ac:AY} {rs:List Nat} (pu fz:List Nat) (hf:P.funcs[k]? =some fn)
    (hn:fn.ntmps=n:=by conv=>lhs;reduce)
    (hr:F7 fn.results.toList=some rs:=by conv=>lhs;reduce)
    (hc:ZE rs ((fn.body.bind (res P fn.ntmps pu fz)).getD .skip) [] rs=ac:=by conv=>lhs;reduce;try simp only[Int.reduceOfNat,Int.reduceNegSucc])
    (hb:fn.body.bind (res P fn.ntmps pu fz)=some (erase ac):=by kernel_rfl) (hok:okF P k=true:=by kernel_rfl):y5 P k n ac rs:=
 fun _ ha _ _ h=>Pl hf hok hb hr (hn ▸ ha) (ku h)
def Js {k n:Nat} {fn:Func} {ac:AY} {rs:List RS} (pu fz:List Nat) (hf:P.funcs[k]? =some fn)
    (hn:fn.ntmps=n:=by conv=>lhs;reduce)
    (hr:Lp P fn.results.toList=some rs:=by conv=>lhs;reduce)
    (hc:ZE (rs.map sR) ((fn.body.bind (res P fn.ntmps pu fz)).getD .skip) [] (rs.map sR)=ac:=by conv=>lhs;reduce;try simp only[Int.reduceOfNat,Int.reduceNegSucc])
    (hb:fn.body.bind (res P fn.ntmps pu fz)=some (erase ac):=by kernel_rfl) (hok:okF P k=true:=by kernel_rfl):uG P k n ac rs:=
 fun _ ha _ _ h=>EW hf hok hb hr (hn ▸ ha) (ku h)
end Go.Gl
namespace Go.Gl
open Go.Proofs
set_option maxRecDepth 100000
set_option maxHeartbeats 4000000
def mj:=cX [] [1] Tryz.func7
def uB:=cX [] [2,3] Tryz.func27
def uA:=cX [] [2] Tryz.func28
def tz:=cX [] [1] Tryz.func29
def tx:=Js [] [2] Tryz.func30
def cC:=Js [] [2] Tryz.func31
def Xm:=Js [] [2] Tryz.func32
def tw:=cX [] [] Tryz.func34
def tv:=cX [] [1] Tryz.func36
def tu:=cX [] [] Tryz.func40
def lk:=cX [] [] Tryz.func49
set_option maxRecDepth 100000
set_option maxHeartbeats 4000000
def tt:=Js [] [1] Tryz.func53
def cB:=Js [] [3] Tryz.func59
def ts:=cX [] [2] Tryz.func64
def tr:=Js [] [1] Tryz.func68
def tq:=Js [] [2,3] Tryz.func70
def tp:=cX [] [1] Tryz.func71
def tn:=Js [] [1] Tryz.func82
def lj:=Js [] [2,3] Tryz.func83
def cA:=Js [] [] Tryz.func84
def tl:=cX [] [2,3] Tryz.func86
def tk:=cX [] [2] Tryz.func87
def tj:=cX [] [2] Tryz.func88
def ti:=cX [] [2] Tryz.func89
def th:=Js [] [] Tryz.func90
def lh:=Js [] [] Tryz.func91
def lg:=Js [] [1] Tryz.func92
def tg:=Js [] [2] Tryz.func93
def tf:=Js [] [2] Tryz.func94
def te:=cX [] [] Tryz.func95
def td:=cX [] [] Tryz.func96
def tc:=cX [] [1] Tryz.func97
set_option maxRecDepth 100000
set_option maxHeartbeats 4000000
def rj:=cX [] [] Tryz.func102
def dS:=cX [] [] Tryz.func117
def ri:=cX [] [2] Tryz.func118
def rh:=cX [] [1,19] Tryz.func122
def rf:=cX [] [2,3] Tryz.func125
def rb:=cX [] [2,3] Tryz.func126
abbrev df:AY:=(.DB [⟨(some 4),.alloc [(.b false)],none⟩])
def lI:List Au:=[⟨(some 5),.bB (.func 191) [] [(.t 4)],none⟩]
abbrev dd:AY:=(.seq [4] (.DB [⟨(some 6),.mv (.t 0),none⟩,
 ⟨(some 7),.mv (.t 1),none⟩,
 ⟨(some 8),.call 128 [(.t 6),(.t 7)],none⟩,
 ⟨(some 9),.call 192 [(.t 8)],none⟩])
 (.seq [4] (.DB [⟨none,.store 1 (.t 4) (.c (.b true)),none⟩])
 .ret))
def nD:Tryz.f127.body.bind (Jz Tryz.prog Tryz.f127.ntmps [] [])=some (erase df,lI,(.t 5),erase dd):=by kernel_rfl
def ra {args:List V} (hn:args.length≤10) {σ:AH} {Q:R→AH→Prop} (h:W Tryz.prog (.seq [0,1,4] df (.DB lI)) (Ch (bj Tryz.prog (.t 5) [0,1,4] dd [.c 4 none] Q)) (BA 0 args) σ):A8 Tryz.prog 127 args σ Q:=
 H5 Tryz.func127 (by kernel_rfl) nD (by kernel_rfl) hn (l7 h)
def rZ:=cX [] [11] Tryz.func128
def WY:=Js [] [2] Tryz.func131
def rY:=cX [] [1] Tryz.func132
set_option maxRecDepth 100000
set_option maxHeartbeats 4000000
def rX:=cX [] [2,3] Tryz.func146
def rW:=Js [] [1] Tryz.func147
def rV:=cX [] [1] Tryz.func148
def rU:=cX [] [2,3] Tryz.func149
def rT:=cX [] [1] Tryz.func150
def rS:=Js [] [1] Tryz.func151
def rR:=Js [] [2,3] Tryz.func152
def rQ:=Js [] [] Tryz.func153
def rP:=Js [] [2,3] Tryz.func154
def rO:=cX [] [1] Tryz.func155
def rN:=cX [] [1] Tryz.func156
def dR:=cX [] [6] Tryz.func157
def rM:=cX [] [] Tryz.func158
def rL:=cX [] [] Tryz.func160
def rK:=cX [] [1] Tryz.func174
def rJ:=cX [] [2] Tryz.func175
def rI:=cX [] [1] Tryz.func180
def rH:=cX [] [] Tryz.func182
def rG:=cX [] [] Tryz.func186
def rF:=cX [] [4,5,6] Tryz.func187
def rE:=cX [] [5] Tryz.func188
def rD:=cX [] [] Tryz.func189
def rC:=cX [] [] Tryz.func190
def lH:List Au:=[⟨(some 5),.a7 260 (.a []) true (.t 4),none⟩,
    ⟨(some 3),.mv (.t 5),none⟩,
    ⟨(some 6),.extract 0 (.t 3),none⟩,
    ⟨(some 7),.extract 1 (.t 3),none⟩,
    ⟨(some 1),.alloc [],none⟩,
    ⟨none,.store 0 (.t 1) (.t 6),none⟩,
    ⟨(some 2),.mv (.t 7),none⟩]
abbrev dc:AY:=(.seq [0,8] (.DB [⟨(some 8),.mv (.t 2),none⟩])
 (.cond (.t 8)
 (.DB [⟨none,.store 1 (.t 0) (.c (.b false)),none⟩])
 .skip))
def nC:Tryz.f191.body.bind (resRec Tryz.prog Tryz.f191.ntmps [] [])=some (4,lH,erase dc):=by kernel_rfl
def Yo {args:List V} (hn:args.length≤9) {m:Option V} {σ:AH} {Q:AH→Prop} (h:W Tryz.prog (.seq [0,2] (.DB lH) dc) (NY Q) (put (some 4) (m.getD .Db) (BA 0 args)) σ):HB Tryz.prog 191 args m σ Q:=
 JS Tryz.func191 (by kernel_rfl) nC rfl hn (ku h)
def rB:=cX [] [] Tryz.func192
def rA:=cX [] [3] Tryz.func193
set_option maxRecDepth 100000
set_option maxHeartbeats 4000000
def qz:=cX [] [3] Tryz.func194
def qy:=cX [] [3] Tryz.func195
def qx:=cX [] [3] Tryz.func196
def qw:=Js [] [] Tryz.func199
def dQ:=cX [] [] Tryz.func200
def qv:=cX [] [3,4,5] Tryz.func204
def qu:=cX [] [] Tryz.func218
def qt:=cX [] [2] Tryz.func219
def qs:=cX [] [2] Tryz.func220
def qq:=cX [] [1] Tryz.func221
def qp:=cX [] [1] Tryz.func222
def qo:=cX [] [1] Tryz.func223
def dO:=Js [] [1] Tryz.func224
def qn:=cX [] [2,3] Tryz.func225
def qm:=cX [] [7] Tryz.func226
def dN:=cX [] [2,3] Tryz.func227
def dM:=Js [] [5] Tryz.func228
def ql:=cX [] [4,5] Tryz.func229
def dL:=Js [] [2] Tryz.func230
def dK:=Js [] [5] Tryz.func231
def qj:=cX [] [] Tryz.func232
def qi:=cX [] [] Tryz.func233
def qh:=cX [] [3] Tryz.func234
def qg:=cX [] [] Tryz.func235
def qf:=cX [] [2,3] Tryz.func236
def qe:=cX [] [3,4] Tryz.func237
def qd:=cX [] [] Tryz.func239
set_option maxRecDepth 100000
set_option maxHeartbeats 4000000
def qc:=cX [] [] Tryz.func242
def qb:=cX [] [] Tryz.func245
def dJ:=cX [] [3] Tryz.func246
def qa:=cX [] [] Tryz.func247
def qZ:=cX [] [3] Tryz.func248
def qY:=cX [] [2] Tryz.func249
def qX:=cX [] [4,5,6,7] Tryz.func250
def qW:=cX [] [] Tryz.func264
def qV:=cX [] [] Tryz.func265
def qU:=cX [] [2] Tryz.func266
def dI:=cX [] [3] Tryz.func267
def qS:=cX [] [] Tryz.func268
def qR:=cX [] [3] Tryz.func269
def qQ:=cX [] [4] Tryz.func270
def qP:=cX [] [2,3] Tryz.func277
abbrev de:AY:=(.DB [⟨(some 2),.alloc [(.b false)],none⟩])
def lG:List Au:=[⟨(some 3),.bB (.func 322) [] [(.t 2)],none⟩]
abbrev db:AY:=(.seq [2] (.DB [⟨(some 4),.mv (.t 0),none⟩,
 ⟨(some 5),.Ir (.t 4) [],none⟩])
 (.seq [2] (.DB [⟨none,.store 1 (.t 2) (.c (.b true)),none⟩])
 .ret))
def nB:Tryz.f280.body.bind (Jz Tryz.prog Tryz.f280.ntmps [] [])=some (erase de,lG,(.t 3),erase db):=by kernel_rfl
def qO {args:List V} (hn:args.length≤6) {σ:AH} {Q:R→AH→Prop} (h:W Tryz.prog (.seq [0,2] de (.DB lG)) (Ch (bj Tryz.prog (.t 3) [0,2] db [.c 2 none] Q)) (BA 0 args) σ):A8 Tryz.prog 280 args σ Q:=
 H5 Tryz.func280 (by kernel_rfl) nB (by kernel_rfl) hn (l7 h)
def qN:=cX [] [] Tryz.func281
def qM:=cX [] [1] Tryz.func282
def dH:=cX [] [] Tryz.func283
def qL:=cX [] [7] Tryz.func284
def qK:=cX [] [3,4,5] Tryz.func285
def qJ:=cX [] [3,4] Tryz.func286
def qI:=cX [] [] Tryz.func287
def qH:=cX [] [1] Tryz.func288
def qG:=cX [] [] Tryz.func289
set_option maxRecDepth 100000
set_option maxHeartbeats 4000000
def qF:=cX [] [1] Tryz.func290
def qE:=cX [] [] Tryz.func291
def qD:=cX [] [2] Tryz.func292
def dG:=cX [] [] Tryz.func293
def qC:=cX [] [] Tryz.func294
def qB:=Js [] [2,3] Tryz.func295
def qA:=cX [] [] Tryz.func296
def pz:=cX [] [3,5] Tryz.func297
def py:=cX [] [3] Tryz.func298
def px:=cX [] [2] Tryz.func300
def dF:=cX [] [] Tryz.func301
def pw:=cX [] [2] Tryz.func302
def pv:=cX [] [] Tryz.func303
def pt:=cX [] [] Tryz.func304
def pq:=cX [] [] Tryz.func305
def po:=cX [] [4] Tryz.func306
def pj:=cX [] [] Tryz.func313
def ph:=cX [] [] Tryz.func314
def pg:=cX [] [] Tryz.func315
def pf:=cX [] [2,3] Tryz.func316
def pd:=cX [] [2] Tryz.func321
def lF:List Au:=[⟨(some 1),.mv (.t 4),none⟩]
abbrev da:AY:=(.seq [0,1,6] (.DB [⟨(some 5),.mv (.t 1),none⟩,
 ⟨(some 6),.bG 2 true (.t 5),none⟩])
 (.cond (.t 6)
 (.seq [0] (.seq [0,1,3] (.DB [⟨(some 8),.mv (.t 1),none⟩,
  ⟨(some 9),.a7 377 (.a []) true (.t 8),none⟩,
  ⟨(some 7),.mv (.t 9),none⟩,
  ⟨(some 10),.extract 0 (.t 7),none⟩,
  ⟨(some 11),.extract 1 (.t 7),none⟩,
  ⟨(some 2),.alloc [],none⟩,
  ⟨none,.store 0 (.t 2) (.t 10),none⟩,
  ⟨(some 3),.mv (.t 11),none⟩])
 (.seq [0,1,13] (.DB [⟨(some 12),.mv (.t 3),none⟩,
  ⟨(some 13),.not (.t 12),none⟩])
 (.cond (.t 13)
 (.DB [⟨(some 14),.mv (.t 1),none⟩,
  ⟨none,.panic (.t 14),none⟩])
 .skip)))
 (.DB [⟨none,.store 1 (.t 0) (.c (.b false)),none⟩]))
 .skip))
def nA:Tryz.f322.body.bind (resRec Tryz.prog Tryz.f322.ntmps [] [])=some (4,lF,erase da):=by kernel_rfl
def Yn {args:List V} (hn:args.length≤15) {m:Option V} {σ:AH} {Q:AH→Prop} (h:W Tryz.prog (.seq [0,1] (.DB lF) da) (NY Q) (put (some 4) (m.getD .Db) (BA 0 args)) σ):HB Tryz.prog 322 args m σ Q:=
 JS Tryz.func322 (by kernel_rfl) nA rfl hn (ku h)
def pc:=cX [] [] Tryz.func323
def pb:=cX [] [] Tryz.func324
def pZ:=cX [] [2] Tryz.func325
def pY:=cX [] [] Tryz.func326
def pX:=cX [] [4] Tryz.func327
def dE:=cX [] [6] Tryz.func328
def pW:=cX [] [] Tryz.func329
def pV:=cX [] [] Tryz.func330
def pU:=cX [] [] Tryz.func331
def pT:=cX [] [0] Tryz.func332
def pS:=cX [] [2] Tryz.func333
def pR:=cX [] [] Tryz.func335
def pQ:=cX [] [] Tryz.func336
set_option maxRecDepth 100000
set_option maxHeartbeats 4000000
def pO:=cX [] [] Tryz.func339
def pN:=cX [] [] Tryz.func349
def pM:=cX [] [] Tryz.func350
def dD:=cX [] [1] Tryz.func351
def pK:=cX [] [] Tryz.func352
def pJ:=cX [] [] Tryz.func353
def pH:=cX [] [] Tryz.func354
def pG:=cX [] [] Tryz.func355
def pF:=cX [] [] Tryz.func356
def pD:=cX [] [1] Tryz.func357
def pC:=cX [] [1] Tryz.func358
def pB:=cX [] [1] Tryz.func365
def pA:=Js [] [] Tryz.func366
def o8:=Js [] [3] Tryz.func367
def o7:=cX [] [] Tryz.func368
def o6:=cX [] [1] Tryz.func369
def o5:=Js [] [1] Tryz.func370
def o0:=cX [] [1] Tryz.func371
def oz:=cX [] [1] Tryz.func372
def oy:=Js [] [2] Tryz.func373
def ox:=cX [] [1] Tryz.func374
def ow:=cX [] [] Tryz.func376
def ou:=cX [] [0] Tryz.func377
def ot:=cX [] [] Tryz.func378
def oq:=cX [] [] Tryz.func379
def dC:=cX [] [] Tryz.func380
def oo:=cX [] [] Tryz.func381
def om:=cX [] [] Tryz.func382
def oj:=cX [] [4,5] Tryz.func399
def oh:=cX [] [3,4,5] Tryz.func400
end Go.Gl
namespace Go.Gl
open Go.Proofs
attribute [local irreducible] A8 Ap Ag AT AL Ae AS AU AK Ad AO AP Aw A2 Sat AX A0 Ai W
def A3 (p:Prog):List (List Int):=p.AQ.map (·.parents)
def mg (p:Prog):Prop:=p.AQ.length≤Aj∧ ∀c∈p.AQ,c.parents.length≤Aj∧c.AJ.length≤Aj∧c.inits.length≤Aj
def YX (p:Prog) (hp:mg p) (hk0:p.AQ.length≤1000):Pure Tryz.prog 122 [.a (Ba p)] (.l (EX (A3 p)) false):=by
 refine rh kZ ?_
 conv=>whnf
 repeat((first|(refine Ar ?_;intro K U)|(refine Ab ?_;intro I C G F)|(apply G;clear F C G I)|refine Bc ?_|refine DX ?_|(apply U;clear U K)|fail);conv=>whnf)
 refine CD p.AQ.length (fun k v=>[(3,v),(4,eI (BM k))]) (fun k v=>[.own v 1 (EX ((p.AQ.take k).map (·.parents)))]) (fun _ _=>True) (.l [] true) rfl trivial (Ed Sat.nil 1) ?_;rintro k v σ hk - hs
 conv=>whnf
 repeat((first|refine⟨rfl,?_⟩|refine Bm ?_|refine Ex ?_|(refine Ar ?_;intro K U)|(refine Ab ?_;intro I C G F)|(apply G;clear F C G I)|refine Bi ?_|(apply U;clear U K)|fail);conv=>whnf)
 refine F6 hk hp.1 (fun c hc hlt=>?_) fun hk=>?_
 ·have hcm:=hp.2 c (Ck hc)
  conv=>whnf
  repeat((first|refine Bm ?_|(refine Ar ?_;intro K U)|(refine Ab ?_;intro I C G F)|refine Br ?_|refine Bc ?_|(apply U;clear U K)|fail);conv=>whnf)
  refine Ig hc hp.1 rfl ?_
  conv=>whnf
  repeat((first|refine Bm ?_|fail);conv=>whnf)
  refine oU Cr (by have:=hcm.1;have hM:=Mx;omega) ?_
  conv=>whnf
  refine Fc hs 0 (x:=c.parents) rfl (by have hM:=Mx;simp only[BW,Mo];omega) DJ fun v' σ' hs'=>?_
  conv=>whnf
  repeat((first|refine⟨rfl,?_⟩|(refine Ab ?_;intro I C G F)|(apply G;clear F C G I)|(apply U;clear U K)|(clear U K));conv=>whnf)
  refine⟨hlt,v',rfl,trivial,?_⟩;rw[AR hc,Pw];exact hs'
 ·conv=>whnf
  repeat((first|(refine Ar ?_;intro K U)|(refine Ab ?_;intro I C G F)|(apply G;clear F C G I)|refine DY ?_|refine DV ?_|(apply U;clear U K)|(clear U K));conv=>whnf)
  exact EB hs 0 rfl (by rw[Av hk];rfl)
def BQ (i:Nat):List Py→List Int
 | []=>[]
 | c::r=>List.replicate c.AJ.length ((i:Int)+3)++BQ (i+1) r
def AW (p:Prog):AM:=⟨A3 p,BQ 0 p.AQ⟩
def IQ (i:Nat) (a b:List Py):BQ i (a++b)=BQ i a++BQ (i+a.length) b:=by
 induction a generalizing i with
 | nil=>simp[BQ]
 | cons c r ih=>
   simp only[List.cons_append,BQ,ih,TR,KX];rw[show i+1+r.length=i+(r.length+1) by omega]
def Bk (cs:List Py):Nat:=(cs.map (·.AJ.length)).sum
def CW (i:Nat) (cs:List Py):(BQ i cs).length=Bk cs:=by
 induction cs generalizing i with
 | nil=>rfl
 | cons c r ih=>simp[BQ,ih,Bk]
def PY {cs:List Py} {k:Nat} {c:Py} (h:cs[k]? =some c):Bk (cs.take k)+c.AJ.length≤Bk cs:=by
 induction cs generalizing k with
 | nil=>cases h
 | cons d r ih=>
   cases k with
   | zero=>simp at h;subst h;simp[Bk]
   | succ k=>simp at h;have:=ih h;simp only[Bk,List.take_succ_cons,C0,List.sum_cons]at *;omega
def SU (p:Prog) (hp:mg p) (hk0:p.AQ.length≤1000) (hm:Bk p.AQ≤Aj):Pure Tryz.prog 53 [.a (Ba p)] (.a (BI (AW p))):=by
 refine tt kZ ?_
 conv=>whnf
 repeat((first|(refine Ar ?_;intro K U)|(refine Ab ?_;intro I C G F)|fail);conv=>whnf)
 intro n hn;have hs:=bZ (l:=[]) (σ:=emp) Sat.nil hn (o:= .cs [.l [] true,.l [] true])
 conv=>whnf
 repeat((first|refine⟨kZ,?_⟩|refine Bm ?_|(refine Ar ?_;intro K U)|(refine Ab ?_;intro I C G F)|(apply G;clear F C G I)|(apply U;clear U K)|fail);conv=>whnf)
 refine(YX p hp hk0).use ?_
 conv=>whnf
 intro m hm;have hs:=bZ hs hm (o:= .cs [.l [] true,.l [] true])
 conv=>whnf
 refine F4 hs 1 rfl rfl rfl rfl (by decide) fun σ hs=>?_
 conv=>whnf
 repeat((first|(refine Ar ?_;intro K U)|(refine Ab ?_;intro I C G F)|(apply G;clear F C G I)|refine Bc ?_|refine DX ?_|(apply U;clear U K)|fail);conv=>whnf)
 refine CD p.AQ.length (fun k _=>[(4,eI (BM k))]) (fun k v=>[.box n [.l [] true,.l [] true],.box m [.l (EX (A3 p)) false,v],.own v 1 (iL (BQ 0 (p.AQ.take k)))]) (fun _ _=>True) (.l [] true) rfl trivial (Ed hs 1) ?_;rintro k v σ hk - hs
 conv=>whnf
 repeat((first|refine⟨rfl,?_⟩|refine Bm ?_|refine Ex ?_|(refine Ar ?_;intro K U)|(refine Ab ?_;intro I C G F)|(apply G;clear F C G I)|refine Bi ?_|(apply U;clear U K)|fail);conv=>whnf)
 refine F6 hk hp.1 (fun c hc hlt=>?_) fun hk=>?_
 ·have hcm:=hp.2 c (Ck hc)
  have htk:=PY hc
  conv=>whnf
  repeat((first|(refine Ar ?_;intro K U)|(refine Ab ?_;intro I C G F)|(apply G;clear F C G I)|refine Br ?_|refine Bc ?_|refine DX ?_|(apply U;clear U K)|fail);conv=>whnf)
  refine CD c.AJ.length (fun j _=>[(5,eI (BM j))]) (fun j v=>[.box n [.l [] true,.l [] true],.box m [.l (EX (A3 p)) false,v],.own v 1 (iL (BQ 0 (p.AQ.take k)++List.replicate j ((k:Int)+3)))]) (fun _ _=>True) v rfl trivial (by simpa using hs) ?_;rintro j v σ hj - hs
  conv=>whnf
  repeat((first|refine Bm ?_|(refine Ar ?_;intro K U)|(refine Ab ?_;intro I C G F)|fail);conv=>whnf)
  refine Ig hc hp.1 rfl ?_
  conv=>whnf
  repeat((first|refine⟨rfl,?_⟩|refine Bm ?_|refine Ex ?_|(apply G;clear F C G I)|refine Bi ?_|(apply U;clear U K)|fail);conv=>whnf)
  refine F6 hj hcm.2.1 (fun s hsl hjlt=>?_) fun hj=>?_
  ·conv=>whnf
   repeat((first|(refine Ar ?_;intro K U)|(refine Ab ?_;intro I C G F)|refine Br ?_|refine Bc ?_|(apply U;clear U K)|fail);conv=>whnf)
   refine Xj hs 1 rfl ?_
   conv=>whnf
   repeat((first|refine⟨rfl,?_⟩|fail);conv=>whnf)
   have he:IntKind.i64.wrap (BM k+3)=(k:Int)+3:=by
    have:=hp.1;rw[AN (by omega),wrap64 (by omega) (by simp only[Aj]at *;omega)]
   refine Fc hs 2 (x:=IntKind.i64.wrap (BM k+3)) rfl (by have hM:=Mx;simp only[KY,CW,List.length_replicate];omega) Cr fun v' σ' hs'=>?_
   conv=>whnf
   refine K2 hs' 1 rfl (Ft hs' 2 rfl) kZ fun σ2 hs2=>?_
   conv=>whnf
   repeat((first|refine⟨rfl,?_⟩|(refine Ab ?_;intro I C G F)|(apply G;clear F C G I)|(apply U;clear U K)|(clear U K));conv=>whnf)
   refine⟨hjlt,v',rfl,trivial,?_⟩;rw[List.replicate_succ',←TR];rw[he]at hs2;exact hs2
  ·conv=>whnf
   repeat((first|refine⟨rfl,?_⟩|(refine Ab ?_;intro I C G F)|(apply G;clear F C G I)|refine DY ?_|(apply U;clear U K)|(clear U K));conv=>whnf)
   refine⟨hlt,v,rfl,trivial,?_⟩;rw[AR hc,IQ];have:(p.AQ.take k).length=k:=by simp;omega
   rw[this];simpa[BQ,hj]using hs
 ·conv=>whnf
  repeat((first|(refine Ar ?_;intro K U)|(refine Ab ?_;intro I C G F)|refine DY ?_|(apply U;clear U K)|(clear U K));conv=>whnf)
  refine Xj hs 1 rfl ?_
  conv=>whnf
  repeat((first|refine⟨kZ,?_⟩|fail);conv=>whnf)
  refine F4 hs 0 rfl rfl rfl (by simp[Ft hs 2 rfl]) kZ fun σ2 hs2=>?_
  conv=>whnf
  repeat((first|(apply G;clear F C G I)|refine DV ?_|(apply U;clear U K)|fail);conv=>whnf)
  refine Xj hs2 0 rfl ?_
  conv=>whnf
  repeat((first|refine⟨kZ,?_⟩|fail);conv=>whnf)
  refine An (.a (.cons (.refl _) (.cons ?_ .nil)));have:=hs2.G7 2 rfl;rw[Av hk]at this;exact this
def cu (xs:List Int) (f:Bool) (x:Int) (hx:xs.length≤Aj):Pure Tryz.prog 296 [.l (iL xs) f,.i .i64 x] (.b (xs.contains x)):=by
 refine qA kZ ?_
 conv=>whnf
 repeat((first|(refine Ar ?_;intro K U)|(refine Ab ?_;intro I C G F)|(apply G;clear F C G I)|refine Bc ?_|refine DX ?_|(apply U;clear U K)|fail);conv=>whnf)
 refine CD xs.length (fun k (_:Unit)=>[(5,eI (BM k))]) (fun _ _=>[]) (fun k _=>x∉xs.take k) () rfl (by simp) Sat.nil ?_;rintro k - σ hk hn -
 conv=>whnf
 repeat((first|refine⟨rfl,?_⟩|refine Ex ?_|(refine Ar ?_;intro K U)|(refine Ab ?_;intro I C G F)|(apply G;clear F C G I)|refine Bi ?_|(apply U;clear U K)|fail);conv=>whnf)
 refine F6 hk hx (fun y hy hlt=>?_) fun hk=>?_
 ·conv=>whnf
  repeat((first|(refine Ar ?_;intro K U)|(refine Ab ?_;intro I C G F)|refine Br ?_|refine Bc ?_|(apply U;clear U K)|fail);conv=>whnf)
  refine Ig hy hx rfl ?_
  conv=>whnf
  repeat((first|refine⟨rfl,?_⟩|refine Bm ?_|(apply G;clear F C G I)|refine Bi ?_|(apply U;clear U K)|fail);conv=>whnf)
  refine Yd (fun he=>?_) (fun he=>?_)
  ·conv=>whnf
   repeat((first|(refine Ar ?_;intro K U)|(refine Ab ?_;intro I C G F)|(apply G;clear F C G I)|refine DV ?_|(apply U;clear U K)|(clear U K));conv=>whnf)
   refine AI ?_;have:x∈xs:=he ▸ Ck hy;simp[this]
  ·conv=>whnf
   repeat((first|refine⟨rfl,?_⟩|(refine Ab ?_;intro I C G F)|(apply G;clear F C G I)|refine Br ?_|(apply U;clear U K)|(clear U K));conv=>whnf)
   refine⟨hlt,(),rfl,?_,Sat.nil⟩;rw[AR hy];simp only[FJ,Nz,not_or];exact⟨hn,fun e=>he e.symm⟩
 ·conv=>whnf
  repeat((first|(refine Ar ?_;intro K U)|(refine Ab ?_;intro I C G F)|(apply G;clear F C G I)|refine DY ?_|refine DV ?_|(apply U;clear U K)|(clear U K));conv=>whnf)
  refine AI ?_;rw[Av hk]at hn;simp[hn]
def PA (xs:List Int) (f:Bool) (x:Int) (hx:xs.length≤Aj):Pure Tryz.prog 355 [.l (iL xs) f,.i .i64 x] (.l (iL (xs.filter (· != x))) false):=by
 refine pG kZ ?_
 conv=>whnf
 repeat((first|(refine Ar ?_;intro K U)|(refine Ab ?_;intro I C G F)|(apply G;clear F C G I)|refine Bc ?_|refine DX ?_|(apply U;clear U K)|fail);conv=>whnf)
 refine CD xs.length (fun k v=>[(5,v),(6,eI (BM k))]) (fun k v=>[.own v 1 (iL ((xs.take k).filter (· != x)))]) (fun _ _=>True) (.l [] true) rfl trivial (Ed Sat.nil 1) ?_;rintro k v σ hk - hs
 conv=>whnf
 repeat((first|refine⟨rfl,?_⟩|refine Ex ?_|(refine Ar ?_;intro K U)|(refine Ab ?_;intro I C G F)|(apply G;clear F C G I)|refine Bi ?_|(apply U;clear U K)|fail);conv=>whnf)
 refine F6 hk hx (fun y hy hlt=>?_) fun hk=>?_
 ·conv=>whnf
  repeat((first|(refine Ar ?_;intro K U)|(refine Ab ?_;intro I C G F)|refine Br ?_|refine Bc ?_|(apply U;clear U K)|fail);conv=>whnf)
  refine Ig hy hx rfl ?_
  conv=>whnf
  repeat((first|refine⟨rfl,?_⟩|refine Bm ?_|(apply G;clear F C G I)|refine Bi ?_|(apply U;clear U K)|fail);conv=>whnf)
  refine jj (fun he=>?_) (fun he=>?_)
  ·conv=>whnf
   repeat((first|(refine Ab ?_;intro I C G F)|fail);conv=>whnf)
   refine Ig hy hx rfl ?_
   conv=>whnf
   repeat((first|refine Bm ?_|fail);conv=>whnf)
   refine Fc hs 0 (x:=y) rfl (by have:=QJ (· != x) (xs.take k);simp only[Mo]at this;have hM:=Mx;omega) Cr fun v' σ' hs'=>?_
   conv=>whnf
   repeat((first|refine⟨rfl,?_⟩|(refine Ab ?_;intro I C G F)|(apply G;clear F C G I)|(apply U;clear U K)|(clear U K));conv=>whnf)
   refine⟨hlt,v',rfl,trivial,?_⟩;rw[AR hy,List.filter_append];simpa[he]using hs'
  ·conv=>whnf
   repeat((first|refine⟨rfl,?_⟩|(refine Ab ?_;intro I C G F)|(apply G;clear F C G I)|refine Br ?_|(apply U;clear U K)|(clear U K));conv=>whnf)
   refine⟨hlt,v,rfl,trivial,?_⟩;rw[AR hy,List.filter_append];simpa[he]using hs
 ·conv=>whnf
  repeat((first|(refine Ar ?_;intro K U)|(refine Ab ?_;intro I C G F)|(apply G;clear F C G I)|refine DY ?_|refine DV ?_|(apply U;clear U K)|(clear U K));conv=>whnf)
  exact EB hs 0 rfl (by rw[Av hk])
def free (ls:List (List Int)) (x:Int):Bool:=ls.all fun l=> !(l.drop 1).contains x
def ji (ls:List (List Int)) (f:Bool) (x:Int) (hl:ls.length≤Aj) (hls: ∀l∈ls,l.length≤Aj):Pure Tryz.prog 356 [.l (EX ls) f,.i .i64 x] (.b (free ls x)):=by
 refine pF kZ ?_
 conv=>whnf
 repeat((first|(refine Ar ?_;intro K U)|(refine Ab ?_;intro I C G F)|(apply G;clear F C G I)|refine Bc ?_|refine DX ?_|(apply U;clear U K)|fail);conv=>whnf)
 refine CD ls.length (fun k (_:Unit)=>[(5,eI (BM k))]) (fun _ _=>[]) (fun k _=> ∀l∈ls.take k,x∉l.drop 1) () rfl (by simp) Sat.nil ?_;rintro k - σ hk hn -
 conv=>whnf
 repeat((first|refine⟨rfl,?_⟩|refine Ex ?_|(refine Ar ?_;intro K U)|(refine Ab ?_;intro I C G F)|(apply G;clear F C G I)|refine Bi ?_|(apply U;clear U K)|fail);conv=>whnf)
 refine F6 hk hl (fun y hy hlt=>?_) fun hk=>?_
 ·have hb:=hls _ (Ck hy)
  have next:(x∉y.drop 1)→ ∀l∈ls.take (k+1),x∉l.drop 1:=fun hc l hm=>by
   rw[AR hy]at hm;rcases FJ.1 hm with hm|hm
   ·exact hn l hm
   ·rw[Nz.1 hm];exact hc
  conv=>whnf
  repeat((first|(refine Ar ?_;intro K U)|(refine Ab ?_;intro I C G F)|refine Br ?_|refine Bc ?_|(apply U;clear U K)|fail);conv=>whnf)
  refine Ig hy hl rfl ?_
  conv=>whnf
  repeat((first|refine⟨rfl,?_⟩|refine Bm ?_|refine Ex ?_|fail);conv=>whnf)
  refine⟨fun h=>?_,fun h=>?_⟩<;>(try rw[h])
  ·have hp:=of_decide_eq_true h
   simp only[BW]at hp
   conv=>whnf
   repeat((first|refine MD ?_|fail);conv=>whnf)
   refine Ig hy hl rfl ?_
   conv=>whnf
   repeat((first|refine MD ?_|refine Bm ?_|fail);conv=>whnf)
   refine UW 1 rfl (by omega) (fun _=>rfl) ?_
   conv=>whnf
   repeat((first|refine MD ?_|fail);conv=>whnf)
   refine(cu _ _ _ (by rw[kX];omega)).use ?_
   conv=>whnf
   repeat((first|(apply G;clear F C G I)|refine Bi ?_|(apply U;clear U K)|fail);conv=>whnf)
   refine⟨fun hc=>?_,fun hc=>?_⟩
   ·conv=>whnf
    repeat((first|(refine Ar ?_;intro K U)|(refine Ab ?_;intro I C G F)|(apply G;clear F C G I)|refine DV ?_|(apply U;clear U K)|(clear U K));conv=>whnf)
    refine AI ?_
    have:free ls x=false:=by
     simp only[free,List.all_eq_false];exact⟨y,Ck hy,by simpa using hc⟩
    rw[this]
   ·conv=>whnf
    repeat((first|refine⟨rfl,?_⟩|(refine Ab ?_;intro I C G F)|(apply G;clear F C G I)|refine Br ?_|(apply U;clear U K)|(clear U K));conv=>whnf)
    exact⟨hlt,(),rfl,next (by simpa using hc),Sat.nil⟩
  ·have hp: ¬_:=of_decide_eq_false h
   simp only[BW]at hp
   conv=>whnf
   repeat((first|refine⟨rfl,?_⟩|refine SO ?_|(refine Ab ?_;intro I C G F)|(apply G;clear F C G I)|refine Bi ?_|refine Br ?_|(apply U;clear U K)|(clear U K));conv=>whnf)
   refine⟨hlt,(),rfl,next ?_,Sat.nil⟩;rw[List.drop_eq_nil_of_le (by omega)];simp
 ·conv=>whnf
  repeat((first|(refine Ar ?_;intro K U)|(refine Ab ?_;intro I C G F)|(apply G;clear F C G I)|refine DY ?_|refine DV ?_|(apply U;clear U K)|(clear U K));conv=>whnf)
  rw[Av hk]at hn;refine AI ?_;have:free ls x=true:=by simpa[free]using hn
  rw[this]
def A1 (ls:List (List Int)) (c:Int):List Int:=if c<3 then []else ls.getD (c - 3).toNat []
def W0 (ls:List (List Int)) (f:Bool) (c:Int) (hc:c<3+ls.length) (hm:ls.length≤Aj):Pure Tryz.prog 354 [.l (EX ls) f,.i .i64 c] (.l (iL (A1 ls c)) false):=by
 refine pH kZ ?_
 conv=>whnf
 repeat((first|refine⟨rfl,?_⟩|(refine Ar ?_;intro K U)|(refine Ab ?_;intro I C G F)|(apply G;clear F C G I)|refine Bi ?_|(apply U;clear U K)|fail);conv=>whnf)
 refine fork (fun h=>?_) (fun h=>?_)
 ·conv=>whnf
  repeat((first|(refine Ar ?_;intro K U)|(refine Ab ?_;intro I C G F)|(apply G;clear F C G I)|refine DV ?_|(apply U;clear U K)|(clear U K));conv=>whnf)
  refine An (.l (fun h=>(by cases h)) ?_);rw[A1,if_pos h];exact .nil
 ·conv=>whnf
  repeat((first|refine⟨rfl,?_⟩|(refine Ar ?_;intro K U)|(refine Ab ?_;intro I C G F)|refine Br ?_|(apply U;clear U K)|fail);conv=>whnf)
  simp only[Aj]at hm;have hlt:(c - 3).toNat<ls.length:=by omega
  refine Tt (c - 3).toNat (Et hlt) (by rw[wrap64 (by omega) (by omega)];omega) rfl ?_
  conv=>whnf
  repeat((first|refine Bm ?_|(apply G;clear F C G I)|refine DV ?_|(apply U;clear U K)|fail);conv=>whnf)
  refine AI ?_;rw[A1,if_neg h,E2,Et hlt];rfl
def EC (ls os:List (List Int)) (c:Int):Option (List (List Int)):=
 if(A1 ls c).any fun p=>(os.getD p.toNat []).isEmpty then none else some ((A1 ls c).map (fun p=>(os.getD p.toNat []).filter (· != 0))++[A1 ls c])
def tH (o:Option (List (List Int))):V:=match o with|some l=> .t [.l (EX l) false,.b true]|none=> .t [.l [] false,.b false]
def fB (ls os:List (List Int)) (f:Bool) (w:V) (c:Int) (hc:c<3+ls.length) (hm:ls.length≤Aj) (hos: ∀o∈os,o.length≤Aj) (hpl:(A1 ls c).length<1000000)
    (hp: ∀p∈A1 ls c,0≤p∧p.toNat<os.length):By Tryz.prog 331 [.l (EX ls) f,w,.i .i64 c] [.own w 1 (EX os)] fun r post=>r= .ret (tH (EC ls os c))∧post= [.own w 1 (EX os)]:=by
 have hM:=Mx;intro σ hs;refine pU kZ ?_
 conv=>whnf
 repeat((first|(refine Ar ?_;intro K U)|(refine Ab ?_;intro I C G F)|(apply G;clear F C G I)|(apply U;clear U K)|fail);conv=>whnf)
 refine(W0 _ _ _ hc hm).use ?_
 conv=>whnf
 repeat((first|(refine Ar ?_;intro K U)|(refine Ab ?_;intro I C G F)|(apply G;clear F C G I)|refine Bc ?_|refine DX ?_|(apply U;clear U K)|fail);conv=>whnf)
 refine CD (A1 ls c).length (fun k v=>[(8,v),(10,eI (BM k))]) (fun k v=>[.own w 1 (EX os),.own v 1 (EX (((A1 ls c).take k).map fun p=>(os.getD p.toNat []).filter (· != 0)))]) (fun k _=> ∀p∈(A1 ls c).take k,(os.getD p.toNat []).isEmpty=false)
  (.l [] true) rfl (by simp) (Ed hs 1) ?_
 rintro k v σ hk hne hs
 conv=>whnf
 repeat((first|refine⟨rfl,?_⟩|refine Ex ?_|(refine Ar ?_;intro K U)|(refine Ab ?_;intro I C G F)|(apply G;clear F C G I)|refine Bi ?_|(apply U;clear U K)|fail);conv=>whnf)
 refine F6 hk (by omega) (fun p hpk hlt=>?_) fun hk=>?_
 ·obtain ⟨hp0,hp1⟩:=hp _ (Ck hpk)
  have hq:=Et hp1
  have hgd:os.getD p.toNat []=os[p.toNat]:=by
   rw[E2,hq];rfl
  have hqm:(EX os)[p.toNat]? =some [.l (iL os[p.toNat]) false]:=by rw[QK,hq];rfl
  conv=>whnf
  repeat((first|(refine Ar ?_;intro K U)|(refine Ab ?_;intro I C G F)|refine Br ?_|refine Bc ?_|(apply U;clear U K)|fail);conv=>whnf)
  refine Ig hpk (by omega) rfl ?_
  conv=>whnf
  repeat((first|refine Bm ?_|fail);conv=>whnf)
  refine gQ hs 0 p.toNat rfl (by omega) (by simpa using hp1) ?_
  conv=>whnf
  refine Hs hs 0 rfl hqm ?_
  conv=>whnf
  repeat((first|refine⟨rfl,?_⟩|refine Ex ?_|(apply G;clear F C G I)|refine Bi ?_|(apply U;clear U K)|fail);conv=>whnf)
  refine Yd (fun he=>?_) (fun he=>?_)
  ·conv=>whnf
   repeat((first|(refine Ar ?_;intro K U)|(refine Ab ?_;intro I C G F)|(apply G;clear F C G I)|refine DV ?_|(apply U;clear U K)|(clear U K));conv=>whnf)
   have hn:EC ls os c=none:=by
    simp only[EC];rw[if_pos];rw[NO];refine⟨p,Ck hpk,?_⟩;rw[hgd];have:(os[p.toNat]).length=0:=by simpa using he
    simp[Vt.1 this]
   rw[hn];exact A5 (l':=[.own w 1 (EX os)]) hs (by simp) (.t (.cons (.l (fun h=>(by cases h)) .nil) (.cons (.refl _) .nil))) fun σ' hs'=>⟨_,⟨rfl,rfl⟩,hs'⟩
  ·conv=>whnf
   repeat((first|(refine Ab ?_;intro I C G F)|refine Br ?_|(apply U;clear U K)|fail);conv=>whnf)
   refine Ig hpk (by omega) rfl ?_
   conv=>whnf
   repeat((first|refine Bm ?_|fail);conv=>whnf)
   refine gQ hs 0 p.toNat rfl (by omega) (by simpa using hp1) ?_
   conv=>whnf
   refine Hs hs 0 rfl hqm ?_
   conv=>whnf
   refine(PA _ _ _ (hos _ (List.getElem_mem hp1))).use ?_
   conv=>whnf
   refine Fc hs 1 (x:=os[p.toNat].filter (· != 0)) rfl (by have hM:=Mx;simp;omega) DJ fun v' σ' hs'=>?_
   conv=>whnf
   repeat((first|refine⟨rfl,?_⟩|(refine Ab ?_;intro I C G F)|(apply G;clear F C G I)|(apply U;clear U K)|(clear U K));conv=>whnf)
   refine⟨hlt,v',rfl,fun q hm=>?_,?_⟩
   ·rw [AR hpk]at hm
    rcases FJ.1 hm with hm|hm
    ·exact hne q hm
    ·rw[Nz.1 hm,hgd]
     have:(os[p.toNat]).length≠0:=by
      intro e;exact he (by simp[e])
     cases hq:os[p.toNat]with
     | nil=>rw[hq]at this;exact absurd rfl this
     | cons _ _=>rfl
   ·rw[AR hpk,Pw,List.map_singleton,hgd]
    exact hs'
 ·rw[Av hk]at hne hs
  conv=>whnf
  repeat((first|(refine Ar ?_;intro K U)|(refine Ab ?_;intro I C G F)|refine DY ?_|(apply U;clear U K)|(clear U K));conv=>whnf)
  refine Fc hs 1 (x:=A1 ls c) rfl (by have hM:=Mx;simp;omega) DJ fun v' σ' hs'=>?_
  conv=>whnf
  repeat((first|(apply G;clear F C G I)|refine DV ?_|(apply U;clear U K)|fail);conv=>whnf)
  have hn:EC ls os c=some ((A1 ls c).map (fun p=>(os.getD p.toNat []).filter (· != 0))++[A1 ls c]):=by
   simp only[EC];rw[if_neg];rw[NO];rintro⟨p,h1,h2⟩;rw[hne p h1]at h2;cases h2
  rw[hn];obtain⟨σ2,h1,h2,h3⟩:=OH hs' 1 rfl;exact Hu h1 (.t (.cons h2 (.cons (.refl _) .nil))) ⟨_,⟨rfl,rfl⟩,h3⟩
def pick (ls:List (List Int)):Option Int:=(ls.find? fun l=>match l with| []=>false|x::_=>free ls x).bind List.head?
def total (ls:List (List Int)):Nat:=(ls.map List.length).sum
def DC:Nat→List (List Int)→List Int→List Int×Bool
 | 0,ls,out=>(out,ls.all List.isEmpty)
 | n+1,ls,out=>match pick ls with
   | none=>(out,ls.all List.isEmpty)
   | some x=>DC n (ls.map fun l=>l.filter (· != x)) (out++[x])
def CC (ls:List (List Int)):List Int×Bool:=DC (total ls) ls []
def Hw {ls:List (List Int)} {x:Int} (h:pick ls=some x):total (ls.map fun l=>l.filter (· != x))<total ls:=by
 unfold pick at h;rw[Option.bind_eq_some_iff]at h;obtain⟨l,h1,h2⟩:=h;have hm:=List.mem_of_find?_eq_some h1;clear h1;cases l with
 | nil=>cases h2
 | cons y r=>
   simp only[List.head?_cons,I9]at h2;subst h2
   have hle: ∀ls:List (List Int),total (ls.map fun l=>l.filter (· != y))≤total ls:=fun ls=>by
    induction ls with
    | nil=>simp[total]
    | cons a bs ih=>
      have:=QJ (· != y) a;simp only[total,C0,List.sum_cons]at *;omega
   induction ls with
   | nil=>cases hm
   | cons a bs ih=>
     rcases G5.1 hm with rfl|hm
     ·have h1:=hle bs
      have h2:=QJ (· != y) r;simp only[total,C0,List.sum_cons]at *;have:((y::r).filter (· != y)).length≤r.length:=by simpa using h2
      simp only[KX];omega
     ·have h1:=ih hm
      have h2:=QJ (· != y) a;simp only[total,C0,List.sum_cons]at *;omega
def Lq (ls:List (List Int)):Prop:=ls.length≤1000000∧ ∀l∈ls,l.length≤Aj∧ ∀x∈l,0≤x
def Lq.filter {ls:List (List Int)} (h:Lq ls) (x:Int):Lq (ls.map fun l=>l.filter (· != x)):=by
 refine⟨by rw[BW];exact h.1,fun l hl=>?_⟩;obtain⟨l',hl',rfl⟩:=NP.1 hl;obtain⟨h1,h2⟩:=h.2 l' hl';exact⟨Nat.le_trans (QJ _ _) h1,fun y hy=>h2 y (Pz.1 hy).1⟩
def Di (ls:List (List Int)) (k:Nat):Int:=((((ls.take k).find? fun l=>match l with| []=>false|x::_=>free ls x).bind List.head?).getD (-1))
def VV : ∀ (n:Nat) (ls:List (List Int)) (out:List Int),total ls≤n→DC n ls out=DC (total ls) ls out:=by
 intro n
 induction n using Nat.strongRecOn with
 | _ n ih=>
   intro ls out hn;by_cases he:total ls=n
   ·rw[he]
   ·cases n with
    | zero=>omega
    | succ n=>
      cases hp:pick ls with
      | none=>
        cases ht:total ls with
        | zero=>simp[DC,hp]
        | succ m=>simp[DC,hp]
      | some x=>
        have h1:=Hw hp;cases ht:total ls with
        | zero=>omega
        | succ m=>
          simp only[DC,hp];rw[ih n (by omega) _ _ (by omega),ih m (by omega) _ _ (by omega)]
def M9 {ls:List (List Int)} {x:Int} {out:List Int} (hp:pick ls=some x):DC (total ls) ls out=DC (total (ls.map fun l=>l.filter (· != x))) (ls.map fun l=>l.filter (· != x)) (out++[x]):=by
 have h1:=Hw hp;cases ht:total ls with
 | zero=>omega
 | succ m=>
   simp only[DC,hp];exact VV m _ _ (by omega)
def PW {ls:List (List Int)} {out:List Int} (hp:pick ls=none):DC (total ls) ls out=(out,ls.all List.isEmpty):=by
 cases ht:total ls with
 | zero=>rfl
 | succ m=>simp only[DC,hp]
def Ey (ls:List (List Int)) (l:List Int):Bool:=match l with| []=>false|x::_=>free ls x
def HV (ls:List (List Int)) (k:Nat):Di ls k=(((ls.take k).find? (Ey ls)).bind List.head?).getD (-1):=rfl
def Hy {ls:List (List Int)} (hok:Lq ls) {k:Nat} (h:Di ls k<0):(ls.take k).find? (Ey ls)=none:=by
 rw[HV]at h;cases hf:(ls.take k).find? (Ey ls)with
 | none=>rfl
 | some l=>
   rw[hf]at h;have hm:=List.mem_of_mem_take (List.mem_of_find?_eq_some hf);have hg:=List.find?_some hf;cases l with
   | nil=>cases hg
   | cons x r=>
     have:=(hok.2 _ hm).2 x (.head _);simp at h;omega
def VT {ls:List (List Int)} (hok:Lq ls) {k:Nat} (hk:k<ls.length) (h:Di ls k<0):Di ls (k+1)=if Ey ls ls[k]then(ls[k].head?).getD (-1)else -1:=by
 rw[HV,List.take_succ_eq_append_getElem hk,List.find?_append,Hy hok h];by_cases hg:Ey ls ls[k]=true
 ·simp[hg]
 ·simp[hg]
def PN {ls:List (List Int)} {k:Nat} (h:0≤Di ls k):pick ls=some (Di ls k):=by
 rw[HV]at *;show((ls.find? (Ey ls)).bind List.head?)=_;cases hf:(ls.take k).find? (Ey ls)with
 | none=>rw[hf]at h;simp at h
 | some l=>
   have h1:ls.find? (Ey ls)=some l:=by
    have:=List.take_append_drop k ls;rw[←this,List.find?_append,this,hf];rfl
   rw[h1];rw[hf]at h;cases l with
   | nil=>simp at h
   | cons x r=>simp
def I4 {ls:List (List Int)} (hok:Lq ls) {k:Nat} {l:List Int} (hl:ls[k]? =some l) (h:Di ls k<0):Di ls (k+1)=if Ey ls l then(l.head?).getD (-1)else -1:=by
 obtain⟨hk,rfl⟩:=Mn.1 hl;exact VT hok hk h
def ZX {ls:List (List Int)} {l:List Int} (h:l∈ls):l.length≤total ls:=by
 induction ls with
 | nil=>cases h
 | cons a r ih=>
   simp only[total,C0,List.sum_cons]at *;rcases G5.1 h with rfl|h
   ·omega
   ·have:=ih h;omega
def er (ls:List (List Int)) (f:Bool) (hok:Lq ls) (ht:total ls<Aj):Pure Tryz.prog 332 [.l (EX ls) f] (.t [.l (iL (CC ls).1) false,.b (CC ls).2]):=by
 have hM:=Mx;refine pT kZ ?_
 conv=>whnf
 repeat((first|(refine Ar ?_;intro K U)|(refine Ab ?_;intro I C G F)|(apply G;clear F C G I)|refine Bc ?_|refine DX ?_|(apply U;clear U K)|fail);conv=>whnf)
 refine It (fun(x:List (List Int)×Bool×V×List Int)=>total x.1) (fun x=>[(0,.l (EX x.1) x.2.1),(4,x.2.2.1)]) (fun x=>[.own x.2.2.1 1 (iL x.2.2.2)])
  (fun x=>Lq x.1∧x.2.2.2.length+total x.1≤total ls∧DC (total x.1) x.1 x.2.2.2=CC ls) (ls,f,.l [] true,[]) rfl ⟨hok,by simp,rfl⟩ (Ed Sat.nil 1) ?_
 rintro⟨ls',f',v,out⟩ σ ⟨hok',hlen,hm⟩ hs;dsimp only at hok' hlen hm hs;have hlm:ls'.length≤Aj:=by have:=hok'.1;omega
 conv=>whnf
 repeat((first|(refine Ar ?_;intro K U)|(refine Ab ?_;intro I C G F)|(apply G;clear F C G I)|refine Bc ?_|refine DX ?_|(apply U;clear U K)|fail);conv=>whnf)
 have hJ :=QR U (fun(y:Int×Bool)=>[(5,.i .i64 y.1),(6,.b y.2)]) (fun _=>[.own v 1 (iL out)]) (fun y=>(0≤y.1∧pick ls'=some y.1)∨(y.1<0∧pick ls'=none∧y.2=ls'.any fun l=> !l.isEmpty))
  [(0,.l (EX ls') f'),(4,v),(5,.pn),(6,.pn)] (by
  rintro⟨nx,lf⟩ σ hor hs;dsimp only at hor
  conv=>whnf
  repeat((first|refine⟨rfl,?_⟩|(refine Ar ?_;intro K U)|(refine Ab ?_;intro I C G F)|(apply G;clear F C G I)|refine Bi ?_|(apply U;clear U K)|fail);conv=>whnf)
  refine fork (fun hneg=>?_) (fun hneg=>?_)
  ·conv=>whnf
   repeat((first|(refine Ar ?_;intro K U)|(refine Ab ?_;intro I C G F)|(apply G;clear F C G I)|refine DV ?_|(apply U;clear U K)|(clear U K));conv=>whnf)
   rcases hor with⟨h0,_⟩|⟨_,hp,rfl⟩
   ·omega
   ·rw[PW hp]at hm
    refine An ?_;rw[←hm];refine .t (.cons (hs.G7 0 rfl) (.cons ?_ .nil));have:(!ls'.any fun l=> !l.isEmpty)=ls'.all List.isEmpty:=by simp[List.all_eq_not_any_not]
    rw[←this];exact .refl _
  ·conv=>whnf
   repeat((first|(refine Ar ?_;intro K U)|(refine Ab ?_;intro I C G F)|refine Br ?_|(apply U;clear U K)|fail);conv=>whnf)
   rcases hor with⟨_,hp⟩|⟨h0,_⟩
   ·have hlt:=Hw hp
    refine Fc hs 0 (x:=nx) rfl (by omega) Cr fun v' σ hs=>?_
    conv=>whnf
    repeat((first|(refine Ar ?_;intro K U)|(refine Ab ?_;intro I C G F)|(apply G;clear F C G I)|refine Bc ?_|refine DX ?_|(apply U;clear U K)|fail);conv=>whnf)
    refine CD ls'.length (fun k u=>[(8,u),(9,eI (BM k))]) (fun k u=>[.own v' 1 (iL (out++[nx])),.own u 1 (EX ((ls'.take k).map fun l=>l.filter (· != nx)))]) (fun _ _=>True) (.l [] true) rfl trivial (Ed hs 1) ?_;rintro k u σ hk - hs
    conv=>whnf
    repeat((first|refine⟨rfl,?_⟩|refine Ex ?_|(refine Ar ?_;intro K U)|(refine Ab ?_;intro I C G F)|(apply G;clear F C G I)|refine Bi ?_|(apply U;clear U K)|fail);conv=>whnf)
    refine F6 hk hlm (fun l hl hlt'=>?_) fun hk=>?_
    ·conv=>whnf
     repeat((first|(refine Ar ?_;intro K U)|(refine Ab ?_;intro I C G F)|refine Br ?_|refine Bc ?_|(apply U;clear U K)|fail);conv=>whnf)
     refine Ig hl hlm rfl ?_
     conv=>whnf
     repeat((first|refine Bm ?_|fail);conv=>whnf)
     refine(PA _ _ _ (hok'.2 _ (Ck hl)).1).use ?_
     conv=>whnf
     refine Fc hs 1 (x:=l.filter (· != nx)) rfl (by have:=hok'.1;simp;omega) DJ fun u' σ' hs'=>?_
     conv=>whnf
     repeat((first|refine⟨rfl,?_⟩|(refine Ab ?_;intro I C G F)|(apply G;clear F C G I)|(apply U;clear U K)|(clear U K));conv=>whnf)
     refine⟨hlt',u',rfl,trivial,?_⟩;rw[AR hl,Pw];exact hs'
    ·rw[Av hk]at hs
     conv=>whnf
     repeat((first|(refine Ab ?_;intro I C G F)|refine DY ?_|(apply U;clear U K)|(clear U K));conv=>whnf)
     refine mb hs 1 rfl fun σ' hs'=>?_
     conv=>whnf
     repeat((first|(apply G;clear F C G I)|fail);conv=>whnf)
     refine⟨(ls'.map fun l=>l.filter (· != nx),false,v',out++[nx]),hlt,rfl,⟨hok'.filter nx,by simp;omega,?_⟩,hs'⟩;rw[←M9 hp];exact hm
   ·omega)
 clear U
 ·refine CD ls'.length (fun k (_:Unit)=>[(5,.i .i64 (Di ls' k)),(6,.b ((ls'.take k).any fun l=> !l.isEmpty)),(7,eI (BM k))]) (fun _ _=>[.own v 1 (iL out)]) (fun _ _=>True) () rfl trivial hs ?_
  rintro k - σ hk - hs
  conv=>whnf
  repeat((first|refine⟨rfl,?_⟩|refine Ex ?_|(refine Ar ?_;intro K U)|(refine Ab ?_;intro I C G F)|fail);conv=>whnf)
  refine⟨fun h=>?_,fun h=>?_⟩<;>(try rw[h])
  ·have hlt:=of_decide_eq_true h
   rw[AN (by have:=hok'.1;omega)]at hlt;have hlt:=cd hlt;have hl:=Et hlt;have hb:=hok'.2 _ (List.getElem_mem hlt);generalize ls'[k]=l at *
   conv=>whnf
   repeat((first|refine⟨rfl,?_⟩|refine MD ?_|(apply G;clear F C G I)|refine Bi ?_|(apply U;clear U K)|fail);conv=>whnf)
   refine fork (fun hneg=>?_) (fun hneg=>?_)
   ·conv=>whnf
    repeat((first|(refine Ar ?_;intro K U)|(refine Ab ?_;intro I C G F)|refine Br ?_|refine Bc ?_|(apply U;clear U K)|fail);conv=>whnf)
    refine Ig hl hlm rfl ?_
    conv=>whnf
    repeat((first|refine⟨rfl,?_⟩|refine Bm ?_|refine Ex ?_|(apply G;clear F C G I)|refine Bi ?_|(apply U;clear U K)|fail);conv=>whnf)
    refine fork (fun hp=>?_) (fun hp=>?_)
    ·simp only[BW]at hp
     obtain⟨x,r,rfl⟩: ∃x r,l=x::r:=by cases l with
      | nil=>simp at hp
      | cons x r=>exact⟨x,r,rfl⟩
     have hany:((ls'.take (k+1)).any fun l=> !l.isEmpty)=true:=by
      rw[AR hl];simp
     conv=>whnf
     repeat((first|(refine Ar ?_;intro K U)|(refine Ab ?_;intro I C G F)|(apply G;clear F C G I)|(apply U;clear U K)|fail);conv=>whnf)
     refine Ig hl hlm rfl ?_
     conv=>whnf
     repeat((first|refine Bm ?_|fail);conv=>whnf)
     refine Tt 0 rfl rfl rfl ?_
     conv=>whnf
     repeat((first|refine Bm ?_|fail);conv=>whnf)
     refine(ji _ _ _ hlm fun l hl=>(hok'.2 l hl).1).use ?_
     conv=>whnf
     repeat((first|(apply G;clear F C G I)|refine Bi ?_|(apply U;clear U K)|fail);conv=>whnf)
     refine⟨fun hf=>?_,fun hf=>?_⟩
     ·conv=>whnf
      repeat((first|(refine Ab ?_;intro I C G F)|fail);conv=>whnf)
      refine Ig hl hlm rfl ?_
      conv=>whnf
      repeat((first|refine Bm ?_|fail);conv=>whnf)
      refine Tt 0 rfl rfl rfl ?_
      conv=>whnf
      repeat((first|refine⟨rfl,?_⟩|refine Bm ?_|(refine Ab ?_;intro I C G F)|(apply G;clear F C G I)|(apply U;clear U K)|fail);conv=>whnf)
      refine⟨hlt,(),?_,trivial,hs⟩;have:Di ls' (k+1)=x:=by rw[I4 hok' hl hneg];simp[Ey,hf]
      dsimp only;rw[this,hany];rfl
     ·conv=>whnf
      repeat((first|refine⟨rfl,?_⟩|(refine Ab ?_;intro I C G F)|(apply G;clear F C G I)|refine Br ?_|(apply U;clear U K)|fail);conv=>whnf)
      refine⟨hlt,(),?_,trivial,hs⟩;have:Di ls' (k+1)=Di ls' k:=by rw[I4 hok' hl hneg,HV ls' k,Hy hok' hneg];simp[Ey,hf]
      dsimp only;rw[this,hany];rfl
    ·simp only[BW]at hp
     obtain rfl:l= []:=Vt.1 (by omega)
     conv=>whnf
     repeat((first|refine⟨rfl,?_⟩|(refine Ab ?_;intro I C G F)|(apply G;clear F C G I)|refine Br ?_|(apply U;clear U K)|fail);conv=>whnf)
     refine⟨hlt,(),?_,trivial,hs⟩;have:Di ls' (k+1)=Di ls' k:=by rw[I4 hok' hl hneg,HV ls' k,Hy hok' hneg];simp[Ey]
     have hany:((ls'.take (k+1)).any fun l=> !l.isEmpty)=((ls'.take k).any fun l=> !l.isEmpty):=by
      rw[AR hl,List.any_append];simp
     dsimp only;rw[this,hany];rfl
   ·conv=>whnf
    repeat((first|refine DY ?_|(clear U K));conv=>whnf)
    refine hJ (Di ls' k,(ls'.take k).any fun l=> !l.isEmpty) _ _ rfl (.inl ⟨by omega,?_⟩) hs;exact PN (by omega)
  ·have hlt:=of_decide_eq_false h
   rw[AN (by have:=hok'.1;omega)]at hlt;have hke:=Yj hk hlt
   conv=>whnf
   repeat((first|refine SO ?_|(apply G;clear F C G I)|refine Bi ?_|refine DY ?_|(apply U;clear U K)|(clear U K));conv=>whnf)
   refine hJ (Di ls' k,(ls'.take k).any fun l=> !l.isEmpty) _ _ rfl ?_ hs;rw[Av hke];by_cases h0:0≤Di ls' k
   ·exact .inl ⟨h0,PN h0⟩
   ·refine .inr ⟨by omega,?_,rfl⟩
    have:=Hy hok' (k:=k) (by omega);rw[Av hke]at this;show((ls'.find? (Ey ls')).bind List.head?)=none;rw[this];rfl
def Dw (g os:List (List Int)) (c:Int):List Int:=
 match EC g os c with
 | none=>[]
 | some l=>if(CC l).2 then [c]++(CC l).1++[0]else []
def Bb (g:List (List Int)):Nat→List (List Int)
 | 0=>[[0]]
 | k+1=>Bb g k++[Dw g (Bb g k) ((k:Int)+1)]
def Bz (g:List (List Int)):List (List Int):=Bb g (2+g.length)
def IG (g:List (List Int)):Prop:=g.length≤16∧ ∀(i:Nat) (l:List Int),g[i]? =some l→l.length≤3∧l.Nodup∧ ∀c∈l,(3:Int)≤c∧c<3+(i:Int)
def Cb (g:List (List Int)): ∀k,(Bb g k).length=k+1
 | 0=>rfl
 | k+1=>by simp[Bb,Cb g k]
def H0: ∀(n:Nat) (ls:List (List Int)) (out:List Int),(DC n ls out).1.length≤out.length+n
 | 0,ls,out=>by simp[DC]
 | n + 1,ls,out=>by
   simp only[DC];split
   ·simp
   ·rename_i x _
    have:=H0 n (ls.map fun l=>l.filter (· != x)) (out++[x]);simp only[KY,List.length_singleton]at this;refine Nat.le_trans this ?_;omega
def VS {ls:List (List Int)} (h: ∀l∈ls,∀x∈l,(0:Int)≤x) {x:Int} (hp:pick ls=some x):0≤x:=by
 unfold pick at hp;rw[Option.bind_eq_some_iff]at hp;obtain⟨l,h1,h2⟩:=hp;have hm:=List.mem_of_find?_eq_some h1;cases l with
 | nil=>cases h2
 | cons y r=>cases h2;exact h _ hm _ (.head _)
def Jl: ∀(n:Nat) (ls:List (List Int)) (out:List Int),(∀l∈ls,∀x∈l,(0:Int)≤x)→(∀x∈out,(0:Int)≤x)→ ∀x∈(DC n ls out).1,(0:Int)≤x
 | 0,ls,out,_,h2=>h2
 | n + 1,ls,out,h1,h2=>by
   simp only[DC];split
   ·exact h2
   ·rename_i y hy
    refine Jl n _ _ (fun l hl x hx=>?_) fun x hx=>?_
    ·obtain⟨l',hl',rfl⟩:=NP.1 hl
     exact h1 _ hl' _ (Pz.1 hx).1
    ·rcases FJ.1 hx with hx|hx
     ·exact h2 x hx
     ·rw[Nz.1 hx];exact VS h1 hy
def DR {g:List (List Int)} (hg:IG g) {c p:Int} (hp:p∈A1 g c):3≤p∧p<c:=by
 unfold A1 at hp;split at hp
 ·cases hp
 ·rename_i hc
  rw[E2]at hp;cases hq:g[(c - 3).toNat]? with
  | none=>rw[hq]at hp;cases hp
  | some l=>
    rw[hq]at hp;obtain⟨_,_,h⟩:=hg.2 _ _ hq;have:=h p hp;omega
def Cx {g:List (List Int)} (hg:IG g) (c:Int):(A1 g c).length≤3:=by
 unfold A1;split
 ·simp
 ·rw[E2]
  cases hq:g[(c - 3).toNat]? with
  | none=>simp
  | some l=>exact(hg.2 _ _ hq).1
def Gh {g os:List (List Int)} {c:Int} {ls:List (List Int)} (h:EC g os c=some ls):ls=(A1 g c).map (fun p=>(os.getD p.toNat []).filter (· != 0))++[A1 g c]:=by
 unfold EC at h;split at h
 ·cases h
 ·exact(Option.some.inj h).symm
def Uu {os:List (List Int)} {B:Nat} (h: ∀o∈os,o.length≤B) (n:Nat):(os.getD n []).length≤B:=by
 rw[E2];cases hq:os[n]? with
 | none=>simp
 | some l=>exact h _ (Ck hq)
def Ov {os:List (List Int)} {Q:Int→Prop} (h: ∀o∈os,∀x∈o,Q x) (n:Nat): ∀x∈os.getD n [],Q x:=by
 rw[E2];cases hq:os[n]? with
 | none=>simp
 | some l=>exact h _ (Ck hq)
def FI {g os:List (List Int)} {c:Int} {ls:List (List Int)} (h:EC g os c=some ls) {B:Nat} (Z: ∀o∈os,o.length≤B):total ls≤(A1 g c).length*(B+1):=by
 rw[Gh h];simp only[total,Pw,List.map_map,List.sum_append,C0,List.map_nil,List.sum_cons,List.sum_nil,Nat.add_zero]
 have: ∀ps:List Int,(ps.map (List.length∘fun p=>(os.getD p.toNat []).filter (· != 0))).sum≤ps.length*B:=fun ps=>by
  induction ps with
  | nil=>simp
  | cons p r ih=>
    simp only[C0,List.sum_cons,Function.comp,KX,Nat.succ_mul];have h1:=QJ (· != 0) (os.getD p.toNat []);have h2:=Uu Z p.toNat;simp only[Function.comp_def]at *;omega
 have:=this (A1 g c);rw[Nat.mul_add,Nat.mul_one];simp only[Function.comp_def]at *;omega
def VU {g os:List (List Int)} {c:Int} {B:Nat} (Z: ∀o∈os,o.length≤B):(Dw g os c).length≤(A1 g c).length*(B+1)+2:=by
 unfold Dw;split
 ·simp
 ·rename_i ls h
  have h1:=FI h Z;have h2:=H0 (total ls) ls [];simp only[List.length_nil,G2]at h2;split
  ·simp only[KY,List.length_singleton,CC]
   omega
  ·simp
def Pu {g os:List (List Int)} {c:Int} (hg:IG g) (hc:0≤c) (h: ∀o∈os,∀x∈o,(0:Int)≤x): ∀x∈Dw g os c,0≤x:=by
 unfold Dw;split
 ·simp
 ·rename_i ls hl
  split
  ·intro x hx
   have hls: ∀l∈ls,∀x∈l,(0:Int)≤x:=by
    rw[Gh hl];intro l hl x hx;rcases FJ.1 hl with hl|hl
    ·obtain⟨p,_,rfl⟩:=NP.1 hl
     exact Ov h p.toNat x (Pz.1 hx).1
    ·rw[Nz.1 hl]at hx
     have:=DR hg hx;omega
   simp only[FJ,Nz]at hx;rcases hx with(rfl|hx)|rfl
   ·exact hc
   ·exact Jl _ _ _ hls (by simp) x hx
   ·exact Int.le_refl _
  ·simp
def Ie (k:Nat):Nat:=5*3 ^ (k - 3) - 3
def nT (n:Nat):1≤3 ^ n:=Nat.one_le_pow _ _ (by omega)
def H8 {g : List (List Int)} (hg:IG g): ∀(k:Nat),∀o∈Bb g k,o.length≤Ie k∧ ∀x∈o,(0:Int)≤x
 | 0,o,ho=>by
   simp only[Bb,Nz]at ho;subst ho;simp[Ie]
 | k + 1,o,ho=>by
   have ih:=H8 hg k
   have hmono:Ie k≤Ie (k+1):=by
    unfold Ie;have:3 ^ (k - 3)≤3 ^ (k+1 - 3):=Nat.pow_le_pow_right (by omega) (by omega);omega
   simp only[Bb,FJ,Nz]at ho;rcases ho with ho|rfl
   ·exact⟨Nat.le_trans (ih o ho).1 hmono,(ih o ho).2⟩
   ·refine⟨?_,Pu hg (by omega) fun o ho=>(ih o ho).2⟩
    have h1:=VU (g:=g) (c:=(k:Int)+1) fun o ho=>(ih o ho).1
    by_cases hk:k<3
    ·have:A1 g ((k:Int)+1)= []:=by
      apply List.eq_nil_iff_forall_not_mem.2;intro p hp;have:=DR hg hp;omega
     rw[this]at h1
     have:Ie (k+1)=2:=by
      have:k+1 - 3=0:=by omega
      simp[Ie,this]
     simpa[this]using h1
    ·have h2:=Cx hg ((k:Int)+1)
     have h3:(A1 g ((k:Int)+1)).length*(Ie k+1)≤3*(Ie k+1):=TP _ h2;have:k+1 - 3=(k - 3)+1:=by omega
     unfold Ie at *;rw[this,Nat.pow_succ];have:=nT (k - 3);omega
def Yt {k:Nat} (h:k≤18):Ie k≤71744535:=by
 unfold Ie;have:3 ^ (k - 3)≤3 ^ 15:=Nat.pow_le_pow_right (by omega) (by omega);have e:(3:Nat) ^ 15=14348907:=by decide
 omega
def Eo {g:List (List Int)}: ∀ {k j:Nat},j≤k→(Bb g k)[j]? =(Bb g j)[j]?
 | 0,j,h=>by(obtain rfl:j=0:=by omega);rfl
 | k+1,j,h=>by
   by_cases e:j=k+1
   ·subst e;rfl
   ·rw[←Eo (k:=k) (by omega),Bb,kY (by rw[Cb];omega)]
def W4 {g os:List (List Int)} {c:Int} {ls:List (List Int)} (hg:IG g) (h:EC g os c=some ls) {B:Nat} (Z: ∀o∈os,o.length≤B∧ ∀x∈o,(0:Int)≤x) (hb:B≤100000000):Lq ls∧total ls<Aj:=by
 have h3:=Cx hg c;have ht:=FI h fun o ho=>(Z o ho).1
 have:(A1 g c).length*(B+1)≤3*(B+1):=TP _ h3;have htl:total ls<Aj:=by simp only[Aj];omega
 refine⟨⟨?_,fun l hl=>⟨?_,?_⟩⟩,htl⟩
 ·rw[Gh h]
  simp only[KY,BW,List.length_singleton,Aj];omega
 ·have:=ZX hl
  simp only[Aj]at *;omega
 ·intro x hx
  rw[Gh h]at hl;rcases FJ.1 hl with hl|hl
  ·obtain⟨p,_,rfl⟩:=NP.1 hl
   exact Ov (fun o ho=>(Z o ho).2) p.toNat x (Pz.1 hx).1
  ·rw[Nz.1 hl]at hx
   have:=DR hg hx;omega
def Zo (g : List (List Int)) (f:Bool) (hg:IG g):Pure Tryz.prog 297 [.l (EX g) f] (.l (EX (Bz g)) false):=by
 refine pz kZ ?_
 conv=>whnf
 repeat((first|(refine Ar ?_;intro K U)|(refine Ab ?_;intro I C G F)|(apply G;clear F C G I)|(apply U;clear U K)|fail);conv=>whnf)
 have hg16:=hg.1;have hgm:g.length≤Aj:=by simp only[Aj];omega
 refine⟨.l (EX [[0]]) true,emp,fun _ _ h=>h,.l (fun _=>rfl) (.cons (.cons (.l (fun h=>(by cases h)) (.refl _ _ _)) .nil) .nil),?_⟩
 conv=>whnf
 repeat((first|(refine Ar ?_;intro K U)|(refine Ab ?_;intro I C G F)|(apply G;clear F C G I)|refine Bc ?_|refine DX ?_|(apply U;clear U K)|fail);conv=>whnf)
 refine CD (2+g.length) (fun k v=>[(3,v),(4,eI (Kh 1 k))]) (fun k v=>[.own v 1 (EX (Bb g k))]) (fun _ _=>True) (.l (EX [[0]]) true) rfl trivial (gi Sat.nil (by simp)) ?_;rintro k v σ hk - hs;have hc1:Kh 1 k=(k:Int)+1:=by rw[Nw (by omega) (by omega)];omega
 have hw:IntKind.i64.wrap (3+((EX g).length:Nat))=3+(g.length:Int):=by rw[BW,wrap64 (by omega) (by omega)]
 conv=>whnf
 repeat((first|refine⟨rfl,?_⟩|refine Ex ?_|(refine Ar ?_;intro K U)|(refine Ab ?_;intro I C G F)|(apply G;clear F C G I)|refine Bi ?_|(apply U;clear U K)|fail);conv=>whnf)
 rw[hc1];rw[hw];refine fork (fun hlt=>?_) (fun hlt=>?_)
 ·have hlt':k<2+g.length:=by omega
  have Z:=H8 hg k;have hb18:Ie k≤71744535:=Yt (by omega);have hc2:Kh 1 (k+1)=IntKind.i64.wrap ((k:Int)+1+1):=by rw[Kh,hc1]
  conv=>whnf
  repeat((first|(refine Ar ?_;intro K U)|(refine Ab ?_;intro I C G F)|refine Br ?_|refine Bc ?_|(apply U;clear U K)|fail);conv=>whnf)
  refine⟨.l (iL []) false,σ,fun _ _ h=>h,.l (fun h=>(by cases h)) (.refl _ _ _),?_⟩
  conv=>whnf
  repeat((first|(refine Ar ?_;intro K U)|(refine Ab ?_;intro I C G F)|(apply G;clear F C G I)|(apply U;clear U K)|fail);conv=>whnf)
  refine(fB g (Bb g k) f v ((k:Int)+1) (by omega) hgm (fun o ho=>by have:=(Z o ho).1;simp only[Aj];omega) (by have:=Cx hg ((k:Int)+1);omega)
   (fun p hp=>by have:=DR hg hp;rw[Cb];omega)).use (rest:=[]) hs ?_
  rintro r post σ' ⟨rfl,rfl⟩ hs;cases hl:EC g (Bb g k) ((k:Int)+1)with
  | none=>
    conv=>whnf
    repeat((first|refine SO ?_|(refine Ar ?_;intro K U)|(refine Ab ?_;intro I C G F)|(apply G;clear F C G I)|refine Bi ?_|refine Br ?_|(apply U;clear U K)|fail);conv=>whnf)
    refine Fc hs 0 (x:=[]) rfl (by rw[Cb];simp only[Aj];omega) DJ fun v' σ' hs'=>?_
    conv=>whnf
    refine⟨v',σ',fun _ _ h=>h,.refl _,?_⟩
    conv=>whnf
    repeat((first|refine⟨rfl,?_⟩|(refine Ab ?_;intro I C G F)|(apply G;clear F C G I)|(apply U;clear U K)|(clear U K));conv=>whnf)
    refine⟨hlt',v',?_,trivial,?_⟩
    ·skip
     rw[hc2];rfl
    ·have:Dw g (Bb g k) ((k:Int)+1)= []:=by simp[Dw,hl,]
     rw[Bb,this];exact hs'
  | some ls=>
    obtain⟨hok,htot⟩:=W4 hg hl Z (by omega)
    conv=>whnf
    repeat((first|refine MD ?_|(refine Ar ?_;intro K U)|(refine Ab ?_;intro I C G F)|(apply G;clear F C G I)|refine Bi ?_|(apply U;clear U K)|fail);conv=>whnf)
    refine(er ls false hok htot).use ?_;have hml:=H0 (total ls) ls [];simp only[List.length_nil,G2]at hml
    conv=>whnf
    repeat((first|(refine Ar ?_;intro K U)|(refine Ab ?_;intro I C G F)|(apply G;clear F C G I)|refine Bi ?_|(apply U;clear U K)|fail);conv=>whnf)
    refine⟨fun h=>?_,fun h=>?_⟩<;>(try rw[h])
    ·conv=>whnf
     repeat((first|(refine Ab ?_;intro I C G F)|fail);conv=>whnf)
     refine GS (gi hs (by simp)) 1 (xs:=[(k:Int)+1]) rfl (by simp[CC];have:=FI hl fun o ho=>(Z o ho).1;have h3:=Cx hg ((k:Int)+1);have:(A1 g ((k:Int)+1)).length*(Ie k+1)≤3*(Ie k+1):=TP _ h3;simp only[Aj]at *;omega) Cr fun u σ1 hs=>?_
     conv=>whnf
     refine Fc hs 1 (x:=0) rfl (by simp[CC];have:=FI hl fun o ho=>(Z o ho).1;have h3:=Cx hg ((k:Int)+1);have:(A1 g ((k:Int)+1)).length*(Ie k+1)≤3*(Ie k+1):=TP _ h3;simp only[Aj]at *;omega) Cr fun u σ1 hs=>?_
     conv=>whnf
     refine mb hs 1 rfl fun σ' hs=>?_
     conv=>whnf
     repeat((first|(refine Ab ?_;intro I C G F)|(apply G;clear F C G I)|(apply U;clear U K)|fail);conv=>whnf)
     refine Fc hs 0 (x:=([(k:Int)+1]++(CC ls).1++[0])) rfl (by rw[Cb];simp only[Aj];omega) DJ fun v' σ' hs'=>?_
     conv=>whnf
     refine⟨v',σ',fun _ _ h=>h,.refl _,?_⟩
     conv=>whnf
     repeat((first|refine⟨rfl,?_⟩|(refine Ab ?_;intro I C G F)|(apply G;clear F C G I)|(apply U;clear U K)|(clear U K));conv=>whnf)
     refine⟨hlt',v',?_,trivial,?_⟩
     ·skip
      rw[hc2];rfl
     ·have:Dw g (Bb g k) ((k:Int)+1)=([(k:Int)+1]++(CC ls).1++[0]):=by simp[Dw,hl,h]
      rw[Bb,this];exact hs'
    ·conv=>whnf
     repeat((first|(refine Ab ?_;intro I C G F)|refine Br ?_|(apply U;clear U K)|fail);conv=>whnf)
     refine Fc hs 0 (x:=[]) rfl (by rw[Cb];simp only[Aj];omega) DJ fun v' σ' hs'=>?_
     conv=>whnf
     refine⟨v',σ',fun _ _ h=>h,.refl _,?_⟩
     conv=>whnf
     repeat((first|refine⟨rfl,?_⟩|(refine Ab ?_;intro I C G F)|(apply G;clear F C G I)|(apply U;clear U K)|(clear U K));conv=>whnf)
     refine⟨hlt',v',?_,trivial,?_⟩
     ·skip
      rw[hc2];rfl
     ·have:Dw g (Bb g k) ((k:Int)+1)= []:=by simp[Dw,hl,h]
      rw[Bb,this];exact hs'
 ·conv=>whnf
  repeat((first|(refine Ar ?_;intro K U)|(refine Ab ?_;intro I C G F)|(apply G;clear F C G I)|refine DY ?_|refine DV ?_|(apply U;clear U K)|(clear U K));conv=>whnf)
  have hke:k=2+g.length:=by omega
  subst hke;exact EB hs 0 rfl rfl
end Go.Gl
namespace Go.Gl
def par (ps:List (List Int)) (c:Nat):List Int:=if c<3 then []else ps.getD (c - 3) []
def ordered (ps:List (List Int)):Prop:= ∀c p,p∈par ps c→3≤p∧p<(c:Int)
def bN (ps:List (List Int)):Nat→Nat→Nat→Bool
 | 0,c,b=>c==b
 | f+1,c,b=>c==b||(par ps c).any fun p=>bN ps f p.toNat b
def Ja (ps:List (List Int)) (c b:Nat):Bool:=bN ps c c b
def KD {ps:List (List Int)} (ho:ordered ps): ∀(f c b:Nat),c≤f→bN ps f c b=Ja ps c b
 | 0,c,b,h=>by(obtain rfl:c=0:=by omega);rfl
 | f + 1,c,b,h=>by
   cases c with
   | zero=>
     have:par ps 0= []:=rfl;simp[Ja,bN,this]
   | succ c=>
     simp only[Ja,bN];congr 1
     have key: ∀l:List Int,(∀p∈l,p∈par ps (c+1))→(l.any fun p=>bN ps f p.toNat b)=l.any fun p=>bN ps c p.toNat b:=by
      intro l hl
      induction l with
      | nil=>rfl
      | cons p r ih=>
        have hp:=ho (c+1) p (hl p (.head _));simp only[QH];rw[ih fun q hq=>hl q (.tail _ hq),KD ho f p.toNat b (by omega),KD ho c p.toNat b (by omega)]
     exact key _ fun p hp=>hp
def F3 {ps:List (List Int)} (ho:ordered ps) (c b:Nat):Ja ps c b=(c==b||(par ps c).any fun p=>Ja ps p.toNat b):=by
 cases c with
 | zero=>simp[Ja,bN,par]
 | succ c=>
   simp only[Ja,bN];congr 1
   have key: ∀l:List Int,(∀p∈l,p∈par ps (c+1))→(l.any fun p=>bN ps c p.toNat b)=l.any fun p=>bN ps p.toNat p.toNat b:=by
    intro l hl
    induction l with
    | nil=>rfl
    | cons p r ih=>
      have hp:=ho (c+1) p (hl p (.head _));simp only[QH];rw[ih fun q hq=>hl q (.tail _ hq),KD ho c p.toNat b (by omega)];rfl
   exact key _ fun p hp=>hp
def HL {ps:List (List Int)} (ho:ordered ps) (c:Nat):Ja ps c c=true:=by rw[F3 ho];simp
def cJ {ps:List (List Int)} (ho:ordered ps): ∀(c b:Nat),Ja ps c b=true→b≤c:=by
 intro c
 induction c using Nat.strongRecOn with
 | _ c ih=>
   intro b h;rw[F3 ho]at h;simp only[Gj,D4,NO]at h;rcases h with rfl|⟨p,hp,h⟩
   ·omega
   ·have:=ho c p hp
    have:=ih p.toNat (by omega) b h;omega
def MH {ps:List (List Int)} (ho:ordered ps): ∀(a b c:Nat),Ja ps a b=true→Ja ps b c=true→Ja ps a c=true:=by
 intro a
 induction a using Nat.strongRecOn with
 | _ a ih=>
   intro b c h k;rw[F3 ho]at h ⊢;simp only[Gj,D4,NO]at h ⊢;rcases h with rfl|⟨p,hp,h⟩
   ·rw[F3 ho]at k
    simpa using k
   ·have:=ho a p hp
    exact .inr ⟨p,hp,ih p.toNat (by omega) b c h k⟩
def FL (bs:List Bool) (i:Nat):List Int→List Bool
 | []=>bs
 | p::r=>FL (bs.set p.toNat (bs.getD p.toNat false||bs.getD i false)) i r
def Lb (i:Nat): ∀(a b:List Int) (bs:List Bool),FL bs i (a++b)=FL (FL bs i a) i b
 | [],b,bs=>rfl
 | p::r,b,bs=>by simp only[List.cons_append,FL];exact Lb i r b _
def MR (i:Nat): ∀(l:List Int) (bs:List Bool),(FL bs i l).length=bs.length
 | [],bs=>rfl
 | p::r,bs=>by simp only[FL];rw[MR i r];simp
def G6 (ps:List (List Int)) (n c:Nat):Nat→List Bool
 | 0=>(List.replicate n false).set c true
 | k+1=>FL (G6 ps n c k) (c - k) (par ps (c - k))
def Kx (ps:List (List Int)) (n c:Nat): ∀k,(G6 ps n c k).length=n
 | 0=>by simp[G6]
 | k+1=>by simp only[G6];rw[MR,Kx ps n c k]
def F8 {bs:List Bool} {j:Nat} {x:Bool} (hj:j<bs.length) (b:Nat):(bs.set j x).getD b false=if b=j then x else bs.getD b false:=by
 simp only[E2,List.getElem?_set];by_cases h:j=b
 ·subst h;simp[hj]
 ·rw[if_neg h,if_neg (fun e=>h e.symm)]
def MS {i:Nat}: ∀(l:List Int) (bs:List Bool),(∀p∈l,0≤p∧p.toNat<bs.length∧p.toNat<i)→ ∀b,(FL bs i l).getD b false=(bs.getD b false||(bs.getD i false&&l.contains (b:Int)))
 | [],bs,_,b=>by simp[FL]
 | p ::r,bs,h,b=>by
   obtain⟨h1,h2,h3⟩:=h p (.head _);simp only[FL];have hi:i≠p.toNat:=by omega
   rw[MS r _ (fun q hq=>by have:=h q (.tail _ hq);simpa using this),F8 h2,F8 h2,if_neg hi];by_cases hb:b=p.toNat
   ·subst hb
    have:((p.toNat:Nat):Int)=p:=by omega
    simp only[if_true,this,List.contains_cons,beq_self_eq_true,Bool.true_or,Bool.and_true];cases bs.getD p.toNat false<;>cases bs.getD i false<;>simp
   ·rw[if_neg hb]
    have:((b:Int)==p)=false:=by simp;omega
    simp only[List.contains_cons,this,Bool.false_or]
def UQ {ps:List (List Int)} (ho:ordered ps) {n c:Nat} (hc:c<n): ∀k,k≤c - 2→(∀b,(G6 ps n c k).getD b false=true→Ja ps c b=true)∧(G6 ps n c k).getD c false=true∧
    (∀j p,c - k<j→(G6 ps n c k).getD j false=true→p∈par ps j→(G6 ps n c k).getD p.toNat false=true)
 | 0,_=>by
   have hg: ∀b,(G6 ps n c 0).getD b false=decide (b=c):=fun b=>by
    simp only[G6];rw[F8 (by simpa using hc)];by_cases h:b=c
    ·simp[h]
    ·rw[if_neg h]
     simp[h,E2,List.getElem?_replicate];split<;>rfl
   refine⟨fun b hb=>?_,by rw[hg];simp,fun j p hj hb hp=>?_⟩
   ·rw[hg]at hb
    simp only[DZ]at hb;subst hb;exact HL ho _
   ·rw[hg]at hb
    simp only[DZ]at hb;omega
 | k + 1,hk=>by
   obtain⟨h1,h2,h3⟩:=UQ ho hc k (by omega)
   have hpar: ∀p∈par ps (c - k),0≤p∧p.toNat<(G6 ps n c k).length∧p.toNat<c - k:=fun p hp=>by
    have:=ho _ p hp;rw[Kx];omega
   have hg: ∀b,(G6 ps n c (k+1)).getD b false=((G6 ps n c k).getD b false||((G6 ps n c k).getD (c - k) false&&(par ps (c - k)).contains (b:Int))):=fun b=>by
    simp only[G6];exact MS _ _ hpar b
   refine⟨fun b hb=>?_,by rw[hg,h2];rfl,fun j p hj hb hp=>?_⟩
   ·rw[hg]at hb
    simp only[Gj,BU,List.contains_iff_mem]at hb;rcases hb with hb|⟨hb,hm⟩
    ·exact h1 b hb
    ·refine MH ho c (c - k) b (h1 _ hb) ?_
     rw[F3 ho];simp only[Gj,NO];exact .inr ⟨b,hm,by simpa using HL ho b⟩
   ·have hjp:=ho j p hp
    have hb':(G6 ps n c k).getD j false=true:=by
     rw[hg]at hb;simp only[Gj,BU,List.contains_iff_mem]at hb;rcases hb with hb|⟨_,hm⟩
     ·exact hb
     ·have:=ho _ _ hm
      omega
    rw[hg];by_cases e:j=c - k
    ·subst e
     rw[hb'];have:((p.toNat:Nat):Int)=p:=by omega
     simp only[this,I8,Gj,List.contains_iff_mem];exact .inr hp
    ·rw[h3 j p (by omega) hb' hp]
     rfl
def Xw {ps:List (List Int)} (ho:ordered ps) {n c:Nat} (hc:c<n) (b:Nat):(G6 ps n c (c - 2)).getD b false=Ja ps c b:=by
 obtain⟨h1,h2,h3⟩:=UQ ho hc (c - 2) (He _)
 have key: ∀a,(G6 ps n c (c - 2)).getD a false=true→ ∀b,Ja ps a b=true→(G6 ps n c (c - 2)).getD b false=true:=by
  intro a
  induction a using Nat.strongRecOn with
  | _ a ih=>
    intro ha b hb;rw[F3 ho]at hb;simp only[Gj,D4,NO]at hb;rcases hb with rfl|⟨p,hp,hb⟩
    ·exact ha
    ·have:=ho a p hp
     exact ih p.toNat (by omega) (h3 a p (by omega) ha hp) b hb
 cases hb:Ja ps c b with
 | true=>exact key c h2 b hb
 | false=>
   cases hq:(G6 ps n c (c - 2)).getD b false with
   | false=>rfl
   | true=>rw[h1 b hq]at hb;cases hb
end Go.Gl
