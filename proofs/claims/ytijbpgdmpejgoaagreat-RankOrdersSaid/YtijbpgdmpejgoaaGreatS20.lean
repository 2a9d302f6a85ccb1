import Derived.ChangeOld
import Derived.Below
import Derived.Carry
import Derived.ChangeArms
import Derived.Deep.Slices
import Derived.Test.YtijbpgdmpejgoaaGreatProg
import Derived.KernelRfl
import Derived.Test.YtijbpgdmpejgoaaGreatS5
import Derived.Test.YtijbpgdmpejgoaaGreatS19
set_option linter.all false
noncomputable section
namespace Go.Gl
open Go.ChangeShapes Go.WideShapes Go.ChangeAt Go.RowKit
theorem eX {w w':World} (h:CS (fun _=>False) emp w emp w'):Below w.heap.size w w':=
 ⟨h.os,h.tape,h.output,h.size,fun k hk=>h.frame k hk rfl⟩
theorem uq {w:World} {b o:Nat}:Hh (fun _=>False) emp w b o=w.cell? ⟨b,o,none⟩:=by
 unfold Hh;rw[if_neg (by simp[emp])]
theorem Np {α:Type} {Q:Nat→α→Prop}: ∀(len:Nat),(∀i,i<len→ ∃v,Q i v)→ ∃l:List α,l.length=len∧ ∀i v,l[i]? =some v→Q i v
 | 0,_=>⟨[],rfl,fun i v h=>by simp at h⟩
 | k + 1,h=>by
   obtain⟨l,hl,hl2⟩:=Np k fun i hi=>h i (by omega)
   obtain⟨u,hu⟩:=h k (by omega);refine⟨l++[u],by simp[hl],fun i v hv=>?_⟩;by_cases hi:i<l.length
   ·rw[tC hi]at hv
    exact hl2 i v hv
   ·rw[List.getElem?_append_right (by omega)]at hv
    have:i - l.length=0:=by
     have:=(Nu.1 hv).1;simp at this;omega
    have hik:i=k:=by omega
    subst hik;rw[this]at hv;rw[←Option.some.inj hv];exact hu
section
variable {H:Type} {enc:TypeId×Value→H} {P:Program} {W:World}
def fD {H:Type} (enc:TypeId×Value→H) (P:Program) (W:World) (n:Nat) (t:TypeId) {α:Type} (ea:α→List V):Prop:=
 ∀(cs:List Value) (d:DataW H) (ps:List MemPlace),DataW.trod enc P W 0 (fun _=>true) true n t cs=some (d,ps)→(∀x∈d.weights P t,x≤reachBytes)→ ∃a:α,cs.length=(ea a).length∧Bl (Hh (fun _=>False) emp W) (fun i=>cs[i]?) 0 (ea a)
def Vq {H:Type} (enc:TypeId×Value→H) (P:Program) (W:World) (t:TypeId) {α:Type} (ea:α→List V):Prop:= ∀n,fD enc P W n t ea
theorem Lt {t:TypeId} {α:Type} {ea:α→List V}:fD enc P W 0 t ea:=fun cs d ps h=>by simp[DataW.trod]at h
theorem Jf {n:Nat} {t:TypeId} {α β:Type} {ea:α→List V} {eb:β→List V} (h:fD enc P W n t ea) (g:α→β) (hg: ∀a,ea a=eb (g a)):fD enc P W n t eb:=fun cs d ps h1 h2=>by
 obtain⟨a,h3,h4⟩:=h cs d ps h1 h2;exact⟨g a,by rw[←hg];exact h3,by rw[←hg];exact h4⟩
theorem SG {t:TypeId} (ht:P.underlying t=some (.int .i64)):Vq enc P W t fun x:Int=>[V.i .i64 x]:=fun n cs d ps h _=>by
 obtain⟨k,rfl,-,hw⟩:=DataW.trod_int ht h;simp only[Lit.wf,Bj,D4]at hw;refine⟨k,rfl,⟨_,rfl,?_⟩,trivial⟩;simp only[Ac]
 first
  | exact⟨rfl,hw⟩
  | exact⟨trivial,hw⟩
  | exact hw
theorem Q5 {n:Nat} {t e:TypeId} {sz:Nat} {α:Type} {ea:α→List V} (ht:P.underlying t=some (.slice e)) (hc:P.cellsOf e=sz) (hsz:0<sz) (hb:8≤P.bytesOf e) (he: ∀a,(ea a).length=sz) (h:fD enc P W n e ea) :
 fD enc P W (n+1) t fun l:List α=>[V.l (l.map ea) false]:=by
 intro cs d ps htr hw;rcases DataW.trod_slice ht htr with⟨rfl,hx⟩|⟨a,len,cap,elems,rest,n',hn,rfl,hx,-,hl,hm,hlen,hel,-,-⟩
 ·refine⟨[],rfl,⟨_,rfl,?_⟩,trivial⟩
  simp only[List.map_nil,Ac];exact⟨none,0,rfl,J1 _,fun h=>(by cases h),Nat.zero_le _,fun _=>rfl,fun h=>absurd rfl h⟩
 ·obtain rfl:n'=n:=by omega
  simp only[Prod.mk.injEq]at hx;obtain⟨rfl,-⟩:=hx;simp only[DataW.weights,ht,IC,F8]at hw;have hwl:=hw _ (.inl rfl)
  have hwe: ∀(l:List (DataW H)) (D:DataW H),D∈l→ ∀x∈D.weights P e,x∈DataW.weightsAll P e l:=by
   intro l
   induction l with
   | nil=>intro D hD;cases hD
   | cons y r ih=>
     intro D hD x hx;simp only[DataW.weightsAll,F8];rcases IC.1 hD with rfl|hD
     ·exact .inl hx
     ·exact .inr (ih D hD x hx)
  have hM:len≤Ai:=by
   simp only[Bz,hlen,reachBytes]at hwl;have h8:(len+rest.length)*8≤(len+rest.length)*P.bytesOf e:=Nat.mul_le_mul_left _ hb;unfold Ai;omega
  have each: ∀i,i<len→ ∃v:α,∃cs',W.cells? 0 (a.add (i*sz)) sz=some cs'∧Bl (Hh (fun _=>False) emp W) (fun j=>cs'[j]?) 0 (ea v):=fun i hi=>by
   have hi':=hel i hi;obtain⟨x,hx⟩: ∃x,elems[i]? =some x:=⟨_,FD (by omega)⟩
   rw[hx,Option.bind_eq_some_iff,hc]at hi';obtain⟨cs',h1,h2⟩:=hi';obtain⟨v,-,h4⟩:=h cs' x.1 x.2 h2 fun y hy=>hw y (.inr (.inl (hwe _ x.1 (Ob.2 ⟨x,DM hx,rfl⟩) y hy)))
   exact⟨v,cs',h1,h4⟩
  obtain⟨l,hll,hlc⟩:=Np len each;refine⟨l,rfl,⟨_,rfl,?_⟩,trivial⟩;simp only[Ac,Bz];refine⟨some a,cap,by rw[hll],by omega,fun h=>(by cases h),by omega,fun h=>(by cases h),fun hne=>?_⟩;obtain⟨b,o,spot⟩:=a
  have h0:0<l.length:=by
   rcases l with _|⟨v,r⟩
   ·exact absurd rfl hne
   ·simp
  have hspot:spot=none:=by
   obtain⟨cs',h1,-⟩:=hlc 0 l[0] (FD h0);obtain⟨-,h3,h4⟩:=World.cells?_some h1;have h5:=h4 0 hsz;rw[FD (by omega)]at h5;have:=World.cell?_spot h5;simpa[Addr.add]using this
  subst hspot
  have hcell: ∀i v,l[i]? =some v→ ∀k u,(ea v)[k]? =some u→ ∃c,W.cell? ⟨b,o+i*sz+k,none⟩=some c∧Ac (Hh (fun _=>False) emp W) u c:=fun i v hv k u hu=>by
   obtain⟨cs',h1,h2⟩:=hlc i v hv;obtain⟨-,h3,h4⟩:=World.cells?_some h1;have hk:k<sz:=by rw[←he v];exact(Nu.1 hu).1
   obtain⟨c,hc',hr⟩:=Bv.1 h2 k u hu;have h5:=h4 k hk;simp only[HV]at hc';rw[add_plain,add_plain]at h5;exact⟨c,by rw[←hc',←h5],hr⟩
  refine⟨b,o,sz,rfl,BK.2 fun j e hj=>?_⟩;rw[Qf]at hj;obtain⟨v,hv,rfl⟩:=Option.map_eq_some_iff.1 hj;refine⟨he v,Bv.2 fun k u hu=>?_⟩;obtain⟨c,h1,h2⟩:=hcell j v hv k u hu;exact⟨c,by rw[uq];exact h1,h2⟩
theorem JV {t e:TypeId} {sz:Nat} {α:Type} {ea:α→List V} (ht:P.underlying t=some (.slice e)) (hc:P.cellsOf e=sz) (hsz:0<sz) (hb:8≤P.bytesOf e) (he: ∀a,(ea a).length=sz) (h:Vq enc P W e ea) :
 Vq enc P W t fun l:List α=>[V.l (l.map ea) false]
 | 0=>Lt
 | n+1=>Q5 ht hc hsz hb he (h n)
def zD {H:Type} (enc:TypeId×Value→H) (P:Program) (W:World) (n:Nat) (fs:List Field) (o:Nat) {α:Type} (ea:α→List V):Prop:=
 ∀ (cs:List Value) (xs:List (DataW H×List MemPlace)),xs.length=fs.length→(∀(i:Nat) (f:Field),fs[i]? =some f→DataW.trod enc P W 0 (fun _=>true) true n (Field.type f) ((cs.drop (Field.offset f)).take (P.cellsOf (Field.type f)))=xs[i]?)→
   (∀x∈DataW.weightsEach P (fs.map fun f:Field=>f.type) (xs.map (·.1)),x≤reachBytes)→ ∃a:α,Bl (Hh (fun _=>False) emp W) (fun i=>cs[i]?) o (ea a)
theorem Jg {n o:Nat}:zD enc P W n [] o fun _:Unit=>([]:List V):=fun _ _ _ _ _=>⟨(),trivial⟩
theorem Bw {n o c:Nat} {f:Field} {fs:List Field} {α β:Type} {ea:α→List V} {eb:β→List V} (hf:f.offset=o) (hc:P.cellsOf f.type=c) (he: ∀a,(ea a).length=c) (h1:fD enc P W n f.type ea) (h2:zD enc P W n fs (o+c) eb) :
 zD enc P W n (f::fs) o fun p:α×β=>ea p.1++eb p.2:=by
 intro cs xs hl hx hw
 match xs,hl with
 | x ::r,hl=>
   have hx0:=hx 0 f rfl;simp only[tB]at hx0;simp only[Fa,DataW.weightsEach,F8]at hw;obtain⟨a,ha1,ha2⟩:=h1 _ x.1 x.2 hx0 fun y hy=>hw y (.inl hy)
   obtain⟨b,hb⟩:=h2 cs r (by simpa using hl) (fun i g hg=>by
    have:=hx (i+1) g (by simpa using hg)
    simpa using this) fun y hy=>hw y (.inr hy)
   refine⟨(a,b),NX (Bv.2 fun k u hu=>?_) (by rw[he];exact hb)⟩;obtain⟨cc,h3,h4⟩:=Bv.1 ha2 k u hu;have hk:k<c:=by rw[←he a];exact(Nu.1 hu).1
   refine⟨cc,?_,h4⟩;rw[hf,hc,HV,List.getElem?_take,if_pos hk,y0]at h3;exact h3
theorem Pm {n:Nat} {t:TypeId} {fs:List Field} {α:Type} {ea:α→List V} (ht:P.underlying t=some (.struct fs.toArray)) (h:zD enc P W n fs 0 ea) (hl: ∀a,(ea a).length=P.cellsOf t):fD enc P W (n+1) t ea:=by
 intro cs d ps htr hw;obtain⟨xs,k,hk,hx,hcl,hxl,hf⟩:=DataW.trod_struct ht htr;obtain rfl:k=n:=by omega
 simp only[Prod.mk.injEq]at hx;obtain⟨rfl,-⟩:=hx;simp only[DataW.weights,ht]at hw;obtain⟨a,ha⟩:=h cs xs (by rw[hxl];simp) (fun i f hfi=>hf i f (by simpa using hfi)) (by simpa using hw);exact⟨a,by rw[hcl,hl],ha⟩
theorem H0 {t:TypeId} {fs:List Field} {α:Type} {ea:α→List V} (ht:P.underlying t=some (.struct fs.toArray)) (h: ∀n,zD enc P W n fs 0 ea) (hl: ∀a,(ea a).length=P.cellsOf t):Vq enc P W t ea
 | 0=>Lt
 | n+1=>Pm ht (h n) hl
end
end Go.Gl
namespace Go.Gl
open Go.Proofs
section
variable {H:Type} {enc:TypeId×Value→H} {W:World}
theorem b8 {n:Nat} (h:Nat.ble 8 n=true):8≤n:=Nat.le_of_ble_eq_true h
theorem Oh:Vq enc Tryz.prog W 3 fun x:Int=>[V.i .i64 x]:=SG Tryz.underlying3
theorem T1:Vq enc Tryz.prog W 23 fun l:List Int=>[V.l (iL l) false]:=JV Tryz.underlying23 (by kernel_rfl) (by decide) (b8 (by kernel_rfl)) (fun _=>rfl) Oh
theorem ts:Vq enc Tryz.prog W 169 fun p:Int×Int=>[eI p.1,eI p.2]:=fun n=>
 Jf (H0 Tryz.underlying169
  (fun n=>Bw (c:=1) rfl (by kernel_rfl) (fun _=>rfl) (Oh n) (Bw (c:=1) rfl (by kernel_rfl) (fun _=>rfl) (Oh n) Jg)) (fun _=>(show _=2 from rfl).trans (by kernel_rfl)) n) (fun x=>(x.1,x.2.1)) fun _=>rfl
theorem gU:Vq enc Tryz.prog W 53 fun l:List (Int×Int)=>[V.l (l.map fun p=>[eI p.1,eI p.2]) false]:=JV (sz:=2) Tryz.underlying53 (by kernel_rfl) (by decide) (b8 (by kernel_rfl)) (fun _=>rfl) ts
theorem AAg:Vq enc Tryz.prog W 55 Tn:=fun n=>
 Jf (H0 Tryz.underlying55
  (fun n=>Bw (c:=1) rfl (by kernel_rfl) (fun _=>rfl) (T1 n) (Bw (c:=1) rfl (by kernel_rfl) (fun _=>rfl) (T1 n)
   (Bw (c:=1) rfl (by kernel_rfl) (fun _=>rfl) (gU n) Jg))) (fun _=>(show _=3 from rfl).trans (by kernel_rfl)) n) (fun x=>⟨x.1,x.2.1,x.2.2.1⟩) fun _=>rfl
theorem tq:Vq enc Tryz.prog W 112 JN:=fun n=>
 Jf (H0 Tryz.underlying112
  (fun n=>Bw (c:=1) rfl (by kernel_rfl) (fun _=>rfl) (SG Tryz.underlying110 n) (Bw (c:=1) rfl (by kernel_rfl) (fun _=>rfl) (Oh n)
   (Bw (c:=1) rfl (by kernel_rfl) (fun _=>rfl) (T1 n) Jg))) (fun _=>(show _=3 from rfl).trans (by kernel_rfl)) n) (fun x=>⟨x.1,x.2.1,x.2.2.1⟩) fun _=>rfl
theorem gS:Vq enc Tryz.prog W 25 fun l:List Node=>[V.l (l.map JN) false]:=JV (sz:=3) Tryz.underlying25 (by kernel_rfl) (by decide) (b8 (by kernel_rfl)) (fun _=>rfl) tq
theorem tu:Vq enc Tryz.prog W 22 fun l:List QM=>[V.l (l.map Tn) false]:=JV (sz:=3) Tryz.underlying22 (by kernel_rfl) (by decide) (b8 (by kernel_rfl)) (fun _=>rfl) AAg
theorem ND (f:Fact):(Gz f).length=6:=by rw[Bq];rfl
theorem Xo: ∀n,fD enc Tryz.prog W n 89 Gz∧fD enc Tryz.prog W n 87 fun l:List Fact=>[V.l (facts l) false]
 | 0=>⟨Lt,Lt⟩
 | n + 1 =>by
   obtain⟨h1,h2⟩:=Xo n;refine⟨?_,Q5 Tryz.underlying87 (by kernel_rfl) (by decide) (b8 (by kernel_rfl)) ND h1⟩
   exact Jf (Pm Tryz.underlying89
    (Bw (c:=1) rfl (by kernel_rfl) (fun _=>rfl) (SG Tryz.underlying86 n) (Bw (c:=1) rfl (by kernel_rfl) (fun _=>rfl) (Oh n)
     (Bw (c:=1) rfl (by kernel_rfl) (fun _=>rfl) (T1 n) (Bw (c:=1) rfl (by kernel_rfl) (fun _=>rfl) (Oh n)
      (Bw (c:=1) rfl (by kernel_rfl) (fun _=>rfl) (Oh n) (Bw (c:=1) rfl (by kernel_rfl) (fun _=>rfl) h2 Jg)))))) (fun _=>(show _=6 from rfl).trans (by kernel_rfl)))
    (fun x=>Fact.mk x.1 x.2.1 x.2.2.1 x.2.2.2.1 x.2.2.2.2.1 x.2.2.2.2.2.1) fun x=>by rw[Bq];rfl
theorem tt:Vq enc Tryz.prog W 89 Gz:=fun n=>(Xo n).1
theorem tr:Vq enc Tryz.prog W 91 bI:=fun n=>
 Jf (H0 Tryz.underlying91
  (fun n=>Bw (c:=1) rfl (by kernel_rfl) (fun _=>rfl) (SG Tryz.underlying37 n) (Bw (c:=1) rfl (by kernel_rfl) (fun _=>rfl) (Oh n)
   (Bw (c:=6) rfl (by kernel_rfl) ND (tt n) (Bw (c:=1) rfl (by kernel_rfl) (fun _=>rfl) (Oh n) Jg)))) (fun x=>(show _=9 from by simp only[QJ,ND];rfl).trans (by kernel_rfl)) n) (fun x=>⟨x.1,x.2.1,x.2.2.1,x.2.2.2.1⟩) fun x=>by rw[Bq];rfl
theorem gT:Vq enc Tryz.prog W 24 fun l:List Ot=>[V.l (l.map bI) false]:=JV (sz:=9) Tryz.underlying24 (by kernel_rfl) (by decide) (b8 (by kernel_rfl)) (fun _=>rfl) tr
theorem tp:Vq enc Tryz.prog W 27 Bd:=fun n=>
 Jf (H0 Tryz.underlying27
  (fun n=>Bw (c:=1) rfl (by kernel_rfl) (fun _=>rfl) (tu n)
   (Bw (c:=1) rfl (by kernel_rfl) (fun _=>rfl) (Oh n) (Bw (c:=1) rfl (by kernel_rfl) (fun _=>rfl) (T1 n)
    (Bw (c:=1) rfl (by kernel_rfl) (fun _=>rfl) (gT n)
     (Bw (c:=1) rfl (by kernel_rfl) (fun _=>rfl) (gS n)
      (Bw (c:=1) rfl (by kernel_rfl) (fun _=>rfl) (Oh n) Jg)))))) (fun _=>(show _=6 from rfl).trans (by kernel_rfl)) n) (fun x=>⟨x.1,x.2.1,x.2.2.1,x.2.2.2.1,x.2.2.2.2.1,x.2.2.2.2.2.1⟩) fun _=>rfl
end
end Go.Gl
