import Derived.ChangeOld
import Derived.Below
import Derived.Carry
import Derived.ChangeArms
import Derived.Deep.Slices
import Derived.Test.YtnidfcmdimehdaaGreatProg
import Derived.KernelRfl
import Derived.Test.YtnidfcmdimehdaaGreatU12
set_option linter.all false
set_option linter.defProp false
set_option maxHeartbeats 8000000
noncomputable section
namespace Go.Gl
open Go.ChangeShapes Go.WideShapes Go.ChangeAt Go.RowKit
def kT {w w':World} (h:B3 (fun _=>False) emp w emp w'):Below w.heap.size w w':=
 ⟨h.os,h.tape,h.output,h.size,fun k hk=>h.frame k hk rfl⟩
def sb {w:World} {b o:Nat}:Hh (fun _=>False) emp w b o=w.cell? ⟨b,o,none⟩:=by
 unfold Hh;rw[if_neg (by simp[emp])]
def Og {α:Type} {Q:Nat->α->Prop}: ∀(len:Nat),(∀i,i<len-> ∃v,Q i v)-> ∃l:List α,l.length=len/\ ∀i v,l[i]? =some v->Q i v
 | 0,_=>⟨[],rfl,fun i v h=>by simp at h⟩
 | k + 1,h=>by
   obtain⟨l,hl,hl2⟩:=Og k fun i hi=>h i (by omega)
   obtain⟨u,hu⟩:=h k (by omega);refine⟨l++[u],by simp[hl],fun i v hv=>?_⟩;by_cases hi:i<l.length
   .rw[Xm hi]at hv
    exact hl2 i v hv
   .rw[List.getElem?_append_right (by omega)]at hv
    have:i - l.length=0:=by
     have:=(JA.1 hv).1;simp at this;omega
    have hik:i=k:=by omega
    subst hik;rw[this]at hv;rw[<-Option.some.inj hv];exact hu
section
variable {H:Type} {enc:TypeId×Value->H} {P:Program} {W:World}
def lI {H:Type} (enc:TypeId×Value->H) (P:Program) (W:World) (n:Nat) (t:TypeId) {α:Type} (ea:α->List V):Prop:=
 ∀(cs:List Value) (d:DataW H) (ps:List MemPlace),DataW.trod enc P W 0 (fun _=>true) true n t cs=some (d,ps)->(∀x∈d.weights P t,x<=reachBytes)-> ∃a:α,cs.length=(ea a).length/\BU (Hh (fun _=>False) emp W) (fun i=>cs[i]?) 0 (ea a)
def VE {H:Type} (enc:TypeId×Value->H) (P:Program) (W:World) (t:TypeId) {α:Type} (ea:α->List V):Prop:= ∀n,lI enc P W n t ea
def Me {t:TypeId} {α:Type} {ea:α->List V}:lI enc P W 0 t ea:=fun cs d ps h=>by simp[DataW.trod]at h
def Il {n:Nat} {t:TypeId} {α β:Type} {ea:α->List V} {eb:β->List V} (h:lI enc P W n t ea) (g:α->β) (hg: ∀a,ea a=eb (g a)):lI enc P W n t eb:=fun cs d ps h1 h2=>by
 obtain⟨a,h3,h4⟩:=h cs d ps h1 h2;exact⟨g a,by rw[<-hg];exact h3,by rw[<-hg];exact h4⟩
def Pz {t:TypeId} (ht:P.underlying t=some (.int .i64)):VE enc P W t fun x:Int=>[V.i .i64 x]:=fun n cs d ps h _=>by
 obtain⟨k,rfl,-,hw⟩:=DataW.trod_int ht h;simp only[Lit.wf,A7,CF]at hw;refine⟨k,rfl,⟨_,rfl,?_⟩,trivial⟩;simp only[Ae]
 first
  | exact⟨rfl,hw⟩
  | exact⟨trivial,hw⟩
  | exact hw
def Sm {n:Nat} {t e:TypeId} {sz:Nat} {α:Type} {ea:α->List V} (ht:P.underlying t=some (.slice e)) (hc:P.cellsOf e=sz) (hsz:0<sz) (hb:8<=P.bytesOf e) (he: ∀a,(ea a).length=sz) (h:lI enc P W n e ea) :
    lI enc P W (n+1) t fun l:List α=>[V.l (l.map ea) false]:=by
 intro cs d ps htr hw;rcases DataW.trod_slice ht htr with⟨rfl,hx⟩|⟨a,len,cap,elems,rest,n',hn,rfl,hx,-,hl,hm,hlen,hel,-,-⟩
 .refine⟨[],rfl,⟨_,rfl,?_⟩,trivial⟩
  simp only[List.map_nil,Ae];exact⟨none,0,rfl,G0 _,fun h=>(by cases h),Nat.zero_le _,fun _=>rfl,fun h=>absurd rfl h⟩
 .obtain rfl:n'=n:=by omega
  simp only[Prod.mk.injEq]at hx;obtain⟨rfl,-⟩:=hx;simp only[DataW.weights,ht,Ff,Du]at hw;have hwl:=hw _ (.inl rfl)
  have hwe: ∀(l:List (DataW H)) (D:DataW H),D∈l-> ∀x∈D.weights P e,x∈DataW.weightsAll P e l:=by
   intro l
   induction l with
   | nil=>intro D hD;cases hD
   | cons y r ih=>
     intro D hD x hx;simp only[DataW.weightsAll,Du];rcases Ff.1 hD with rfl|hD
     .exact .inl hx
     .exact .inr (ih D hD x hx)
  have hM:len<=AZ:=by
   simp only[Bh,hlen,reachBytes]at hwl;have h8:(len+rest.length)*8<=(len+rest.length)*P.bytesOf e:=Nat.mul_le_mul_left _ hb;unfold AZ;omega
  have each: ∀i,i<len-> ∃v:α,∃cs',W.cells? 0 (a.add (i*sz)) sz=some cs'/\BU (Hh (fun _=>False) emp W) (fun j=>cs'[j]?) 0 (ea v):=fun i hi=>by
   have hi':=hel i hi;obtain⟨x,hx⟩: ∃x,elems[i]? =some x:=⟨_,CQ (by omega)⟩
   rw[hx,Option.bind_eq_some_iff,hc]at hi';obtain⟨cs',h1,h2⟩:=hi';obtain⟨v,-,h4⟩:=h cs' x.1 x.2 h2 fun y hy=>hw y (.inr (.inl (hwe _ x.1 (GL.2 ⟨x,BY hx,rfl⟩) y hy)))
   exact⟨v,cs',h1,h4⟩
  obtain⟨l,hll,hlc⟩:=Og len each;refine⟨l,rfl,⟨_,rfl,?_⟩,trivial⟩;simp only[Ae,Bh];refine⟨some a,cap,by rw[hll],by omega,fun h=>(by cases h),MM (by omega),fun h=>(by cases h),fun hne=>?_⟩;obtain⟨b,o,spot⟩:=a
  have h0:0<l.length:=by
   rcases l with _|⟨v,r⟩
   .exact absurd rfl hne
   .simp
  have hspot:spot=none:=by
   obtain⟨cs',h1,-⟩:=hlc 0 l[0] (CQ h0);obtain⟨-,h3,h4⟩:=World.cells?_some h1;have h5:=h4 0 hsz;rw[CQ (by omega)]at h5;have:=World.cell?_spot h5;simpa[Addr.add]using this
  subst hspot
  have hcell: ∀i v,l[i]? =some v-> ∀k u,(ea v)[k]? =some u-> ∃c,W.cell? ⟨b,o+i*sz+k,none⟩=some c/\Ae (Hh (fun _=>False) emp W) u c:=fun i v hv k u hu=>by
   obtain⟨cs',h1,h2⟩:=hlc i v hv;obtain⟨-,h3,h4⟩:=World.cells?_some h1;have hk:k<sz:=by rw[<-he v];exact(JA.1 hu).1
   obtain⟨c,hc',hr⟩:=BZ.1 h2 k u hu;have h5:=h4 k hk;simp only[G7]at hc';rw[add_plain,add_plain]at h5;exact⟨c,by rw[<-hc',<-h5],hr⟩
  refine⟨b,o,sz,rfl,BF.2 fun j e hj=>?_⟩;rw[JV]at hj;obtain⟨v,hv,rfl⟩:=Option.map_eq_some_iff.1 hj;refine⟨he v,BZ.2 fun k u hu=>?_⟩;obtain⟨c,h1,h2⟩:=hcell j v hv k u hu;exact⟨c,by rw[sb];exact h1,h2⟩
def J2 {t e:TypeId} {sz:Nat} {α:Type} {ea:α->List V} (ht:P.underlying t=some (.slice e)) (hc:P.cellsOf e=sz) (hsz:0<sz) (hb:8<=P.bytesOf e) (he: ∀a,(ea a).length=sz) (h:VE enc P W e ea) :
    VE enc P W t fun l:List α=>[V.l (l.map ea) false]
 | 0=>Me
 | n+1=>Sm ht hc hsz hb he (h n)
def xj {H:Type} (enc:TypeId×Value->H) (P:Program) (W:World) (n:Nat) (fs:List Field) (o:Nat) {α:Type} (ea:α->List V):Prop:=
 ∀ (cs:List Value) (xs:List (DataW H×List MemPlace)),xs.length=fs.length->(∀(i:Nat) (f:Field),fs[i]? =some f->DataW.trod enc P W 0 (fun _=>true) true n (Field.type f) ((cs.drop (Field.offset f)).take (P.cellsOf (Field.type f)))=xs[i]?)->
   (∀x∈DataW.weightsEach P (fs.map fun f:Field=>f.type) (xs.map (·.1)),x<=reachBytes)-> ∃a:α,BU (Hh (fun _=>False) emp W) (fun i=>cs[i]?) o (ea a)
def Im {n o:Nat}:xj enc P W n [] o fun _:Unit=>([]:List V):=fun _ _ _ _ _=>⟨(),trivial⟩
def BN {n o c:Nat} {f:Field} {fs:List Field} {α β:Type} {ea:α->List V} {eb:β->List V} (hf:f.offset=o) (hc:P.cellsOf f.type=c) (he: ∀a,(ea a).length=c) (h1:lI enc P W n f.type ea) (h2:xj enc P W n fs (o+c) eb) :
    xj enc P W n (f::fs) o fun p:α×β=>ea p.1++eb p.2:=by
 intro cs xs hl hx hw
 match xs,hl with
 | x ::r,hl=>
   have hx0:=hx 0 f rfl;simp only[qJ]at hx0;simp only[Cn,DataW.weightsEach,Du]at hw;obtain⟨a,ha1,ha2⟩:=h1 _ x.1 x.2 hx0 fun y hy=>hw y (.inl hy)
   obtain⟨b,hb⟩:=h2 cs r (by simpa using hl) (fun i g hg=>by
    have:=hx (i+1) g (by simpa using hg)
    simpa using this) fun y hy=>hw y (.inr hy)
   refine⟨(a,b),OQ (BZ.2 fun k u hu=>?_) (by rw[he];exact hb)⟩;obtain⟨cc,h3,h4⟩:=BZ.1 ha2 k u hu;have hk:k<c:=by rw[<-he a];exact(JA.1 hu).1
   refine⟨cc,?_,h4⟩;rw[hf,hc,G7,List.getElem?_take,if_pos hk,xM]at h3;exact h3
def Qz {n:Nat} {t:TypeId} {fs:List Field} {α:Type} {ea:α->List V} (ht:P.underlying t=some (.struct fs.toArray)) (h:xj enc P W n fs 0 ea) (hl: ∀a,(ea a).length=P.cellsOf t):lI enc P W (n+1) t ea:=by
 intro cs d ps htr hw;obtain⟨xs,k,hk,hx,hcl,hxl,hf⟩:=DataW.trod_struct ht htr;obtain rfl:k=n:=by omega
 simp only[Prod.mk.injEq]at hx;obtain⟨rfl,-⟩:=hx;simp only[DataW.weights,ht]at hw;obtain⟨a,ha⟩:=h cs xs (by rw[hxl];simp) (fun i f hfi=>hf i f (by simpa using hfi)) (by simpa using hw);exact⟨a,by rw[hcl,hl],ha⟩
def GU {t:TypeId} {fs:List Field} {α:Type} {ea:α->List V} (ht:P.underlying t=some (.struct fs.toArray)) (h: ∀n,xj enc P W n fs 0 ea) (hl: ∀a,(ea a).length=P.cellsOf t):VE enc P W t ea
 | 0=>Me
 | n+1=>Qz ht (h n) hl
end
end Go.Gl
namespace Go.Gl
open Go.Proofs
section
variable {H:Type} {enc:TypeId×Value->H} {W:World}
def b8 {n:Nat} (h:Nat.ble 8 n=true):8<=n:=Nat.le_of_ble_eq_true h
def Oo:VE enc Tryz.prog W 3 fun x:Int=>[V.i .i64 x]:=Pz Tryz.underlying3
def Pn:VE enc Tryz.prog W 23 fun l:List Int=>[V.l (iL l) false]:=J2 Tryz.underlying23 (by kernel_rfl) (by decide) (b8 (by kernel_rfl)) (fun _=>rfl) Oo
def rU:VE enc Tryz.prog W 265 fun p:Int×Int=>[eI p.1,eI p.2]:=fun n=>
 Il (GU Tryz.underlying265
  (fun n=>BN (c:=1) rfl (by kernel_rfl) (fun _=>rfl) (Oo n) (BN (c:=1) rfl (by kernel_rfl) (fun _=>rfl) (Oo n) Im)) (fun _=>(show _=2 from rfl).trans (by kernel_rfl)) n) (fun x=>(x.1,x.2.1)) fun _=>rfl
def mY:VE enc Tryz.prog W 41 fun l:List (Int×Int)=>[V.l (l.map fun p=>[eI p.1,eI p.2]) false]:=J2 (sz:=2) Tryz.underlying41 (by kernel_rfl) (by decide) (b8 (by kernel_rfl)) (fun _=>rfl) rU
def yL:VE enc Tryz.prog W 43 LP:=fun n=>
 Il (GU Tryz.underlying43
  (fun n=>BN (c:=1) rfl (by kernel_rfl) (fun _=>rfl) (Pn n) (BN (c:=1) rfl (by kernel_rfl) (fun _=>rfl) (Pn n)
   (BN (c:=1) rfl (by kernel_rfl) (fun _=>rfl) (mY n) Im))) (fun _=>(show _=3 from rfl).trans (by kernel_rfl)) n) (fun x=>⟨x.1,x.2.1,x.2.2.1⟩) fun _=>rfl
def rS:VE enc Tryz.prog W 179 JL:=fun n=>
 Il (GU Tryz.underlying179
  (fun n=>BN (c:=1) rfl (by kernel_rfl) (fun _=>rfl) (Pz Tryz.underlying177 n) (BN (c:=1) rfl (by kernel_rfl) (fun _=>rfl) (Oo n)
   (BN (c:=1) rfl (by kernel_rfl) (fun _=>rfl) (Pn n) Im))) (fun _=>(show _=3 from rfl).trans (by kernel_rfl)) n) (fun x=>⟨x.1,x.2.1,x.2.2.1⟩) fun _=>rfl
def mW:VE enc Tryz.prog W 25 fun l:List Node=>[V.l (l.map JL) false]:=J2 (sz:=3) Tryz.underlying25 (by kernel_rfl) (by decide) (b8 (by kernel_rfl)) (fun _=>rfl) rS
def rW:VE enc Tryz.prog W 22 fun l:List Rp=>[V.l (l.map LP) false]:=J2 (sz:=3) Tryz.underlying22 (by kernel_rfl) (by decide) (b8 (by kernel_rfl)) (fun _=>rfl) yL
def N6 (f:Fact):(EY f).length=6:=by rw[A9];rfl
def Zv: ∀n,lI enc Tryz.prog W n 64 EY/\lI enc Tryz.prog W n 62 fun l:List Fact=>[V.l (facts l) false]
 | 0=>⟨Me,Me⟩
 | n + 1 =>by
   obtain⟨h1,h2⟩:=Zv n;refine⟨?_,Sm Tryz.underlying62 (by kernel_rfl) (by decide) (b8 (by kernel_rfl)) N6 h1⟩
   exact Il (Qz Tryz.underlying64
    (BN (c:=1) rfl (by kernel_rfl) (fun _=>rfl) (Pz Tryz.underlying61 n) (BN (c:=1) rfl (by kernel_rfl) (fun _=>rfl) (Oo n)
     (BN (c:=1) rfl (by kernel_rfl) (fun _=>rfl) (Pn n) (BN (c:=1) rfl (by kernel_rfl) (fun _=>rfl) (Oo n)
      (BN (c:=1) rfl (by kernel_rfl) (fun _=>rfl) (Oo n) (BN (c:=1) rfl (by kernel_rfl) (fun _=>rfl) h2 Im)))))) (fun _=>(show _=6 from rfl).trans (by kernel_rfl)))
    (fun x=>Fact.mk x.1 x.2.1 x.2.2.1 x.2.2.2.1 x.2.2.2.2.1 x.2.2.2.2.2.1) fun x=>by rw[A9];rfl
def rV:VE enc Tryz.prog W 64 EY:=fun n=>(Zv n).1
def rT:VE enc Tryz.prog W 79 ZW:=fun n=>
 Il (GU Tryz.underlying79
  (fun n=>BN (c:=1) rfl (by kernel_rfl) (fun _=>rfl) (Pz Tryz.underlying77 n) (BN (c:=1) rfl (by kernel_rfl) (fun _=>rfl) (Oo n)
   (BN (c:=6) rfl (by kernel_rfl) N6 (rV n) (BN (c:=1) rfl (by kernel_rfl) (fun _=>rfl) (Oo n) Im)))) (fun x=>(show _=9 from by simp only[Kt,N6];rfl).trans (by kernel_rfl)) n) (fun x=>⟨x.1,x.2.1,x.2.2.1,x.2.2.2.1⟩) fun x=>by rw[A9];rfl
def mX:VE enc Tryz.prog W 24 fun l:List L5=>[V.l (l.map ZW) false]:=J2 (sz:=9) Tryz.underlying24 (by kernel_rfl) (by decide) (b8 (by kernel_rfl)) (fun _=>rfl) rT
def rR : VE enc Tryz.prog W 27 A3:=fun n=>
 Il (GU Tryz.underlying27
  (fun n=>BN (c:=1) rfl (by kernel_rfl) (fun _=>rfl) (rW n)
   (BN (c:=1) rfl (by kernel_rfl) (fun _=>rfl) (Oo n) (BN (c:=1) rfl (by kernel_rfl) (fun _=>rfl) (Pn n)
    (BN (c:=1) rfl (by kernel_rfl) (fun _=>rfl) (mX n)
     (BN (c:=1) rfl (by kernel_rfl) (fun _=>rfl) (mW n)
      (BN (c:=1) rfl (by kernel_rfl) (fun _=>rfl) (Oo n) Im)))))) (fun _=>(show _=6 from rfl).trans (by kernel_rfl)) n) (fun x=>⟨x.1,x.2.1,x.2.2.1,x.2.2.2.1,x.2.2.2.2.1,x.2.2.2.2.2.1⟩) fun _=>rfl
end
end Go.Gl
namespace Go.Gl
variable {P:Program} {Z Z':AD}
mutual
def Fb:V->Prop
 | .i k n=>k.min<=n/\n<=k.max
 | .rp cs=>Ih cs
 | .l es _=>es.length<=Ji es/\VK es
 | .f _ a b=>Ih a/\Ih b
 | .Lx _ v=>Fb v
 | .a cs=>Ih cs
 | .t vs=>Ih vs
 | _=>True
def Ih:List V->Prop
 | []=>True
 | v::r=>Fb v/\Ih r
def VK:List (List V)->Prop
 | []=>True
 | e::r=>Ih e/\VK r
end
mutual
def pd {H:Nat->Nat->Option Value}: ∀(v:V) (c:Value),Ae H v c->Fb v
 | .b _,_,_| .s _,_,_| .pn,_,_| .p _ _,_,_| .sl _ _ _,_,_| .sv _ _ _ _,_,_| .pe _ _ _ _,_,_| .m _,_,_| .mn,_,_| .eZ,_,_| .K0,_,_| .any,_,_=>by simp only[Fb]
 | .i k n,_,h=>by
   simp only[Ae]at h;simp only[Fb];exact h.2
 | .rp cs,_,h=>by
   simp only[Ae]at h;obtain⟨b,o,rfl,h⟩:=h;simp only[Fb];exact Jv cs o h
 | .l es full,_,h=>by
   simp only[Ae]at h;obtain⟨a,cap,h1,h2,h3,h4,h5,h6⟩:=h;simp only[Fb];refine⟨h4,?_⟩;cases es with
   | nil=>exact trivial
   | cons e es=>
     obtain⟨b,o,sz,h7,h8⟩:=h6 (by simp);exact gO (e::es) o h8
 | .f fn first cap,_,h=>by
   simp only[Ae]at h;obtain⟨f',c',h1,h2,h3,h4,h5⟩:=h;simp only[Fb];exact⟨Jv first 0 h3,Jv cap 0 h5⟩
 | .Lx t v,_,h=>by
   simp only[Ae]at h;obtain⟨c',h1,h2⟩:=h;simp only[Fb];exact pd v c' h2
 | .a cs,_,h=>by
   simp only[Ae]at h;obtain⟨c',h1,h2,h3⟩:=h;simp only[Fb];exact Jv cs 0 h3
 | .t cs,_,h=>by
   simp only[Ae]at h;obtain⟨c',h1,h2,h3⟩:=h;simp only[Fb];exact Jv cs 0 h3
def Jv {H:Nat->Nat->Option Value} {g:Nat->Option Value}: ∀(vs:List V) (o:Nat),BU H g o vs->Ih vs
 | [],_,_=>trivial
 | v::vs,o,h=>by
   simp only[BU]at h;obtain⟨⟨c,h1,h2⟩,h3⟩:=h;exact⟨pd v c h2,Jv vs (o+1) h3⟩
def gO {H:Nat->Nat->Option Value} {g:Nat->Option Value} {sz:Nat}: ∀(es:List (List V)) (o:Nat),BH H g sz o es->VK es
 | [],_,_=>trivial
 | e::es,o,h=>by
   simp only[BH]at h;obtain⟨h1,h2,h3⟩:=h;exact⟨Jv e o h2,gO es (o+sz) h3⟩
end
def As.fit {f:FuncId} {args:List V} {Q:R->AD->Prop} (hok:okF P f=true) (h:Ih args->As P f args Z Q):As P f args Z Q:=
 ⟨hok,fun F w cs hR hv=>(h (Jv args 0 hv.2)).2 F w cs hR hv⟩
def Pure.fit {f:FuncId} {args:List V} {v:V} (hok:okF P f=true) (h:Ih args->Pure P f args v):Pure P f args v:=As.fit hok h
def BL.fit {f:FuncId} {args:List V} {pre:List At} {Φ:R->List At->Prop} (hok:okF P f=true) (h:Ih args->BL P f args pre Φ):BL P f args pre Φ:=fun Z hs=>As.fit hok fun hf=>h hf Z hs
def j4 {es:List (List V)}:VK es↔ ∀e∈es,Ih e:=by
 induction es with
 | nil=>simp[VK]
 | cons e r ih=>simp[VK,ih]
def J5 {α:Type} {enc:α->List V} {xs:List α}:VK (xs.map enc)↔ ∀x∈xs,Ih (enc x):=by
 rw[j4];simp
def Hj {α:Type} {enc:α->List V} [hn:VU enc] {xs:List α} {f:Bool}:Fb (.l (xs.map enc) f)↔(xs.map enc).length<=AZ/\VK (xs.map enc):=
 ⟨fun⟨h1,h2⟩=>⟨by rw[Bh];exact jm hn.h h1,h2⟩,fun⟨h1,h2⟩=>⟨MM h1,h2⟩⟩
def Hk {cs:List V}:Fb (.a cs)↔Ih cs:=Iff.rfl
def Un {cs:List V}:Fb (.rp cs)↔Ih cs:=Iff.rfl
def Dg {v:V} {r:List V}:Ih (v::r)↔Fb v/\Ih r:=Iff.rfl
def drop_cons {α:Type} {xs:List α} {k:Nat} {x:α} (h:xs[k]? =some x):xs.drop k=x::xs.drop (k+1):=by
 obtain⟨hk,rfl⟩:=JA.1 h;exact List.drop_eq_getElem_cons hk
def Ad {α:Type} {xs:List α} {k:Nat} (h:k=xs.length):xs.drop k= []:=List.drop_of_length_le (by omega)
end Go.Gl
namespace Go.Gl
variable {P:Program} {Z:AD} {env:Env}
class PY (G:Prop) (G':outParam Prop):Prop where
 h:G'->G
def st {G G':Prop} [i:PY G G'] (h:G'):G:=i.h h
def sq {l:List Nat} {a b:Ao} {Q:Ah->Env->AD->Prop} (h: ∀K:Env->AD->Prop,(∀env Z,(pk l env fun E=>W P b Q E Z)->K env Z)->W P a (Ah.andThen K Q) env Z):W P (.seq l a b) Q env Z:=GF h
class Sti (G:Prop) (G':outParam Prop):Prop where
 h:G'->G
def si {G G':Prop} [i:Sti G G'] (h:G'):G:=i.h h
instance {ops:List A8} {Q:Ah->Env->AD->Prop}:Sti (W P (.Hs ops) Q env Z) (∀(KR:Env->AD->Prop) (KP:Env->V->AD->Prop),(∀env Z,Q .normal env Z->KR env Z)->(∀env v Z,Q (.Cu v) env Z->KP env v Z)->WT P ops KR KP env Z):=⟨DO⟩
instance {l:List Nat} {ops:List DC} {Q:Ah->Env->AD->Prop}:Sti (W P (.K2 l ops) Q env Z) (∀(KR:Env->AD->Prop) (KP:V->AD->Prop),(∀env Z,(pk l env fun E=>Q .normal E Z)->KR env Z)->(∀v Z,(∀Z',Sub Z Z'->Q (.Cu v) [] Z')->KP v Z)->WD P ops KR KP env Z):=⟨bM⟩
instance {c:CG} {a b:Ao} {Q:Ah->Env->AD->Prop}:PY (W P (.cond c a b) Q env Z) (match ev env c with
 | some (.b t)=>(t=true->W P a Q env Z)/\(t=false->W P b Q env Z)
 | _=>False):=⟨Ir⟩
instance {id:Nat} {a:Ao} {Q:Ah->Env->AD->Prop}:PY (W P (.block id a) Q env Z) (W P a (Ah.inBlock id Q) env Z):=⟨IL⟩
instance {l:List Nat} {a:Ao} {Q:Ah->Env->AD->Prop}:PY (W P (.loop l a) Q env Z) (pk l env fun E=>AX l a (W P a) Q E Z):=⟨PS⟩
instance {id:Nat} {Q:Ah->Env->AD->Prop}:PY (W P (.exit id) Q env Z) (Q (.exit id) env Z):=⟨PT⟩
instance {Q:Ah->Env->AD->Prop}:PY (W P .ret Q env Z) (Q .ret env Z):=⟨iP⟩
instance {Q:Ah->Env->AD->Prop}:PY (W P .skip Q env Z) (Q .normal env Z):=⟨KX⟩
instance {a:Ao} {Q:Ah->Env->AD->Prop}:PY (W P (.scope a) Q env Z) (W P a Q env Z):=⟨ku⟩
instance {l:List Nat} {g:CG} {ps:List Nat} {a b:Ao} {Q:Ah->Env->AD->Prop}:PY (W P (.FK l g ps a b) Q env Z) (match ev env g with
 | some (.f (.func gf) [] cap)=>pk l env fun E=> ∀L,Z L=none->As P gf (.f (.yield L) [] []::cap) (Bz Z L (.loop .ready E (Bi P ps a b))) (Jz L Q env)
 | _=>False):=⟨kx⟩
instance {A B:Prop}:PY ((true=true->A)/\(true=false->B)) A:=⟨gz⟩
instance {A B:Prop}:PY ((false=true->A)/\(false=false->B)) B:=⟨hZ⟩
instance {A B:Prop}:PY ((false=false->A)/\(false=true->B)) A:=⟨oe⟩
instance {A B:Prop}:PY ((true=false->A)/\(true=true->B)) B:=⟨od⟩
instance {A B:Prop} {b:Bool}:PY ((b=true->A)/\(b= !true->B)) ((b=true->A)/\(b=false->B)):=⟨id⟩
instance {A B:Prop} {b:Bool}:PY ((b=false->A)/\(b= !false->B)) ((b=false->A)/\(b=true->B)):=⟨id⟩
instance {agg:Option Nat} {cs:List V} {K:V->Prop}:PY (AS Z agg (.rp cs) K) (cut agg cs 0 K):=⟨fun h=>h⟩
instance {es:List (List V)} {f:Bool} {K:V->Prop}:PY (Ap (.l es f) K) (K (.i .i64 es.length)):=⟨Vf⟩
def kc {K A:Env->AD->Prop} (h:A env Z) (hk: ∀env Z,A env Z->K env Z:=by assumption):K env Z:=hk _ _ h
def kp {K A:Env->V->AD->Prop} {v:V} (h:A env v Z) (hk: ∀env v Z,A env v Z->K env v Z:=by assumption):K env v Z:=hk _ _ _ h
def rk {x:A8} {r:List A8} {A:Prop} (h1:H9 P x env Z) (h2:Eo P r env Z/\A):Eo P (x::r) env Z/\A:=⟨⟨h1,h2.1⟩,h2.2⟩
def dr {A:Prop} (h:A):Eo P [] env Z/\A:=⟨trivial,h⟩
class BP (b v:Bool) (p:outParam Prop):Prop where
 h:b=v->p
def bp {b v:Bool} {p:Prop} [i:BP b v p] (h:b=v):p:=i.h h
instance (priority:=low) {b v:Bool}:BP b v (b=v):=⟨id⟩
instance (priority:=mid) {p:Prop} [Decidable p]:BP (decide p) true p:=⟨of_decide_eq_true⟩
instance (priority:=mid) {p:Prop} [Decidable p]:BP (decide p) false (¬p):=⟨of_decide_eq_false⟩
instance {a b:Int}:BP (decide (a<b)) false (b<=a):=⟨fun h=>Int.not_lt.1 (of_decide_eq_false h)⟩
instance {a b:Int}:BP (decide (a<=b)) false (b<a):=⟨fun h=>Int.not_le.1 (of_decide_eq_false h)⟩
instance {a b:Int}:BP (a==b) true (a=b):=⟨fun h=>by simpa using h⟩
instance {a b:Int}:BP (a==b) false (a≠b):=⟨fun h=>by simpa using h⟩
instance {a b:Int}:BP (a != b) true (a≠b):=⟨fun h=>by simpa using h⟩
instance {a b:Int}:BP (a != b) false (a=b):=⟨fun h=>by simpa using h⟩
instance {b:Bool} {p:Prop} [i:BP b false p]:BP (!b) true p:=⟨fun h=>i.h (by simpa using h)⟩
instance {b:Bool} {p:Prop} [i:BP b true p]:BP (!b) false p:=⟨fun h=>i.h (by simpa using h)⟩
instance {b x v:Bool} {p:Prop} [i:BP b v p]:BP (bif false then x else b) v p:=⟨i.h⟩
instance {b x v:Bool} {p:Prop} [i:BP b v p]:BP (bif true then b else x) v p:=⟨i.h⟩
def fc {α:Type} {enc:α->List V} {xs:List α} {k:Nat} {A B:Prop} (h1: ∀x,xs[k]? =some x->k<xs.length->decide (Au k<((xs.map enc).length:Nat))=true->A) (h2:k=xs.length->decide (Au k<((xs.map enc).length:Nat))=false->B) (hk:k<=xs.length:=by assumption) (hm:xs.length<=AZ:=by first|assumption|omega|simp[AZ]<;>omega) :
    (decide (Au k<((xs.map enc).length:Nat))=true->A)/\(decide (Au k<((xs.map enc).length:Nat))=false->B):=
 ⟨fun h=>(Gh (enc:=enc) (A:=A) (B:=True) hk hm (fun x hx hlt=>h1 x hx hlt h) fun _=>trivial).1 h,fun h=>(Gh (enc:=enc) (A:=True) (B:=B) hk hm (fun _ _ _=>trivial) fun he=>h2 he h).2 h⟩
def ix {α:Type} {enc:α->List V} {xs:List α} {f:Bool} {sz:Nat} {K:V->Prop} {ki:IntKind} {k:Nat} {x:α} (h:K (.rp (enc x))) (hx:xs[k]? =some x:=by assumption) (hm:xs.length<=AZ:=by first|assumption|omega|simp[AZ]<;>omega) (hs:(enc x).length=sz:=by first|rfl|simp) :
    AQ sz none (.l (xs.map enc) f) (.i ki (Au k)) K:=Jl hx hm hs h
def iq {α:Type} {enc:α->List V} {xs:List α} {f:Bool} {sz:Nat} {K:V->Prop} {ki:IntKind} {j:Int} (h: ∀x,xs[j.toNat]? =some x->K (.rp (enc x))) (h0:0<=j:=by omega) (h1:j<xs.length:=by omega) (hs: ∀x,(enc x).length=sz:=by intro x;first|rfl|simp|(rw[A9];rfl)) :
    AQ sz none (.l (xs.map enc) f) (.i ki j) K:=by
 have hlt:j.toNat<xs.length:=by omega
 exact VQ j.toNat (CQ hlt) (by omega) (hs _) (h _ (CQ hlt))
def sk1 {α:Type} {enc:α->List V} {xs:List α} {f:Bool} {sz:Nat} {ki:IntKind} {k:Nat} {K:V->AD->Prop} (h:K (.l ((xs.take k).map enc) (f&&decide ((k:Int)=((xs.map enc).length:Nat)))) Z) (hl:k<=xs.length:=by first|assumption|omega) (hm:xs.length<=AZ:=by first|assumption|omega) (hs: ∀x,(enc x).length=sz:=by intro x;first|rfl|simp|(rw[A9];rfl)) :
    AP Z sz (.l (xs.map enc) f) none (some (.i ki (Au k))) none K:=by
 rw[AW (by omega)];refine⟨fun e he=>?_,?_⟩
 .obtain⟨x,_,rfl⟩:=GL.1 he
  exact hs x
 .simp only[OD,Bh]
  refine⟨by omega,by omega,by omega,?_⟩;rw[FZ];simpa[List.map_take]using h
def ixF {xs:List Fact} {f:Bool} {K:V->Prop} {ki:IntKind} {k:Nat} {x:Fact} (h:K (.rp (xF x))) (hx:xs[k]? =some x:=by assumption) (hm:xs.length<=AZ:=by first|assumption|omega):AQ 6 none (.l (xs.map EY) f) (.i ki (Au k)) K:=by
 refine Jl hx hm (by rw[A9];rfl) ?_;rw[A9];exact h
def Ro {a0:At} {l:List At}:(a0::l)[0]? =some a0:=rfl
def Rn {a0 a1:At} {l:List At}:(a0::a1::l)[1]? =some a1:=rfl
def Rm {a0 a1 a2:At} {l:List At}:(a0::a1::a2::l)[2]? =some a2:=rfl
def Rl {a0 a1 a2 a3:At} {l:List At}:(a0::a1::a2::a3::l)[3]? =some a3:=rfl
def Rk {a0 a1 a2 a3 a4:At} {l:List At}:(a0::a1::a2::a3::a4::l)[4]? =some a4:=rfl
def Rj {a0 a1 a2 a3 a4 a5:At} {l:List At}:(a0::a1::a2::a3::a4::a5::l)[5]? =some a5:=rfl
def ld {l:List At} {i n off:Nat} {agg:Option Nat} {vs:List V} {K:V->Prop} (hk:cut agg vs off K) (h:Sat Z l:=by assumption)
    (hi:l[i]? =some (.box n vs):=by first|exact Ro|exact Rn|exact Rm|exact Rl|exact Rk|exact Rj):AS Z agg (.p n off) K:=Vh h i hi hk
def s1 {l:List At} {i n off:Nat} {vs:List V} {x:V} {K:AD->Prop} (hk: ∀Z',Sat Z' (l.set i (.box n (vs.set off x)))->K Z') (h:Sat Z l:=by assumption)
    (hi:l[i]? =some (.box n vs):=by first|exact Ro|exact Rn|exact Rm|exact Rl|exact Rk|exact Rj)
    (h1:DL x=true:=by first|rfl|exact F8 (by assumption) 0 rfl|exact F8 (by assumption) 1 rfl|exact F8 (by assumption) 2 rfl|exact F8 (by assumption) 3 rfl|simp) (ho:off+1<=vs.length:=by exact Nat.le_of_ble_eq_true rfl):AR Z 1 (.p n off) x K:=
 MO h i hi h1 ho hk
def sn {l:List At} {i n off sz:Nat} {vs vc:List V} {x:V} {K:AD->Prop} (hk: ∀Z',Sat Z' (l.set i (.box n (putAt vs off vc)))->K Z') (h:Sat Z l:=by assumption)
    (hi:l[i]? =some (.box n vs):=by first|exact Ro|exact Rn|exact Rm|exact Rl|exact Rk|exact Rj)
    (hc:cellsOf x=some vc:=by rfl) (hl:vc.length=sz:=by rfl) (h1:vc.all DL=true:=by first|rfl|simp) (ho:off+sz<=vs.length:=by exact Nat.le_of_ble_eq_true rfl):AR Z sz (.p n off) x K:=
 FN h i hi hc hl h1 ho hk
def GD:Dp (fun f:Fact=>EY f) 6:=fun f=>by
 simp only[A9];refine⟨rfl,fun v hv=>?_⟩;simp only[Ff,List.not_mem_nil,or_false]at hv;rcases hv with rfl|rfl|rfl|rfl|rfl|rfl<;>rfl
def MP:Dp (fun l:List Fact=>[V.l (facts l) false]) 1:=fun x=>⟨rfl,fun v hv=>by simp at hv;subst hv;rfl⟩
def af {α:Type} {enc:α->List V} {sz:Nat} {ys:List α} {g:Bool} {K:V->Prop} (hk:K (.l (ys.map enc) false)) (hg:Dp enc sz:=by first|exact Bg|exact DI|exact PK|exact GD|exact MP) {b:Nat} (hl:ys.length<=AZ/\ys.length*b<=140737488355328:=by first|assumption|omega) :
    AU b Z sz (.l [] true) (.l (ys.map enc) g) K:=gJ hg hl hk
def al {l:List At} {o:O} {n:Nat} {K:Prop} {Z':AD} (e:Bz Z n o=Z') (hk:Sat Z' (l++[.obj n o])->K) (hn:Z n=none:=by assumption) (h:Sat Z l:=by assumption):K:=hk (e ▸ eW h hn)
def oi {l:List At} {i:Nat} {v:V} {sz:Nat} {es:List (List V)} {ki:IntKind} {j:Int} {K:V->Prop} (hk:K (Fe v sz j.toNat)) (h:Sat Z l:=by assumption)
    (hi:l[i]? =some (.own v sz es):=by first|exact Ro|exact Rn|exact Rm|exact Rl|exact Rk|exact Rj) (h0:0<=j:=by omega) (h1:j<es.length:=by first|omega|(simp only[Bh]at *;omega)):AQ sz none v (.i ki j) K:=
 eE h i j.toNat hi (by omega) (by omega) hk
def oc {l:List At} {i:Nat} {v:V} {sz k:Nat} {es:List (List V)} {ki:IntKind} {K:V->Prop} (hk:K (Fe v sz k)) (h:Sat Z l:=by assumption)
    (hi:l[i]? =some (.own v sz es):=by first|exact Ro|exact Rn|exact Rm|exact Rl|exact Rk|exact Rj) (h1:k<es.length:=by first|omega|(simp only[Bh]at *;omega)) (hm:k<=AZ:=by first|omega|(simp only[AZ];omega)):AQ sz none v (.i ki (Au k)) K:=
 eE h i k hi (AW (by omega)) h1 hk
def ol {α:Type} {enc:α->List V} {xs:List α} {l:List At} {i:Nat} {v:V} {sz k:Nat} {agg:Option Nat} {K:V->Prop} (hk: ∀x,xs[k]? =some x->cut agg (enc x) 0 K) (h:Sat Z l:=by assumption)
    (hi:l[i]? =some (.own v sz (xs.map enc)):=by first|exact Ro|exact Rn|exact Rm|exact Rl|exact Rk|exact Rj) (h1:k<xs.length:=by first|omega|(simp only[Bh]at *;omega)):AS Z agg (Fe v sz k) K:=
 Ip h i hi (by rw[JV,CQ h1];rfl) (hk _ (CQ h1))
def oset {α:Type} {enc:α->List V} {xs:List α} {y:α} {l:List At} {i:Nat} {v x:V} {sz k:Nat} {vc:List V} {K:AD->Prop} (hk: ∀Z',Sat Z' (l.set i (.own v sz ((xs.set k y).map enc)))->K Z') (h:Sat Z l:=by assumption)
    (hi:l[i]? =some (.own v sz (xs.map enc)):=by first|exact Ro|exact Rn|exact Rm|exact Rl|exact Rk|exact Rj) (hc:cellsOf x=some vc:=by rfl) (he:vc=enc y:=by rfl) (hg:Dp enc sz:=by first|exact Bg|exact DI|exact PK|exact GD|exact MP)
    (hv:(Bd v).isSome=true:=by assumption) (h1:k<xs.length:=by first|omega|(simp only[Bh]at *;omega)):AR Z sz (Fe v sz k) x K:=by
 subst he;refine Mo h i hi (by rw[JV,CQ h1];rfl) hc (hg y).1 (DT.2 fun v hv=>(hg y).2 v hv) (hg _).1 hv fun Z' hs=>hk Z' ?_
 rw[List.map_set];exact hs
def Gt {b sz:Nat} {v:V} {e:List V} {f:Bool} {K:V->AD->Prop} (h:AI b Z sz v (.l [e] f) fun v' Z'=>(Bd v').isSome=true->K v' Z'):AI b Z sz v (.l [e] f) K:=by
 obtain⟨h1,h2,h3⟩:=h;refine⟨h1,h2,?_⟩;cases v with
 | l es full=>exact⟨h3.1,h3.2.1,fun e=>(by cases e),fun e=>⟨(h3.2.2.2 e).1,fun n cap hn hc=>(h3.2.2.2 e).2 n cap hn hc rfl⟩⟩
 | sl n len cap=>
   simp only at h3 ⊢;split at h3
   .exact⟨h3.1,h3.2.1,h3.2.2.1,h3.2.2.2.1,fun n' cap' hn hc=>h3.2.2.2.2 n' cap' hn hc rfl⟩
   .exact h3.elim
 | _=>exact h3.elim
def aq {l:List At} {i:Nat} {α:Type} {enc:α->List V} {sz:Nat} {xs:List α} {x:α} {v:V} {f:Bool} {e:List V} {K:V->AD->Prop} (hk: ∀v' Z',Sat Z' (l.set i (.own v' sz ((xs++[x]).map enc)))->(Bd v').isSome=true->K v' Z') (h:Sat Z l:=by assumption)
    (hi:l[i]? =some (.own v sz (xs.map enc)):=by first|exact Ro|exact Rn|exact Rm|exact Rl|exact Rk|exact Rj)
    (he:e=enc x:=by rfl) (hg:Dp enc sz:=by first|exact Bg|exact DI|exact PK|exact GD|exact MP)
    {b:Nat} (hl:xs.length<AZ/\(xs.length+1)*b<=140737488355328:=by first|assumption|omega|(simp only[Kt,Bh,JU,List.length_nil,Ib,lB,List.length_replicate,AZ]at *;omega)):AI b Z sz v (.l [e] f) K:=
 Gt (GJ h i hi hl hg hk he)
end Go.Gl
namespace Go.Gl
variable {P:Program} {Z:AD} {env:Env}
def iqF {xs:List Fact} {f:Bool} {K:V->Prop} {ki:IntKind} {j:Int} (h: ∀x,xs[j.toNat]? =some x->K (.rp (xF x))) (h0:0<=j:=by omega) (h1:j<xs.length:=by omega):AQ 6 none (.l (xs.map EY) f) (.i ki j) K:=by
 refine iq (fun x hx=>?_) h0 h1 (by intro x;rw[A9];rfl);rw[A9];exact h x hx
def lo {l:List At} {i:Nat} {v:V} {sz:Nat} {es:List (List V)} {K:V->Prop} (hk:K (.i .i64 es.length)) (h:Sat Z l:=by assumption)
    (hi:l[i]? =some (.own v sz es):=by first|exact Ro|exact Rn|exact Rm|exact Rl|exact Rk|exact Rj) (hm:es.length<=AZ:=by first|omega|(simp only[Bh,List.length_replicate,List.length_set,AZ]at *;omega)):Ap v K:=NR h i hi hm hk
def slq {α:Type} {enc:α->List V} {xs:List α} {f:Bool} {sz:Nat} {ki:IntKind} {j:Int} {K:V->AD->Prop} (h:K (.l ((xs.take j.toNat).map enc) (f&&decide (j=((xs.map enc).length:Nat)))) Z) (h0:0<=j:=by omega) (h1:j<=xs.length:=by first|omega|(simp only[Bh]at *;omega)) (hs: ∀x,(enc x).length=sz:=by intro x;first|rfl|simp|(rw[A9];rfl)) :
    AP Z sz (.l (xs.map enc) f) none (some (.i ki j)) none K:=by
 refine⟨fun e he=>?_,?_⟩
 .obtain⟨x,_,rfl⟩:=GL.1 he
  exact hs x
 .simp only[OD,Bh]
  refine⟨by omega,by omega,by omega,?_⟩;simpa[List.map_take]using h
def Sat.take {l:List At} (h:Sat Z l) (n:Nat):Sat Z (l.take n):=h.less (List.take_sublist _ _)
def BS {b:Bool} {Z Z':AD}:Fa Z Z' (.l [] b) (.l [] false):= .l (fun h=>by cases h) .nil
def OJ {b:Bool} {Z Z':AD} {es:List (List V)}:Fa Z Z' (.l es b) (.l es false):= .l (fun h=>by cases h) (EL.refl _ _ _)
mutual
def TZ {Z Z':AD}: ∀vs:List V,Cm Z Z' vs vs
 | []=> .nil
 | v::r=> .cons (.refl v) (TZ r)
end
def CU {Z Z':AD}: ∀es:List (List V),EL Z Z' es es
 | []=> .nil
 | e::r=> .cons (TZ e) (CU r)
def os2 {α:Type} {enc:α->List V} {xs:List α} {y:α} {l:List At} {i:Nat} {v x:V} {sz k:Nat} {vc:List V} {K:AD->Prop} (hk: ∀Z',Sat Z' (l.set i (.own v sz ((xs.set k y).map enc)))->K Z') (h:Sat Z l:=by assumption)
    (hi:l[i]? =some (.own v sz (xs.map enc)):=by first|exact Ro|exact Rn|exact Rm|exact Rl|exact Rk|exact Rj) (hc:cellsOf x=some vc:=by rfl) (he:vc=enc y:=by rfl) (hg:Dp enc sz:=by first|exact Bg|exact DI|exact PK|exact GD|exact MP)
    (hv:(Bd v).isSome=true:=by rfl) (h1:k<xs.length:=by first|omega|(simp only[Bh]at *;omega)):AR Z sz (Fe v sz k) x K:=oset hk h hi hc he hg hv h1
def Aw {α:Type} (xs:List α) {k:Nat} (hk:k<=xs.length):(∃x,xs[k]? =some x/\k<xs.length)\/k=xs.length:=by
 rcases Nat.lt_or_ge k xs.length with h|h
 .exact .inl ⟨_,CQ h,h⟩
 .exact .inr (by omega)
def qU {α:Type} {enc:α->List V} {xs:List α} {k:Nat} {x:α} {A B:Prop} (h1:decide (Au k<((xs.map enc).length:Nat))=true->A) (hx:xs[k]? =some x:=by assumption) (hm:xs.length<=AZ:=by first|assumption|omega|simp[AZ]<;>omega) :
    (decide (Au k<((xs.map enc).length:Nat))=true->A)/\(decide (Au k<((xs.map enc).length:Nat))=false->B):=by
 refine⟨h1,fun h=>?_⟩;have hlt:=(JA.1 hx).1;rw[AW (by omega),Bh]at h;have:=of_decide_eq_false h;omega
def qT {α:Type} {enc:α->List V} {xs:List α} {k:Nat} {A B:Prop} (h1:decide (Au k<((xs.map enc).length:Nat))=false->B) (hx:k=xs.length:=by assumption) (hm:xs.length<=AZ:=by first|assumption|omega|simp[AZ]<;>omega) :
    (decide (Au k<((xs.map enc).length:Nat))=true->A)/\(decide (Au k<((xs.map enc).length:Nat))=false->B):=by
 refine⟨fun h=>?_,h1⟩;rw[AW (by omega),Bh]at h;have:=of_decide_eq_true h;omega
def iqk {α:Type} {enc:α->List V} {xs:List α} {f:Bool} {sz:Nat} {K:V->Prop} {ki:IntKind} {j:Int} {x:α} (h:K (.rp (enc x))) (hx:xs[j.toNat]? =some x:=by assumption) (h0:0<=j:=by omega) (hs:(enc x).length=sz:=by first|rfl|simp|(rw[A9];rfl)) :
    AQ sz none (.l (xs.map enc) f) (.i ki j) K:=VQ j.toNat hx (by omega) hs h
def xz {xs:List Fact} {f:Bool} {K:V->Prop} {ki:IntKind} {j:Int} {x:Fact} (h:K (.rp (xF x))) (hx:xs[j.toNat]? =some x:=by assumption) (h0:0<=j:=by omega):AQ 6 none (.l (xs.map EY) f) (.i ki j) K:=by
 refine iqk ?_ hx h0;rw[A9];exact h
class CB (b:Bool) (v:outParam Bool):Prop where
 h:b=v
instance :CB true true:=⟨rfl⟩
instance :CB false false:=⟨rfl⟩
instance {b:Bool} [i:CB b true]:CB (!b) false:=⟨by rw[i.h];rfl⟩
instance {b:Bool} [i:CB b false]:CB (!b) true:=⟨by rw[i.h];rfl⟩
instance {b x y v:Bool} [i:CB b true] [j:CB x v]:CB (bif b then x else y) v:=⟨by rw[i.h,j.h];rfl⟩
instance {b x y v:Bool} [i:CB b false] [j:CB y v]:CB (bif b then x else y) v:=⟨by rw[i.h,j.h];rfl⟩
instance {a b:Bool} [i:CB a true] [j:CB b true]:CB (a==b) true:=⟨by rw[i.h,j.h];rfl⟩
instance {a b:Bool} [i:CB a true] [j:CB b false]:CB (a==b) false:=⟨by rw[i.h,j.h];rfl⟩
instance {a b:Bool} [i:CB a false] [j:CB b true]:CB (a==b) false:=⟨by rw[i.h,j.h];rfl⟩
instance {a b:Bool} [i:CB a false] [j:CB b false]:CB (a==b) true:=⟨by rw[i.h,j.h];rfl⟩
instance {a b:Bool} [i:CB a true] [j:CB b true]:CB (a != b) false:=⟨by rw[i.h,j.h];rfl⟩
instance {a b:Bool} [i:CB a true] [j:CB b false]:CB (a != b) true:=⟨by rw[i.h,j.h];rfl⟩
instance {a b:Bool} [i:CB a false] [j:CB b true]:CB (a != b) true:=⟨by rw[i.h,j.h];rfl⟩
instance {a b:Bool} [i:CB a false] [j:CB b false]:CB (a != b) false:=⟨by rw[i.h,j.h];rfl⟩
def cft {A B:Prop} {b:Bool} [i:CB b true] (h:A):(b=true->A)/\(b=false->B):=⟨fun _=>h,fun e=>(by rw[i.h]at e;cases e)⟩
def cff {A B:Prop} {b:Bool} [i:CB b false] (h:B):(b=true->A)/\(b=false->B):=⟨fun e=>(by rw[i.h]at e;cases e),fun _=>h⟩
def x4 {A B:Prop} {b:Bool} [i:CB b true] (h:B):(b=false->A)/\(b=true->B):=⟨fun e=>(by rw[i.h]at e;cases e),fun _=>h⟩
def x5 {A B:Prop} {b:Bool} [i:CB b false] (h:A):(b=false->A)/\(b=true->B):=⟨fun _=>h,fun e=>(by rw[i.h]at e;cases e)⟩
def oi2 {l:List At} {i:Nat} {v:V} {sz:Nat} {es:List (List V)} {ki:IntKind} {j:Int} {K:V->Prop} (hk:K (Fe v sz j.toNat)) (h:Sat Z l:=by assumption)
    (hi:l[i]? =some (.own v sz es):=by first|exact Ro|exact Rn|exact Rm|exact Rl|exact Rk|exact Rj) (h0:0<=j:=by omega) (h1:j<es.length:=by(simp only[Bh,List.length_set];omega)):AQ sz none v (.i ki j) K:=
 eE h i j.toNat hi (by omega) (by omega) hk
def oc2 {l:List At} {i:Nat} {v:V} {sz k:Nat} {es:List (List V)} {ki:IntKind} {K:V->Prop} (hk:K (Fe v sz k)) (h:Sat Z l:=by assumption)
    (hi:l[i]? =some (.own v sz es):=by first|exact Ro|exact Rn|exact Rm|exact Rl|exact Rk|exact Rj) (h1:k<es.length:=by(simp only[Bh,List.length_set];omega)) (hm:k<=AZ:=by first|omega|(simp only[AZ];omega)):AQ sz none v (.i ki (Au k)) K:=
 eE h i k hi (AW (by omega)) h1 hk
def xg {α:Type} {enc:α->List V} {xs:List α} {x:α} {l:List At} {i:Nat} {v:V} {sz k:Nat} {agg:Option Nat} {K:V->Prop} (hk:cut agg (enc x) 0 K) (h:Sat Z l:=by assumption)
    (hi:l[i]? =some (.own v sz (xs.map enc)):=by first|exact Ro|exact Rn|exact Rm|exact Rl|exact Rk|exact Rj) (hx:xs[k]? =some x:=by assumption):AS Z agg (Fe v sz k) K:=
 Ip h i hi (by rw[JV,hx];rfl) hk
def xr {xs:List Fact} {x:Fact} {l:List At} {i:Nat} {v:V} {k:Nat} {agg:Option Nat} {K:V->Prop} (hk:cut agg (xF x) 0 K) (h:Sat Z l:=by assumption)
    (hi:l[i]? =some (.own v 6 (facts xs)):=by first|exact Ro|exact Rn|exact Rm|exact Rl|exact Rk|exact Rj) (hx:xs[k]? =some x:=by assumption):AS Z agg (Fe v 6 k) K:=
 Ip h i hi (by rw[JV,hx];exact congrArg some (A9 x)) hk
def ol2 {α:Type} {enc:α->List V} {xs:List α} {l:List At} {i:Nat} {v:V} {sz k:Nat} {agg:Option Nat} {K:V->Prop} (hk: ∀x,xs[k]? =some x->cut agg (enc x) 0 K) (h:Sat Z l:=by assumption)
    (hi:l[i]? =some (.own v sz (xs.map enc)):=by first|exact Ro|exact Rn|exact Rm|exact Rl|exact Rk|exact Rj) (h1:k<xs.length:=by(simp only[Bh,List.length_set];omega)):AS Z agg (Fe v sz k) K:=ol hk h hi h1
def VW {v:V} (h:(Bd v).isSome=true): ∃n l c,v= .sl n l c:=by
 cases v<;>first|(cases h;done)|exact⟨_,_,_,rfl⟩
def oz {l:List At} {i:Nat} {xs:List Fact} {x:Fact} {v:V} {f:Bool} {e:List V} {K:V->AD->Prop} (hk: ∀v' Z',Sat Z' (l.set i (.own v' 6 (facts (xs++[x]))))->(Bd v').isSome=true->K v' Z') (h:Sat Z l:=by assumption)
    (hi:l[i]? =some (.own v 6 (facts xs)):=by first|exact Ro|exact Rn|exact Rm|exact Rl|exact Rk|exact Rj)
    (he:e=xF x:=by rfl)
    {b:Nat} (hl:xs.length<AZ/\(xs.length+1)*b<=140737488355328:=by first|assumption|omega|(simp only[Kt,Bh,JU,List.length_nil,Ib,lB,List.length_replicate,AZ]at *;omega)):AI b Z 6 v (.l [e] f) K:=
 Gt (GJ h i hi hl GD hk (by rw[he,A9]))
end Go.Gl
