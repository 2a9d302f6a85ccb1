import Derived.ChangeOld
import Derived.Below
import Derived.Carry
import Derived.ChangeArms
import Derived.Deep.Slices
import Derived.Test.YtegbmnmnaijioaaGreatProg
import Derived.KernelRfl
import Derived.Test.YtegbmnmnaijioaaGreatY3
set_option linter.all false
set_option linter.defProp false
set_option maxHeartbeats 8000000
noncomputable section
namespace Go.Gl
open Go.ChangeShapes Go.WideShapes Go.ChangeAt Go.RowKit
def m7 {w w':World} (h:CD (fun _=>False) emp w emp w'):Below w.heap.size w w':=
 ⟨h.os,h.tape,h.output,h.size,fun k hk=>h.frame k hk rfl⟩
def uv {w:World} {b o:Nat}:Hh (fun _=>False) emp w b o=w.cell? ⟨b,o,none⟩:=by
 unfold Hh;rw[if_neg (by simp[emp])]
def PN {α:Type} {Q:Nat->α->Prop}: ∀(len:Nat),(∀i,i<len-> ∃v,Q i v)-> ∃l:List α,l.length=len/\ ∀i v,l[i]? =some v->Q i v
 | 0,_=>⟨[],rfl,fun i v h=>by simp at h⟩
 | k + 1,h=>by
   obtain⟨l,hl,hl2⟩:=PN k fun i hi=>h i (by omega)
   obtain⟨u,hu⟩:=h k (by omega);refine⟨l++[u],by simp[hl],fun i v hv=>?_⟩;by_cases hi:i<l.length
   .rw[cz hi]at hv
    exact hl2 i v hv
   .rw[List.getElem?_append_right (by omega)]at hv
    have:i - l.length=0:=by
     have:=(JL.1 hv).1;simp at this;omega
    have hik:i=k:=by omega
    subst hik;rw[this]at hv;rw[<-Option.some.inj hv];exact hu
section
variable {H:Type} {enc:TypeId×Value->H} {P:Program} {W:World}
def nY {H:Type} (enc:TypeId×Value->H) (P:Program) (W:World) (n:Nat) (t:TypeId) {α:Type} (ea:α->List V):Prop:=
 ∀(cs:List Value) (d:DataW H) (ps:List MemPlace),DataW.trod enc P W 0 (fun _=>true) true n t cs=some (d,ps)->(∀x∈d.weights P t,x<=reachBytes)-> ∃a:α,cs.length=(ea a).length/\Ba (Hh (fun _=>False) emp W) (fun i=>cs[i]?) 0 (ea a)
def Vx {H:Type} (enc:TypeId×Value->H) (P:Program) (W:World) (t:TypeId) {α:Type} (ea:α->List V):Prop:= ∀n,nY enc P W n t ea
def M1 {t:TypeId} {α:Type} {ea:α->List V}:nY enc P W 0 t ea:=fun cs d ps h=>by simp[DataW.trod]at h
def Iv {n:Nat} {t:TypeId} {α β:Type} {ea:α->List V} {eb:β->List V} (h:nY enc P W n t ea) (g:α->β) (hg: ∀a,ea a=eb (g a)):nY enc P W n t eb:=fun cs d ps h1 h2=>by
 obtain⟨a,h3,h4⟩:=h cs d ps h1 h2;exact⟨g a,by rw[<-hg];exact h3,by rw[<-hg];exact h4⟩
def Qh {t:TypeId} (ht:P.underlying t=some (.int .i64)):Vx enc P W t fun x:Int=>[V.i .i64 x]:=fun n cs d ps h _=>by
 obtain⟨k,rfl,-,hw⟩:=DataW.trod_int ht h;simp only[Lit.wf,A9,Cp]at hw;refine⟨k,rfl,⟨_,rfl,?_⟩,trivial⟩;simp only[Ah]
 first
  | exact⟨rfl,hw⟩
  | exact⟨trivial,hw⟩
  | exact hw
def TR {n:Nat} {t e:TypeId} {sz:Nat} {α:Type} {ea:α->List V} (ht:P.underlying t=some (.slice e)) (hc:P.cellsOf e=sz) (hsz:0<sz) (hb:8<=P.bytesOf e) (he: ∀a,(ea a).length=sz) (h:nY enc P W n e ea) :
    nY enc P W (n+1) t fun l:List α=>[V.l (l.map ea) false]:=by
 intro cs d ps htr hw;rcases DataW.trod_slice ht htr with⟨rfl,hx⟩|⟨a,len,cap,elems,rest,n',hn,rfl,hx,-,hl,hm,hlen,hel,-,-⟩
 .refine⟨[],rfl,⟨_,rfl,?_⟩,trivial⟩
  simp only[List.map_nil,Ah];exact⟨none,0,rfl,Hz _,fun h=>(by cases h),Nat.zero_le _,fun _=>rfl,fun h=>absurd rfl h⟩
 .obtain rfl:n'=n:=by omega
  simp only[Prod.mk.injEq]at hx;obtain⟨rfl,-⟩:=hx;simp only[DataW.weights,ht,GM,Dy]at hw;have hwl:=hw _ (.inl rfl)
  have hwe: ∀(l:List (DataW H)) (D:DataW H),D∈l-> ∀x∈D.weights P e,x∈DataW.weightsAll P e l:=by
   intro l
   induction l with
   | nil=>intro D hD;cases hD
   | cons y r ih=>
     intro D hD x hx;simp only[DataW.weightsAll,Dy];rcases GM.1 hD with rfl|hD
     .exact .inl hx
     .exact .inr (ih D hD x hx)
  have hM:len<=Aa:=by
   simp only[B9,hlen,reachBytes]at hwl;have h8:(len+rest.length)*8<=(len+rest.length)*P.bytesOf e:=Nat.mul_le_mul_left _ hb;unfold Aa;omega
  have each: ∀i,i<len-> ∃v:α,∃cs',W.cells? 0 (a.add (i*sz)) sz=some cs'/\Ba (Hh (fun _=>False) emp W) (fun j=>cs'[j]?) 0 (ea v):=fun i hi=>by
   have hi':=hel i hi;obtain⟨x,hx⟩: ∃x,elems[i]? =some x:=⟨_,Cs (by omega)⟩
   rw[hx,Option.bind_eq_some_iff,hc]at hi';obtain⟨cs',h1,h2⟩:=hi';obtain⟨v,-,h4⟩:=h cs' x.1 x.2 h2 fun y hy=>hw y (.inr (.inl (hwe _ x.1 (Il.2 ⟨x,Bp hx,rfl⟩) y hy)))
   exact⟨v,cs',h1,h4⟩
  obtain⟨l,hll,hlc⟩:=PN len each;refine⟨l,rfl,⟨_,rfl,?_⟩,trivial⟩;simp only[Ah,B9];refine⟨some a,cap,by rw[hll],by omega,fun h=>(by cases h),by omega,fun h=>(by cases h),fun hne=>?_⟩;obtain⟨b,o,spot⟩:=a
  have h0:0<l.length:=by
   rcases l with _|⟨v,r⟩
   .exact absurd rfl hne
   .simp
  have hspot:spot=none:=by
   obtain⟨cs',h1,-⟩:=hlc 0 l[0] (Cs h0);obtain⟨-,h3,h4⟩:=World.cells?_some h1;have h5:=h4 0 hsz;rw[Cs (by omega)]at h5;have:=World.cell?_spot h5;simpa[Addr.add]using this
  subst hspot
  have hcell: ∀i v,l[i]? =some v-> ∀k u,(ea v)[k]? =some u-> ∃c,W.cell? ⟨b,o+i*sz+k,none⟩=some c/\Ah (Hh (fun _=>False) emp W) u c:=fun i v hv k u hu=>by
   obtain⟨cs',h1,h2⟩:=hlc i v hv;obtain⟨-,h3,h4⟩:=World.cells?_some h1;have hk:k<sz:=by rw[<-he v];exact(JL.1 hu).1
   obtain⟨c,hc',hr⟩:=Bj.1 h2 k u hu;have h5:=h4 k hk;simp only[HG]at hc';rw[add_plain,add_plain]at h5;exact⟨c,by rw[<-hc',<-h5],hr⟩
  refine⟨b,o,sz,rfl,BH.2 fun j e hj=>?_⟩;rw[Jm]at hj;obtain⟨v,hv,rfl⟩:=Option.map_eq_some_iff.1 hj;refine⟨he v,Bj.2 fun k u hu=>?_⟩;obtain⟨c,h1,h2⟩:=hcell j v hv k u hu;exact⟨c,by rw[uv];exact h1,h2⟩
def KB {t e:TypeId} {sz:Nat} {α:Type} {ea:α->List V} (ht:P.underlying t=some (.slice e)) (hc:P.cellsOf e=sz) (hsz:0<sz) (hb:8<=P.bytesOf e) (he: ∀a,(ea a).length=sz) (h:Vx enc P W e ea) :
    Vx enc P W t fun l:List α=>[V.l (l.map ea) false]
 | 0=>M1
 | n+1=>TR ht hc hsz hb he (h n)
def RdF {H:Type} (enc:TypeId×Value->H) (P:Program) (W:World) (n:Nat) (fs:List Field) (o:Nat) {α:Type} (ea:α->List V):Prop:=
 ∀ (cs:List Value) (xs:List (DataW H×List MemPlace)),xs.length=fs.length->(∀(i:Nat) (f:Field),fs[i]? =some f->DataW.trod enc P W 0 (fun _=>true) true n (Field.type f) ((cs.drop (Field.offset f)).take (P.cellsOf (Field.type f)))=xs[i]?)->
   (∀x∈DataW.weightsEach P (fs.map fun f:Field=>f.type) (xs.map (·.1)),x<=reachBytes)-> ∃a:α,Ba (Hh (fun _=>False) emp W) (fun i=>cs[i]?) o (ea a)
def Iw {n o:Nat}:RdF enc P W n [] o fun _:Unit=>([]:List V):=fun _ _ _ _ _=>⟨(),trivial⟩
def BT {n o c:Nat} {f:Field} {fs:List Field} {α β:Type} {ea:α->List V} {eb:β->List V} (hf:f.offset=o) (hc:P.cellsOf f.type=c) (he: ∀a,(ea a).length=c) (h1:nY enc P W n f.type ea) (h2:RdF enc P W n fs (o+c) eb) :
    RdF enc P W n (f::fs) o fun p:α×β=>ea p.1++eb p.2:=by
 intro cs xs hl hx hw
 match xs,hl with
 | x ::r,hl=>
   have hx0:=hx 0 f rfl;simp only[sr]at hx0;simp only[FA,DataW.weightsEach,Dy]at hw;obtain⟨a,ha1,ha2⟩:=h1 _ x.1 x.2 hx0 fun y hy=>hw y (.inl hy)
   obtain⟨b,hb⟩:=h2 cs r (by simpa using hl) (fun i g hg=>by
    have:=hx (i+1) g (by simpa using hg)
    simpa using this) fun y hy=>hw y (.inr hy)
   refine⟨(a,b),O7 (Bj.2 fun k u hu=>?_) (by rw[he];exact hb)⟩;obtain⟨cc,h3,h4⟩:=Bj.1 ha2 k u hu;have hk:k<c:=by rw[<-he a];exact(JL.1 hu).1
   refine⟨cc,?_,h4⟩;rw[hf,hc,HG,List.getElem?_take,if_pos hk,zZ]at h3;exact h3
def Rj {n:Nat} {t:TypeId} {fs:List Field} {α:Type} {ea:α->List V} (ht:P.underlying t=some (.struct fs.toArray)) (h:RdF enc P W n fs 0 ea) (hl: ∀a,(ea a).length=P.cellsOf t):nY enc P W (n+1) t ea:=by
 intro cs d ps htr hw;obtain⟨xs,k,hk,hx,hcl,hxl,hf⟩:=DataW.trod_struct ht htr;obtain rfl:k=n:=by omega
 simp only[Prod.mk.injEq]at hx;obtain⟨rfl,-⟩:=hx;simp only[DataW.weights,ht]at hw;obtain⟨a,ha⟩:=h cs xs (by rw[hxl];simp) (fun i f hfi=>hf i f (by simpa using hfi)) (by simpa using hw);exact⟨a,by rw[hcl,hl],ha⟩
def Ge {t:TypeId} {fs:List Field} {α:Type} {ea:α->List V} (ht:P.underlying t=some (.struct fs.toArray)) (h: ∀n,RdF enc P W n fs 0 ea) (hl: ∀a,(ea a).length=P.cellsOf t):Vx enc P W t ea
 | 0=>M1
 | n+1=>Rj ht (h n) hl
end
end Go.Gl
namespace Go.Gl
open Go.Proofs
section
variable {H:Type} {enc:TypeId×Value->H} {W:World}
def b8 {n:Nat} (h:Nat.ble 8 n=true):8<=n:=Nat.le_of_ble_eq_true h
def PT:Vx enc Tryz.prog W 3 fun x:Int=>[V.i .i64 x]:=Qh Tryz.underlying3
def QV:Vx enc Tryz.prog W 23 fun l:List Int=>[V.l (iL l) false]:=KB Tryz.underlying23 (by kernel_rfl) (by decide) (b8 (by kernel_rfl)) (fun _=>rfl) PT
def tz:Vx enc Tryz.prog W 314 fun p:Int×Int=>[eI p.1,eI p.2]:=fun n=>
 Iv (Ge Tryz.underlying314
  (fun n=>BT (c:=1) rfl (by kernel_rfl) (fun _=>rfl) (PT n) (BT (c:=1) rfl (by kernel_rfl) (fun _=>rfl) (PT n) Iw)) (fun _=>(show _=2 from rfl).trans (by kernel_rfl)) n) (fun x=>(x.1,x.2.1)) fun _=>rfl
def pA:Vx enc Tryz.prog W 59 fun l:List (Int×Int)=>[V.l (l.map fun p=>[eI p.1,eI p.2]) false]:=KB (sz:=2) Tryz.underlying59 (by kernel_rfl) (by decide) (b8 (by kernel_rfl)) (fun _=>rfl) tz
def AAf:Vx enc Tryz.prog W 61 WC:=fun n=>
 Iv (Ge Tryz.underlying61
  (fun n=>BT (c:=1) rfl (by kernel_rfl) (fun _=>rfl) (QV n) (BT (c:=1) rfl (by kernel_rfl) (fun _=>rfl) (QV n)
   (BT (c:=1) rfl (by kernel_rfl) (fun _=>rfl) (pA n) Iw))) (fun _=>(show _=3 from rfl).trans (by kernel_rfl)) n) (fun x=>⟨x.1,x.2.1,x.2.2.1⟩) fun _=>rfl
def tw:Vx enc Tryz.prog W 199 J5:=fun n=>
 Iv (Ge Tryz.underlying199
  (fun n=>BT (c:=1) rfl (by kernel_rfl) (fun _=>rfl) (Qh Tryz.underlying197 n) (BT (c:=1) rfl (by kernel_rfl) (fun _=>rfl) (PT n)
   (BT (c:=1) rfl (by kernel_rfl) (fun _=>rfl) (QV n) Iw))) (fun _=>(show _=3 from rfl).trans (by kernel_rfl)) n) (fun x=>⟨x.1,x.2.1,x.2.2.1⟩) fun _=>rfl
def o7:Vx enc Tryz.prog W 25 fun l:List Node=>[V.l (l.map J5) false]:=KB (sz:=3) Tryz.underlying25 (by kernel_rfl) (by decide) (b8 (by kernel_rfl)) (fun _=>rfl) tw
def uB:Vx enc Tryz.prog W 22 fun l:List Sb=>[V.l (l.map WC) false]:=KB (sz:=3) Tryz.underlying22 (by kernel_rfl) (by decide) (b8 (by kernel_rfl)) (fun _=>rfl) AAf
def Oh (f:Fact):(Fh f).length=6:=by rw[Bh];rfl
def bE: ∀n,nY enc Tryz.prog W n 44 Fh/\nY enc Tryz.prog W n 42 fun l:List Fact=>[V.l (facts l) false]
 | 0=>⟨M1,M1⟩
 | n + 1 =>by
   obtain⟨h1,h2⟩:=bE n;refine⟨?_,TR Tryz.underlying42 (by kernel_rfl) (by decide) (b8 (by kernel_rfl)) Oh h1⟩
   exact Iv (Rj Tryz.underlying44
    (BT (c:=1) rfl (by kernel_rfl) (fun _=>rfl) (Qh Tryz.underlying41 n) (BT (c:=1) rfl (by kernel_rfl) (fun _=>rfl) (PT n)
     (BT (c:=1) rfl (by kernel_rfl) (fun _=>rfl) (QV n) (BT (c:=1) rfl (by kernel_rfl) (fun _=>rfl) (PT n)
      (BT (c:=1) rfl (by kernel_rfl) (fun _=>rfl) (PT n) (BT (c:=1) rfl (by kernel_rfl) (fun _=>rfl) h2 Iw)))))) (fun _=>(show _=6 from rfl).trans (by kernel_rfl)))
    (fun x=>Fact.mk x.1 x.2.1 x.2.2.1 x.2.2.2.1 x.2.2.2.2.1 x.2.2.2.2.2.1) fun x=>by rw[Bh];rfl
def uA:Vx enc Tryz.prog W 44 Fh:=fun n=>(bE n).1
def tx:Vx enc Tryz.prog W 81 iR:=fun n=>
 Iv (Ge Tryz.underlying81
  (fun n=>BT (c:=1) rfl (by kernel_rfl) (fun _=>rfl) (Qh Tryz.underlying79 n) (BT (c:=1) rfl (by kernel_rfl) (fun _=>rfl) (PT n)
   (BT (c:=6) rfl (by kernel_rfl) Oh (uA n) (BT (c:=1) rfl (by kernel_rfl) (fun _=>rfl) (PT n) Iw)))) (fun x=>(show _=9 from by simp only[Nl,Oh];rfl).trans (by kernel_rfl)) n) (fun x=>⟨x.1,x.2.1,x.2.2.1,x.2.2.2.1⟩) fun x=>by rw[Bh];rfl
def o8:Vx enc Tryz.prog W 24 fun l:List Nx=>[V.l (l.map iR) false]:=KB (sz:=9) Tryz.underlying24 (by kernel_rfl) (by decide) (b8 (by kernel_rfl)) (fun _=>rfl) tx
def tv : Vx enc Tryz.prog W 27 BG:=fun n=>
 Iv (Ge Tryz.underlying27
  (fun n=>BT (c:=1) rfl (by kernel_rfl) (fun _=>rfl) (uB n)
   (BT (c:=1) rfl (by kernel_rfl) (fun _=>rfl) (PT n) (BT (c:=1) rfl (by kernel_rfl) (fun _=>rfl) (QV n)
    (BT (c:=1) rfl (by kernel_rfl) (fun _=>rfl) (o8 n)
     (BT (c:=1) rfl (by kernel_rfl) (fun _=>rfl) (o7 n)
      (BT (c:=1) rfl (by kernel_rfl) (fun _=>rfl) (PT n) Iw)))))) (fun _=>(show _=6 from rfl).trans (by kernel_rfl)) n) (fun x=>⟨x.1,x.2.1,x.2.2.1,x.2.2.2.1,x.2.2.2.2.1,x.2.2.2.2.2.1⟩) fun _=>rfl
end
end Go.Gl
namespace Go.Gl
variable {P:Program} {Z Z':AE}
mutual
def FX:V->Prop
 | .i k n=>k.min<=n/\n<=k.max
 | .rp cs=>Io cs
 | .l es _=>es.length<=Aa/\V7 es
 | .f _ a b=>Io a/\Io b
 | .FV _ v=>FX v
 | .a cs=>Io cs
 | .t vs=>Io vs
 | _=>True
def Io:List V->Prop
 | []=>True
 | v::r=>FX v/\Io r
def V7:List (List V)->Prop
 | []=>True
 | e::r=>Io e/\V7 r
end
mutual
def sO {H:Nat->Nat->Option Value}: ∀(v:V) (c:Value),Ah H v c->FX v
 | .b _,_,_| .s _,_,_| .pn,_,_| .p _ _,_,_| .sl _ _ _,_,_| .sv _ _ _ _,_,_| .pe _ _ _ _,_,_| .m _,_,_| .mn,_,_| .MK,_,_| .D0,_,_| .any,_,_=>by simp only[FX]
 | .i k n,_,h=>by
   simp only[Ah]at h;simp only[FX];exact h.2
 | .rp cs,_,h=>by
   simp only[Ah]at h;obtain⟨b,o,rfl,h⟩:=h;simp only[FX];exact J8 cs o h
 | .l es full,_,h=>by
   simp only[Ah]at h;obtain⟨a,cap,h1,h2,h3,h4,h5,h6⟩:=h;simp only[FX];refine⟨h4,?_⟩;cases es with
   | nil=>exact trivial
   | cons e es=>
     obtain⟨b,o,sz,h7,h8⟩:=h6 (by simp);exact jb (e::es) o h8
 | .f fn first cap,_,h=>by
   simp only[Ah]at h;obtain⟨f',c',h1,h2,h3,h4,h5⟩:=h;simp only[FX];exact⟨J8 first 0 h3,J8 cap 0 h5⟩
 | .FV t v,_,h=>by
   simp only[Ah]at h;obtain⟨c',h1,h2⟩:=h;simp only[FX];exact sO v c' h2
 | .a cs,_,h=>by
   simp only[Ah]at h;obtain⟨c',h1,h2,h3⟩:=h;simp only[FX];exact J8 cs 0 h3
 | .t cs,_,h=>by
   simp only[Ah]at h;obtain⟨c',h1,h2,h3⟩:=h;simp only[FX];exact J8 cs 0 h3
def J8 {H:Nat->Nat->Option Value} {g:Nat->Option Value}: ∀(vs:List V) (o:Nat),Ba H g o vs->Io vs
 | [],_,_=>trivial
 | v::vs,o,h=>by
   simp only[Ba]at h;obtain⟨⟨c,h1,h2⟩,h3⟩:=h;exact⟨sO v c h2,J8 vs (o+1) h3⟩
def jb {H:Nat->Nat->Option Value} {g:Nat->Option Value} {sz:Nat}: ∀(es:List (List V)) (o:Nat),BJ H g sz o es->V7 es
 | [],_,_=>trivial
 | e::es,o,h=>by
   simp only[BJ]at h;obtain⟨h1,h2,h3⟩:=h;exact⟨J8 e o h2,jb es (o+sz) h3⟩
end
def Au.fit {f:FuncId} {args:List V} {Q:R->AE->Prop} (hok:okF P f=true) (h:Io args->Au P f args Z Q):Au P f args Z Q:=
 ⟨hok,fun F w cs hR hv=>(h (J8 args 0 hv.2)).2 F w cs hR hv⟩
def Pure.fit {f:FuncId} {args:List V} {v:V} (hok:okF P f=true) (h:Io args->Pure P f args v):Pure P f args v:=Au.fit hok h
def BQ.fit {f:FuncId} {args:List V} {pre:List At} {Φ:R->List At->Prop} (hok:okF P f=true) (h:Io args->BQ P f args pre Φ):BQ P f args pre Φ:=fun Z hs=>Au.fit hok fun hf=>h hf Z hs
def mP {es:List (List V)}:V7 es↔ ∀e∈es,Io e:=by
 induction es with
 | nil=>simp[V7]
 | cons e r ih=>simp[V7,ih]
def KE {α:Type} {enc:α->List V} {xs:List α}:V7 (xs.map enc)↔ ∀x∈xs,Io (enc x):=by
 rw[mP];simp
def Hm {es:List (List V)} {f:Bool}:FX (.l es f)↔es.length<=Aa/\V7 es:=Iff.rfl
def Hn {cs:List V}:FX (.a cs)↔Io cs:=Iff.rfl
def VT {cs:List V}:FX (.rp cs)↔Io cs:=Iff.rfl
def Dk {v:V} {r:List V}:Io (v::r)↔FX v/\Io r:=Iff.rfl
def drop_cons {α:Type} {xs:List α} {k:Nat} {x:α} (h:xs[k]? =some x):xs.drop k=x::xs.drop (k+1):=by
 obtain⟨hk,rfl⟩:=JL.1 h;exact List.drop_eq_getElem_cons hk
def Ai {α:Type} {xs:List α} {k:Nat} (h:k=xs.length):xs.drop k= []:=List.drop_of_length_le (by omega)
end Go.Gl
namespace Go.Gl
variable {P:Program} {Z:AE} {env:Env}
class QH (G:Prop) (G':outParam Prop):Prop where
 h:G'->G
def st {G G':Prop} [i:QH G G'] (h:G'):G:=i.h h
def sq {l:List Nat} {a b:AV} {Q:Ac->Env->AE->Prop} (h: ∀K:Env->AE->Prop,(∀env Z,(pk l env fun E=>W P b Q E Z)->K env Z)->W P a (Ac.andThen K Q) env Z):W P (.seq l a b) Q env Z:=GL h
class Sti (G:Prop) (G':outParam Prop):Prop where
 h:G'->G
def si {G G':Prop} [i:Sti G G'] (h:G'):G:=i.h h
instance {ops:List Ar} {Q:Ac->Env->AE->Prop}:Sti (W P (.DB ops) Q env Z) (∀(KR:Env->AE->Prop) (KP:Env->V->AE->Prop),(∀env Z,Q .normal env Z->KR env Z)->(∀env v Z,Q (.Bk v) env Z->KP env v Z)->WT P ops KR KP env Z):=⟨DP⟩
instance {l:List Nat} {ops:List Cr} {Q:Ac->Env->AE->Prop}:Sti (W P (.He l ops) Q env Z) (∀(KR:Env->AE->Prop) (KP:V->AE->Prop),(∀env Z,(pk l env fun E=>Q .normal E Z)->KR env Z)->(∀v Z,(∀Z',Sub Z Z'->Q (.Bk v) [] Z')->KP v Z)->WD P ops KR KP env Z):=⟨ct⟩
instance {c:Bq} {a b:AV} {Q:Ac->Env->AE->Prop}:QH (W P (.cond c a b) Q env Z) (match ev env c with
 | some (.b t)=>(t=true->W P a Q env Z)/\(t=false->W P b Q env Z)
 | _=>False):=⟨I2⟩
instance {id:Nat} {a:AV} {Q:Ac->Env->AE->Prop}:QH (W P (.block id a) Q env Z) (W P a (Ac.inBlock id Q) env Z):=⟨IU⟩
instance {l:List Nat} {a:AV} {Q:Ac->Env->AE->Prop}:QH (W P (.loop l a) Q env Z) (pk l env fun E=>Af l a (W P a) Q E Z):=⟨QC⟩
instance {id:Nat} {Q:Ac->Env->AE->Prop}:QH (W P (.exit id) Q env Z) (Q (.exit id) env Z):=⟨QD⟩
instance {Q:Ac->Env->AE->Prop}:QH (W P .ret Q env Z) (Q .ret env Z):=⟨kS⟩
instance {Q:Ac->Env->AE->Prop}:QH (W P .skip Q env Z) (Q .normal env Z):=⟨Ki⟩
instance {a:AV} {Q:Ac->Env->AE->Prop}:QH (W P (.scope a) Q env Z) (W P a Q env Z):=⟨nH⟩
instance {l:List Nat} {g:Bq} {ps:List Nat} {a b:AV} {Q:Ac->Env->AE->Prop}:QH (W P (.D8 l g ps a b) Q env Z) (match ev env g with
 | some (.f (.func gf) [] cap)=>pk l env fun E=> ∀L,Z L=none->Au P gf (.f (.yield L) [] []::cap) (B7 Z L (.loop .ready E (Bm P ps a b))) (Lp L Q env)
 | _=>False):=⟨nI⟩
instance {A B:Prop}:QH ((true=true->A)/\(true=false->B)) A:=⟨kC⟩
instance {A B:Prop}:QH ((false=true->A)/\(false=false->B)) B:=⟨kD⟩
instance {A B:Prop}:QH ((false=false->A)/\(false=true->B)) A:=⟨rI⟩
instance {A B:Prop}:QH ((true=false->A)/\(true=true->B)) B:=⟨rH⟩
instance {A B:Prop} {b:Bool}:QH ((b=true->A)/\(b= !true->B)) ((b=true->A)/\(b=false->B)):=⟨id⟩
instance {A B:Prop} {b:Bool}:QH ((b=false->A)/\(b= !false->B)) ((b=false->A)/\(b=true->B)):=⟨id⟩
instance {agg:Option Nat} {cs:List V} {K:V->Prop}:QH (AU Z agg (.rp cs) K) (cut agg cs 0 K):=⟨fun h=>h⟩
instance {es:List (List V)} {f:Bool} {K:V->Prop}:QH (Ay (.l es f) K) (K (.i .i64 es.length)):=⟨WV⟩
def kc {K A:Env->AE->Prop} (h:A env Z) (hk: ∀env Z,A env Z->K env Z:=by assumption):K env Z:=hk _ _ h
def kp {K A:Env->V->AE->Prop} {v:V} (h:A env v Z) (hk: ∀env v Z,A env v Z->K env v Z:=by assumption):K env v Z:=hk _ _ _ h
def rk {x:Ar} {r:List Ar} {A:Prop} (h1:IF P x env Z) (h2:EX P r env Z/\A):EX P (x::r) env Z/\A:=⟨⟨h1,h2.1⟩,h2.2⟩
def dr {A:Prop} (h:A):EX P [] env Z/\A:=⟨trivial,h⟩
class BP (b v:Bool) (p:outParam Prop):Prop where
 h:b=v->p
def bp {b v:Bool} {p:Prop} [i:BP b v p] (h:b=v):p:=i.h h
instance (priority:=low) {b v:Bool}:BP b v (b=v):=⟨id⟩
instance (priority:=mid) {p:Prop} [Decidable p]:BP (decide p) true p:=⟨of_decide_eq_true⟩
instance (priority:=mid) {p:Prop} [Decidable p]:BP (decide p) false (¬p):=⟨of_decide_eq_false⟩
instance {a b:Int}:BP (decide (a<b)) false (b<=a):=⟨fun h=>Int.not_lt.1 (of_decide_eq_false h)⟩
instance {a b:Int}:BP (decide (a<=b)) false (b<a):=⟨fun h=>Int.not_le.1 (of_decide_eq_false h)⟩
instance {a b:Int}:BP (a==b) true (a=b):=⟨fun h=>by simpa using h⟩
instance {a b:Int}:BP (a==b) false (a≠b):=⟨fun h=>by simpa using h⟩
instance {a b:Int}:BP (a != b) true (a≠b):=⟨fun h=>by simpa using h⟩
instance {a b:Int}:BP (a != b) false (a=b):=⟨fun h=>by simpa using h⟩
instance {b:Bool} {p:Prop} [i:BP b false p]:BP (!b) true p:=⟨fun h=>i.h (by simpa using h)⟩
instance {b:Bool} {p:Prop} [i:BP b true p]:BP (!b) false p:=⟨fun h=>i.h (by simpa using h)⟩
instance {b x v:Bool} {p:Prop} [i:BP b v p]:BP (bif false then x else b) v p:=⟨i.h⟩
instance {b x v:Bool} {p:Prop} [i:BP b v p]:BP (bif true then b else x) v p:=⟨i.h⟩
def fc {α:Type} {enc:α->List V} {xs:List α} {k:Nat} {A B:Prop} (h1: ∀x,xs[k]? =some x->k<xs.length->decide (A4 k<((xs.map enc).length:Nat))=true->A) (h2:k=xs.length->decide (A4 k<((xs.map enc).length:Nat))=false->B) (hk:k<=xs.length:=by assumption) (hm:xs.length<=Aa:=by first|assumption|omega|simp[Aa]<;>omega) :
    (decide (A4 k<((xs.map enc).length:Nat))=true->A)/\(decide (A4 k<((xs.map enc).length:Nat))=false->B):=
 ⟨fun h=>(Gu (enc:=enc) (A:=A) (B:=True) hk hm (fun x hx hlt=>h1 x hx hlt h) fun _=>trivial).1 h,fun h=>(Gu (enc:=enc) (A:=True) (B:=B) hk hm (fun _ _ _=>trivial) fun he=>h2 he h).2 h⟩
def ix {α:Type} {enc:α->List V} {xs:List α} {f:Bool} {sz:Nat} {K:V->Prop} {ki:IntKind} {k:Nat} {x:α} (h:K (.rp (enc x))) (hx:xs[k]? =some x:=by assumption) (hm:xs.length<=Aa:=by first|assumption|omega|simp[Aa]<;>omega) (hs:(enc x).length=sz:=by first|rfl|simp) :
    AR sz none (.l (xs.map enc) f) (.i ki (A4 k)) K:=Jv hx hm hs h
def iq {α:Type} {enc:α->List V} {xs:List α} {f:Bool} {sz:Nat} {K:V->Prop} {ki:IntKind} {j:Int} (h: ∀x,xs[j.toNat]? =some x->K (.rp (enc x))) (h0:0<=j:=by omega) (h1:j<xs.length:=by omega) (hs: ∀x,(enc x).length=sz:=by intro x;first|rfl|simp|(rw[Bh];rfl)) :
    AR sz none (.l (xs.map enc) f) (.i ki j) K:=by
 have hlt:j.toNat<xs.length:=by omega
 exact WI j.toNat (Cs hlt) (by omega) (hs _) (h _ (Cs hlt))
def sk1 {α:Type} {enc:α->List V} {xs:List α} {f:Bool} {sz:Nat} {ki:IntKind} {k:Nat} {K:V->AE->Prop} (h:K (.l ((xs.take k).map enc) (f&&decide ((k:Int)=((xs.map enc).length:Nat)))) Z) (hl:k<=xs.length:=by first|assumption|omega) (hm:xs.length<=Aa:=by first|assumption|omega) (hs: ∀x,(enc x).length=sz:=by intro x;first|rfl|simp|(rw[Bh];rfl)) :
    AQ Z sz (.l (xs.map enc) f) none (some (.i ki (A4 k))) none K:=by
 rw[Ag (by omega)];refine⟨fun e he=>?_,?_⟩
 .obtain⟨x,_,rfl⟩:=Il.1 he
  exact hs x
 .simp only[Ow,B9]
  refine⟨by omega,by omega,by omega,?_⟩;rw[Fi];simpa[List.map_take]using h
def zx {xs:List Fact} {f:Bool} {K:V->Prop} {ki:IntKind} {k:Nat} {x:Fact} (h:K (.rp (xF x))) (hx:xs[k]? =some x:=by assumption) (hm:xs.length<=Aa:=by first|assumption|omega):AR 6 none (.l (xs.map Fh) f) (.i ki (A4 k)) K:=by
 refine Jv hx hm (by rw[Bh];rfl) ?_;rw[Bh];exact h
def Sa {a0:At} {l:List At}:(a0::l)[0]? =some a0:=rfl
def SZ {a0 a1:At} {l:List At}:(a0::a1::l)[1]? =some a1:=rfl
def SY {a0 a1 a2:At} {l:List At}:(a0::a1::a2::l)[2]? =some a2:=rfl
def SX {a0 a1 a2 a3:At} {l:List At}:(a0::a1::a2::a3::l)[3]? =some a3:=rfl
def SW {a0 a1 a2 a3 a4:At} {l:List At}:(a0::a1::a2::a3::a4::l)[4]? =some a4:=rfl
def SV {a0 a1 a2 a3 a4 a5:At} {l:List At}:(a0::a1::a2::a3::a4::a5::l)[5]? =some a5:=rfl
def ld {l:List At} {i n off:Nat} {agg:Option Nat} {vs:List V} {K:V->Prop} (hk:cut agg vs off K) (h:Sat Z l:=by assumption)
    (hi:l[i]? =some (.box n vs):=by first|exact Sa|exact SZ|exact SY|exact SX|exact SW|exact SV):AU Z agg (.p n off) K:=WX h i hi hk
def s1 {l:List At} {i n off:Nat} {vs:List V} {x:V} {K:AE->Prop} (hk: ∀Z',Sat Z' (l.set i (.box n (vs.set off x)))->K Z') (h:Sat Z l:=by assumption)
    (hi:l[i]? =some (.box n vs):=by first|exact Sa|exact SZ|exact SY|exact SX|exact SW|exact SV)
    (h1:CR x=true:=by first|rfl|exact H4 (by assumption) 0 rfl|exact H4 (by assumption) 1 rfl|exact H4 (by assumption) 2 rfl|exact H4 (by assumption) 3 rfl|simp) (ho:off+1<=vs.length:=by exact Nat.le_of_ble_eq_true rfl):AS Z 1 (.p n off) x K:=
 Mg h i hi h1 ho hk
def sn {l:List At} {i n off sz:Nat} {vs vc:List V} {x:V} {K:AE->Prop} (hk: ∀Z',Sat Z' (l.set i (.box n (putAt vs off vc)))->K Z') (h:Sat Z l:=by assumption)
    (hi:l[i]? =some (.box n vs):=by first|exact Sa|exact SZ|exact SY|exact SX|exact SW|exact SV)
    (hc:cellsOf x=some vc:=by rfl) (hl:vc.length=sz:=by rfl) (h1:vc.all CR=true:=by first|rfl|simp) (ho:off+sz<=vs.length:=by exact Nat.le_of_ble_eq_true rfl):AS Z sz (.p n off) x K:=
 Ir h i hi hc hl h1 ho hk
def Is:Ec (fun f:Fact=>Fh f) 6:=fun f=>by
 simp only[Bh];refine⟨rfl,fun v hv=>?_⟩;simp only[GM,List.not_mem_nil,or_false]at hv;rcases hv with rfl|rfl|rfl|rfl|rfl|rfl<;>rfl
def Mh:Ec (fun l:List Fact=>[V.l (facts l) false]) 1:=fun x=>⟨rfl,fun v hv=>by simp at hv;subst hv;rfl⟩
def af {α:Type} {enc:α->List V} {sz:Nat} {ys:List α} {g:Bool} {K:V->Prop} (hk:K (.l (ys.map enc) false)) (hg:Ec enc sz:=by first|exact Bo|exact DK|exact P4|exact Is|exact Mh) {b:Nat} (hl:ys.length<=Aa/\ys.length*b<=140737488355328:=by first|assumption|omega) :
    AY b Z sz (.l [] true) (.l (ys.map enc) g) K:=jX hg hl hk
def al {l:List At} {o:O} {n:Nat} {K:Prop} {Z':AE} (e:B7 Z n o=Z') (hk:Sat Z' (l++[.obj n o])->K) (hn:Z n=none:=by assumption) (h:Sat Z l:=by assumption):K:=hk (e ▸ gp h hn)
def oi {l:List At} {i:Nat} {v:V} {sz:Nat} {es:List (List V)} {ki:IntKind} {j:Int} {K:V->Prop} (hk:K (Fg v sz j.toNat)) (h:Sat Z l:=by assumption)
    (hi:l[i]? =some (.own v sz es):=by first|exact Sa|exact SZ|exact SY|exact SX|exact SW|exact SV) (h0:0<=j:=by omega) (h1:j<es.length:=by first|omega|(simp only[B9]at *;omega)):AR sz none v (.i ki j) K:=
 gS h i j.toNat hi (by omega) (by omega) hk
def oc {l:List At} {i:Nat} {v:V} {sz k:Nat} {es:List (List V)} {ki:IntKind} {K:V->Prop} (hk:K (Fg v sz k)) (h:Sat Z l:=by assumption)
    (hi:l[i]? =some (.own v sz es):=by first|exact Sa|exact SZ|exact SY|exact SX|exact SW|exact SV) (h1:k<es.length:=by first|omega|(simp only[B9]at *;omega)) (hm:k<=Aa:=by first|omega|(simp only[Aa];omega)):AR sz none v (.i ki (A4 k)) K:=
 gS h i k hi (Ag (by omega)) h1 hk
def ol {α:Type} {enc:α->List V} {xs:List α} {l:List At} {i:Nat} {v:V} {sz k:Nat} {agg:Option Nat} {K:V->Prop} (hk: ∀x,xs[k]? =some x->cut agg (enc x) 0 K) (h:Sat Z l:=by assumption)
    (hi:l[i]? =some (.own v sz (xs.map enc)):=by first|exact Sa|exact SZ|exact SY|exact SX|exact SW|exact SV) (h1:k<xs.length:=by first|omega|(simp only[B9]at *;omega)):AU Z agg (Fg v sz k) K:=
 I0 h i hi (by rw[Jm,Cs h1];rfl) (hk _ (Cs h1))
def oset {α:Type} {enc:α->List V} {xs:List α} {y:α} {l:List At} {i:Nat} {v x:V} {sz k:Nat} {vc:List V} {K:AE->Prop} (hk: ∀Z',Sat Z' (l.set i (.own v sz ((xs.set k y).map enc)))->K Z') (h:Sat Z l:=by assumption)
    (hi:l[i]? =some (.own v sz (xs.map enc)):=by first|exact Sa|exact SZ|exact SY|exact SX|exact SW|exact SV) (hc:cellsOf x=some vc:=by rfl) (he:vc=enc y:=by rfl) (hg:Ec enc sz:=by first|exact Bo|exact DK|exact P4|exact Is|exact Mh)
    (hv:(CC v).isSome=true:=by assumption) (h1:k<xs.length:=by first|omega|(simp only[B9]at *;omega)):AS Z sz (Fg v sz k) x K:=by
 subst he;refine NF h i hi (by rw[Jm,Cs h1];rfl) hc (hg y).1 (EG.2 fun v hv=>(hg y).2 v hv) (hg _).1 hv fun Z' hs=>hk Z' ?_
 rw[List.map_set];exact hs
def G0 {b sz:Nat} {v:V} {e:List V} {f:Bool} {K:V->AE->Prop} (h:AK b Z sz v (.l [e] f) fun v' Z'=>(CC v').isSome=true->K v' Z'):AK b Z sz v (.l [e] f) K:=by
 obtain⟨h1,h2,h3⟩:=h;refine⟨h1,h2,?_⟩;cases v with
 | l es full=>exact⟨h3.1,h3.2.1,fun e=>(by cases e),fun e=>⟨(h3.2.2.2 e).1,fun n cap hn hc=>(h3.2.2.2 e).2 n cap hn hc rfl⟩⟩
 | sl n len cap=>
   simp only at h3 ⊢;split at h3
   .exact⟨h3.1,h3.2.1,h3.2.2.1,h3.2.2.2.1,fun n' cap' hn hc=>h3.2.2.2.2 n' cap' hn hc rfl⟩
   .exact h3.elim
 | _=>exact h3.elim
def aq {l:List At} {i:Nat} {α:Type} {enc:α->List V} {sz:Nat} {xs:List α} {x:α} {v:V} {f:Bool} {e:List V} {K:V->AE->Prop} (hk: ∀v' Z',Sat Z' (l.set i (.own v' sz ((xs++[x]).map enc)))->(CC v').isSome=true->K v' Z') (h:Sat Z l:=by assumption)
    (hi:l[i]? =some (.own v sz (xs.map enc)):=by first|exact Sa|exact SZ|exact SY|exact SX|exact SW|exact SV)
    (he:e=enc x:=by rfl) (hg:Ec enc sz:=by first|exact Bo|exact DK|exact P4|exact Is|exact Mh)
    {b:Nat} (hl:xs.length<Aa/\(xs.length+1)*b<=140737488355328:=by first|assumption|omega|(simp only[Nl,B9,LF,List.length_nil,Jl,sj,List.length_replicate,Aa]at *;omega)):AK b Z sz v (.l [e] f) K:=
 G0 (GR h i hi hl hg hk he)
end Go.Gl
namespace Go.Gl
variable {P:Program} {Z:AE} {env:Env}
def iqF {xs:List Fact} {f:Bool} {K:V->Prop} {ki:IntKind} {j:Int} (h: ∀x,xs[j.toNat]? =some x->K (.rp (xF x))) (h0:0<=j:=by omega) (h1:j<xs.length:=by omega):AR 6 none (.l (xs.map Fh) f) (.i ki j) K:=by
 refine iq (fun x hx=>?_) h0 h1 (by intro x;rw[Bh];rfl);rw[Bh];exact h x hx
def lo {l:List At} {i:Nat} {v:V} {sz:Nat} {es:List (List V)} {K:V->Prop} (hk:K (.i .i64 es.length)) (h:Sat Z l:=by assumption)
    (hi:l[i]? =some (.own v sz es):=by first|exact Sa|exact SZ|exact SY|exact SX|exact SW|exact SV) (hm:es.length<=Aa:=by first|omega|(simp only[B9,List.length_replicate,List.length_set,Aa]at *;omega)):Ay v K:=AAO h i hi hm hk
def slq {α:Type} {enc:α->List V} {xs:List α} {f:Bool} {sz:Nat} {ki:IntKind} {j:Int} {K:V->AE->Prop} (h:K (.l ((xs.take j.toNat).map enc) (f&&decide (j=((xs.map enc).length:Nat)))) Z) (h0:0<=j:=by omega) (h1:j<=xs.length:=by first|omega|(simp only[B9]at *;omega)) (hs: ∀x,(enc x).length=sz:=by intro x;first|rfl|simp|(rw[Bh];rfl)) :
    AQ Z sz (.l (xs.map enc) f) none (some (.i ki j)) none K:=by
 refine⟨fun e he=>?_,?_⟩
 .obtain⟨x,_,rfl⟩:=Il.1 he
  exact hs x
 .simp only[Ow,B9]
  refine⟨by omega,by omega,by omega,?_⟩;simpa[List.map_take]using h
def Sat.take {l:List At} (h:Sat Z l) (n:Nat):Sat Z (l.take n):=h.less (List.take_sublist _ _)
def FK {b:Bool} {Z Z':AE}:F3 Z Z' (.l [] b) (.l [] false):= .l (fun h=>by cases h) .nil
def iP {b:Bool} {Z Z':AE} {es:List (List V)}:F3 Z Z' (.l es b) (.l es false):= .l (fun h=>by cases h) (Fa.refl _ _ _)
mutual
def UH {Z Z':AE}: ∀vs:List V,DW Z Z' vs vs
 | []=> .nil
 | v::r=> .cons (.refl v) (UH r)
end
def E6 {Z Z':AE}: ∀es:List (List V),Fa Z Z' es es
 | []=> .nil
 | e::r=> .cons (UH e) (E6 r)
def os2 {α:Type} {enc:α->List V} {xs:List α} {y:α} {l:List At} {i:Nat} {v x:V} {sz k:Nat} {vc:List V} {K:AE->Prop} (hk: ∀Z',Sat Z' (l.set i (.own v sz ((xs.set k y).map enc)))->K Z') (h:Sat Z l:=by assumption)
    (hi:l[i]? =some (.own v sz (xs.map enc)):=by first|exact Sa|exact SZ|exact SY|exact SX|exact SW|exact SV) (hc:cellsOf x=some vc:=by rfl) (he:vc=enc y:=by rfl) (hg:Ec enc sz:=by first|exact Bo|exact DK|exact P4|exact Is|exact Mh)
    (hv:(CC v).isSome=true:=by rfl) (h1:k<xs.length:=by first|omega|(simp only[B9]at *;omega)):AS Z sz (Fg v sz k) x K:=oset hk h hi hc he hg hv h1
def A8 {α:Type} (xs:List α) {k:Nat} (hk:k<=xs.length):(∃x,xs[k]? =some x/\k<xs.length)\/k=xs.length:=by
 rcases Nat.lt_or_ge k xs.length with h|h
 .exact .inl ⟨_,Cs h,h⟩
 .exact .inr (by omega)
def z6 {α:Type} {enc:α->List V} {xs:List α} {k:Nat} {x:α} {A B:Prop} (h1:decide (A4 k<((xs.map enc).length:Nat))=true->A) (hx:xs[k]? =some x:=by assumption) (hm:xs.length<=Aa:=by first|assumption|omega|simp[Aa]<;>omega) :
    (decide (A4 k<((xs.map enc).length:Nat))=true->A)/\(decide (A4 k<((xs.map enc).length:Nat))=false->B):=by
 refine⟨h1,fun h=>?_⟩;have hlt:=(JL.1 hx).1;rw[Ag (by omega),B9]at h;have:=of_decide_eq_false h;omega
def fcn {α:Type} {enc:α->List V} {xs:List α} {k:Nat} {A B:Prop} (h1:decide (A4 k<((xs.map enc).length:Nat))=false->B) (hx:k=xs.length:=by assumption) (hm:xs.length<=Aa:=by first|assumption|omega|simp[Aa]<;>omega) :
    (decide (A4 k<((xs.map enc).length:Nat))=true->A)/\(decide (A4 k<((xs.map enc).length:Nat))=false->B):=by
 refine⟨fun h=>?_,h1⟩;rw[Ag (by omega),B9]at h;have:=of_decide_eq_true h;omega
def iqk {α:Type} {enc:α->List V} {xs:List α} {f:Bool} {sz:Nat} {K:V->Prop} {ki:IntKind} {j:Int} {x:α} (h:K (.rp (enc x))) (hx:xs[j.toNat]? =some x:=by assumption) (h0:0<=j:=by omega) (hs:(enc x).length=sz:=by first|rfl|simp|(rw[Bh];rfl)) :
    AR sz none (.l (xs.map enc) f) (.i ki j) K:=WI j.toNat hx (by omega) hs h
def tR {xs:List Fact} {f:Bool} {K:V->Prop} {ki:IntKind} {j:Int} {x:Fact} (h:K (.rp (xF x))) (hx:xs[j.toNat]? =some x:=by assumption) (h0:0<=j:=by omega):AR 6 none (.l (xs.map Fh) f) (.i ki j) K:=by
 refine iqk ?_ hx h0;rw[Bh];exact h
class CB (b:Bool) (v:outParam Bool):Prop where
 h:b=v
instance :CB true true:=⟨rfl⟩
instance :CB false false:=⟨rfl⟩
instance {b:Bool} [i:CB b true]:CB (!b) false:=⟨by rw[i.h];rfl⟩
instance {b:Bool} [i:CB b false]:CB (!b) true:=⟨by rw[i.h];rfl⟩
instance {b x y v:Bool} [i:CB b true] [j:CB x v]:CB (bif b then x else y) v:=⟨by rw[i.h,j.h];rfl⟩
instance {b x y v:Bool} [i:CB b false] [j:CB y v]:CB (bif b then x else y) v:=⟨by rw[i.h,j.h];rfl⟩
instance {a b:Bool} [i:CB a true] [j:CB b true]:CB (a==b) true:=⟨by rw[i.h,j.h];rfl⟩
instance {a b:Bool} [i:CB a true] [j:CB b false]:CB (a==b) false:=⟨by rw[i.h,j.h];rfl⟩
instance {a b:Bool} [i:CB a false] [j:CB b true]:CB (a==b) false:=⟨by rw[i.h,j.h];rfl⟩
instance {a b:Bool} [i:CB a false] [j:CB b false]:CB (a==b) true:=⟨by rw[i.h,j.h];rfl⟩
instance {a b:Bool} [i:CB a true] [j:CB b true]:CB (a != b) false:=⟨by rw[i.h,j.h];rfl⟩
instance {a b:Bool} [i:CB a true] [j:CB b false]:CB (a != b) true:=⟨by rw[i.h,j.h];rfl⟩
instance {a b:Bool} [i:CB a false] [j:CB b true]:CB (a != b) true:=⟨by rw[i.h,j.h];rfl⟩
instance {a b:Bool} [i:CB a false] [j:CB b false]:CB (a != b) false:=⟨by rw[i.h,j.h];rfl⟩
def cft {A B:Prop} {b:Bool} [i:CB b true] (h:A):(b=true->A)/\(b=false->B):=⟨fun _=>h,fun e=>(by rw[i.h]at e;cases e)⟩
def cff {A B:Prop} {b:Bool} [i:CB b false] (h:B):(b=true->A)/\(b=false->B):=⟨fun e=>(by rw[i.h]at e;cases e),fun _=>h⟩
def AAU {A B:Prop} {b:Bool} [i:CB b true] (h:B):(b=false->A)/\(b=true->B):=⟨fun e=>(by rw[i.h]at e;cases e),fun _=>h⟩
def AAV {A B:Prop} {b:Bool} [i:CB b false] (h:A):(b=false->A)/\(b=true->B):=⟨fun _=>h,fun e=>(by rw[i.h]at e;cases e)⟩
def oi2 {l:List At} {i:Nat} {v:V} {sz:Nat} {es:List (List V)} {ki:IntKind} {j:Int} {K:V->Prop} (hk:K (Fg v sz j.toNat)) (h:Sat Z l:=by assumption)
    (hi:l[i]? =some (.own v sz es):=by first|exact Sa|exact SZ|exact SY|exact SX|exact SW|exact SV) (h0:0<=j:=by omega) (h1:j<es.length:=by(simp only[B9,List.length_set];omega)):AR sz none v (.i ki j) K:=
 gS h i j.toNat hi (by omega) (by omega) hk
def oc2 {l:List At} {i:Nat} {v:V} {sz k:Nat} {es:List (List V)} {ki:IntKind} {K:V->Prop} (hk:K (Fg v sz k)) (h:Sat Z l:=by assumption)
    (hi:l[i]? =some (.own v sz es):=by first|exact Sa|exact SZ|exact SY|exact SX|exact SW|exact SV) (h1:k<es.length:=by(simp only[B9,List.length_set];omega)) (hm:k<=Aa:=by first|omega|(simp only[Aa];omega)):AR sz none v (.i ki (A4 k)) K:=
 gS h i k hi (Ag (by omega)) h1 hk
def sw {α:Type} {enc:α->List V} {xs:List α} {x:α} {l:List At} {i:Nat} {v:V} {sz k:Nat} {agg:Option Nat} {K:V->Prop} (hk:cut agg (enc x) 0 K) (h:Sat Z l:=by assumption)
    (hi:l[i]? =some (.own v sz (xs.map enc)):=by first|exact Sa|exact SZ|exact SY|exact SX|exact SW|exact SV) (hx:xs[k]? =some x:=by assumption):AU Z agg (Fg v sz k) K:=
 I0 h i hi (by rw[Jm,hx];rfl) hk
def AAI {xs:List Fact} {x:Fact} {l:List At} {i:Nat} {v:V} {k:Nat} {agg:Option Nat} {K:V->Prop} (hk:cut agg (xF x) 0 K) (h:Sat Z l:=by assumption)
    (hi:l[i]? =some (.own v 6 (facts xs)):=by first|exact Sa|exact SZ|exact SY|exact SX|exact SW|exact SV) (hx:xs[k]? =some x:=by assumption):AU Z agg (Fg v 6 k) K:=
 I0 h i hi (by rw[Jm,hx];exact congrArg some (Bh x)) hk
def ol2 {α:Type} {enc:α->List V} {xs:List α} {l:List At} {i:Nat} {v:V} {sz k:Nat} {agg:Option Nat} {K:V->Prop} (hk: ∀x,xs[k]? =some x->cut agg (enc x) 0 K) (h:Sat Z l:=by assumption)
    (hi:l[i]? =some (.own v sz (xs.map enc)):=by first|exact Sa|exact SZ|exact SY|exact SX|exact SW|exact SV) (h1:k<xs.length:=by(simp only[B9,List.length_set];omega)):AU Z agg (Fg v sz k) K:=ol hk h hi h1
def iC {v:V} (h:(CC v).isSome=true): ∃n l c,v= .sl n l c:=by
 cases v<;>first|(cases h;done)|exact⟨_,_,_,rfl⟩
def apF {l:List At} {i:Nat} {xs:List Fact} {x:Fact} {v:V} {f:Bool} {e:List V} {K:V->AE->Prop} (hk: ∀v' Z',Sat Z' (l.set i (.own v' 6 (facts (xs++[x]))))->(CC v').isSome=true->K v' Z') (h:Sat Z l:=by assumption)
    (hi:l[i]? =some (.own v 6 (facts xs)):=by first|exact Sa|exact SZ|exact SY|exact SX|exact SW|exact SV)
    (he:e=xF x:=by rfl)
    {b:Nat} (hl:xs.length<Aa/\(xs.length+1)*b<=140737488355328:=by first|assumption|omega|(simp only[Nl,B9,LF,List.length_nil,Jl,sj,List.length_replicate,Aa]at *;omega)):AK b Z 6 v (.l [e] f) K:=
 G0 (GR h i hi hl Is hk (by rw[he,Bh]))
end Go.Gl
namespace Go.Gl
variable {P:Program} {Z:AE}
abbrev eU (n:Nat):V:= .i .u64 (n:Int)
def II {n:Nat} (h:n<18446744073709551616):IntKind.u64.wrap (n:Int)=n:=by
 simp only[IntKind.wrap,IntKind.signed,IntKind.bits];simp;omega
def HT {a b:Nat} (ha:a<18446744073709551616) (hb:b<18446744073709551616):bits .or .u64 (a:Int) (b:Int)=((a|||b:Nat):Int):=by
 have h:a|||b<2 ^ 64:=Nat.or_lt_two_pow (n:=64) (by simpa using ha) (by simpa using hb)
 simp only[bits,IntKind.bits]
 have e1:(BitVec.ofInt 64 (a:Int)|||BitVec.ofInt 64 (b:Int)).toNat=a|||b:=by
  simp only[BitVec.ofInt_natCast,BitVec.toNat_or,BitVec.toNat_ofNat];rw[Nat.mod_eq_of_lt (by simpa using ha),Nat.mod_eq_of_lt (by simpa using hb)]
 have e2:=II (n:=a|||b) (by simpa using h);rw[<-e1]at e2;rw[<-e1];exact e2
def GD {a b:Nat} (ha:a<18446744073709551616) (hb:b<18446744073709551616):bits .and .u64 (a:Int) (b:Int)=((a&&&b:Nat):Int):=by
 have h:a&&&b<2 ^ 64:=Nat.and_lt_two_pow (n:=64) a (by simpa using hb);simp only[bits,IntKind.bits]
 have e1:(BitVec.ofInt 64 (a:Int)&&&BitVec.ofInt 64 (b:Int)).toNat=a&&&b:=by
  simp only[BitVec.ofInt_natCast,BitVec.toNat_and,BitVec.toNat_ofNat];rw[Nat.mod_eq_of_lt (by simpa using ha),Nat.mod_eq_of_lt (by simpa using hb)]
 have e2:=II (n:=a&&&b) (by simpa using h);rw[<-e1]at e2;rw[<-e1];exact e2
def MP (a b:Nat):Nat:=(BitVec.ofNat 64 a&&& ~~~BitVec.ofNat 64 b).toNat
def Va (a b:Nat):MP a b<18446744073709551616:=by
 have:=(BitVec.ofNat 64 a&&& ~~~BitVec.ofNat 64 b).isLt;simpa[MP]using this
def Ih {a b:Nat}:bits .andNot .u64 (a:Int) (b:Int)=((MP a b:Nat):Int):=by
 simp only[bits,IntKind.bits]
 have e1:(BitVec.ofInt 64 (a:Int)&&& ~~~BitVec.ofInt 64 (b:Int)).toNat=MP a b:=by
  simp only[BitVec.ofInt_natCast,MP]
 have e2:=II (n:=MP a b) (Va a b);rw[<-e1]at e2;rw[<-e1];exact e2
def RT {a b i:Nat} (hi:i<64):(MP a b).testBit i=(a.testBit i&& !b.testBit i):=by
 rw[MP,BitVec.testBit_toNat,BitVec.getLsbD_and,BitVec.getLsbD_not];rw[BitVec.getLsbD_ofNat,BitVec.getLsbD_ofNat];simp only[hi,decide_true,Ds]
def U7 {c:Nat} (h:c<64):IntKind.u64.wrap (1*2 ^ (min c IntKind.u64.bits))=((2 ^ c:Nat):Int):=by
 have hb:IntKind.u64.bits=64:=rfl;rw[hb,Nat.min_eq_left (by omega),Int.one_mul];have:=II (n:=2 ^ c) (by have:=Nat.pow_lt_pow_right (show 1<2 by omega) h;simpa using this);rw[<-this];simp
def Gr {c:Nat} (h:c<64):2 ^ c<18446744073709551616:=by
 have:=Nat.pow_lt_pow_right (show 1<2 by omega) h;simpa using this
def U6 {a c:Nat} (h:c<64):(a:Int).fdiv (2 ^ (min c IntKind.u64.bits))=((a >>> c:Nat):Int):=by
 have hb:IntKind.u64.bits=64:=rfl;rw[hb,Nat.min_eq_left (by omega),Nat.shiftRight_eq_div_pow,Int.fdiv_eq_ediv_of_nonneg _ (Int.pow_nonneg (by omega))];simp
def DS {v:V} {Q:R->AE->Prop} (h:Q (.Bk v) Z):Ae Z v Q:=⟨v,Z,fun _ _ h=>h,.refl v,h⟩
def BO {g:FuncId} {fi ca args:List V} {Q:R->AE->Prop} (h:Au P g (fi++args++ca) Z Q):Ao P (.f (.func g) fi ca) args Z Q:=h
def Pure.of {f:FuncId} {args:List V} {v:V} (h:Au P f args emp fun r _=>r= .ret v):Pure P f args v:=by
 refine⟨h.1,fun F w cs hR hv=>Calls.mono (h.2 F w cs hR hv) fun e w' ⟨r,Z',hr,h1,h2,h3⟩=>?_⟩;subst hr;obtain⟨c,rfl,hv'⟩:=h1;have hsub:Sub emp Z':=fun n o ho=>by cases ho
 exact⟨.ret v,emp,⟨rfl,rfl⟩,⟨c,rfl,F3.rel h2 hsub (.refl v) hv'⟩,h2.drop hsub,⟨h3.frame,h3.size,h3.os,h3.tape,h3.output,fun _ _ _=>rfl⟩⟩
def DG {α S:Type} (P:Program) (x:V) (ea:α->V) (H:S->List At) (stp:α->S->Bool×S) (D:α->S->Prop):Prop:=
 ∀y s,D y s-> ∀Z,Sat Z (H s)->Ao P x [ea y] Z fun r Z'=>r= .ret (.b (stp y s).1)/\Sat Z' (H (stp y s).2)
def DG.use {α S:Type} {x:V} {ea:α->V} {H:S->List At} {stp:α->S->Bool×S} {D:α->S->Prop} (h:DG P x ea H stp D) {y:α} {s:S} (hd:D y s) (hs:Sat Z (H s)) {k kp:V->AE->Prop} (hk: ∀Z',Sat Z' (H (stp y s).2)->k (.b (stp y s).1) Z'):Ao P x [ea y] Z (qk k kp):=
 (h y s hd Z hs).mono fun r Z' ⟨e,h'⟩=>by rw[e];exact hk Z' h'
def DG.useF {α S:Type} {g:FuncId} {fi ca:List V} {ea:α->V} {H:S->List At} {stp:α->S->Bool×S} {D:α->S->Prop} (h:DG P (.f (.func g) fi ca) ea H stp D) {y:α} {s:S} (hd:D y s) {rest:List At} (hs:Sat Z (H s++rest)) {k kp:V->AE->Prop} (hk: ∀Z',Sat Z' (H (stp y s).2++rest)->k (.b (stp y s).1) Z'):Ao P (.f (.func g) fi ca) [ea y] Z (qk k kp):=by
 refine BO ?_;have h1:BQ P g (fi++[ea y]++ca) (H s) fun r post=>r= .ret (.b (stp y s).1)/\post=H (stp y s).2:=fun Z hs=>Au.mono (h y s hd Z hs) fun r Z' ⟨e,h2⟩=>⟨_,⟨e,rfl⟩,h2⟩
 refine h1.use hs ?_;rintro r post Z' ⟨rfl,rfl⟩ hs';exact hk Z' hs'
def Bv {α S:Type} (stp:α->S->Bool×S):List α->Nat->S->Int×S
 | [],_,s=>(-1,s)
 | y::r,k,s=>if(stp y s).1 then((k:Int),(stp y s).2)else Bv stp r (k+1) (stp y s).2
def CS {α S:Type} (stp:α->S->Bool×S):List α->S->Bool×S
 | [],s=>(true,s)
 | y::r,s=>if(stp y s).1 then CS stp r (stp y s).2 else(false,(stp y s).2)
def Yb {α S:Type} (stp:α->S->Bool×S) (D:α->S->Prop):List α->S->Prop
 | [],_=>True
 | y::r,s=>D y s/\Yb stp D r (stp y s).2
def Og {α S:Type} {stp:α->S->Bool×S}: ∀(xs:List α) (k:Nat) (s:S),(Bv (fun y s=>(!(stp y s).1,(stp y s).2)) xs k s).2=(CS stp xs s).2/\(decide ((Bv (fun y s=>(!(stp y s).1,(stp y s).2)) xs k s).1≥0)= !(CS stp xs s).1)
 | [],_,_=>⟨rfl,rfl⟩
 | y::r,k,s=>by
   simp only[Bv,CS];cases h:(stp y s).1
   .simp
   .simpa using Og r (k+1) (stp y s).2
def VB {α S:Type} {stp:α->S->Bool×S} {D:α->S->Prop}: ∀(xs:List α) (s:S),Yb stp D xs s->Yb (fun y s=>(!(stp y s).1,(stp y s).2)) D xs s
 | [],_,_=>trivial
 | _::r,_,h=>⟨h.1,VB r _ h.2⟩
def K3 {α:Type} (f:α->Bool): ∀(xs:List α),CS (fun y (_:Unit)=>(f y,())) xs ()=(xs.all f,())
 | []=>rfl
 | y::r=>by
   simp only[CS,K5];cases f y
   .rfl
   .simpa using K3 f r
def Hl {α S:Type} {stp:α->S->Bool×S} {D:α->S->Prop}: ∀ {xs:List α} {s:S},(∀y∈xs,∀s,D y s)->Yb stp D xs s
 | [],_,_=>trivial
 | y::r,s,h=>⟨h y (.head _) s,Hl fun z hz=>h z (.tail _ hz)⟩
end Go.Gl
namespace Go.Gl
variable {P:Program} {Z:AE}
def Sat.rot {l:List At} {a:At} (h:Sat Z (l++[a])):Sat Z (a::l):=h.perm (by
 have:=Nk (l₁:=l) (l₂:=[a])
 simpa using this)
def Cq {l:List At} (h:Sat Z l) (sz:Nat):Sat Z (.own (.l [] true) sz []::l):=(D1 h sz).rot
def iO {l:List At} (h:Sat Z l) {sz:Nat} {es:List (List V)} (hs: ∀e∈es,e.length=sz):Sat Z (.own (.l es true) sz es::l):=(oE h hs).rot
def alF {l:List At} {o:O} {n:Nat} {K:Prop} {Z':AE} (e:B7 Z n o=Z') (hk:Sat Z' (.obj n o::l)->K) (hn:Z n=none:=by assumption) (h:Sat Z l:=by assumption):K:=hk (e ▸ (gp h hn).rot)
def I7 {α:Type}: ∀ {l:List α} {j:Nat} {a:α},l[j]? =some a->l.Perm (a::l.eraseIdx j)
 | x::r,0,a,h=>by simp at h;subst h;simp
 | x::r,j+1,a,h=>by
   simp only[zi]at h;simp only[List.eraseIdx_cons_succ];exact((I7 h).cons x).trans (.swap _ _ _)
def Sat.front {l:List At} {j:Nat} {a:At} (h:Sat Z l) (hj:l[j]? =some a):Sat Z (a::l.eraseIdx j):=h.perm (I7 hj)
def Sat.back {l:List At} {j:Nat} {a:At} (h:Sat Z (a::l.eraseIdx j)) (hj:l[j]? =some a):Sat Z l:=h.perm (I7 hj).symm
def BQ.rf {f:FuncId} {args:List V} {a:At} {Φ:R->Prop} (h:BQ P f args [a] fun r post=>Φ r/\post= [a]) {l:List At} {j:Nat} (hs:Sat Z l) (hj:l[j]? =some a) {Q:R->AE->Prop} (hk: ∀r Z',Φ r->Sat Z' l->Q r Z'):Au P f args Z Q:=by
 refine h.use (rest:=l.eraseIdx j) (hs.front hj) ?_;rintro r post Z' ⟨hr,rfl⟩ hs';exact hk r Z' hr (Sat.back hs' hj)
def s1b {l:List At} {i n off:Nat} {vs:List V} {x:V} {K:AE->Prop} (hk: ∀Z',Sat Z' (l.set i (.box n (vs.set off x)))->K Z') (h:Sat Z l:=by assumption)
    (hi:l[i]? =some (.box n vs):=by first|exact Sa|exact SZ|exact SY|exact SX|exact SW|exact SV)
    (h1:CR x=true:=by first|rfl|exact H4 (by assumption) 0 rfl|exact H4 (by assumption) 1 rfl|exact H4 (by assumption) 2 rfl|exact H4 (by assumption) 3 rfl|(simp<;>fail)) (ho:off+1<=vs.length:=by exact Nat.le_of_ble_eq_true rfl):AS Z 1 (.p n off) x K:=
 Mg h i hi h1 ho hk
def snb {l:List At} {i n off sz:Nat} {vs vc:List V} {x:V} {K:AE->Prop} (hk: ∀Z',Sat Z' (l.set i (.box n (putAt vs off vc)))->K Z') (h:Sat Z l:=by assumption)
    (hi:l[i]? =some (.box n vs):=by first|exact Sa|exact SZ|exact SY|exact SX|exact SW|exact SV)
    (hc:cellsOf x=some vc:=by rfl) (hl:vc.length=sz:=by rfl) (h1:vc.all CR=true:=by first|rfl|(simp<;>fail)|(simp[*]<;>fail)) (ho:off+sz<=vs.length:=by exact Nat.le_of_ble_eq_true rfl):AS Z sz (.p n off) x K:=
 Ir h i hi hc hl h1 ho hk
def iap {sz m n o:Nat} {ki:IntKind} {j:Int} {K:V->Prop} (h:K (.p n (o+j.toNat*sz))) (h0:0<=j:=by omega) (h1:j<m:=by omega):AR sz (some m) (.p n o) (.i ki j) K:=⟨h0,h1,h⟩
def iar {sz m:Nat} {cs:List V} {ki:IntKind} {j:Int} {K:V->Prop} (h:K (.rp (cs.drop (j.toNat*sz)))) (h0:0<=j:=by omega) (h1:j<m:=by omega):AR sz (some m) (.rp cs) (.i ki j) K:=⟨h0,h1,h⟩
def ui {l:List At} (h:Sat Z l) (i:Nat) {v:V} {sz:Nat} {es es':List (List V)} (hi:l[i]? =some (.own v sz es)) (he: ∀Z2,Fa Z Z2 es es'): ∃Z2,Sub Z2 Z/\F3 Z Z2 v (.l es' false)/\Sat Z2 (l.eraseIdx i):=by
 rcases h.get hi with⟨rfl,_⟩|⟨n,cap,rfl,hn⟩
 .exact⟨Z,fun _ _ h=>h,.l (fun h=>(by cases h)) (he _),h.less (List.eraseIdx_sublist _ _)⟩
 .refine⟨del Z n,GY Z n,.arr hn (De Z n) rfl (he _),?_⟩
  refine⟨fun b hb=>?_,h.2.sublist (List.eraseIdx_sublist _ _)⟩;refine Fc (h.1 b (List.mem_of_mem_eraseIdx hb)) fun m hm=>?_
  rw[Hp];intro e;subst e;exact FU h.2 hi b hb m rfl hm
def oD {l:List At} (h:Sat Z l) {sz:Nat} {z:List V} {n m:Nat} {K:V->AE->Prop} (hnm:n<=m) (hn:m<=1073741824) (hk: ∀v Z',Sat Z' (.own v sz (List.replicate n z)::l)->(∃id,v= .sl id n m)->K v Z') {ki kj:IntKind} :
    AJ Z sz z (.i ki (n:Int)) (.i kj (m:Int)) K:=by
 refine⟨by omega,by omega,by omega,fun id hid=>?_⟩;simp only[Fi];refine hk _ _ (h.add (a:= .own (.sl id n m) sz (List.replicate n z)) (fun b hb=>Fc hb fun m hm=>?_) (fun b hb m hm hb'=>?_) (.inr ⟨id,m,by simp,by simp[B7]⟩)).rot ⟨id,rfl⟩
 .obtain⟨o,ho⟩:=C2 hb hm
  rw[Cm];intro e;subst e;rw[hid]at ho;cases ho
 .cases hm
  obtain⟨o,ho⟩:=C2 hb hb';rw[hid]at ho;cases ho
def sV {Z:AE} {l:List At} {i:Nat} {v:V} {sz:Nat} {es:List (List V)} (hs:Sat Z l) (hi:l[i]? =some (.own v sz es)) (he: ∀e∈es,e.length=sz) (hm:es.length<=Aa) {K:V->AE->Prop} (hk: ∀Z',Sat Z' (l.eraseIdx i)->K (.l es true) Z'):AQ Z sz v none (some (.i .i64 (es.length:Int))) (some (.i .i64 (es.length:Int))) K:=by
 rcases hs.get hi with⟨rfl,_⟩|⟨n,cap,rfl,hn⟩
 .refine⟨he,?_⟩
  simp only[Ow];refine⟨Int.le_refl _,Int.natCast_nonneg _,Int.le_refl _,trivial,?_⟩;have:=hk Z (hs.less (List.eraseIdx_sublist _ _));simpa using this
 .unfold AQ
  simp only[Ow];refine⟨Int.le_refl _,Int.natCast_nonneg _,Int.le_refl _,trivial,trivial,trivial,?_⟩;rw[hn];refine⟨rfl,rfl,rfl,.inl (hk _ ?_)⟩;refine⟨fun b hb=>?_,hs.2.sublist (List.eraseIdx_sublist _ _)⟩;refine Fc (hs.1 b (List.mem_of_mem_eraseIdx hb)) fun m hm=>?_
  rw[Hp];intro e;subst e;exact FU hs.2 hi b hb m rfl hm
end Go.Gl
namespace Go.Gl
variable {P:Program} {Z:AE} {env:Env}
structure Hd (G:Prop):Prop where
 h:G
class KI (K:Env->AE->Prop) (A:outParam (Env->AE->Prop)):Prop where
 h: ∀env Z,A env Z->K env Z
class KJ (K:(Env->AE->Prop)×(Env->V->AE->Prop)) (A:outParam (Env->AE->Prop)) (B:outParam (Env->V->AE->Prop)):Prop where
 h: ∀env Z,A env Z->K.1 env Z
 g: ∀env v Z,B env v Z->K.2 env v Z
class KN (K:(Env->AE->Prop)×(V->AE->Prop)) (A:outParam (Env->AE->Prop)) (B:outParam (V->AE->Prop)):Prop where
 h: ∀env Z,A env Z->K.1 env Z
 g: ∀v Z,B v Z->K.2 v Z
instance (priority:=low) {K A:Env->AE->Prop} [i:KI K A]:QH (K env Z) (A env Z):=⟨i.h _ _⟩
instance {K:(Env->AE->Prop)×(Env->V->AE->Prop)} {A:Env->AE->Prop} {B:Env->V->AE->Prop} [i:KJ K A B]:QH (K.1 env Z) (A env Z):=⟨i.h _ _⟩
instance {K:(Env->AE->Prop)×(Env->V->AE->Prop)} {A:Env->AE->Prop} {B:Env->V->AE->Prop} {v:V} [i:KJ K A B]:QH (K.2 env v Z) (B env v Z):=⟨i.g _ _ _⟩
instance {K:(Env->AE->Prop)×(V->AE->Prop)} {A:Env->AE->Prop} {B:V->AE->Prop} [i:KN K A B]:QH (K.1 env Z) (A env Z):=⟨i.h _ _⟩
instance {K:(Env->AE->Prop)×(V->AE->Prop)} {A:Env->AE->Prop} {B:V->AE->Prop} {v:V} [i:KN K A B]:QH (K.2 v Z) (B v Z):=⟨i.g _ _⟩
instance {A:Prop}:QH (EX P [] env Z/\A) A:=⟨dr⟩
class ZK (G:Prop) (α:outParam Type) (β:outParam (α->Prop)) (G':outParam (α->Prop)):Prop where
 h:(∀x,β x->G' x)->G
def zk {G:Prop} {α:Type} {β G':α->Prop} [i:ZK G α β G'] (h: ∀x,β x->G' x):G:=i.h h
instance {l:List Nat} {a b:AV} {Q:Ac->Env->AE->Prop}:ZK (W P (.seq l a b) Q env Z) (Env->AE->Prop) (fun K=>KI K fun env Z=>pk l env fun E=>W P b Q E Z) (fun K=>W P a (Ac.andThen K Q) env Z):=⟨fun h=>sq fun K U=>h K ⟨U⟩⟩
instance {ops:List Ar} {Q:Ac->Env->AE->Prop}:ZK (W P (.DB ops) Q env Z) ((Env->AE->Prop)×(Env->V->AE->Prop)) (fun K=>KJ K (fun env Z=>Q .normal env Z) fun env v Z=>Q (.Bk v) env Z) (fun K=>WT P ops K.1 K.2 env Z):=⟨fun h=>DP fun A B hA hB=>h (A,B) ⟨hA,hB⟩⟩
instance {l:List Nat} {ops:List Cr} {Q:Ac->Env->AE->Prop}:ZK (W P (.He l ops) Q env Z) ((Env->AE->Prop)×(V->AE->Prop)) (fun K=>KN K (fun env Z=>pk l env fun E=>Q .normal E Z) fun v Z=> ∀Z',Sub Z Z'->Q (.Bk v) [] Z') (fun K=>WD P ops K.1 K.2 env Z):=⟨fun h=>ct fun A B hA hB=>h (A,B) ⟨hA,hB⟩⟩
def zg {G G':Prop} (h:G') (t:Hd G'->G:=by
 intro h
 (first|refine⟨rfl,?_⟩|refine⟨kZ,?_⟩|fail)
 exact h.h):G:=t ⟨h⟩
def zn {G G':Prop} (h:G') (t:Hd G'->G:=by
 intro h
 (first|refine⟨rfl,?_⟩|refine⟨kZ,?_⟩|refine ld ?_|refine ix ?_|refine zx ?_|refine sk1 ?_|refine oi ?_|refine oc ?_|refine af ?_|fail)
 exact h.h):G:=t ⟨h⟩
def zX {G G':Prop} (h:G') (t:Hd G'->G:=by
 intro h
 (first|refine⟨rfl,?_⟩|refine⟨kZ,?_⟩|refine ix ?_|refine zx ?_|refine sk1 ?_|refine tR ?_|refine iqk ?_|refine lo ?_|refine slq ?_|refine ld ?_|refine oi ?_|refine oc ?_|refine oi2 ?_|refine oc2 ?_|refine AAI ?_|refine sw ?_|refine af ?_|refine cft ?_|refine cff ?_|refine AAU ?_|refine AAV ?_|(refine z6 (fun hc=>?_);(try rw[hc]);clear hc)|(refine fcn (fun hc=>?_);(try rw[hc]);clear hc)|fail)
 exact h.h):G:=t ⟨h⟩
def zY {G G':Prop} (h:G') (t:Hd G'->G:=by
 intro h
 (first|refine⟨rfl,?_⟩|refine⟨kZ,?_⟩|refine ix ?_|refine zx ?_|refine sk1 ?_|refine iap ?_|refine iar ?_|refine tR ?_|refine iqk ?_|refine lo ?_|refine slq ?_|refine ld ?_|refine oi ?_|refine oc ?_|refine oi2 ?_|refine oc2 ?_|refine AAI ?_|refine sw ?_|refine af ?_|refine cft ?_|refine cff ?_|refine AAU ?_|refine AAV ?_|(refine z6 (fun hc=>?_);(try rw[hc]);clear hc)|(refine fcn (fun hc=>?_);(try rw[hc]);clear hc)|fail)
 exact h.h):G:=t ⟨h⟩
def zC {G G':Prop} (h:G') (t:Hd G'->G:=by
 intro h
 first|refine c1.use ?_|refine c2.use ?_|refine c3.use ?_|refine c4.use ?_|refine c5.use ?_|refine c6.use ?_|refine c0.use ?_|refine Pure.use (by assumption) ?_|fail
 exact h.h):G:=t ⟨h⟩
def zs {G:Prop} {α:Type} {β G':α->Prop} (h: ∀x,β x->G' x) (t:Hd (∀x,β x->G' x)->G:=by
 intro h
 first|refine os2 fun Z hs=>?_|refine s1b fun Z hs=>?_|refine snb fun Z hs=>?_|refine oset fun Z hs=>?_|fail
 exact h.h Z hs):G:=t ⟨h⟩
def zr {G:Prop} {α:Type} {β G':α->Prop} (h: ∀x,β x->G' x) (t:Hd (∀x,β x->G' x)->G:=by
 intro h
 first|refine os2 fun Z hs=>?_|refine s1 fun Z hs=>?_|refine sn fun Z hs=>?_|refine oset fun Z hs=>?_|fail
 exact h.h Z hs):G:=t ⟨h⟩
def ze {G:Prop} {α:Type} {β G':α->Prop} (h: ∀x,β x->G' x) (t:Hd (∀x,β x->G' x)->G:=by
 intro h
 first|refine iqF fun x hx=>?_|refine iq fun x hx=>?_|refine ol fun x hx=>?_|refine ol2 fun x hx=>?_|fail
 exact h.h x hx):G:=t ⟨h⟩
def zo {G:Nat->Prop} {β:Nat->Prop} {γ G':Nat->AE->Prop} (h: ∀n,β n-> ∀Z,γ n Z->G' n Z) (t:Hd (∀n,β n-> ∀Z,γ n Z->G' n Z)-> ∀n,β n->G n:=by
 intro h nn hnn;generalize hg:B7 _ nn _=Z;refine alF hg fun hs=>?_
 clear hg
 exact h.h nn hnn Z hs): ∀n,β n->G n:=t ⟨h⟩
def zp {G:Nat->Prop} {β:Nat->Prop} {γ G':Nat->AE->Prop} (h: ∀n,β n-> ∀Z,γ n Z->G' n Z) (t:Hd (∀n,β n-> ∀Z,γ n Z->G' n Z)-> ∀n,β n->G n:=by
 intro h nn hnn;generalize hg:B7 _ nn _=Z;refine al hg fun hs=>?_
 clear hg
 exact h.h nn hnn Z hs): ∀n,β n->G n:=t ⟨h⟩
def zb {A B:Prop} {b c d:Bool} {p q A' B':Prop} (h1:p->A') (h2:q->B')
    (t1 : Hd (p->A')->b=c->A:=by
     intro h hc
     (try rw[hc])
     replace hc:=bp hc
     first
      | (refine False.elim ((fun(_:Hd (False->True))=>(?_:False)) h);(try simp(disch:=omega) only[B9,wrap64,Ag]at hc);first|done|omega|fail)
      | ((try simp(disch:=omega) only[B9,wrap64,Ag]at hc);exact h.h hc)
      | fail)
    (t2 : Hd (q->B')->b=d->B:=by
     intro h hc
     (try rw[hc])
     replace hc:=bp hc
     first
      | (refine False.elim ((fun(_:Hd (False->True))=>(?_:False)) h);(try simp(disch:=omega) only[B9,wrap64,Ag]at hc);first|done|omega|fail)
      | ((try simp(disch:=omega) only[B9,wrap64,Ag]at hc);exact h.h hc)
      | fail):(b=c->A)/\(b=d->B):=⟨t1 ⟨h1⟩,t2 ⟨h2⟩⟩
def za {A B:Prop} {b c d:Bool} {p q A' B':Prop} (h1:p->A') (h2:q->B')
    (t1:Hd (p->A')->b=c->A:=by intro h hc;(try rw[hc]);replace hc:=bp hc;exact h.h hc)
    (t2:Hd (q->B')->b=d->B:=by intro h hc;(try rw[hc]);replace hc:=bp hc;exact h.h hc):(b=c->A)/\(b=d->B):=⟨t1 ⟨h1⟩,t2 ⟨h2⟩⟩
def zd {A B:Prop} {b c d:Bool} {p q A' B':Prop} (h1:p->A') (h2:q->B')
    (t1 : Hd (p->A')->b=c->A:=by
     intro h hc
     (try rw[hc])
     replace hc:=bp hc
     first
      | (refine False.elim ((fun(_:Hd (False->True))=>(?_:False)) h);simp(disch:=omega) only[B9,wrap64,Ag]at hc;done)
      | ((try simp(disch:=omega) only[B9,wrap64,Ag]at hc);exact h.h hc)
      | fail)
    (t2 : Hd (q->B')->b=d->B:=by
     intro h hc
     (try rw[hc])
     replace hc:=bp hc
     first
      | (refine False.elim ((fun(_:Hd (False->True))=>(?_:False)) h);simp(disch:=omega) only[B9,wrap64,Ag]at hc;done)
      | ((try simp(disch:=omega) only[B9,wrap64,Ag]at hc);exact h.h hc)
      | fail):(b=c->A)/\(b=d->B):=⟨t1 ⟨h1⟩,t2 ⟨h2⟩⟩
def zh {G G':Prop} (h:G') (t:Hd G'->G:=by
 intro h
 conv=>whnf
 repeat((first|clear hKz Kz|apply st|(apply zk;intro Kz hKz)|refine zg ?_|fail);try(conv=>whnf))
 repeat(first|clear hKz Kz|revert hKz Kz)
 exact h.h):G:=t ⟨h⟩
def zu {G G':Prop} (h:G') (t:Hd G'->G:=by
 intro h
 conv=>whnf
 repeat((first|clear hKz Kz|apply st|(apply zk;intro Kz hKz)|refine zn ?_|fail);try(conv=>whnf))
 repeat(first|clear hKz Kz|revert hKz Kz)
 exact h.h):G:=t ⟨h⟩
def zv {G G':Prop} (h:G') (t:Hd G'->G:=by
 intro h
 conv=>whnf
 repeat((first|clear hKz Kz|apply st|(apply zk;intro Kz hKz)|refine zX ?_|fail);try(conv=>whnf))
 repeat(first|clear hKz Kz|revert hKz Kz)
 exact h.h):G:=t ⟨h⟩
def zz {G G':Prop} (h:G') (t:Hd G'->G:=by
 intro h
 conv=>whnf
 repeat((first|clear hKz Kz|apply st|(apply zk;intro Kz hKz)|refine zY ?_|fail);try(conv=>whnf))
 repeat(first|clear hKz Kz|revert hKz Kz)
 exact h.h):G:=t ⟨h⟩
def zW {G:Prop} (t:G:=by
 conv=>whnf
 repeat'((first|clear U K|apply st|(apply zk;intro K U)|refine zY ?_|refine ze fun x hx=>?_|refine zs fun Z hs=>?_|refine zC ?_|(refine zb (fun hc=>?_) (fun hc=>?_)<;>try exact⟨⟩)|refine zo fun nn hnn Z hs=>?_|fail)<;>try(conv=>whnf))
 all_goals first|exact AH rfl|fail):G:=t
end Go.Gl
namespace Go.Gl
def axI (n:Nat):List Nat->List Nat
 | []=>[n]
 | x::r=>bif Nat.beq n x then x::r else bif Nat.ble n x then n::x::r else x::axI n r
def axU:List Nat->List Nat->List Nat
 | [],l=>l
 | n::r,l=>axU r (axI n l)
def axD (n:Nat):List Nat->List Nat
 | []=>[]
 | x::r=>bif Nat.beq x n then r else x::axD n r
def axS:List Nat->List Nat->List Nat
 | [],l=>l
 | n::r,l=>axS r (axD n l)
def axO (o:Ar) (n:List Nat):List Nat:=axU (looks o) (match o.dst with|some d=>axD d n|none=>n)
def ta:List Ar->List Nat->List Nat
 | [],n=>n
 | o::r,n=>axO o (ta r n)
def axX (i:Nat):List (Nat×List Nat)->List Nat
 | []=>[]
 | (j,l)::r=>bif Nat.beq i j then l else axX i r
def YZ (rs:List Nat):AV->List (Nat×List Nat)->List Nat->List Nat
 | .skip,_,n=>n
 | .ret,_,_=>rs
 | .exit i,X,_=>axX i X
 | .DB ops,_,n=>ta ops n
 | .He _ ops,_,n=>ta (ops.map (·.o)) n
 | .seq _ a b,X,n=>YZ rs a X (YZ rs b X n)
 | .cond c a b,X,n=>axU (rd c) (axU (YZ rs a X n) (YZ rs b X n))
 | .block i a,X,n=>YZ rs a ((i,n)::X) n
 | .scope a,X,n=>YZ rs a X n
 | .D8 _ g ps a b,_,n=>axU (rd g) (axU n (axS ps (YZ [] a [] (YZ [] b [] []))))
 | .loop _ a,X,_=>YZ rs a X []
def dE (rs:List Nat):AV->List (Nat×List Nat)->List Nat->AV
 | .skip,_,_=> .skip
 | .ret,_,_=> .ret
 | .exit i,_,_=> .exit i
 | .DB ops,_,_=> .DB ops
 | .He _ ops,_,n=> .He n ops
 | .seq _ a b,X,n=> .seq (YZ rs b X n) (dE rs a X (YZ rs b X n)) (dE rs b X n)
 | .cond c a b,X,n=> .cond c (dE rs a X n) (dE rs b X n)
 | .block i a,X,n=> .block i (dE rs a ((i,n)::X) n)
 | .scope a,X,n=> .scope (dE rs a X n)
 | .D8 _ g ps a b,_,_=> .D8 (axS ps (YZ [] a [] (YZ [] b [] []))) g ps (dE [] a [] (YZ [] b [] [])) (dE [] b [] [])
 | .loop _ a,X,_=> .loop (YZ rs a X []) (dE rs a X (YZ rs a X []))
variable {P:Program}
def CtrX (P:Program) (k n:Nat) (ac:AV) (rs:List Nat):Prop:= ∀ ⦃args:List V⦄,args.length<=n-> ∀ ⦃Z:AE⦄ ⦃Q:R->AE->Prop⦄,W P ac (gz rs Q) (BA 0 args) Z->Au P k args Z Q
def ABe (P:Program) (k n:Nat) (ac:AV) (rs:List RS):Prop:= ∀ ⦃args:List V⦄,args.length<=n-> ∀ ⦃Z:AE⦄ ⦃Q:R->AE->Prop⦄,W P ac (WK rs Q) (BA 0 args) Z->Au P k args Z Q
def axR:RS->Nat
 | .t n=>n
 | .c n _=>n
def cX {k n:Nat} {fn:Func} {ac:AV} {rs:List Nat} (pu fz:List Nat) (hf:P.funcs[k]? =some fn)
    (hn:fn.ntmps=n:=by conv=>lhs;reduce)
    (hr:Gx fn.results.toList=some rs:=by conv=>lhs;reduce)
    (hc:dE rs ((fn.body.bind (res P fn.ntmps pu fz)).getD .skip) [] rs=ac:=by conv=>lhs;reduce;try simp only[Int.reduceOfNat,Int.reduceNegSucc])
    (hb:fn.body.bind (res P fn.ntmps pu fz)=some (erase ac):=by kernel_rfl) (hok:okF P k=true:=by kernel_rfl):CtrX P k n ac rs:=
 fun _ ha _ _ h=>L5 hf hok hb hr (hn ▸ ha) (np h)
def Sx {k n:Nat} {fn:Func} {ac:AV} {rs:List RS} (pu fz:List Nat) (hf:P.funcs[k]? =some fn)
    (hn:fn.ntmps=n:=by conv=>lhs;reduce)
    (hr:Np P fn.results.toList=some rs:=by conv=>lhs;reduce)
    (hc:dE (rs.map axR) ((fn.body.bind (res P fn.ntmps pu fz)).getD .skip) [] (rs.map axR)=ac:=by conv=>lhs;reduce;try simp only[Int.reduceOfNat,Int.reduceNegSucc])
    (hb:fn.body.bind (res P fn.ntmps pu fz)=some (erase ac):=by kernel_rfl) (hok:okF P k=true:=by kernel_rfl):ABe P k n ac rs:=
 fun _ ha _ _ h=>E8 hf hok hb hr (hn ▸ ha) (np h)
end Go.Gl
namespace Go.Gl
open Go.Proofs
set_option maxRecDepth 100000
def AAS:=cX [] [1] Tryz.func4
def iU:=cX [] [2] Tryz.func18
def iT:=cX [] [2] Tryz.func19
def sU:=cX [] [2] Tryz.func20
def sT:=cX [] [2] Tryz.func21
def ABX:=cX [] [] Tryz.func22
def ABW:=cX [] [2,3] Tryz.func27
def ABV:=cX [] [2] Tryz.func28
def ABU:=cX [] [1] Tryz.func29
def ABT:=cX [] [] Tryz.func34
def ABS:=cX [] [1] Tryz.func36
def ABR:=cX [] [] Tryz.func40
def sS:=cX [] [] Tryz.func49
set_option maxRecDepth 100000
def ABQ:=Sx [] [1] Tryz.func53
def iS:=Sx [] [3] Tryz.func59
def sR:=cX [] [2] Tryz.func62
def ABP:=cX [] [2] Tryz.func64
def ABO:=Sx [] [1] Tryz.func68
def ABN:=Sx [] [2,3] Tryz.func70
def ABM:=cX [] [1] Tryz.func71
def ABL:=cX [] [2] Tryz.func72
def ABK:=cX [] [1] Tryz.func73
def ABJ:=cX [] [2,3] Tryz.func74
def sQ:=cX [] [2] Tryz.func75
def ABI:=cX [] [2] Tryz.func76
def ABH:=cX [] [3] Tryz.func77
def ABG:=cX [] [2,3] Tryz.func86
def ABF:=cX [] [2] Tryz.func87
def ABE:=cX [] [2] Tryz.func88
def ABD:=cX [] [2] Tryz.func89
def sP:=Sx [] [1] Tryz.func92
def ABC:=cX [] [] Tryz.func95
def ABB:=cX [] [] Tryz.func96
def ABA:=cX [] [1] Tryz.func97
set_option maxRecDepth 100000
def zA:=cX [] [2] Tryz.func101
def y9:=cX [] [] Tryz.func102
def y8:=Sx [] [2] Tryz.func103
def y7:=cX [] [1] Tryz.func105
def jv:=cX [] [1,16] Tryz.func114
def ju:=cX [] [] Tryz.func117
def y6:=cX [] [2] Tryz.func118
def y5:=cX [] [1,19] Tryz.func122
def y4:=Sx [] [] Tryz.func124
def y3:=cX [] [2,3] Tryz.func125
def y2:=cX [] [2,3] Tryz.func126
abbrev kP:AV:=(.DB [⟨(some 4),.alloc [(.b false)],none⟩])
def r8:List Ar:=[⟨(some 5),.gI (.func 191) [] [(.t 4)],none⟩]
abbrev kN:AV:=(.seq [4] (.DB [⟨(some 6),.mv (.t 0),none⟩,
 ⟨(some 7),.mv (.t 1),none⟩,
 ⟨(some 8),.call 128 [(.t 6),(.t 7)],none⟩,
 ⟨(some 9),.call 192 [(.t 8)],none⟩])
 (.seq [4] (.DB [⟨none,.store 1 (.t 4) (.c (.b true)),none⟩])
 .ret))
def ts:Tryz.f127.body.bind (Lg Tryz.prog Tryz.f127.ntmps [] [])=some (erase kP,r8,(.t 5),erase kN):=by kernel_rfl
def y1 {args:List V} (hn:args.length<=10) {Z:AE} {Q:R->AE->Prop} (h:W Tryz.prog (.seq [0,1,4] kP (.DB r8)) (Cd (gy Tryz.prog (.t 5) [0,1,4] kN [.c 4 none] Q)) (BA 0 args) Z):Au Tryz.prog 127 args Z Q:=
 JE Tryz.func127 (by kernel_rfl) ts (by kernel_rfl) hn (sd h)
def y0:=cX [] [11] Tryz.func128
def ZA:=Sx [] [2] Tryz.func131
def yz:=cX [] [1] Tryz.func132
def yy:=Sx [] [2] Tryz.func133
def yx:=cX [] [] Tryz.func134
def jt:=cX [] [3] Tryz.func135
def yw:=cX [] [2] Tryz.func136
def yu:=cX [] [1] Tryz.func138
def yr:=cX [] [2,3] Tryz.func139
def yq:=cX [] [] Tryz.func140
def yp:=cX [] [] Tryz.func141
def yo:=Sx [] [] Tryz.func142
def Y9:=cX [] [2,3] Tryz.func143
def yn:=cX [] [] Tryz.func144
def ym:=cX [] [2,3] Tryz.func145
set_option maxRecDepth 100000
def yl:=cX [] [2,3] Tryz.func146
def yk:=cX [] [1] Tryz.func148
def yj:=cX [] [2,3] Tryz.func149
def yi:=cX [] [1] Tryz.func150
def yh:=Sx [] [1] Tryz.func151
def yg:=cX [] [1] Tryz.func155
def yf:=cX [] [1] Tryz.func156
def js:=cX [] [6] Tryz.func157
def ye:=cX [] [] Tryz.func158
def yd:=cX [] [] Tryz.func159
def yc:=cX [] [] Tryz.func160
def Uy:=cX [] [2] Tryz.func161
def yb:=cX [] [] Tryz.func170
def ya:=cX [] [] Tryz.func171
def yZ:=cX [] [1] Tryz.func174
def yY:=cX [] [2] Tryz.func175
def yX:=cX [] [1] Tryz.func180
def yW:=cX [] [] Tryz.func182
def yV:=cX [] [] Tryz.func183
def jr:=cX [] [2] Tryz.func184
def yU:=cX [] [] Tryz.func185
def yT:=cX [] [] Tryz.func186
def yS:=cX [] [4,5,6] Tryz.func187
def yR:=cX [] [5] Tryz.func188
def yQ:=cX [] [] Tryz.func189
def yP:=cX [] [] Tryz.func190
def r5:List Ar:=[⟨(some 5),.gF 260 (.a []) true (.t 4),none⟩,
    ⟨(some 3),.mv (.t 5),none⟩,
    ⟨(some 6),.extract 0 (.t 3),none⟩,
    ⟨(some 7),.extract 1 (.t 3),none⟩,
    ⟨(some 1),.alloc [],none⟩,
    ⟨none,.store 0 (.t 1) (.t 6),none⟩,
    ⟨(some 2),.mv (.t 7),none⟩]
abbrev kL:AV:=(.seq [0,8] (.DB [⟨(some 8),.mv (.t 2),none⟩])
 (.cond (.t 8)
 (.DB [⟨none,.store 1 (.t 0) (.c (.b false)),none⟩])
 .skip))
def tr:Tryz.f191.body.bind (resRec Tryz.prog Tryz.f191.ntmps [] [])=some (4,r5,erase kL):=by kernel_rfl
def cM {args:List V} (hn:args.length<=9) {m:Option V} {Z:AE} {Q:AE->Prop} (h:W Tryz.prog (.seq [0,2] (.DB r5) kL) (Pd Q) (put (some 4) (m.getD .D0) (BA 0 args)) Z):H7 Tryz.prog 191 args m Z Q:=
 K0 Tryz.func191 (by kernel_rfl) tr rfl hn (np h)
def yO:=cX [] [] Tryz.func192
def yN:=cX [] [3] Tryz.func193
set_option maxRecDepth 100000
def yM:=cX [] [3] Tryz.func194
def yL:=cX [] [3] Tryz.func195
def yK:=cX [] [3] Tryz.func196
def yJ:=Sx [] [] Tryz.func199
def jq:=cX [] [] Tryz.func200
def Y8:=cX [] [] Tryz.func201
def yI:=Sx [] [3] Tryz.func202
def yH:=cX [] [3] Tryz.func203
def yG:=cX [] [3,4,5] Tryz.func204
def yF:=cX [] [1] Tryz.func205
def yE:=cX [] [3] Tryz.func206
def yD:=cX [] [4,5] Tryz.func207
def Y7:=cX [] [7] Tryz.func208
def yC:=cX [] [4,5,7] Tryz.func209
def yB:=cX [] [] Tryz.func210
def Ux:=cX [] [] Tryz.func211
def yA:=cX [] [] Tryz.func212
def x9:=Sx [] [] Tryz.func214
def x8:=cX [] [3] Tryz.func215
def jo:=cX [] [3,4] Tryz.func216
def x7:=cX [] [4,5] Tryz.func217
def x6:=cX [] [] Tryz.func218
def x5:=cX [] [2] Tryz.func219
def x4:=cX [] [2] Tryz.func220
def x3:=cX [] [1] Tryz.func221
def xz:=cX [] [1] Tryz.func222
def xy:=cX [] [1] Tryz.func223
def xx:=Sx [] [1] Tryz.func224
def xw:=cX [] [2,3] Tryz.func227
def xv:=cX [] [4,5] Tryz.func229
def xu:=cX [] [] Tryz.func232
def xr:=cX [] [] Tryz.func233
def xq:=cX [] [3] Tryz.func234
def xp:=cX [] [] Tryz.func235
def xn:=cX [] [2,3] Tryz.func236
def xm:=cX [] [3,4] Tryz.func237
def xl:=cX [] [] Tryz.func239
def Y6:=cX [] [4] Tryz.func240
set_option maxRecDepth 100000
def jn:=cX [] [] Tryz.func242
def xk:=cX [] [] Tryz.func243
def xj:=cX [] [] Tryz.func245
def jm:=cX [] [3] Tryz.func246
def xi:=cX [] [] Tryz.func247
def xh:=cX [] [3] Tryz.func248
def xg:=cX [] [2] Tryz.func249
def xf:=cX [] [4,5,6,7] Tryz.func250
def xe:=cX [] [] Tryz.func258
def xd:=cX [] [3] Tryz.func259
def xc:=cX [] [] Tryz.func260
def xb:=cX [] [1] Tryz.func261
def xa:=cX [] [3] Tryz.func262
def xZ:=cX [] [] Tryz.func263
def xY:=cX [] [] Tryz.func264
def xX:=cX [] [] Tryz.func265
def xW:=cX [] [2] Tryz.func266
def jl:=cX [] [3] Tryz.func267
def xV:=cX [] [] Tryz.func268
def xU:=cX [] [3] Tryz.func269
def xT:=cX [] [4] Tryz.func270
def jk:=cX [] [2] Tryz.func272
def xS:=cX [] [] Tryz.func273
def xR:=cX [] [3] Tryz.func274
def xQ:=cX [] [] Tryz.func275
def xP:=cX [] [] Tryz.func276
def xO:=cX [] [2,3] Tryz.func277
def xN:=cX [] [] Tryz.func278
def xM:=cX [] [] Tryz.func279
abbrev kO:AV:=(.DB [⟨(some 2),.alloc [(.b false)],none⟩])
def rz:List Ar:=[⟨(some 3),.gI (.func 322) [] [(.t 2)],none⟩]
abbrev kK:AV:=(.seq [2] (.DB [⟨(some 4),.mv (.t 0),none⟩,
 ⟨(some 5),.J7 (.t 4) [],none⟩])
 (.seq [2] (.DB [⟨none,.store 1 (.t 2) (.c (.b true)),none⟩])
 .ret))
def tq:Tryz.f280.body.bind (Lg Tryz.prog Tryz.f280.ntmps [] [])=some (erase kO,rz,(.t 3),erase kK):=by kernel_rfl
def xL {args:List V} (hn:args.length<=6) {Z:AE} {Q:R->AE->Prop} (h:W Tryz.prog (.seq [0,2] kO (.DB rz)) (Cd (gy Tryz.prog (.t 3) [0,2] kK [.c 2 none] Q)) (BA 0 args) Z):Au Tryz.prog 280 args Z Q:=
 JE Tryz.func280 (by kernel_rfl) tq (by kernel_rfl) hn (sd h)
def xK:=cX [] [] Tryz.func281
def xJ:=cX [] [1] Tryz.func282
def jj:=cX [] [] Tryz.func283
def xI:=cX [] [7] Tryz.func284
def xH:=cX [] [3,4,5] Tryz.func285
def xG:=cX [] [3,4] Tryz.func286
def xE:=cX [] [] Tryz.func287
def xD:=cX [] [1] Tryz.func288
def xC:=cX [] [] Tryz.func289
set_option maxRecDepth 100000
def xB:=cX [] [1] Tryz.func290
def xA:=cX [] [] Tryz.func291
def w9:=cX [] [] Tryz.func293
def w8:=Sx [] [2,3] Tryz.func295
def w7:=cX [] [] Tryz.func296
def wz:=cX [] [3,5] Tryz.func297
def wy:=cX [] [3] Tryz.func298
def ji:=cX [] [2] Tryz.func299
def wx:=cX [] [2] Tryz.func300
def jh:=cX [] [] Tryz.func301
def wu:=cX [] [2] Tryz.func302
def wq:=cX [] [] Tryz.func303
def wm:=cX [] [] Tryz.func304
def wk:=cX [] [] Tryz.func305
def wj:=cX [] [4] Tryz.func306
def wi:=cX [] [] Tryz.func310
def wh:=cX [] [] Tryz.func311
def wg:=cX [] [] Tryz.func312
def we:=cX [] [] Tryz.func313
def wc:=cX [] [] Tryz.func314
def wb:=cX [] [] Tryz.func315
def wa:=cX [] [2,3] Tryz.func316
def wZ:=cX [] [] Tryz.func317
def wY:=cX [] [] Tryz.func318
def wX:=cX [] [] Tryz.func319
def wW:=cX [] [] Tryz.func320
def wV:=cX [] [2] Tryz.func321
def ry:List Ar:=[⟨(some 1),.mv (.t 4),none⟩]
abbrev kJ:AV:=(.seq [0,1,6] (.DB [⟨(some 5),.mv (.t 1),none⟩,
 ⟨(some 6),.gK 2 true (.t 5),none⟩])
 (.cond (.t 6)
 (.seq [0] (.seq [0,1,3] (.DB [⟨(some 8),.mv (.t 1),none⟩,
  ⟨(some 9),.gF 377 (.a []) true (.t 8),none⟩,
  ⟨(some 7),.mv (.t 9),none⟩,
  ⟨(some 10),.extract 0 (.t 7),none⟩,
  ⟨(some 11),.extract 1 (.t 7),none⟩,
  ⟨(some 2),.alloc [],none⟩,
  ⟨none,.store 0 (.t 2) (.t 10),none⟩,
  ⟨(some 3),.mv (.t 11),none⟩])
 (.seq [0,1,13] (.DB [⟨(some 12),.mv (.t 3),none⟩,
  ⟨(some 13),.not (.t 12),none⟩])
 (.cond (.t 13)
 (.DB [⟨(some 14),.mv (.t 1),none⟩,
  ⟨none,.panic (.t 14),none⟩])
 .skip)))
 (.DB [⟨none,.store 1 (.t 0) (.c (.b false)),none⟩]))
 .skip))
def tp:Tryz.f322.body.bind (resRec Tryz.prog Tryz.f322.ntmps [] [])=some (4,ry,erase kJ):=by kernel_rfl
def cL {args:List V} (hn:args.length<=15) {m:Option V} {Z:AE} {Q:AE->Prop} (h:W Tryz.prog (.seq [0,1] (.DB ry) kJ) (Pd Q) (put (some 4) (m.getD .D0) (BA 0 args)) Z):H7 Tryz.prog 322 args m Z Q:=
 K0 Tryz.func322 (by kernel_rfl) tp rfl hn (np h)
def wU:=cX [] [] Tryz.func323
def wT:=cX [] [] Tryz.func324
def wS:=cX [] [2] Tryz.func325
def wR:=cX [] [] Tryz.func326
def wQ:=cX [] [4] Tryz.func327
def jg:=cX [] [6] Tryz.func328
def wP:=cX [] [] Tryz.func329
def wO:=cX [] [] Tryz.func330
def wN:=cX [] [] Tryz.func331
def wM:=cX [] [0] Tryz.func332
def wL:=cX [] [2] Tryz.func333
def wK:=cX [] [3] Tryz.func334
def wJ:=cX [] [] Tryz.func335
def wI:=cX [] [] Tryz.func336
set_option maxRecDepth 100000
def wH:=cX [] [3,4,5] Tryz.func338
def wG:=cX [] [] Tryz.func339
def wF:=cX [] [] Tryz.func349
def wE:=cX [] [] Tryz.func350
def OD:=cX [] [1] Tryz.func351
def wD:=cX [] [] Tryz.func352
def wB:=cX [] [] Tryz.func353
def wA:=cX [] [] Tryz.func354
def vw:=cX [] [] Tryz.func355
def vt:=cX [] [] Tryz.func356
def vr:=cX [] [1] Tryz.func357
def vq:=cX [] [1] Tryz.func358
def vo:=cX [] [2] Tryz.func359
def vj:=cX [] [1] Tryz.func365
def vg:=Sx [] [] Tryz.func366
def ve:=Sx [] [3] Tryz.func367
def vd:=cX [] [] Tryz.func368
def vZ:=cX [] [1] Tryz.func369
def vY:=Sx [] [1] Tryz.func370
def vX:=cX [] [1] Tryz.func371
def vW:=cX [] [1] Tryz.func372
def vV:=Sx [] [2] Tryz.func373
def vU:=cX [] [1] Tryz.func374
def vT:=cX [] [] Tryz.func376
def vS:=cX [] [0] Tryz.func377
def vR:=cX [] [] Tryz.func378
def vQ:=cX [] [] Tryz.func379
def jf:=cX [] [] Tryz.func380
def vP:=cX [] [] Tryz.func381
def vO:=cX [] [] Tryz.func382
def vN:=cX [] [4,5] Tryz.func399
def vM:=cX [] [3,4,5] Tryz.func400
@[reducible] noncomputable def zP:=Tryz.prog
end Go.Gl
namespace Go.Gl
open Go.Proofs
attribute [local irreducible] Au Am Ae AR AK AY AQ AS AJ AX AM AO Ao A0 Sat AU Ay Af W
def A5 (p:Prog):List (List Int):=p.AP.map (·.parents)
def tY (p:Prog):Prop:=p.AP.length<=Aa/\ ∀c∈p.AP,c.parents.length<=Aa/\c.AG.length<=Aa/\c.inits.length<=Aa
def bk (p:Prog) (hp:tY p) (hk0:p.AP.length<=1000):Pure zP 122 [.a (BG p)] (.l (EN (A5 p)) false):=by
 refine y5 kZ ?_;refine zh ?_;(repeat clear U K);repeat intro K U
 refine B1 p.AP.length (fun k v=>[(3,v),(4,eI (A4 k))]) (fun k v=>[.own v 1 (EN ((p.AP.take k).map (·.parents)))]) (fun _ _=>True) (.l [] true) rfl trivial (D1 Sat.nil 1) ?_;rintro k v Z hk - hs;refine zh ?_;(repeat clear U K);repeat intro K U
 refine Gu hk hp.1 (fun c hc hlt=>?_) fun hk=>?_
 .have hcm:=hp.2 c (Bp hc)
  refine zh ?_;(repeat clear U K);repeat intro K U
  refine Jv hc hp.1 rfl ?_;refine zh ?_;(repeat clear U K);repeat intro K U
  refine jX Bo (by have:=hcm.1;have hM:=Mx;omega) ?_
  conv=>whnf
  refine GR hs 0 (x:=c.parents) rfl (by have hM:=Mx;simp only[B9,Jl];omega) DK fun v' Z' hs'=>?_
  refine zh ?_;(repeat clear U K);repeat intro K U
  refine⟨hlt,v',rfl,trivial,?_⟩;rw[AN hc,SU];exact hs'
 .refine zh ?_;(repeat clear U K);repeat intro K U
  exact Eg hs 0 rfl (by rw[Aq hk];rfl)
def BU (i:Nat):List Sb->List Int
 | []=>[]
 | c::r=>List.replicate c.AG.length ((i:Int)+3)++BU (i+1) r
def AL (p:Prog):AF:=⟨A5 p,BU 0 p.AP⟩
def Je (i:Nat) (a b:List Sb):BU i (a++b)=BU i a++BU (i+a.length) b:=by
 induction a generalizing i with
 | nil=>simp[BU]
 | cons c r ih=>
   simp only[List.cons_append,BU,ih,PR,LF];rw[show i+1+r.length=i+(r.length+1) by omega]
def Bt (cs:List Sb):Nat:=(cs.map (·.AG.length)).sum
def Cj (i:Nat) (cs:List Sb):(BU i cs).length=Bt cs:=by
 induction cs generalizing i with
 | nil=>rfl
 | cons c r ih=>simp[BU,ih,Bt]
def Rv {cs:List Sb} {k:Nat} {c:Sb} (h:cs[k]? =some c):Bt (cs.take k)+c.AG.length<=Bt cs:=by
 induction cs generalizing k with
 | nil=>cases h
 | cons d r ih=>
   cases k with
   | zero=>simp at h;subst h;simp[Bt]
   | succ k=>simp at h;have:=ih h;simp only[Bt,List.take_succ_cons,FA,List.sum_cons]at *;omega
def Pn (p:Prog) (hp:tY p) (hk0:p.AP.length<=1000) (hm:Bt p.AP<=Aa):Pure zP 53 [.a (BG p)] (.a (Az (AL p))):=by
 refine ABQ kZ ?_
 conv=>whnf
 repeat((first|clear U K|(apply zk;intro K U)|fail);conv=>whnf)
 intro n hn;have hs:=gp (l:=[]) (Z:=emp) Sat.nil hn (o:= .cs [.l [] true,.l [] true]);refine zh ?_;(repeat clear U K);repeat intro K U
 refine(bk p hp hk0).use ?_
 conv=>whnf
 intro m hm;have hs:=gp hs hm (o:= .cs [.l [] true,.l [] true])
 conv=>whnf
 refine Ir hs 1 rfl rfl rfl rfl (by decide) fun Z hs=>?_
 refine zh ?_;(repeat clear U K);repeat intro K U
 refine B1 p.AP.length (fun k _=>[(4,eI (A4 k))]) (fun k v=>[.box n [.l [] true,.l [] true],.box m [.l (EN (A5 p)) false,v],.own v 1 (iL (BU 0 (p.AP.take k)))]) (fun _ _=>True) (.l [] true) rfl trivial (D1 hs 1) ?_;rintro k v Z hk - hs;refine zh ?_;(repeat clear U K);repeat intro K U
 refine Gu hk hp.1 (fun c hc hlt=>?_) fun hk=>?_
 .have hcm:=hp.2 c (Bp hc)
  have htk:=Rv hc;refine zh ?_;(repeat clear U K);repeat intro K U
  refine B1 c.AG.length (fun j _=>[(5,eI (A4 j))]) (fun j v=>[.box n [.l [] true,.l [] true],.box m [.l (EN (A5 p)) false,v],.own v 1 (iL (BU 0 (p.AP.take k)++List.replicate j ((k:Int)+3)))]) (fun _ _=>True) v rfl trivial (by simpa using hs) ?_;rintro j v Z hj - hs;refine zh ?_;(repeat clear U K);repeat intro K U
  refine Jv hc hp.1 rfl ?_;refine zh ?_;(repeat clear U K);repeat intro K U
  refine Gu hj hcm.2.1 (fun s hsl hjlt=>?_) fun hj=>?_
  .refine zh ?_;(repeat clear U K);repeat intro K U
   refine WX hs 1 rfl ?_;refine zh ?_;(repeat clear U K);repeat intro K U
   have he:IntKind.i64.wrap (A4 k+3)=(k:Int)+3:=by
    have:=hp.1;rw[Ag (by omega),wrap64 (by omega) (by simp only[Aa]at *;omega)]
   refine GR hs 2 (x:=IntKind.i64.wrap (A4 k+3)) rfl (by have hM:=Mx;simp only[Nl,Cj,List.length_replicate];omega) Bo fun v' Z' hs'=>?_
   conv=>whnf
   refine Mg hs' 1 rfl (H4 hs' 2 rfl) kZ fun Z2 hs2=>?_
   refine zh ?_;(repeat clear U K);repeat intro K U
   refine⟨hjlt,v',rfl,trivial,?_⟩;rw[List.replicate_succ',<-PR];rw[he]at hs2;exact hs2
  .refine zh ?_;(repeat clear U K);repeat intro K U
   refine⟨hlt,v,rfl,trivial,?_⟩;rw[AN hc,Je];have:(p.AP.take k).length=k:=by simp;omega
   rw[this];simpa[BU,hj]using hs
 .refine zh ?_;(repeat clear U K);repeat intro K U
  refine WX hs 1 rfl ?_;refine zh ?_;(repeat clear U K);repeat intro K U
  refine Ir hs 0 rfl rfl rfl (by simp[H4 hs 2 rfl]) kZ fun Z2 hs2=>?_
  refine zh ?_;(repeat clear U K);repeat intro K U
  refine WX hs2 0 rfl ?_;refine zh ?_;(repeat clear U K);repeat intro K U
  refine A7 (.a (.cons (.refl _) (.cons ?_ .nil)));have:=hs2.GG 2 rfl;rw[Aq hk]at this;exact this
def jV (xs:List Int) (f:Bool) (x:Int) (hx:xs.length<=Aa):Pure zP 296 [.l (iL xs) f,.i .i64 x] (.b (xs.contains x)):=by
 refine w7 kZ ?_;refine zh ?_;(repeat clear U K);repeat intro K U
 refine B1 xs.length (fun k (_:Unit)=>[(5,eI (A4 k))]) (fun _ _=>[]) (fun k _=>x∉xs.take k) () rfl (by simp) Sat.nil ?_;rintro k - Z hk hn -;refine zh ?_;(repeat clear U K);repeat intro K U
 refine Gu hk hx (fun y hy hlt=>?_) fun hk=>?_
 .refine zh ?_;(repeat clear U K);repeat intro K U
  refine Jv hy hx rfl ?_;refine zh ?_;(repeat clear U K);repeat intro K U
  refine b7 (fun he=>?_) (fun he=>?_)
  .refine zh ?_;(repeat clear U K);repeat intro K U
   refine AH ?_;have:x∈xs:=he ▸ Bp hy;simp[this]
  .refine zh ?_;(repeat clear U K);repeat intro K U
   refine⟨hlt,(),rfl,?_,Sat.nil⟩;rw[AN hy];simp only[Dy,KV,not_or];exact⟨hn,fun e=>he e.symm⟩
 .refine zh ?_;(repeat clear U K);repeat intro K U
  refine AH ?_;rw[Aq hk]at hn;simp[hn]
def Ra (xs:List Int) (f:Bool) (x:Int) (hx:xs.length<=Aa):Pure zP 355 [.l (iL xs) f,.i .i64 x] (.l (iL (xs.filter (· != x))) false):=by
 refine vw kZ ?_;refine zh ?_;(repeat clear U K);repeat intro K U
 refine B1 xs.length (fun k v=>[(5,v),(6,eI (A4 k))]) (fun k v=>[.own v 1 (iL ((xs.take k).filter (· != x)))]) (fun _ _=>True) (.l [] true) rfl trivial (D1 Sat.nil 1) ?_;rintro k v Z hk - hs;refine zh ?_;(repeat clear U K);repeat intro K U
 refine Gu hk hx (fun y hy hlt=>?_) fun hk=>?_
 .refine zh ?_;(repeat clear U K);repeat intro K U
  refine Jv hy hx rfl ?_;refine zh ?_;(repeat clear U K);repeat intro K U
  refine qZ (fun he=>?_) (fun he=>?_)
  .conv=>whnf
   repeat((first|clear U K|(apply zk;intro K U)|fail);conv=>whnf)
   refine Jv hy hx rfl ?_;refine zh ?_;(repeat clear U K);repeat intro K U
   refine GR hs 0 (x:=y) rfl (by have:=Ou (· != x) (xs.take k);simp only[Jl]at this;have hM:=Mx;omega) Bo fun v' Z' hs'=>?_
   refine zh ?_;(repeat clear U K);repeat intro K U
   refine⟨hlt,v',rfl,trivial,?_⟩;rw[AN hy,List.filter_append];simpa[he]using hs'
  .refine zh ?_;(repeat clear U K);repeat intro K U
   refine⟨hlt,v,rfl,trivial,?_⟩;rw[AN hy,List.filter_append];simpa[he]using hs
 .refine zh ?_;(repeat clear U K);repeat intro K U
  exact Eg hs 0 rfl (by rw[Aq hk])
def free (ls:List (List Int)) (x:Int):Bool:=ls.all fun l=> !(l.drop 1).contains x
def qW (ls:List (List Int)) (f:Bool) (x:Int) (hl:ls.length<=Aa) (hls: ∀l∈ls,l.length<=Aa):Pure zP 356 [.l (EN ls) f,.i .i64 x] (.b (free ls x)):=by
 refine vt kZ ?_;refine zh ?_;(repeat clear U K);repeat intro K U
 refine B1 ls.length (fun k (_:Unit)=>[(5,eI (A4 k))]) (fun _ _=>[]) (fun k _=> ∀l∈ls.take k,x∉l.drop 1) () rfl (by simp) Sat.nil ?_;rintro k - Z hk hn -;refine zh ?_;(repeat clear U K);repeat intro K U
 refine Gu hk hl (fun y hy hlt=>?_) fun hk=>?_
 .have hb:=hls _ (Bp hy)
  have next:(x∉y.drop 1)-> ∀l∈ls.take (k+1),x∉l.drop 1:=fun hc l hm=>by
   rw[AN hy]at hm;rcases Dy.1 hm with hm|hm
   .exact hn l hm
   .rw[KV.1 hm];exact hc
  refine zh ?_;(repeat clear U K);repeat intro K U
  refine Jv hy hl rfl ?_;refine zh ?_;(repeat clear U K);repeat intro K U
  refine⟨fun h=>?_,fun h=>?_⟩<;>(try rw[h])
  .have hp:=of_decide_eq_true h
   simp only[B9]at hp;refine zh ?_;(repeat clear U K);repeat intro K U
   refine Jv hy hl rfl ?_;refine zh ?_;(repeat clear U K);repeat intro K U
   refine W5 1 rfl (by omega) (fun _=>rfl) ?_;refine zh ?_;(repeat clear U K);repeat intro K U
   refine(jV _ _ _ (by rw[sj];omega)).use ?_;refine zh ?_;(repeat clear U K);repeat intro K U
   refine⟨fun hc=>?_,fun hc=>?_⟩
   .refine zh ?_;(repeat clear U K);repeat intro K U
    refine AH ?_
    have:free ls x=false:=by
     simp only[free,List.all_eq_false];exact⟨y,Bp hy,by simpa using hc⟩
    rw[this]
   .refine zh ?_;(repeat clear U K);repeat intro K U
    exact⟨hlt,(),rfl,next (by simpa using hc),Sat.nil⟩
  .have hp: ¬_:=of_decide_eq_false h
   simp only[B9]at hp;refine zh ?_;(repeat clear U K);repeat intro K U
   refine⟨hlt,(),rfl,next ?_,Sat.nil⟩;rw[List.drop_eq_nil_of_le (by omega)];simp
 .refine zh ?_;(repeat clear U K);repeat intro K U
  rw[Aq hk]at hn;refine AH ?_;have:free ls x=true:=by simpa[free]using hn
  rw[this]
def A3 (ls:List (List Int)) (c:Int):List Int:=if c<3 then []else ls.getD (c - 3).toNat []
def Zb (ls:List (List Int)) (f:Bool) (c:Int) (hc:c<3+ls.length) (hm:ls.length<=Aa):Pure zP 354 [.l (EN ls) f,.i .i64 c] (.l (iL (A3 ls c)) false):=by
 refine wA kZ ?_;refine zh ?_;(repeat clear U K);repeat intro K U
 refine fork (fun h=>?_) (fun h=>?_)
 .refine zh ?_;(repeat clear U K);repeat intro K U
  refine A7 (.l (fun h=>(by cases h)) ?_);rw[A3,if_pos h];exact .nil
 .refine zh ?_;(repeat clear U K);repeat intro K U
  simp only[Aa]at hm;have hlt:(c - 3).toNat<ls.length:=by omega
  refine WI (c - 3).toNat (Cs hlt) (by rw[wrap64 (by omega) (by omega)];omega) rfl ?_;refine zh ?_;(repeat clear U K);repeat intro K U
  refine AH ?_;rw[A3,if_neg h,C6,Cs hlt];rfl
def Ei (ls os:List (List Int)) (c:Int):Option (List (List Int)):=
 if(A3 ls c).any fun p=>(os.getD p.toNat []).isEmpty then none else some ((A3 ls c).map (fun p=>(os.getD p.toNat []).filter (· != 0))++[A3 ls c])
def AAi (o:Option (List (List Int))):V:=match o with|some l=> .t [.l (EN l) false,.b true]|none=> .t [.l [] false,.b false]
def l9 (ls os:List (List Int)) (f:Bool) (w:V) (c:Int) (hc:c<3+ls.length) (hm:ls.length<=Aa) (hos: ∀o∈os,o.length<=Aa) (hpl:(A3 ls c).length<1000000)
    (hp: ∀p∈A3 ls c,0<=p/\p.toNat<os.length):BQ zP 331 [.l (EN ls) f,w,.i .i64 c] [.own w 1 (EN os)] fun r post=>r= .ret (AAi (Ei ls os c))/\post= [.own w 1 (EN os)]:=by
 have hM:=Mx;intro Z hs;refine wN kZ ?_
 conv=>whnf
 repeat((first|clear U K|apply st|(apply zk;intro K U)|fail);conv=>whnf)
 refine(Zb _ _ _ hc hm).use ?_;refine zh ?_;(repeat clear U K);repeat intro K U
 refine B1 (A3 ls c).length (fun k v=>[(8,v),(10,eI (A4 k))]) (fun k v=>[.own w 1 (EN os),.own v 1 (EN (((A3 ls c).take k).map fun p=>(os.getD p.toNat []).filter (· != 0)))]) (fun k _=> ∀p∈(A3 ls c).take k,(os.getD p.toNat []).isEmpty=false)
  (.l [] true) rfl (by simp) (D1 hs 1) ?_
 rintro k v Z hk hne hs;refine zh ?_;(repeat clear U K);repeat intro K U
 refine Gu hk (by omega) (fun p hpk hlt=>?_) fun hk=>?_
 .obtain ⟨hp0,hp1⟩:=hp _ (Bp hpk)
  have hq:=Cs hp1
  have hgd:os.getD p.toNat []=os[p.toNat]:=by
   rw[C6,hq];rfl
  have hqm:(EN os)[p.toNat]? =some [.l (iL os[p.toNat]) false]:=by rw[Jm,hq];rfl
  refine zh ?_;(repeat clear U K);repeat intro K U
  refine Jv hpk (by omega) rfl ?_;refine zh ?_;(repeat clear U K);repeat intro K U
  refine gS hs 0 p.toNat rfl (by omega) (by simpa using hp1) ?_
  conv=>whnf
  refine I0 hs 0 rfl hqm ?_;refine zh ?_;(repeat clear U K);repeat intro K U
  refine b7 (fun he=>?_) (fun he=>?_)
  .refine zh ?_;(repeat clear U K);repeat intro K U
   have hn:Ei ls os c=none:=by
    simp only[Ei];rw[if_pos];rw[Ij];refine⟨p,Bp hpk,?_⟩;rw[hgd];have:(os[p.toNat]).length=0:=by simpa using he
    simp[YW.1 this]
   rw[hn];exact As (l':=[.own w 1 (EN os)]) hs (by simp) (.t (.cons (.l (fun h=>(by cases h)) .nil) (.cons (.refl _) .nil))) fun Z' hs'=>⟨_,⟨rfl,rfl⟩,hs'⟩
  .refine zh ?_;(repeat clear U K);repeat intro K U
   refine Jv hpk (by omega) rfl ?_;refine zh ?_;(repeat clear U K);repeat intro K U
   refine gS hs 0 p.toNat rfl (by omega) (by simpa using hp1) ?_
   conv=>whnf
   refine I0 hs 0 rfl hqm ?_
   conv=>whnf
   refine(Ra _ _ _ (hos _ (List.getElem_mem hp1))).use ?_
   conv=>whnf
   refine GR hs 1 (x:=os[p.toNat].filter (· != 0)) rfl (by have hM:=Mx;simp;omega) DK fun v' Z' hs'=>?_
   refine zh ?_;(repeat clear U K);repeat intro K U
   refine⟨hlt,v',rfl,fun q hm=>?_,?_⟩
   .rw [AN hpk]at hm
    rcases Dy.1 hm with hm|hm
    .exact hne q hm
    .rw[KV.1 hm,hgd]
     have:(os[p.toNat]).length≠0:=by
      intro e;exact he (by simp[e])
     cases hq:os[p.toNat]with
     | nil=>rw[hq]at this;exact absurd rfl this
     | cons _ _=>rfl
   .rw[AN hpk,SU,List.map_singleton,hgd]
    exact hs'
 .rw[Aq hk]at hne hs
  refine zh ?_;(repeat clear U K);repeat intro K U
  refine GR hs 1 (x:=A3 ls c) rfl (by have hM:=Mx;simp;omega) DK fun v' Z' hs'=>?_
  refine zh ?_;(repeat clear U K);repeat intro K U
  have hn:Ei ls os c=some ((A3 ls c).map (fun p=>(os.getD p.toNat []).filter (· != 0))++[A3 ls c]):=by
   simp only[Ei];rw[if_neg];rw[Ij];rintro⟨p,h1,h2⟩;rw[hne p h1]at h2;cases h2
  rw[hn];obtain⟨Z2,h1,h2,h3⟩:=HI hs' 1 rfl;exact HW h1 (.t (.cons h2 (.cons (.refl _) .nil))) ⟨_,⟨rfl,rfl⟩,h3⟩
def pick (ls:List (List Int)):Option Int:=(ls.find? fun l=>match l with| []=>false|x::_=>free ls x).bind List.head?
def total (ls:List (List Int)):Nat:=(ls.map List.length).sum
def DO:Nat->List (List Int)->List Int->List Int×Bool
 | 0,ls,out=>(out,ls.all List.isEmpty)
 | n+1,ls,out=>match pick ls with
   | none=>(out,ls.all List.isEmpty)
   | some x=>DO n (ls.map fun l=>l.filter (· != x)) (out++[x])
def CT (ls:List (List Int)):List Int×Bool:=DO (total ls) ls []
def I4 {ls:List (List Int)} {x:Int} (h:pick ls=some x):total (ls.map fun l=>l.filter (· != x))<total ls:=by
 unfold pick at h;rw[Option.bind_eq_some_iff]at h;obtain⟨l,h1,h2⟩:=h;have hm:=List.mem_of_find?_eq_some h1;clear h1;cases l with
 | nil=>cases h2
 | cons y r=>
   simp only[List.head?_cons,JM]at h2;subst h2
   have hle: ∀ls:List (List Int),total (ls.map fun l=>l.filter (· != y))<=total ls:=fun ls=>by
    induction ls with
    | nil=>simp[total]
    | cons a bs ih=>
      have:=Ou (· != y) a;simp only[total,FA,List.sum_cons]at *;omega
   induction ls with
   | nil=>cases hm
   | cons a bs ih=>
     rcases GM.1 hm with rfl|hm
     .have h1:=hle bs
      have h2:=Ou (· != y) r;simp only[total,FA,List.sum_cons]at *;have:((y::r).filter (· != y)).length<=r.length:=by simpa using h2
      simp only[LF];omega
     .have h1:=ih hm
      have h2:=Ou (· != y) a;simp only[total,FA,List.sum_cons]at *;omega
def Nq (ls:List (List Int)):Prop:=ls.length<=1000000/\ ∀l∈ls,l.length<=Aa/\ ∀x∈l,0<=x
def Nq.filter {ls:List (List Int)} (h:Nq ls) (x:Int):Nq (ls.map fun l=>l.filter (· != x)):=by
 refine⟨by rw[B9];exact h.1,fun l hl=>?_⟩;obtain⟨l',hl',rfl⟩:=Il.1 hl;obtain⟨h1,h2⟩:=h.2 l' hl';exact⟨Nat.le_trans (Ou _ _) h1,fun y hy=>h2 y (Ik.1 hy).1⟩
def D9 (ls:List (List Int)) (k:Nat):Int:=((((ls.take k).find? fun l=>match l with| []=>false|x::_=>free ls x).bind List.head?).getD (-1))
def YC : ∀ (n:Nat) (ls:List (List Int)) (out:List Int),total ls<=n->DO n ls out=DO (total ls) ls out:=by
 intro n
 induction n using Nat.strongRecOn with
 | _ n ih=>
   intro ls out hn;by_cases he:total ls=n
   .rw[he]
   .cases n with
    | zero=>omega
    | succ n=>
      cases hp:pick ls with
      | none=>
        cases ht:total ls with
        | zero=>simp[DO,hp]
        | succ m=>simp[DO,hp]
      | some x=>
        have h1:=I4 hp;cases ht:total ls with
        | zero=>omega
        | succ m=>
          simp only[DO,hp];rw[ih n (by omega) _ _ (by omega),ih m (by omega) _ _ (by omega)]
def PF {ls:List (List Int)} {x:Int} {out:List Int} (hp:pick ls=some x):DO (total ls) ls out=DO (total (ls.map fun l=>l.filter (· != x))) (ls.map fun l=>l.filter (· != x)) (out++[x]):=by
 have h1:=I4 hp;cases ht:total ls with
 | zero=>omega
 | succ m=>
   simp only[DO,hp];exact YC m _ _ (by omega)
def Rt {ls:List (List Int)} {out:List Int} (hp:pick ls=none):DO (total ls) ls out=(out,ls.all List.isEmpty):=by
 cases ht:total ls with
 | zero=>rfl
 | succ m=>simp only[DO,hp]
def Ff (ls:List (List Int)) (l:List Int):Bool:=match l with| []=>false|x::_=>free ls x
def IY (ls:List (List Int)) (k:Nat):D9 ls k=(((ls.take k).find? (Ff ls)).bind List.head?).getD (-1):=rfl
def I6 {ls:List (List Int)} (hok:Nq ls) {k:Nat} (h:D9 ls k<0):(ls.take k).find? (Ff ls)=none:=by
 rw[IY]at h;cases hf:(ls.take k).find? (Ff ls)with
 | none=>rfl
 | some l=>
   rw[hf]at h;have hm:=List.mem_of_mem_take (List.mem_of_find?_eq_some hf);have hg:=List.find?_some hf;cases l with
   | nil=>cases hg
   | cons x r=>
     have:=(hok.2 _ hm).2 x (.head _);simp at h;omega
def YA {ls:List (List Int)} (hok:Nq ls) {k:Nat} (hk:k<ls.length) (h:D9 ls k<0):D9 ls (k+1)=if Ff ls ls[k]then(ls[k].head?).getD (-1)else -1:=by
 rw[IY,List.take_succ_eq_append_getElem hk,List.find?_append,I6 hok h];by_cases hg:Ff ls ls[k]=true
 .simp[hg]
 .simp[hg]
def Rm {ls:List (List Int)} {k:Nat} (h:0<=D9 ls k):pick ls=some (D9 ls k):=by
 rw[IY]at *;show((ls.find? (Ff ls)).bind List.head?)=_;cases hf:(ls.take k).find? (Ff ls)with
 | none=>rw[hf]at h;simp at h
 | some l=>
   have h1:ls.find? (Ff ls)=some l:=by
    have:=List.take_append_drop k ls;rw[<-this,List.find?_append,this,hf];rfl
   rw[h1];rw[hf]at h;cases l with
   | nil=>simp at h
   | cons x r=>simp
def KK {ls:List (List Int)} (hok:Nq ls) {k:Nat} {l:List Int} (hl:ls[k]? =some l) (h:D9 ls k<0):D9 ls (k+1)=if Ff ls l then(l.head?).getD (-1)else -1:=by
 obtain⟨hk,rfl⟩:=JL.1 hl;exact YA hok hk h
def da {ls:List (List Int)} {l:List Int} (h:l∈ls):l.length<=total ls:=by
 induction ls with
 | nil=>cases h
 | cons a r ih=>
   simp only[total,FA,List.sum_cons]at *;rcases GM.1 h with rfl|h
   .omega
   .have:=ih h;omega
def l5 (ls:List (List Int)) (f:Bool) (hok:Nq ls) (ht:total ls<Aa):Pure zP 332 [.l (EN ls) f] (.t [.l (iL (CT ls).1) false,.b (CT ls).2]):=by
 have hM:=Mx;refine wM kZ ?_
 conv=>whnf
 repeat((first|(refine GL ?_;intro K U)|(refine DP ?_;intro KR KP hR hP)|(refine hR _ _ ?_;clear hP;clear KP;clear hR;clear KR)|refine IU ?_|refine QC ?_|(apply U;clear U K)|fail);conv=>whnf)
 refine D7 (fun(x:List (List Int)×Bool×V×List Int)=>total x.1) (fun x=>[(0,.l (EN x.1) x.2.1),(4,x.2.2.1)]) (fun x=>[.own x.2.2.1 1 (iL x.2.2.2)])
  (fun x=>Nq x.1/\x.2.2.2.length+total x.1<=total ls/\DO (total x.1) x.1 x.2.2.2=CT ls) (ls,f,.l [] true,[]) rfl ⟨hok,by simp,rfl⟩ (D1 Sat.nil 1) ?_
 rintro⟨ls',f',v,out⟩ Z ⟨hok',hlen,hm⟩ hs;dsimp only at hok' hlen hm hs;have hlm:ls'.length<=Aa:=by have:=hok'.1;omega
 conv=>whnf
 repeat((first|(refine GL ?_;intro K U)|(refine DP ?_;intro KR KP hR hP)|(refine hR _ _ ?_;clear hP;clear KP;clear hR;clear KR)|refine IU ?_|refine QC ?_|(apply U;clear U K)|fail);conv=>whnf)
 have hJ :=S3 U (fun(y:Int×Bool)=>[(5,.i .i64 y.1),(6,.b y.2)]) (fun _=>[.own v 1 (iL out)]) (fun y=>(0<=y.1/\pick ls'=some y.1)\/(y.1<0/\pick ls'=none/\y.2=ls'.any fun l=> !l.isEmpty))
  [(0,.l (EN ls') f'),(4,v),(5,.pn),(6,.pn)] (by
  rintro⟨nx,lf⟩ Z hor hs;dsimp only at hor
  conv=>whnf
  repeat((first|refine⟨rfl,?_⟩|(refine GL ?_;intro K U)|(refine DP ?_;intro KR KP hR hP)|(refine hR _ _ ?_;clear hP;clear KP;clear hR;clear KR)|refine I2 ?_|(apply U;clear U K)|fail);conv=>whnf)
  refine fork (fun hneg=>?_) (fun hneg=>?_)
  .conv=>whnf
   repeat((first|(refine GL ?_;intro K U)|(refine DP ?_;intro KR KP hR hP)|(refine hR _ _ ?_;clear hP;clear KP;clear hR;clear KR)|refine kS ?_|(apply U;clear U K)|(clear U K));conv=>whnf)
   rcases hor with⟨h0,_⟩|⟨_,hp,rfl⟩
   .omega
   .rw[Rt hp]at hm
    refine A7 ?_;rw[<-hm];refine .t (.cons (hs.GG 0 rfl) (.cons ?_ .nil));have:(!ls'.any fun l=> !l.isEmpty)=ls'.all List.isEmpty:=by simp[List.all_eq_not_any_not]
    rw[<-this];exact .refl _
  .conv=>whnf
   repeat((first|(refine GL ?_;intro K U)|(refine DP ?_;intro KR KP hR hP)|refine Ki ?_|(apply U;clear U K)|fail);conv=>whnf)
   rcases hor with⟨_,hp⟩|⟨h0,_⟩
   .have hlt:=I4 hp
    refine GR hs 0 (x:=nx) rfl (by omega) Bo fun v' Z hs=>?_
    conv=>whnf
    repeat((first|(refine GL ?_;intro K U)|(refine DP ?_;intro KR KP hR hP)|(refine hR _ _ ?_;clear hP;clear KP;clear hR;clear KR)|refine IU ?_|refine QC ?_|(apply U;clear U K)|fail);conv=>whnf)
    refine B1 ls'.length (fun k u=>[(8,u),(9,eI (A4 k))]) (fun k u=>[.own v' 1 (iL (out++[nx])),.own u 1 (EN ((ls'.take k).map fun l=>l.filter (· != nx)))]) (fun _ _=>True) (.l [] true) rfl trivial (D1 hs 1) ?_;rintro k u Z hk - hs
    conv=>whnf
    repeat((first|refine⟨rfl,?_⟩|refine WV ?_|(refine GL ?_;intro K U)|(refine DP ?_;intro KR KP hR hP)|(refine hR _ _ ?_;clear hP;clear KP;clear hR;clear KR)|refine I2 ?_|(apply U;clear U K)|fail);conv=>whnf)
    refine Gu hk hlm (fun l hl hlt'=>?_) fun hk=>?_
    .conv=>whnf
     repeat((first|(refine GL ?_;intro K U)|(refine DP ?_;intro KR KP hR hP)|refine Ki ?_|refine IU ?_|(apply U;clear U K)|fail);conv=>whnf)
     refine Jv hl hlm rfl ?_
     conv=>whnf
     repeat((first|refine Ka ?_|fail);conv=>whnf)
     refine(Ra _ _ _ (hok'.2 _ (Bp hl)).1).use ?_
     conv=>whnf
     refine GR hs 1 (x:=l.filter (· != nx)) rfl (by have:=hok'.1;simp;omega) DK fun u' Z' hs'=>?_
     conv=>whnf
     repeat((first|refine⟨rfl,?_⟩|(refine DP ?_;intro KR KP hR hP)|(refine hR _ _ ?_;clear hP;clear KP;clear hR;clear KR)|(apply U;clear U K)|(clear U K));conv=>whnf)
     refine⟨hlt',u',rfl,trivial,?_⟩;rw[AN hl,SU];exact hs'
    .rw[Aq hk]at hs
     conv=>whnf
     repeat((first|(refine DP ?_;intro KR KP hR hP)|refine QD ?_|(apply U;clear U K)|(clear U K));conv=>whnf)
     refine tV hs 1 rfl fun Z' hs'=>?_
     conv=>whnf
     repeat((first|(refine hR _ _ ?_;clear hP;clear KP;clear hR;clear KR)|fail);conv=>whnf)
     refine⟨(ls'.map fun l=>l.filter (· != nx),false,v',out++[nx]),hlt,rfl,⟨hok'.filter nx,by simp;omega,?_⟩,hs'⟩;rw[<-PF hp];exact hm
   .omega)
 clear U
 .refine B1 ls'.length (fun k (_:Unit)=>[(5,.i .i64 (D9 ls' k)),(6,.b ((ls'.take k).any fun l=> !l.isEmpty)),(7,eI (A4 k))]) (fun _ _=>[.own v 1 (iL out)]) (fun _ _=>True) () rfl trivial hs ?_
  rintro k - Z hk - hs
  conv=>whnf
  repeat((first|refine⟨rfl,?_⟩|refine WV ?_|(refine GL ?_;intro K U)|(refine DP ?_;intro KR KP hR hP)|fail);conv=>whnf)
  refine⟨fun h=>?_,fun h=>?_⟩<;>(try rw[h])
  .have hlt:=of_decide_eq_true h
   rw[Ag (by have:=hok'.1;omega)]at hlt;have hlt:=jO hlt;have hl:=Cs hlt;have hb:=hok'.2 _ (List.getElem_mem hlt);generalize ls'[k]=l at *
   conv=>whnf
   repeat((first|refine⟨rfl,?_⟩|refine kC ?_|(refine hR _ _ ?_;clear hP;clear KP;clear hR;clear KR)|refine I2 ?_|(apply U;clear U K)|fail);conv=>whnf)
   refine fork (fun hneg=>?_) (fun hneg=>?_)
   .conv=>whnf
    repeat((first|(refine GL ?_;intro K U)|(refine DP ?_;intro KR KP hR hP)|refine Ki ?_|refine IU ?_|(apply U;clear U K)|fail);conv=>whnf)
    refine Jv hl hlm rfl ?_
    conv=>whnf
    repeat((first|refine⟨rfl,?_⟩|refine Ka ?_|refine WV ?_|(refine hR _ _ ?_;clear hP;clear KP;clear hR;clear KR)|refine I2 ?_|(apply U;clear U K)|fail);conv=>whnf)
    refine fork (fun hp=>?_) (fun hp=>?_)
    .simp only[B9]at hp
     obtain⟨x,r,rfl⟩: ∃x r,l=x::r:=by cases l with
      | nil=>simp at hp
      | cons x r=>exact⟨x,r,rfl⟩
     have hany:((ls'.take (k+1)).any fun l=> !l.isEmpty)=true:=by
      rw[AN hl];simp
     conv=>whnf
     repeat((first|(refine GL ?_;intro K U)|(refine DP ?_;intro KR KP hR hP)|(refine hR _ _ ?_;clear hP;clear KP;clear hR;clear KR)|(apply U;clear U K)|fail);conv=>whnf)
     refine Jv hl hlm rfl ?_
     conv=>whnf
     repeat((first|refine Ka ?_|fail);conv=>whnf)
     refine WI 0 rfl rfl rfl ?_
     conv=>whnf
     repeat((first|refine Ka ?_|fail);conv=>whnf)
     refine(qW _ _ _ hlm fun l hl=>(hok'.2 l hl).1).use ?_
     conv=>whnf
     repeat((first|(refine hR _ _ ?_;clear hP;clear KP;clear hR;clear KR)|refine I2 ?_|(apply U;clear U K)|fail);conv=>whnf)
     refine⟨fun hf=>?_,fun hf=>?_⟩
     .conv=>whnf
      repeat((first|(refine DP ?_;intro KR KP hR hP)|fail);conv=>whnf)
      refine Jv hl hlm rfl ?_
      conv=>whnf
      repeat((first|refine Ka ?_|fail);conv=>whnf)
      refine WI 0 rfl rfl rfl ?_
      conv=>whnf
      repeat((first|refine⟨rfl,?_⟩|refine Ka ?_|(refine DP ?_;intro KR KP hR hP)|(refine hR _ _ ?_;clear hP;clear KP;clear hR;clear KR)|(apply U;clear U K)|fail);conv=>whnf)
      refine⟨hlt,(),?_,trivial,hs⟩;have:D9 ls' (k+1)=x:=by rw[KK hok' hl hneg];simp[Ff,hf]
      dsimp only;rw[this,hany];rfl
     .conv=>whnf
      repeat((first|refine⟨rfl,?_⟩|(refine DP ?_;intro KR KP hR hP)|(refine hR _ _ ?_;clear hP;clear KP;clear hR;clear KR)|refine Ki ?_|(apply U;clear U K)|fail);conv=>whnf)
      refine⟨hlt,(),?_,trivial,hs⟩;have:D9 ls' (k+1)=D9 ls' k:=by rw[KK hok' hl hneg,IY ls' k,I6 hok' hneg];simp[Ff,hf]
      dsimp only;rw[this,hany];rfl
    .simp only[B9]at hp
     obtain rfl:l= []:=YW.1 (by omega)
     conv=>whnf
     repeat((first|refine⟨rfl,?_⟩|(refine DP ?_;intro KR KP hR hP)|(refine hR _ _ ?_;clear hP;clear KP;clear hR;clear KR)|refine Ki ?_|(apply U;clear U K)|fail);conv=>whnf)
     refine⟨hlt,(),?_,trivial,hs⟩;have:D9 ls' (k+1)=D9 ls' k:=by rw[KK hok' hl hneg,IY ls' k,I6 hok' hneg];simp[Ff]
     have hany:((ls'.take (k+1)).any fun l=> !l.isEmpty)=((ls'.take k).any fun l=> !l.isEmpty):=by
      rw[AN hl,List.any_append];simp
     dsimp only;rw[this,hany];rfl
   .conv=>whnf
    repeat((first|refine QD ?_|(clear U K));conv=>whnf)
    refine hJ (D9 ls' k,(ls'.take k).any fun l=> !l.isEmpty) _ _ rfl (.inl ⟨by omega,?_⟩) hs;exact Rm (by omega)
  .have hlt:=of_decide_eq_false h
   rw[Ag (by have:=hok'.1;omega)]at hlt;have hke:=cH hk hlt
   conv=>whnf
   repeat((first|refine kD ?_|(refine hR _ _ ?_;clear hP;clear KP;clear hR;clear KR)|refine I2 ?_|refine QD ?_|(apply U;clear U K)|(clear U K));conv=>whnf)
   refine hJ (D9 ls' k,(ls'.take k).any fun l=> !l.isEmpty) _ _ rfl ?_ hs;rw[Aq hke];by_cases h0:0<=D9 ls' k
   .exact .inl ⟨h0,Rm h0⟩
   .refine .inr ⟨by omega,?_,rfl⟩
    have:=I6 hok' (k:=k) (by omega);rw[Aq hke]at this;show((ls'.find? (Ff ls')).bind List.head?)=none;rw[this];rfl
def EK (g os:List (List Int)) (c:Int):List Int:=
 match Ei g os c with
 | none=>[]
 | some l=>if(CT l).2 then [c]++(CT l).1++[0]else []
def Bg (g:List (List Int)):Nat->List (List Int)
 | 0=>[[0]]
 | k+1=>Bg g k++[EK g (Bg g k) ((k:Int)+1)]
def CG (g:List (List Int)):List (List Int):=Bg g (2+g.length)
def JW (g:List (List Int)):Prop:=g.length<=16/\ ∀(i:Nat) (l:List Int),g[i]? =some l->l.length<=3/\l.Nodup/\ ∀c∈l,(3:Int)<=c/\c<3+(i:Int)
def Co (g:List (List Int)): ∀k,(Bg g k).length=k+1
 | 0=>rfl
 | k+1=>by simp[Bg,Co g k]
def I9: ∀(n:Nat) (ls:List (List Int)) (out:List Int),(DO n ls out).1.length<=out.length+n
 | 0,ls,out=>by simp[DO]
 | n + 1,ls,out=>by
   simp only[DO];split
   .simp
   .rename_i x _
    have:=I9 n (ls.map fun l=>l.filter (· != x)) (out++[x]);simp only[Nl,List.length_singleton]at this;refine Nat.le_trans this ?_;omega
def X9 {ls:List (List Int)} (h: ∀l∈ls,∀x∈l,(0:Int)<=x) {x:Int} (hp:pick ls=some x):0<=x:=by
 unfold pick at hp;rw[Option.bind_eq_some_iff]at hp;obtain⟨l,h1,h2⟩:=hp;have hm:=List.mem_of_find?_eq_some h1;cases l with
 | nil=>cases h2
 | cons y r=>cases h2;exact h _ hm _ (.head _)
def LR: ∀(n:Nat) (ls:List (List Int)) (out:List Int),(∀l∈ls,∀x∈l,(0:Int)<=x)->(∀x∈out,(0:Int)<=x)-> ∀x∈(DO n ls out).1,(0:Int)<=x
 | 0,ls,out,_,h2=>h2
 | n + 1,ls,out,h1,h2=>by
   simp only[DO];split
   .exact h2
   .rename_i y hy
    refine LR n _ _ (fun l hl x hx=>?_) fun x hx=>?_
    .obtain⟨l',hl',rfl⟩:=Il.1 hl
     exact h1 _ hl' _ (Ik.1 hx).1
    .rcases Dy.1 hx with hx|hx
     .exact h2 x hx
     .rw[KV.1 hx];exact X9 h1 hy
def Dl {g:List (List Int)} (hg:JW g) {c p:Int} (hp:p∈A3 g c):3<=p/\p<c:=by
 unfold A3 at hp;split at hp
 .cases hp
 .rename_i hc
  rw[C6]at hp;cases hq:g[(c - 3).toNat]? with
  | none=>rw[hq]at hp;cases hp
  | some l=>
    rw[hq]at hp;obtain⟨_,_,h⟩:=hg.2 _ _ hq;have:=h p hp;omega
def DA {g:List (List Int)} (hg:JW g) (c:Int):(A3 g c).length<=3:=by
 unfold A3;split
 .simp
 .rw[C6]
  cases hq:g[(c - 3).toNat]? with
  | none=>simp
  | some l=>exact(hg.2 _ _ hq).1
def HY {g os:List (List Int)} {c:Int} {ls:List (List Int)} (h:Ei g os c=some ls):ls=(A3 g c).map (fun p=>(os.getD p.toNat []).filter (· != 0))++[A3 g c]:=by
 unfold Ei at h;split at h
 .cases h
 .exact(Option.some.inj h).symm
def XR {os:List (List Int)} {B:Nat} (h: ∀o∈os,o.length<=B) (n:Nat):(os.getD n []).length<=B:=by
 rw[C6];cases hq:os[n]? with
 | none=>simp
 | some l=>exact h _ (Bp hq)
def RA {os:List (List Int)} {Q:Int->Prop} (h: ∀o∈os,∀x∈o,Q x) (n:Nat): ∀x∈os.getD n [],Q x:=by
 rw[C6];cases hq:os[n]? with
 | none=>simp
 | some l=>exact h _ (Bp hq)
def F1 {g os:List (List Int)} {c:Int} {ls:List (List Int)} (h:Ei g os c=some ls) {B:Nat} (hB: ∀o∈os,o.length<=B):total ls<=(A3 g c).length*(B+1):=by
 rw[HY h];simp only[total,SU,zf,List.sum_append,FA,List.map_nil,List.sum_cons,List.sum_nil,Nat.add_zero]
 have: ∀ps:List Int,(ps.map (List.length∘fun p=>(os.getD p.toNat []).filter (· != 0))).sum<=ps.length*B:=fun ps=>by
  induction ps with
  | nil=>simp
  | cons p r ih=>
    simp only[FA,List.sum_cons,Function.comp,LF,Nat.succ_mul];have h1:=Ou (· != 0) (os.getD p.toNat []);have h2:=XR hB p.toNat;simp only[Function.comp_def]at *;omega
 have:=this (A3 g c);rw[Nat.mul_add,Nat.mul_one];simp only[Function.comp_def]at *;omega
def YB {g os:List (List Int)} {c:Int} {B:Nat} (hB: ∀o∈os,o.length<=B):(EK g os c).length<=(A3 g c).length*(B+1)+2:=by
 unfold EK;split
 .simp
 .rename_i ls h
  have h1:=F1 h hB;have h2:=I9 (total ls) ls [];simp only[List.length_nil,HG]at h2;split
  .simp only[Nl,List.length_singleton,CT]
   omega
  .simp
def SS {g os:List (List Int)} {c:Int} (hg:JW g) (hc:0<=c) (h: ∀o∈os,∀x∈o,(0:Int)<=x): ∀x∈EK g os c,0<=x:=by
 unfold EK;split
 .simp
 .rename_i ls hl
  split
  .intro x hx
   have hls: ∀l∈ls,∀x∈l,(0:Int)<=x:=by
    rw[HY hl];intro l hl x hx;rcases Dy.1 hl with hl|hl
    .obtain⟨p,_,rfl⟩:=Il.1 hl
     exact RA h p.toNat x (Ik.1 hx).1
    .rw[KV.1 hl]at hx
     have:=Dl hg hx;omega
   simp only[Dy,KV]at hx;rcases hx with(rfl|hx)|rfl
   .exact hc
   .exact LR _ _ _ hls (by simp) x hx
   .exact Int.le_refl _
  .simp
def Jt (k:Nat):Nat:=5*3 ^ (k - 3) - 3
def uD (n:Nat):1<=3 ^ n:=Nat.one_le_pow _ _ (by omega)
def JH {g : List (List Int)} (hg:JW g): ∀(k:Nat),∀o∈Bg g k,o.length<=Jt k/\ ∀x∈o,(0:Int)<=x
 | 0,o,ho=>by
   simp only[Bg,KV]at ho;subst ho;simp[Jt]
 | k + 1,o,ho=>by
   have ih:=JH hg k
   have hmono:Jt k<=Jt (k+1):=by
    unfold Jt;have:3 ^ (k - 3)<=3 ^ (k+1 - 3):=Nat.pow_le_pow_right (by omega) (by omega);omega
   simp only[Bg,Dy,KV]at ho;rcases ho with ho|rfl
   .exact⟨Nat.le_trans (ih o ho).1 hmono,(ih o ho).2⟩
   .refine⟨?_,SS hg (by omega) fun o ho=>(ih o ho).2⟩
    have h1:=YB (g:=g) (c:=(k:Int)+1) fun o ho=>(ih o ho).1
    by_cases hk:k<3
    .have:A3 g ((k:Int)+1)= []:=by
      apply List.eq_nil_iff_forall_not_mem.2;intro p hp;have:=Dl hg hp;omega
     rw[this]at h1
     have:Jt (k+1)=2:=by
      have:k+1 - 3=0:=by omega
      simp[Jt,this]
     simpa[this]using h1
    .have h2:=DA hg ((k:Int)+1)
     have h3:(A3 g ((k:Int)+1)).length*(Jt k+1)<=3*(Jt k+1):=Vr _ h2;have:k+1 - 3=(k - 3)+1:=by omega
     unfold Jt at *;rw[this,Nat.pow_succ];have:=uD (k - 3);omega
def cU {k:Nat} (h:k<=18):Jt k<=71744535:=by
 unfold Jt;have:3 ^ (k - 3)<=3 ^ 15:=Nat.pow_le_pow_right (by omega) (by omega);have e:(3:Nat) ^ 15=14348907:=by decide
 omega
def FT {g:List (List Int)}: ∀ {k j:Nat},j<=k->(Bg g k)[j]? =(Bg g j)[j]?
 | 0,j,h=>by(obtain rfl:j=0:=by omega);rfl
 | k+1,j,h=>by
   by_cases e:j=k+1
   .subst e;rfl
   .rw[<-FT (k:=k) (by omega),Bg,cz (by rw[Co];omega)]
def Zc {g os:List (List Int)} {c:Int} {ls:List (List Int)} (hg:JW g) (h:Ei g os c=some ls) {B:Nat} (hB: ∀o∈os,o.length<=B/\ ∀x∈o,(0:Int)<=x) (hb:B<=100000000):Nq ls/\total ls<Aa:=by
 have h3:=DA hg c;have ht:=F1 h fun o ho=>(hB o ho).1
 have:(A3 g c).length*(B+1)<=3*(B+1):=Vr _ h3;have htl:total ls<Aa:=by simp only[Aa];omega
 refine⟨⟨?_,fun l hl=>⟨?_,?_⟩⟩,htl⟩
 .rw[HY h]
  simp only[Nl,B9,List.length_singleton,Aa];omega
 .have:=da hl
  simp only[Aa]at *;omega
 .intro x hx
  rw[HY h]at hl;rcases Dy.1 hl with hl|hl
  .obtain⟨p,_,rfl⟩:=Il.1 hl
   exact RA (fun o ho=>(hB o ho).2) p.toNat x (Ik.1 hx).1
  .rw[KV.1 hl]at hx
   have:=Dl hg hx;omega
def eG (g : List (List Int)) (f:Bool) (hg:JW g):Pure zP 297 [.l (EN g) f] (.l (EN (CG g)) false):=by
 refine wz kZ ?_
 conv=>whnf
 repeat((first|clear U K|apply st|(apply zk;intro K U)|fail);conv=>whnf)
 have hg16:=hg.1;have hgm:g.length<=Aa:=by simp only[Aa];omega
 refine⟨.l (EN [[0]]) true,emp,fun _ _ h=>h,.l (fun _=>rfl) (.cons (.cons (.l (fun h=>(by cases h)) (.refl _ _ _)) .nil) .nil),?_⟩;refine zh ?_;(repeat clear U K);repeat intro K U
 refine B1 (2+g.length) (fun k v=>[(3,v),(4,eI (MN 1 k))]) (fun k v=>[.own v 1 (EN (Bg g k))]) (fun _ _=>True) (.l (EN [[0]]) true) rfl trivial (oE Sat.nil (by simp)) ?_;rintro k v Z hk - hs;have hc1:MN 1 k=(k:Int)+1:=by rw[P8 (by omega) (by omega)];omega
 have hw:IntKind.i64.wrap (3+((EN g).length:Nat))=3+(g.length:Int):=by rw[B9,wrap64 (by omega) (by omega)]
 refine zh ?_;(repeat clear U K);repeat intro K U
 rw[hc1];rw[hw];refine fork (fun hlt=>?_) (fun hlt=>?_)
 .have hlt':k<2+g.length:=by omega
  have hB:=JH hg k;have hb18:Jt k<=71744535:=cU (by omega);have hc2:MN 1 (k+1)=IntKind.i64.wrap ((k:Int)+1+1):=by rw[MN,hc1]
  refine zh ?_;(repeat clear U K);repeat intro K U
  refine⟨.l (iL []) false,Z,fun _ _ h=>h,.l (fun h=>(by cases h)) (.refl _ _ _),?_⟩
  conv=>whnf
  repeat((first|clear U K|apply st|(apply zk;intro K U)|fail);conv=>whnf)
  refine(l9 g (Bg g k) f v ((k:Int)+1) (by omega) hgm (fun o ho=>by have:=(hB o ho).1;simp only[Aa];omega) (by have:=DA hg ((k:Int)+1);omega)
   (fun p hp=>by have:=Dl hg hp;rw[Co];omega)).use (rest:=[]) hs ?_
  rintro r post Z' ⟨rfl,rfl⟩ hs;cases hl:Ei g (Bg g k) ((k:Int)+1)with
  | none=>
    refine zh ?_;(repeat clear U K);repeat intro K U
    refine GR hs 0 (x:=[]) rfl (by rw[Co];simp only[Aa];omega) DK fun v' Z' hs'=>?_
    conv=>whnf
    refine⟨v',Z',fun _ _ h=>h,.refl _,?_⟩;refine zh ?_;(repeat clear U K);repeat intro K U
    refine⟨hlt',v',?_,trivial,?_⟩
    .skip
     rw[hc2];rfl
    .have:EK g (Bg g k) ((k:Int)+1)= []:=by simp[EK,hl,]
     rw[Bg,this];exact hs'
  | some ls=>
    obtain⟨hok,htot⟩:=Zc hg hl hB (by omega);refine zh ?_;(repeat clear U K);repeat intro K U
    refine(l5 ls false hok htot).use ?_;have hml:=I9 (total ls) ls [];simp only[List.length_nil,HG]at hml;refine zh ?_;(repeat clear U K);repeat intro K U
    refine⟨fun h=>?_,fun h=>?_⟩<;>(try rw[h])
    .conv=>whnf
     repeat((first|clear U K|(apply zk;intro K U)|fail);conv=>whnf)
     refine Fe (oE hs (by simp)) 1 (xs:=[(k:Int)+1]) rfl (by simp[CT];have:=F1 hl fun o ho=>(hB o ho).1;have h3:=DA hg ((k:Int)+1);have:(A3 g ((k:Int)+1)).length*(Jt k+1)<=3*(Jt k+1):=Vr _ h3;simp only[Aa]at *;omega) Bo fun u Z1 hs=>?_
     conv=>whnf
     refine GR hs 1 (x:=0) rfl (by simp[CT];have:=F1 hl fun o ho=>(hB o ho).1;have h3:=DA hg ((k:Int)+1);have:(A3 g ((k:Int)+1)).length*(Jt k+1)<=3*(Jt k+1):=Vr _ h3;simp only[Aa]at *;omega) Bo fun u Z1 hs=>?_
     conv=>whnf
     refine tV hs 1 rfl fun Z' hs=>?_
     conv=>whnf
     repeat((first|clear U K|apply st|(apply zk;intro K U)|fail);conv=>whnf)
     refine GR hs 0 (x:=([(k:Int)+1]++(CT ls).1++[0])) rfl (by rw[Co];simp only[Aa];omega) DK fun v' Z' hs'=>?_
     conv=>whnf
     refine⟨v',Z',fun _ _ h=>h,.refl _,?_⟩;refine zh ?_;(repeat clear U K);repeat intro K U
     refine⟨hlt',v',?_,trivial,?_⟩
     .skip
      rw[hc2];rfl
     .have:EK g (Bg g k) ((k:Int)+1)=([(k:Int)+1]++(CT ls).1++[0]):=by simp[EK,hl,h]
      rw[Bg,this];exact hs'
    .refine zh ?_;(repeat clear U K);repeat intro K U
     refine GR hs 0 (x:=[]) rfl (by rw[Co];simp only[Aa];omega) DK fun v' Z' hs'=>?_
     conv=>whnf
     refine⟨v',Z',fun _ _ h=>h,.refl _,?_⟩;refine zh ?_;(repeat clear U K);repeat intro K U
     refine⟨hlt',v',?_,trivial,?_⟩
     .skip
      rw[hc2];rfl
     .have:EK g (Bg g k) ((k:Int)+1)= []:=by simp[EK,hl,h]
      rw[Bg,this];exact hs'
 .refine zh ?_;(repeat clear U K);repeat intro K U
  have hke:k=2+g.length:=by omega
  subst hke;exact Eg hs 0 rfl rfl
end Go.Gl
namespace Go.Gl
def par (ps:List (List Int)) (c:Nat):List Int:=if c<3 then []else ps.getD (c - 3) []
def ordered (ps:List (List Int)):Prop:= ∀c p,p∈par ps c->3<=p/\p<(c:Int)
def gP (ps:List (List Int)):Nat->Nat->Nat->Bool
 | 0,c,b=>c==b
 | f+1,c,b=>c==b||(par ps c).any fun p=>gP ps f p.toNat b
def HA (ps:List (List Int)) (c b:Nat):Bool:=gP ps c c b
def Lr {ps:List (List Int)} (ho:ordered ps): ∀(f c b:Nat),c<=f->gP ps f c b=HA ps c b
 | 0,c,b,h=>by(obtain rfl:c=0:=by omega);rfl
 | f + 1,c,b,h=>by
   cases c with
   | zero=>
     have:par ps 0= []:=rfl;simp[HA,gP,this]
   | succ c=>
     simp only[HA,gP];congr 1
     have key: ∀l:List Int,(∀p∈l,p∈par ps (c+1))->(l.any fun p=>gP ps f p.toNat b)=l.any fun p=>gP ps c p.toNat b:=by
      intro l hl
      induction l with
      | nil=>rfl
      | cons p r ih=>
        have hp:=ho (c+1) p (hl p (.head _));simp only[Pj];rw[ih fun q hq=>hl q (.tail _ hq),Lr ho f p.toNat b (by omega),Lr ho c p.toNat b (by omega)]
     exact key _ fun p hp=>hp
def FI {ps:List (List Int)} (ho:ordered ps) (c b:Nat):HA ps c b=(c==b||(par ps c).any fun p=>HA ps p.toNat b):=by
 cases c with
 | zero=>simp[HA,gP,par]
 | succ c=>
   simp only[HA,gP];congr 1
   have key: ∀l:List Int,(∀p∈l,p∈par ps (c+1))->(l.any fun p=>gP ps c p.toNat b)=l.any fun p=>gP ps p.toNat p.toNat b:=by
    intro l hl
    induction l with
    | nil=>rfl
    | cons p r ih=>
      have hp:=ho (c+1) p (hl p (.head _));simp only[Pj];rw[ih fun q hq=>hl q (.tail _ hq),Lr ho c p.toNat b (by omega)];rfl
   exact key _ fun p hp=>hp
def FQ {ps:List (List Int)} (ho:ordered ps) (c:Nat):HA ps c c=true:=by rw[FI ho];simp
def ij {ps:List (List Int)} (ho:ordered ps): ∀(c b:Nat),HA ps c b=true->b<=c:=by
 intro c
 induction c using Nat.strongRecOn with
 | _ c ih=>
   intro b h;rw[FI ho]at h;simp only[E9,C0,Ij]at h;rcases h with rfl|⟨p,hp,h⟩
   .omega
   .have:=ho c p hp
    have:=ih p.toNat (by omega) b h;omega
def Km {ps:List (List Int)} (ho:ordered ps): ∀(a b c:Nat),HA ps a b=true->HA ps b c=true->HA ps a c=true:=by
 intro a
 induction a using Nat.strongRecOn with
 | _ a ih=>
   intro b c h k;rw[FI ho]at h ⊢;simp only[E9,C0,Ij]at h ⊢;rcases h with rfl|⟨p,hp,h⟩
   .rw[FI ho]at k
    simpa using k
   .have:=ho a p hp
    exact .inr ⟨p,hp,ih p.toNat (by omega) b c h k⟩
def F7 (bs:List Bool) (i:Nat):List Int->List Bool
 | []=>bs
 | p::r=>F7 (bs.set p.toNat (bs.getD p.toNat false||bs.getD i false)) i r
def NV (i:Nat): ∀(a b:List Int) (bs:List Bool),F7 bs i (a++b)=F7 (F7 bs i a) i b
 | [],b,bs=>rfl
 | p::r,b,bs=>by simp only[List.cons_append,F7];exact NV i r b _
def OW (i:Nat): ∀(l:List Int) (bs:List Bool),(F7 bs i l).length=bs.length
 | [],bs=>rfl
 | p::r,bs=>by simp only[F7];rw[OW i r];simp
def H0 (ps:List (List Int)) (n c:Nat):Nat->List Bool
 | 0=>(List.replicate n false).set c true
 | k+1=>F7 (H0 ps n c k) (c - k) (par ps (c - k))
def Mb (ps:List (List Int)) (n c:Nat): ∀k,(H0 ps n c k).length=n
 | 0=>by simp[H0]
 | k+1=>by simp only[H0];rw[OW,Mb ps n c k]
def Ee {bs:List Bool} {j:Nat} {x:Bool} (hj:j<bs.length) (b:Nat):(bs.set j x).getD b false=if b=j then x else bs.getD b false:=by
 simp only[C6,List.getElem?_set];by_cases h:j=b
 .subst h;simp[hj]
 .rw[if_neg h,if_neg (fun e=>h e.symm)]
def OX {i:Nat}: ∀(l:List Int) (bs:List Bool),(∀p∈l,0<=p/\p.toNat<bs.length/\p.toNat<i)-> ∀b,(F7 bs i l).getD b false=(bs.getD b false||(bs.getD i false&&l.contains (b:Int)))
 | [],bs,_,b=>by simp[F7]
 | p ::r,bs,h,b=>by
   obtain⟨h1,h2,h3⟩:=h p (.head _);simp only[F7];have hi:i≠p.toNat:=by omega
   rw[OX r _ (fun q hq=>by have:=h q (.tail _ hq);simpa using this),Ee h2,Ee h2,if_neg hi];by_cases hb:b=p.toNat
   .subst hb
    have:((p.toNat:Nat):Int)=p:=by omega
    simp only[if_true,this,List.contains_cons,beq_self_eq_true,Bool.true_or,Bool.and_true];cases bs.getD p.toNat false<;>cases bs.getD i false<;>simp
   .rw[if_neg hb]
    have:((b:Int)==p)=false:=by simp;omega
    simp only[List.contains_cons,this,Bool.false_or]
def Ww {ps:List (List Int)} (ho:ordered ps) {n c:Nat} (hc:c<n): ∀k,k<=c - 2->(∀b,(H0 ps n c k).getD b false=true->HA ps c b=true)/\(H0 ps n c k).getD c false=true/\
    (∀j p,c - k<j->(H0 ps n c k).getD j false=true->p∈par ps j->(H0 ps n c k).getD p.toNat false=true)
 | 0,_=>by
   have hg: ∀b,(H0 ps n c 0).getD b false=decide (b=c):=fun b=>by
    simp only[H0];rw[Ee (by simpa using hc)];by_cases h:b=c
    .simp[h]
    .rw[if_neg h]
     simp[h,C6,List.getElem?_replicate];split<;>rfl
   refine⟨fun b hb=>?_,by rw[hg];simp,fun j p hj hb hp=>?_⟩
   .rw[hg]at hb
    simp only[Cp]at hb;subst hb;exact FQ ho _
   .rw[hg]at hb
    simp only[Cp]at hb;omega
 | k + 1,hk=>by
   obtain⟨h1,h2,h3⟩:=Ww ho hc k (by omega)
   have hpar: ∀p∈par ps (c - k),0<=p/\p.toNat<(H0 ps n c k).length/\p.toNat<c - k:=fun p hp=>by
    have:=ho _ p hp;rw[Mb];omega
   have hg: ∀b,(H0 ps n c (k+1)).getD b false=((H0 ps n c k).getD b false||((H0 ps n c k).getD (c - k) false&&(par ps (c - k)).contains (b:Int))):=fun b=>by
    simp only[H0];exact OX _ _ hpar b
   refine⟨fun b hb=>?_,by rw[hg,h2];rfl,fun j p hj hb hp=>?_⟩
   .rw[hg]at hb
    simp only[E9,A9,List.contains_iff_mem]at hb;rcases hb with hb|⟨hb,hm⟩
    .exact h1 b hb
    .refine Km ho c (c - k) b (h1 _ hb) ?_
     rw[FI ho];simp only[E9,Ij];exact .inr ⟨b,hm,by simpa using FQ ho b⟩
   .have hjp:=ho j p hp
    have hb':(H0 ps n c k).getD j false=true:=by
     rw[hg]at hb;simp only[E9,A9,List.contains_iff_mem]at hb;rcases hb with hb|⟨_,hm⟩
     .exact hb
     .have:=ho _ _ hm
      omega
    rw[hg];by_cases e:j=c - k
    .subst e
     rw[hb'];have:((p.toNat:Nat):Int)=p:=by omega
     simp only[this,Ds,E9,List.contains_iff_mem];exact .inr hp
    .rw[h3 j p (by omega) hb' hp]
     rfl
def ah {ps:List (List Int)} (ho:ordered ps) {n c:Nat} (hc:c<n) (b:Nat):(H0 ps n c (c - 2)).getD b false=HA ps c b:=by
 obtain⟨h1,h2,h3⟩:=Ww ho hc (c - 2) (Hz _)
 have key: ∀a,(H0 ps n c (c - 2)).getD a false=true-> ∀b,HA ps a b=true->(H0 ps n c (c - 2)).getD b false=true:=by
  intro a
  induction a using Nat.strongRecOn with
  | _ a ih=>
    intro ha b hb;rw[FI ho]at hb;simp only[E9,C0,Ij]at hb;rcases hb with rfl|⟨p,hp,hb⟩
    .exact ha
    .have:=ho a p hp
     exact ih p.toNat (by omega) (h3 a p (by omega) ha hp) b hb
 cases hb:HA ps c b with
 | true=>exact key c h2 b hb
 | false=>
   cases hq:(H0 ps n c (c - 2)).getD b false with
   | false=>rfl
   | true=>rw[h1 b hq]at hb;cases hb
end Go.Gl
namespace Go.Gl
open Go.Proofs
attribute [local irreducible] Au Am Ae AR AK AY AQ AS AJ AX AM AO Ao A0 Sat AU Ay Af W
def uh (g:List (List Int)) (f:Bool) (c:Int) (hg:JW g) (h0:0<=c) (h1:c<3+g.length):Pure zP 233 [.l (EN g) f,eI c] (.t [.l (iL ((CG g).getD c.toNat [])) false,.b (!((CG g).getD c.toNat []).isEmpty)]):=by
 refine xr kZ ?_
 conv=>whnf
 repeat((first|clear U K|apply st|(apply zk;intro K U)|fail);conv=>whnf)
 refine(eG g f hg).use ?_
 conv=>whnf
 have hlen:=Co g (2+g.length);have hlt:c.toNat<(CG g).length:=by unfold CG;omega
 have hq:=Cs hlt;refine WI c.toNat hq (by omega) rfl ?_;refine zh ?_;(repeat clear U K);repeat intro K U
 refine AH ?_;rw[C6,hq,Option.getD_some];cases(CG g)[c.toNat]with
 | nil=>rfl
 | cons _ _=>simp
def wFit (w:AF):Prop:=w.parents.length<=1000/\(∀l∈w.parents,l.length<=Aa)/\w.owner.length<=Aa
def iy {ps:List (List Int)} {c:Nat} (h3:3<=c) (hc:c<3+ps.length):ps[c - 3]? =some (par ps c):=by
 unfold par;rw[if_neg (by omega),C6,Cs (by omega)];rfl
def aV {bs:List Bool} {j:Nat} (h:j<bs.length):(bL bs)[j]? =some [.b (bs.getD j false)]:=by
 rw[Jm,C6,Cs h];rfl
def ZE (bs:List Bool) (j:Nat) (x:Bool):(bL bs).set j [.b x]=bL (bs.set j x):=by
 simp[bL,List.map_set]
def AAa (w:AF) (c:Nat) (hw:wFit w) (ho:ordered w.parents) (hc:c<3+w.parents.length):Pure zP 333 [.a (Az w),eI c] (.l (bL (H0 w.parents (3+w.parents.length) c (c - 2))) false):=by
 obtain⟨hw1,hw2,hw3⟩:=hw;have hmL:3+w.parents.length<=Aa:=by simp only[Aa];omega
 refine wL kZ ?_;refine zh ?_;(repeat clear U K);repeat intro K U
 rw[show IntKind.i64.wrap (3+((EN w.parents).length:Nat))=((3+w.parents.length:Nat):Int) by rw[B9,wrap64 (by omega) (by omega)];omega];refine hMk Sat.nil (by omega) fun v Z hs hv=>?_
 obtain⟨id,rfl⟩:=hv
 conv=>whnf
 repeat((first|clear U K|apply st|(apply zk;intro K U)|fail);conv=>whnf)
 refine gS hs 0 c rfl rfl (by simpa using hc) ?_
 conv=>whnf
 refine NF hs 0 rfl (e:=[.b false]) (by simp[hc]) rfl rfl rfl rfl rfl fun Z hs=>?_
 have e0:(List.replicate (3+w.parents.length) [V.b false]).set c [V.b true]=bL (H0 w.parents (3+w.parents.length) c 0):=by
  simp only[H0];rw[<-ZE];simp[bL]
 refine zh ?_;(repeat clear U K);repeat intro K U
 refine B1 (c - 2) (fun k (_:Unit)=>[(6,eI (PW c k))]) (fun k _=>[.own (.sl id (3+w.parents.length) (3+w.parents.length)) 1 (bL (H0 w.parents (3+w.parents.length) c k))]) (fun _ _=>True) () rfl trivial (e0 ▸ hs) ?_;rintro k - Z hk - hs;have hd:PW c k=(c:Int) - k:=VW (by omega) (by omega);have hul:=Mb w.parents (3+w.parents.length) c k;refine zh ?_;(repeat clear U K);repeat intro K U
 refine fork (fun hlt=>?_) (fun hlt=>?_)
 .rw [hd]at hlt
  have h3:3<=c - k:=by omega
  have hpar:=iy (ps:=w.parents) h3 (by omega);have hpl:=hw2 _ (Bp hpar);refine zh ?_;(repeat clear U K);repeat intro K U
  refine WI (c - k - 3) hpar (by rw[hd,wrap64 (by omega) (by omega)];omega) rfl ?_;refine zh ?_;(repeat clear U K);repeat intro K U
  refine B1 (par w.parents (c - k)).length (fun j (_:Unit)=>[(29,eI (A4 j))]) (fun j _=>[.own (.sl id (3+w.parents.length) (3+w.parents.length)) 1 (bL (F7 (H0 w.parents (3+w.parents.length) c k) (c - k) ((par w.parents (c - k)).take j)))]) (fun _ _=>True) () rfl trivial hs ?_;rintro j - Z hj - hs;have hml:=OW (c - k) ((par w.parents (c - k)).take j) (H0 w.parents (3+w.parents.length) c k);refine zh ?_;(repeat clear U K);repeat intro K U
  refine Gu hj hpl (fun p hp hjlt=>?_) fun hj=>?_
  .have hpp:=ho _ p (Bp hp)
   have hm:(F7 (H0 w.parents (3+w.parents.length) c k) (c - k) ((par w.parents (c - k)).take (j+1)))=(F7 (H0 w.parents (3+w.parents.length) c k) (c - k) ((par w.parents (c - k)).take j)).set p.toNat
    ((F7 (H0 w.parents (3+w.parents.length) c k) (c - k) ((par w.parents (c - k)).take j)).getD p.toNat false||(F7 (H0 w.parents (3+w.parents.length) c k) (c - k) ((par w.parents (c - k)).take j)).getD (c - k) false):=by
    rw[AN hp,NV];rfl
   generalize hbs:F7 (H0 w.parents (3+w.parents.length) c k) (c - k) ((par w.parents (c - k)).take j)=bs at *;have hlp:p.toNat<bs.length:=by omega
   have hlc:c - k<bs.length:=by omega
   refine zh ?_;(repeat clear U K);repeat intro K U
   refine Jv hp hpl rfl ?_;refine zh ?_;(repeat clear U K);repeat intro K U
   refine gS hs 0 p.toNat rfl (by omega) (by simpa using hlp) ?_
   conv=>whnf
   refine I0 hs 0 rfl (aV hlp) ?_
   conv=>whnf
   cases hb:bs.getD p.toNat false with
   | true=>
     rw[hb]at hm;refine zh ?_;(repeat clear U K);repeat intro K U
     refine gS hs 0 p.toNat rfl (by omega) (by simpa using hlp) ?_
     conv=>whnf
     refine NF hs 0 rfl (aV hlp) rfl rfl rfl rfl rfl fun Z hs=>?_
     refine zh ?_;(repeat clear U K);repeat intro K U
     refine⟨hjlt,(),rfl,trivial,?_⟩;rw[hm,<-ZE];exact hs
   | false=>
     rw[hb]at hm;refine zh ?_;(repeat clear U K);repeat intro K U
     refine gS hs 0 (c - k) rfl (by rw[hd];omega) (by simpa using hlc) ?_;refine zh ?_;(repeat clear U K);repeat intro K U
     refine I0 hs 0 rfl (aV hlc) ?_
     conv=>whnf
     refine gS hs 0 p.toNat rfl (by omega) (by simpa using hlp) ?_
     conv=>whnf
     refine NF hs 0 rfl (aV hlp) rfl rfl rfl rfl rfl fun Z hs=>?_
     refine zh ?_;(repeat clear U K);repeat intro K U
     refine⟨hjlt,(),rfl,trivial,?_⟩;rw[hm,<-ZE];exact hs
  .rw[Aq hj]at hs
   refine zh ?_;(repeat clear U K);repeat intro K U
   refine⟨by omega,(),rfl,trivial,hs⟩
 .rw[hd]at hlt
  refine zh ?_;(repeat clear U K);repeat intro K U
  have:k=c - 2:=by omega
  subst this;exact Eg hs 0 rfl rfl
def WY {w:AF} (h:FX (.a (Az w))):w.parents.length<=Aa/\(∀l∈w.parents,l.length<=Aa)/\w.owner.length<=Aa:=by
 simp only[Az,Hn,Dk,Hm,KE,B9]at h;exact⟨h.1.1,fun l hl=>(h.1.2 l hl).1.1,h.2.1.1⟩
def MS {xs:List Int} {g:Bool} (h:FX (.l (iL xs) g)):xs.length<=Aa:=by
 simp only[Hm,B9]at h;exact h.1
def LL {f:Fact} (h:FX (.a (xF f))):f.kids.length<=Aa/\f.path.length<=Aa/\ ∀k∈f.kids,FX (.a (xF k)):=by
 simp only[Hn,Dk,Hm,KE,B9]at h;exact⟨h.2.2.2.2.2.1.1,h.2.2.1.1,fun k hk=>by have:=h.2.2.2.2.2.1.2 k hk;rw[Bh]at this;exact this⟩
def Si (w:AF) (c:Int):Bool:=decide (0<=c)&&decide (c<3+w.parents.length)
def mo (w:AF) (c:Int):Pure zP 219 [.a (Az w),eI c] (.b (Si w c)):=by
 refine Pure.fit (by kernel_rfl) fun hf=>?_
 have⟨h1,h2,h3⟩:=WY hf.1;have hM:=Mx;refine x5 kZ ?_
 conv=>whnf
 repeat'((first|clear U K|apply st|(apply zk;intro K U)|refine zn ?_|refine za (fun hc=>?_) fun hc=>?_|fail)<;>conv=>whnf)
 .exact AH (by rw[B9,wrap64 (by omega) (by omega)];simp[Si,hc])
 .exact AH (by simp[Si,hc];intros;omega)
def JR (w:AF) (s:Int):Bool:=decide (0<=s)&&decide (s<w.owner.length)
def Fb (w:AF) (p:List Int):Bool:=p.all (JR w)&&decide (p.length<=2)
def pD (w:AF) (p:List Int) (g:Bool):Pure zP 220 [.a (Az w),.l (iL p) g] (.b (Fb w p)):=by
 refine Pure.fit (by kernel_rfl) fun hf=>?_
 have⟨h1,h2,h3⟩:=WY hf.1;have h4:=MS hf.2.1;have hM:=Mx;refine x4 kZ ?_;refine zu ?_;(repeat clear U K);repeat intro K U
 refine B1 p.length (fun k (_:Unit)=>[(9,eI (A4 k))]) (fun _ _=>[]) (fun k _=>p.all (JR w)=(p.drop k).all (JR w)) () rfl rfl Sat.nil ?_;rintro k - Z hk hn hs
 conv=>whnf
 repeat'((first|clear U K|apply st|(apply zk;intro K U)|refine zn ?_|(refine fc (fun x hx hlt hc=>?_) (fun hk hc=>?_)<;>(try rw[hc])<;>clear hc)|(refine zd (fun hc=>?_) (fun hc=>?_)<;>try exact⟨⟩)|fail)<;>conv=>whnf)
 .exact AH (by rw[Fb,hn,drop_cons hx];simp[JR,hc];intros;omega)
 .exact⟨hlt,(),rfl,by rw[hn,drop_cons hx];simp[JR, *],hs⟩
 .exact AH (by rw[Fb,hn,drop_cons hx];simp[JR,hc];intros;omega)
 .exact AH (by rw[Fb,hn,Ai hk];simp;omega)
def CK (f:Fact):Bool:=f.op==2||f.op==3||f.op==4
def bX (f:Fact):Pure zP 221 [.a (xF f)] (.b (CK f)):=by
 refine x3 kZ ?_
 conv=>whnf
 repeat'((first|clear U K|apply st|(apply zk;intro K U)|refine zn ?_|refine za (fun hc=>?_) fun hc=>?_|fail)<;>conv=>whnf)
 all_goals exact AH (by simp[CK, *])
def Dn:List (Int->Int)->Int->Int->Int
 | [],n,_=>n
 | k::r,n,most=>if n<=most then Dn r (n+k (most - n)) most else n
def Cg (f:Fact):Int->Int:=f.H6 fun _ l most=>Dn l 1 most
def Kt (f:Fact) (most:Int):Cg f most=Dn (f.kids.map Cg) 1 most:=by
 rw[Cg,Fact.Dw];rfl
def Rp {most:Int}: ∀(l:List (Int->Int)) (n:Int),(∀g∈l,∀m,0<=m->1<=g m/\g m<=m+1)->1<=n->n<=most+1->1<=Dn l n most/\Dn l n most<=most+1
 | [],n,_,h1,h2=>⟨h1,h2⟩
 | g ::r,n,h,h1,h2=>by
   rw[Dn];split
   .have:=h g (List.mem_cons_self ..) (most - n) (by omega)
    exact Rp r _ (fun g hg=>h g (List.mem_cons_of_mem _ hg)) (by omega) (by omega)
   .exact⟨h1,h2⟩
def Lz (f:Fact): ∀m,0<=m->1<=Cg f m/\Cg f m<=m+1:=by
 induction f using Fact.ind with
 | h f ih=>
   intro m hm;rw[Kt];refine Rp _ _ (fun g hg=>?_) (by omega) (by omega);obtain⟨k,hk,rfl⟩:=Il.1 hg;exact ih k hk
def lk (f:Fact): ∀most:Int,0<=most->most<=1000->Pure zP 88 [.a (xF f),eI most] (eI (Cg f most)):=by
 induction f using Fact.ind with
 | h f ih=>
   intro most h0 h1;refine Pure.fit (by kernel_rfl) fun hf=>?_
   have⟨h2,h3,h4⟩:=LL hf.1;have hM:=Mx;refine ABE kZ ?_;refine zu ?_;(repeat clear U K);repeat intro K U
   refine B1 f.kids.length (fun k (n:Int)=>[(5,eI n),(6,eI (A4 k))]) (fun _ _=>[]) (fun k n=>1<=n/\n<=most+1/\Cg f most=Dn ((f.kids.drop k).map Cg) n most) 1 rfl ⟨by omega,by omega,by rw[List.drop_zero];exact Kt f most⟩ Sat.nil ?_;rintro k n Z hk ⟨hn1,hn2,hn⟩ hs
   conv=>whnf
   repeat'((first|clear U K|apply st|(apply zk;intro K U)|refine zn ?_|(refine fc (fun x hx hlt hc=>?_) (fun hk hc=>?_)<;>(try rw[hc])<;>clear hc)|refine za (fun hc=>?_) fun hc=>?_|fail)<;>conv=>whnf)
   .rw[wrap64 (by omega) (by omega)]
    have hb:=Lz x (most - n) (by omega);refine(ih x (Bp hx) (most - n) (by omega) (by omega)).use ?_;refine zu ?_;(repeat clear U K);repeat intro K U
    rw[wrap64 (by omega) (by omega)];exact⟨hlt,_,rfl,⟨by omega,by omega,by rw[hn,drop_cons hx,FA,Dn,if_pos hc]⟩,hs⟩
   .exact AH (by rw[hn,drop_cons hx,FA,Dn,if_neg (by omega)])
   .exact AH (by rw[hn,Ai hk];rfl)
def lq (f:Fact):Pure zP 29 [.a (xF f)] (eI (Cg f 24)):=by
 refine ABU kZ ?_;refine zu ?_;(repeat clear U K);repeat intro K U
 refine(lk f 24 (by omega) (by omega)).use ?_;exact zW
def Nj (f:Fact):Nat:=f.H6 fun _ l=>1+l.sum
def Ll (f:Fact):Nj f=1+(f.kids.map Nj).sum:=Fact.Dw _ f
def cN {f k:Fact} (h:k∈f.kids):Nj k<Nj f:=by
 have: ∀l:List Fact,k∈l->Nj k<=(l.map Nj).sum:=fun l=>by
  induction l with
  | nil=>intro h;cases h
  | cons x r ih=>
    intro h;simp only[FA,List.sum_cons];rcases GM.1 h with rfl|h
    .omega
    .have:=ih h;omega
 have:=this _ h;rw[Ll f];omega
def Ro {most:Int}: ∀(l:List Fact) (n:Int),(∀k∈l,∀m,0<=m->Cg k m<=m->Cg k m=Nj k)->0<=n->Dn (l.map Cg) n most<=most->Dn (l.map Cg) n most=n+(l.map Nj).sum
 | [],n,_,_,_=>by simp[Dn]
 | k :: r, n,h,h0,h1=>by
   simp only[FA,Dn]at *;split at h1
   .rename_i hc
    rw[if_pos hc];have hb:=Lz k (most - n) (by omega)
    have hge: ∀(l:List Fact) (a:Int),a<=Dn (l.map Cg) a most:=fun l=>by
     induction l with
     | nil=>intro a;exact Int.le_refl _
     | cons y l ih=>
       intro a;simp only[FA,Dn];split
       .have:=Lz y (most - a) (by omega)
        have:=ih (a+Cg y (most - a));omega
       .exact Int.le_refl _
    have h2:=hge r (n+Cg k (most - n));have h3:=h k (List.mem_cons_self ..) (most - n) (by omega) (by omega);have h4:=Ro r (n+Cg k (most - n)) (fun k' hk'=>h k' (List.mem_cons_of_mem _ hk')) (by omega) h1;simp only[List.sum_cons];omega
   .rename_i hc
    omega
def Ly (f:Fact): ∀m,0<=m->Cg f m<=m->Cg f m=Nj f:=by
 induction f using Fact.ind with
 | h f ih=>
   intro m h0 h1;rw[Kt]at *;rw[Ro f.kids 1 ih (by omega) h1,Ll];omega
def LC (a b:Int):Int:=if a<b then b else a
def EW (f:Fact):Int:=f.H6 fun _ l=>l.foldl LC 0+1
def Ic (f:Fact):EW f=(f.kids.map EW).foldl LC 0+1:=Fact.Dw _ f
def LV {m:Int}: ∀(l:List Int) (a:Int),(∀x∈l,x<=m)->a<=m->l.foldl LC a<=m
 | [],_,_,h=>h
 | x::r,a,h,h'=>by
   refine LV r _ (fun y hy=>h y (List.mem_cons_of_mem _ hy)) ?_;have:=h x (List.mem_cons_self ..);unfold LC;split<;>omega
def LS: ∀(l:List Int) (a:Int),a<=l.foldl LC a
 | [],_=>Int.le_refl _
 | x::r,a=>by
   refine Int.le_trans ?_ (LS r _);unfold LC;split<;>omega
def Z4 (f:Fact):1<=EW f/\EW f<=Nj f:=by
 induction f using Fact.ind with
 | h f ih=>
   rw[Ic];have h1:=LS (f.kids.map EW) 0
   have h2:(f.kids.map EW).foldl LC 0<=(Nj f:Int) - 1:=by
    refine LV _ _ (fun x hx=>?_) (by have:=Ll f;omega);obtain⟨k,hk,rfl⟩:=Il.1 hx;have:=(ih k hk).2;have:=cN hk;omega
   omega
def Gy {α:Type} {xs:List α} {k:Nat} {x:α} {β:Type} (g:α->β) (h:β->β->β) (a:β) (hx:xs[k]? =some x):((xs.take (k+1)).map g).foldl h a=h (((xs.take k).map g).foldl h a) (g x):=by
 rw[AN hx,SU,List.foldl_append];rfl
def mc (f:Fact):Nj f<=Aa->Pure zP 148 [.a (xF f)] (eI (EW f)):=by
 induction f using Fact.ind with
 | h f ih=>
   intro hc;refine Pure.fit (by kernel_rfl) fun hf=>?_
   have⟨h2,h3,h4⟩:=LL hf.1;have hM:=Mx;refine yk kZ ?_;refine zu ?_;(repeat clear U K);repeat intro K U
   refine B1 f.kids.length (fun k (_:Unit)=>[(3,eI (((f.kids.take k).map EW).foldl LC 0)),(9,eI (A4 k))]) (fun _ _=>[]) (fun _ _=>True) () rfl trivial Sat.nil ?_;rintro k - Z hk - hs
   conv=>whnf
   repeat'((first|clear U K|apply st|(apply zk;intro K U)|refine zn ?_|refine zr fun Z hs=>?_|(refine fc (fun x hx hlt hc=>?_) (fun hk hc=>?_)<;>(try rw[hc])<;>clear hc)|refine zp fun nn hnn Z hs=>?_|fail)<;>conv=>whnf)
   .refine(ih x (Bp hx) (by have:=cN (Bp hx);omega)).use ?_
    refine zu ?_;(repeat clear U K);repeat intro K U
    exact⟨hlt,(),by rw[Gy _ _ _ hx];rfl,trivial,Sat.nil⟩
   .have:=Z4 f
    rw[Ic]at this;exact AH (by rw[Aq hk,wrap64 (by omega) (by omega),<-Ic])
def Gq (f:Fact):Int:=f.H6 fun f l=>l.foldl LC (if CK f then f.arg+1 else 0)
def Ko (f:Fact):Gq f=(f.kids.map Gq).foldl LC (if CK f then f.arg+1 else 0):=Fact.Dw _ f
def S6 (f:Fact):Bool:=f.H6 fun f l=>decide (0<=f.arg)&&decide (f.arg<3)&&l.all id
def RQ (f:Fact):S6 f=(decide (0<=f.arg)&&decide (f.arg<3)&&(f.kids.map S6).all id):=Fact.Dw _ f
def lH (f:Fact):S6 f=true->Pure zP 156 [.a (xF f)] (eI (Gq f)):=by
 induction f using Fact.ind with
 | h f ih=>
   intro ha;refine Pure.fit (by kernel_rfl) fun hf=>?_
   have⟨h2,h3,h4⟩:=LL hf.1;have hM:=Mx;rw[RQ]at ha;simp only[A9,Cp,List.all_map,EG]at ha;refine yf kZ ?_;refine zu ?_;(repeat clear U K);repeat intro K U
   refine(bX f).use ?_
   conv=>whnf
   repeat'((first|clear U K|apply st|(apply zk;intro K U)|refine zn ?_|refine za (fun hc=>?_) fun hc=>?_|fail)<;>conv=>whnf)
   .refine B1 f.kids.length (fun k (_:Unit)=>[(3,eI (((f.kids.take k).map Gq).foldl LC (if CK f then f.arg+1 else 0))),(14,eI (A4 k))]) (fun _ _=>[]) (fun _ _=>True) () (by rw[wrap64 (by omega) (by omega),if_pos hc];rfl) trivial Sat.nil ?_
    rintro k - Z hk - hs
    conv=>whnf
    repeat'((first|clear U K|apply st|(apply zk;intro K U)|refine zn ?_|refine zr fun Z hs=>?_|(refine fc (fun x hx hlt hc=>?_) (fun hk hc=>?_)<;>(try rw[hc])<;>clear hc)|refine zp fun nn hnn Z hs=>?_|fail)<;>conv=>whnf)
    .refine(ih x (Bp hx) (ha.2 x (Bp hx))).use ?_
     refine zu ?_;(repeat clear U K);repeat intro K U
     exact⟨hlt,(),by rw[Gy _ _ _ hx];rfl,trivial,Sat.nil⟩
    .exact AH (by rw[Aq hk,<-Ko])
   .refine B1 f.kids.length (fun k (_:Unit)=>[(3,eI (((f.kids.take k).map Gq).foldl LC (if CK f then f.arg+1 else 0))),(14,eI (A4 k))]) (fun _ _=>[]) (fun _ _=>True) () (by rw[if_neg (c:=CK f=true) (by simp[hc])];rfl) trivial Sat.nil ?_
    rintro k - Z hk - hs
    conv=>whnf
    repeat'((first|clear U K|apply st|(apply zk;intro K U)|refine zn ?_|refine zr fun Z hs=>?_|(refine fc (fun x hx hlt hc=>?_) (fun hk hc=>?_)<;>(try rw[hc])<;>clear hc)|refine zp fun nn hnn Z hs=>?_|fail)<;>conv=>whnf)
    .refine(ih x (Bp hx) (ha.2 x (Bp hx))).use ?_
     refine zu ?_;(repeat clear U K);repeat intro K U
     exact⟨hlt,(),by rw[Gy _ _ _ hx];rfl,trivial,Sat.nil⟩
    .exact AH (by rw[Aq hk,<-Ko])
def Ch (op:Int):Nat:=if op=5 then 1 else if op=6\/op=7 then 2 else 0
def YX (w:AF) (f:Fact):Bool:=
 if f.op=2 then f.n==0&&Si w f.cls else if f.op=3\/f.op=4 then f.cls==0&&(decide (-1000000000<=f.n)&&decide (f.n<=1000000000))else f.op==1||f.op==5||f.op==6||f.op==7
def DE (w:AF) (f:Fact):Bool:=
 YX w f&&(f.kids.length==Ch f.op&&(decide (0<=f.arg)&&(decide (f.arg<3)&&(Fb w f.path&&(CK f||(f.arg==0&&(f.path.length==0&&(f.cls==0&&f.n==0))))))))
def Bb (w:AF) (f:Fact):Bool:=f.H6 fun f l=>DE w f&&l.all id
def CO (w:AF) (f:Fact):Bb w f=(DE w f&&f.kids.all (Bb w)):=by rw[Bb,Fact.Dw,List.all_map];rfl
def Q3 {w:AF} {f:Fact} (h:DE w f=false):Bb w f=false:=by rw[CO,h,Bool.false_and]
def ABc {f:Fact} (h1:CK f=false) (h2:f.arg=0) (h3:(f.path.length:Int) > 0):true= !(CK f||(f.arg==0&&(f.path.length==0&&(f.cls==0&&f.n==0)))):=by
 have:(f.path.length==0)=false:=by simp;intro e;rw[e]at h3;simp at h3
 rw[this,h1,h2];rfl
def pU (w : AF) (f:Fact):Pure zP 149 [.a (Az w),.a (xF f)] (.b (Bb w f)):=by
 induction f using Fact.ind with
 | h f ih=>
   refine Pure.fit (by kernel_rfl) fun hf=>?_
   have⟨h2,h3,h4⟩:=LL hf.2.1;have⟨w1,w2,w3⟩:=WY hf.1;have hM:=Mx;refine yj kZ ?_
   conv=>whnf
   repeat'((first|apply st|(apply sq;intro K U)|(apply si;intro A B hA hB)|(refine hA _ _ ?_;clear hB B hA A)|(apply U;clear U K)|refine⟨rfl,?_⟩|fail)<;>conv=>whnf)
   have hJ :=S3 U (fun(_:Unit)=>[(5,eI (Ch f.op))]) (fun _=>[]) (fun _=>YX w f=true) [(2,.rp (Az w)),(3,.rp (xF f)),(5,eI 0)] (by
    clear U;rintro - Z ho -
    conv=>whnf
    repeat'((first|apply st|(apply sq;intro K U)|(apply si;intro A B hA hB)|refine⟨rfl,?_⟩|fail)<;>conv=>whnf)
    have hJ :=S3 U (fun(b:Bool)=>[(66,.b b)]) (fun _=>[]) (fun b=>b= !(f.kids.length==Ch f.op&&(decide (0<=f.arg)&&(decide (f.arg<3)&&Fb w f.path)))) [(2,.rp (Az w)),(3,.rp (xF f)),(66,.b false)] (by
     clear U;rintro b Z hb -
     conv=>whnf
     repeat'((first|apply st|fail)<;>conv=>whnf)
     have hJ :=S3 U (fun(_:Unit)=>[]) (fun _=>[]) (fun _=>b=false) [(2,.rp (Az w)),(3,.rp (xF f))] (by
      clear U;rintro - Z hb' -;rw[hb']at hb
      conv=>whnf
      repeat'((first|apply st|(apply sq;intro K U)|(apply si;intro A B hA hB)|refine⟨kZ,?_⟩|refine Pure.use (bX _) ?_|fail)<;>conv=>whnf)
      have hJ:=S3 U (fun(b:Bool)=>[(90,.b b)]) (fun _=>[]) (fun b=>b= !(CK f||(f.arg==0&&(f.path.length==0&&(f.cls==0&&f.n==0))))) [(2,.rp (Az w)),(3,.rp (xF f)),(90,.b false)] (by
       clear U;rintro b Z hb2 -
       conv=>whnf
       repeat'((first|apply st|fail)<;>conv=>whnf)
       have hJ:=S3 U (fun(_:Unit)=>[]) (fun _=>[]) (fun _=>b=false) [(2,.rp (Az w)),(3,.rp (xF f))] (by
        clear U;rintro - Z hb' -;rw[hb']at hb2
        have hh:DE w f=true:=by
         have hb:(f.kids.length==Ch f.op&&(decide (0<=f.arg)&&(decide (f.arg<3)&&Fb w f.path)))=true:=by rw[<-Bool.not_eq_false',<-hb]
         have hb2:(CK f||(f.arg==0&&(f.path.length==0&&(f.cls==0&&f.n==0))))=true:=by rw[<-Bool.not_eq_false',<-hb2]
         simp only[A9]at hb;simp only[DE,ho,hb.1,hb.2,hb2,Bool.and_self]
        conv=>whnf
        repeat'((first|apply st|(apply sq;intro K U)|(apply si;intro A B hA hB)|(refine hA _ _ ?_;clear hB B hA A)|(apply U;clear U K)|fail)<;>conv=>whnf)
        refine B1 f.kids.length (fun k (_:Unit)=>[(94,eI (A4 k))]) (fun _ _=>[]) (fun k _=>Bb w f=(f.kids.drop k).all (Bb w)) () rfl (by rw[CO,hh];rfl) Sat.nil ?_;rintro k - Z hk hn hs
        conv=>whnf
        repeat'((first|apply st|(apply sq;intro K U)|(apply si;intro A B hA hB)|(refine hA _ _ ?_;clear hB B hA A)|(apply U;clear U K)|refine⟨rfl,?_⟩|refine⟨kZ,?_⟩|refine zx ?_|refine ld ?_|refine sn fun Z hs=>?_|(refine fc (fun x hx hlt hc=>?_) (fun hk hc=>?_)<;>(try rw[hc])<;>clear hc)|(intro nn hnn;generalize hg:B7 _ nn _=Z;refine al hg fun hs=>?_;clear hg)|clear U K)<;>conv=>whnf)
        .have hxm:=Bp hx
         refine(ih x hxm).use ?_
         conv=>whnf
         repeat'((first|apply st|(apply sq;intro K U)|(apply si;intro A B hA hB)|(refine hA _ _ ?_;clear hB B hA A)|(apply U;clear U K)|refine⟨rfl,?_⟩|(constructor<;>intro hc<;>(try rw[hc])<;>(replace hc:=bp hc))|clear U K)<;>conv=>whnf)
         .exact AH (by rw[hn,drop_cons hx];simp[hc])
         .exact⟨hlt,(),rfl,by rw[hn,drop_cons hx];simp[hc],Sat.nil⟩
        .exact AH (by rw[hn,Ai hk];rfl))
       clear U
       conv=>whnf
       repeat'((first|apply st|(apply sq;intro K U)|(apply si;intro A B hA hB)|(refine hA _ _ ?_;clear hB B hA A)|(apply U;clear U K)|(constructor<;>intro hc<;>(try rw[hc])<;>(replace hc:=bp hc))|fail)<;>conv=>whnf)
       .have hx:(CK f||(f.arg==0&&(f.path.length==0&&(f.cls==0&&f.n==0))))=false:=by rw[<-Bool.not_eq_true',<-hb2,hc]
        exact AH (by rw[Q3];simp only[DE,hx,Bool.and_false])
       .exact hJ () _ _ rfl hc Sat.nil)
      clear U;clear hb
      conv=>whnf
      repeat'((first|apply st|(refine hA _ _ ?_;clear hB B hA A)|refine⟨rfl,?_⟩|(constructor<;>intro hc<;>(try rw[hc])<;>(replace hc:=bp hc)<;>(try simp(disch:=omega) only[B9,wrap64,Ag]at hc))|fail)<;>conv=>whnf)
      .have hp:f.path.length=0:=by omega
       exact hJ _ _ _ rfl (by rw[hp];simp[*,bne]) Sat.nil
      .exact hJ true _ _ rfl (by simp[*]) Sat.nil
      .exact hJ true _ _ rfl (ABc (by assumption) (by assumption) hc) Sat.nil
      .exact hJ true _ _ rfl (by simp[*]) Sat.nil
      .exact hJ false _ _ rfl (by simp[*]) Sat.nil)
     clear U
     conv=>whnf
     repeat'((first|apply st|(apply sq;intro K U)|(apply si;intro A B hA hB)|(refine hA _ _ ?_;clear hB B hA A)|(apply U;clear U K)|(constructor<;>intro hc<;>(try rw[hc])<;>(replace hc:=bp hc))|fail)<;>conv=>whnf)
     .have hx:(f.kids.length==Ch f.op&&(decide (0<=f.arg)&&(decide (f.arg<3)&&Fb w f.path)))=false:=by rw[<-Bool.not_eq_true',<-hb,hc]
      exact AH (by rw[Q3];simp only[DE];simp only[Bool.and_eq_false_iff]at hx ⊢;rcases hx with h|h|h|h<;>simp[h])
     .exact hJ () _ _ rfl hc Sat.nil)
    clear U
    conv=>whnf
    repeat'((first|apply st|(refine hA _ _ ?_;clear hB B hA A)|refine⟨rfl,?_⟩|refine⟨kZ,?_⟩|refine Pure.use (pD _ _ _) ?_|(constructor<;>intro hc<;>(try rw[hc])<;>(replace hc:=bp hc)<;>(try simp(disch:=omega) only[B9,wrap64,Ag]at hc))|fail)<;>conv=>whnf)
    all_goals exact hJ _ _ _ rfl (by simp[*]<;>omega) Sat.nil)
   clear U
   conv=>whnf
   repeat'((first|apply st|(apply sq;intro K U)|(apply si;intro A B hA hB)|(refine hA _ _ ?_;clear hB B hA A)|(apply U;clear U K)|refine⟨rfl,?_⟩|refine⟨kZ,?_⟩|refine Pure.use (mo _ _) ?_|(constructor<;>intro hc<;>(try rw[hc])<;>(replace hc:=bp hc))|fail)<;>conv=>whnf)
   all_goals first
    | exact AH (by rw[Q3];simp only[DE,YX];simp[*]<;>omega)
    | exact hJ () _ _ (by simp[Ch, *];rfl) (by simp[YX, *]<;>omega) Sat.nil
def UY (n:Int):Bool:=decide (-1000000000<=n)&&decide (n<=1000000000)
def sH (n:Int):Pure zP 235 [eI n] (.b (UY n)):=by
 refine xp kZ ?_
 conv=>whnf
 repeat'((first|clear U K|apply st|(apply zk;intro K U)|refine zn ?_|refine za (fun hc=>?_) fun hc=>?_|fail)<;>conv=>whnf)
 all_goals exact AH (by simp[UY, *]<;>omega)
def LI (k:Int):Bool:=k==1||k==4
def uY (k:Int):Pure zP 158 [eI k] (.b (LI k)):=by
 refine ye kZ ?_
 conv=>whnf
 repeat'((first|clear U K|apply st|(apply zk;intro K U)|refine zn ?_|refine za (fun hc=>?_) fun hc=>?_|fail)<;>conv=>whnf)
 all_goals exact AH (by simp[LI, *])
def Gn {p:Prog} (h:FX (.a (BG p))):p.AP.length<=Aa/\p.Dx.length<=Aa/\p.methods.length<=Aa/\p.nodes.length<=Aa:=by
 simp only[BG,Hn,Dk,Hm,B9]at h;exact⟨h.1.1,h.2.2.1.1,h.2.2.2.1.1,h.2.2.2.2.1.1⟩
def J2 (p:Prog) (x:Node):Int:=
 if x.op=1\/x.op=2\/x.op=3\/x.op=6\/x.op=18 then 0 else
 if x.op=4\/x.op=8\/x.op=17 then 1 else
 if x.op=7\/x.op=9\/x.op=11\/x.op=12\/x.op=13\/x.op=14\/x.op=15\/x.op=16 then 2 else
 if x.op=10 then 3 else
 if x.op=5/\0<=x.n/\x.n<p.Dx.length then p.Dx.getD x.n.toNat 0 else -1
def px (p:Prog) (x:Node):Pure zP 236 [.a (BG p),.a (J5 x)] (eI (J2 p x)):=by
 refine Pure.fit (by kernel_rfl) fun hf=>?_
 have⟨p1,p2,p3,p4⟩:=Gn hf.1;have hM:=Mx;refine xn kZ ?_
 conv=>whnf
 repeat'((first|clear U K|apply st|(apply zk;intro K U)|refine zn ?_|refine ze fun x hx=>?_|(refine zd (fun hc=>?_) (fun hc=>?_)<;>try exact⟨⟩)|fail)<;>conv=>whnf)
 all_goals first
  | (refine AH ?_;simp[J2, *];done)
  | (refine AH ?_;simp[J2, *];intros;omega)
  | (have hd:=(JL.1 hx).2;refine AH ?_;simp[J2, *];done)
def Nr (p:Prog) (x:Node) (size:Int):Bool:=
 if x.op=1 then UY x.n else if x.op=3 then decide (0<=x.n)&&decide (x.n<size)else if x.op=4\/x.op=7 then decide (0<=x.n)&&decide (x.n<p.AG)else
 if x.op=5 then decide (0<=x.n)&&decide (x.n<p.Dx.length)else if x.op=6\/x.op=8 then decide (3<=x.n)&&decide (x.n<3+p.AP.length)else x.n==0
def eM (p:Prog) (x:Node) (size:Int):Pure zP 237 [.a (BG p),.a (J5 x),eI size] (.b (Nr p x size)):=by
 refine Pure.fit (by kernel_rfl) fun hf=>?_
 have⟨p1,p2,p3,p4⟩:=Gn hf.1;have hM:=Mx;refine xm kZ ?_
 conv=>whnf
 repeat'((first|clear U K|apply st|(apply zk;intro K U)|refine zn ?_|refine Pure.use (sH _) ?_|refine za (fun hc=>?_) fun hc=>?_|fail)<;>conv=>whnf)
 all_goals first
  | (refine AH ?_;simp[Nr, *];done)
  | (refine AH ?_;rw[B9,wrap64 (by omega) (by omega)];simp[Nr, *];done)
  | (refine AH ?_;simp[Nr, *];intros;omega)
def Ju (ps:List (List Int)) (a b:Int):Bool:=a==b||(b==0||(decide (3<=a)&&HA ps a.toNat b.toNat))
def Xm (w:AF) (a b:Int) (hl:w.parents.length<=1000) (ho:ordered w.parents) (ha:0<=a) (ha':a<3+w.parents.length) (hb:0<=b) (hb':b<3+w.parents.length):Pure zP 298 [.a (Az w),eI a,eI b] (.b (Ju w.parents a b)):=by
 refine Pure.fit (by kernel_rfl) fun hf=>?_
 have⟨w1,w2,w3⟩:=WY hf.1;have hM:=Mx;refine wy kZ ?_
 conv=>whnf
 repeat'((first|clear U K|apply st|(apply zk;intro K U)|refine zn ?_|refine za (fun hc=>?_) fun hc=>?_|fail)<;>conv=>whnf)
 .exact AH (by simp[Ju,hc])
 .exact AH (by simp[Ju, *];omega)
 .have hc':0<=a:=ha
  obtain⟨a,rfl⟩: ∃n:Nat,a=n:=⟨a.toNat,by omega⟩
  refine(AAa w a ⟨hl,w2,w3⟩ ho (by omega)).use ?_;have hul:=Mb w.parents (3+w.parents.length) a (a - 2)
  conv=>whnf
  repeat'((first|clear U K|apply st|(apply zk;intro K U)|refine ze fun x hx=>?_|fail)<;>conv=>whnf)
  refine AH ?_;have hu:=ah ho (n:=3+w.parents.length) (c:=a) (by omega) b.toNat;rw[C6,hx]at hu;simp at hu;have e1:((a:Int)==b)=false:=by simpa using ‹(a:Int)≠b›
  have e2:(b==0)=false:=by simpa using ‹b≠0›
  simp[Ju,e1,e2,hc,hu]
 .exact AH (by simp[Ju,hc])
structure JN (w:AF):Prop where
 len:w.parents.length<=60
 ord:ordered w.parents
 own: ∀c∈w.owner,(3:Int)<=c/\c<3+w.parents.length
 olen:w.owner.length<=40
def Bl (w:AF) (s:Int):Int:=w.owner.getD s.toNat 0
def hasB (w:AF) (c s:Int):Bool:=decide (3<=c)&&Ju w.parents c (Bl w s)
def jW (w:AF) (c s:Int) (hw:JN w) (hc0:0<=c) (hc1:c<3+w.parents.length) (hs0:0<=s) (hs1:s<w.owner.length):Pure zP 234 [.a (Az w),eI c,eI s] (.b (hasB w c s)):=by
 refine Pure.fit (by kernel_rfl) fun hf=>?_
 have⟨w1,w2,w3⟩:=WY hf.1;have hM:=Mx;have hl:=hw.len;refine xq kZ ?_
 conv=>whnf
 repeat'((first|clear U K|apply st|(apply zk;intro K U)|refine zn ?_|refine ze fun x hx=>?_|refine za (fun hc=>?_) fun hc=>?_|fail)<;>conv=>whnf)
 .have:=hw.own x (Bp hx)
  refine(Xm w c x (by omega) hw.ord hc0 hc1 (by omega) (by omega)).use ?_;refine zu ?_;(repeat clear U K);repeat intro K U
  exact AH (by simp[hasB,Bl,hx,hc])
 .exact AH (by simp[hasB];omega)
def qC (xs:List Int) (f:Bool) (x:Int):Pure zP 296 [.l (iL xs) f,eI x] (.b (xs.contains x)):=Pure.fit (by kernel_rfl) fun hf=>jV xs f x (MS hf.1)
def DM (w:AF) (f:Fact):Bool:=decide (Cg f 24<=24)&&(decide (EW f<=12)&&Bb w f)
def mO (w:AF) (f:Fact):Pure zP 86 [.a (Az w),.a (xF f)] (.b (DM w f)):=by
 refine ABG kZ ?_
 conv=>whnf
 repeat'((first|clear U K|apply st|(apply zk;intro K U)|refine zn ?_|refine Pure.use (lq _) ?_|refine za (fun hc=>?_) fun hc=>?_|fail)<;>conv=>whnf)
 .have:=Ly f 24 (by omega) hc
  refine(mc f (by simp only[Aa];omega)).use ?_
  conv=>whnf
  repeat'((first|clear U K|apply st|refine zn ?_|refine Pure.use (pU _ _) ?_|refine za (fun hc=>?_) fun hc=>?_|fail)<;>conv=>whnf)
  .exact AH (by simp[DM,hc,‹Cg f 24<=24›])
  .exact AH (by simp[DM, *];intros;omega)
 .exact AH (by simp[DM];intros;omega)
def s8 (i:Nat) (pre:List Int) (c:Int):Bool:=decide (3<=c)&&(decide (c<3+i)&& !pre.contains c)
def Nv (i:Nat):List Int->List Int->Bool
 | _,[]=>true
 | pre,c::r=>s8 i pre c&&Nv i (pre++[c]) r
def JS:Nat->List (List Int)->Bool
 | _,[]=>true
 | i,l::r=>decide (l.length<=3)&&(Nv i [] l&&JS (i+1) r)
def D4 (g:List (List Int)):Bool:=decide (g.length<=16)&&JS 0 g
def Up {ls:List (List Int)} {g:Bool} (h:FX (.l (EN ls) g)):ls.length<=Aa/\ ∀l∈ls,l.length<=Aa:=by
 simp only[Hm,B9,KE,Dk]at h;exact⟨h.1,fun l hl=>(h.2 l hl).1.1⟩
def qJ (g:List (List Int)) (f:Bool):Pure zP 232 [.l (EN g) f] (.b (D4 g)):=by
 refine Pure.fit (by kernel_rfl) fun hf=>?_
 have⟨g1,g2⟩:=Up hf.1;have hM:=Mx;refine xu kZ ?_
 conv=>whnf
 repeat'((first|clear U K|apply st|(apply zk;intro K U)|refine zn ?_|(refine zd (fun hc=>?_) (fun hc=>?_)<;>try exact⟨⟩)|fail)<;>conv=>whnf)
 .exact AH (by simp[D4];intros;omega)
 .refine B1 g.length (fun k (_:Unit)=>[(3,eI (A4 k))]) (fun _ _=>[]) (fun k _=>D4 g=JS k (g.drop k)) () rfl (by simp[D4];omega) Sat.nil ?_
  rintro k - Z hk hn hs
  conv=>whnf
  repeat'((first|clear U K|apply st|(apply zk;intro K U)|refine zn ?_|(refine fc (fun x hx hlt hc=>?_) (fun hk hc=>?_)<;>(try rw[hc])<;>clear hc)|(refine zd (fun hc=>?_) (fun hc=>?_)<;>try exact⟨⟩)|fail)<;>conv=>whnf)
  .exact AH (by rw[hn,drop_cons hx,JS];simp;intros;omega)
  .revert x
   rintro l hl hl3;have hll:=g2 l (Bp hl);have hn':D4 g=(Nv k [] l&&JS (k+1) (g.drop (k+1))):=by rw[hn,drop_cons hl,JS];simp;intros;omega
   refine B1 l.length (fun j (_:Unit)=>[(4,eI (A4 j))]) (fun _ _=>[]) (fun j _=>D4 g=(Nv k (l.take j) (l.drop j)&&JS (k+1) (g.drop (k+1)))) () rfl (by rw[hn'];rfl) Sat.nil ?_;rintro j - Z hj hm hs
   conv=>whnf
   repeat'((first|clear U K|apply st|(apply zk;intro K U)|refine zn ?_|(refine fc (fun x hx hlt hc=>?_) (fun hk hc=>?_)<;>(try rw[hc])<;>clear hc)|refine Pure.use (qC _ _ _) ?_|(refine zd (fun hc=>?_) (fun hc=>?_)<;>try exact⟨⟩)|fail)<;>conv=>whnf)
   .exact AH (by rw[hm,drop_cons hx,Nv,s8,hc];simp)
   .refine⟨hlt,(),rfl,?_,Sat.nil⟩
    rw[hm,drop_cons hx,Nv,s8,hc,AN hx];simp[*]
   .exact AH (by rw[hm,drop_cons hx,Nv,s8];simp;intros;omega)
   .exact AH (by rw[hm,drop_cons hx,Nv,s8];simp;intros;omega)
   .refine⟨by assumption,(),rfl,?_,Sat.nil⟩
    rw[hm,Ai hk,Nv,Ds]
  .exact AH (by rw[hn,Ai hk];rfl)
def MH:Int->List Int->Bool
 | _,[]=>true
 | n,s::r=>s==n&&MH (n+1) r
def Cu:Int->List Sb->Bool
 | _,[]=>true
 | n,c::r=>decide (c.AG.length<=4)&&(decide (c.parents.length<=3)&&(MH n c.AG&&Cu (n+c.AG.length) r))
def EV (w:AF) (c n:Int):List (Int×Int)->List (Int×Int)->Bool
 | _,[]=>true
 | pre,x::r=>decide (0<=x.1)&&(decide (x.1<n)&&(hasB w c x.1&&(UY x.2&&(pre.all (fun y=>y.1 != x.1)&&EV w c n (pre++[x]) r))))
def oC (g:List (List Int)) (c:Int):Bool:= !((CG g).getD c.toNat []).isEmpty
def Gp (w:AF) (n:Int):Nat->List Sb->Bool
 | _,[]=>true
 | i,c::r=>oC w.parents ((i:Int)+3)&&(EV w ((i:Int)+3) n [] c.inits&&Gp w n (i+1) r)
def BC (p:Prog):Bool:=decide (p.AP.length<=10)&&(Cu 0 p.AP&&((Bt p.AP:Int)==p.AG&&(D4 (A5 p)&&Gp (AL p) (Bt p.AP) 0 p.AP)))
def AA8 {c:Sb} (h:Io (WC c)):c.parents.length<=Aa/\c.AG.length<=Aa/\c.inits.length<=Aa:=by
 simp only[WC,Dk,Hm,B9]at h;exact⟨h.1.1,h.2.1.1,h.2.2.1.1⟩
def J3 {p:Prog} (h:FX (.a (BG p))):tY p:=by
 refine⟨(Gn h).1,fun c hc=>?_⟩;simp only[BG,Hn,Dk,Hm,KE]at h;exact AA8 (h.1.2 c hc)
def mJ (p:Prog) (hk0:p.AP.length<=1000):Pure zP 122 [.a (BG p)] (.l (EN (A5 p)) false):=Pure.fit (by kernel_rfl) fun hf=>bk p (J3 hf.1) hk0
def Fm: ∀(cs:List Sb) (n:Int),Cu n cs=true->Bt cs<=4*cs.length/\ ∀c∈cs,c.parents.length<=3/\c.AG.length<=4
 | [],_,_=>⟨Hz _,fun _ h=>by cases h⟩
 | c::r,n,h=>by
   simp only[Cu,A9,Cp]at h;have⟨h1,h2⟩:=Fm r _ h.2.2.2;refine⟨by simp only[Bt,FA,List.sum_cons,LF]at *;omega,fun d hd=>?_⟩;rcases GM.1 hd with rfl|hd
   .exact⟨h.2.1,h.1⟩
   .exact h2 d hd
def Tz {i:Nat}: ∀(r pre:List Int),Nv i pre r=true->pre.Nodup->(pre++r).Nodup/\ ∀c∈r,(3:Int)<=c/\c<3+(i:Int)
 | [],pre,_,h=>⟨by simpa using h,fun _ h=>by cases h⟩
 | c::r,pre,h,hn=>by
   simp only[Nv,s8,A9,Cp,Bool.not_eq_true']at h;have hc:c∉pre:=by simpa using h.1.2.2
   obtain⟨h1,h2⟩:=Tz r (pre++[c]) h.2 (List.nodup_append.2 ⟨hn,by simp,fun a ha b hb=>by simp at hb;subst hb;exact fun e=>hc (e ▸ ha)⟩);refine⟨by simpa using h1,fun d hd=>?_⟩;rcases GM.1 hd with rfl|hd
   .exact⟨h.1.1,h.1.2.1⟩
   .exact h2 d hd
def Ri: ∀(g:List (List Int)) (k:Nat),JS k g=true-> ∀(i:Nat) (l:List Int),g[i]? =some l->l.length<=3/\l.Nodup/\ ∀c∈l,(3:Int)<=c/\c<3+((k+i:Nat):Int)
 | [],_,_,_,_,h=>by cases h
 | l ::r,k,h,i,l',hi=>by
   simp only[JS,A9,Cp]at h;cases i with
   | zero=>
     simp at hi;subst hi;obtain⟨h1,h2⟩:=Tz l [] h.2.1 .nil;exact⟨h.1,by simpa using h1,by simpa using h2⟩
   | succ i=>
     simp at hi;have:=Ri r (k+1) h.2.2 i l' hi;rw[show k+(i+1)=k+1+i by omega];exact this
def ED {g:List (List Int)} (h:D4 g=true):JW g:=by
 simp only[D4,A9,Cp]at h;refine⟨h.1,fun i l hi=>?_⟩;have:=Ri g 0 h.2 i l hi;simpa using this
def Kx {g:List (List Int)} (h:JW g):ordered g:=by
 intro c p hp;unfold par at hp;split at hp
 .cases hp
 .rename_i h3
  rw[C6]at hp;cases hq:g[c - 3]? with
  | none=>rw[hq]at hp;cases hp
  | some l=>
    rw[hq]at hp;have:=(h.2 _ _ hq).2.2 p hp;omega
def Gb {i:Nat} {cs:List Sb} {c:Int} (h:c∈BU i cs):(3:Int)+i<=c/\c<3+i+cs.length:=by
 induction cs generalizing i with
 | nil=>cases h
 | cons d r ih=>
   simp only[BU,Dy,List.mem_replicate]at h;simp only[LF];rcases h with⟨_,rfl⟩|h
   .omega
   .have:=ih h;omega
def RZ {p:Prog} (h1:p.AP.length<=10) (h2:Cu 0 p.AP=true) (h3:D4 (A5 p)=true):JN (AL p):=by
 have hl:(AL p).parents.length=p.AP.length:=by simp[AL,A5]
 refine⟨by omega,Kx (ED h3),fun c hc=>?_,?_⟩
 .have:=Gb hc
  rw[hl];omega
 .have:=(Fm _ _ h2).1
  simp only[AL,Cj];omega
def fk (p : Prog):Pure zP 155 [.a (BG p)] (.b (BC p)):=by
 refine Pure.fit (by kernel_rfl) fun hf=>?_
 have hP:=J3 hf.1;have hcl:=hP.1;have hM:=Mx;refine yg kZ ?_
 conv=>whnf
 repeat'((first|clear U K|apply st|(apply zk;intro K U)|refine zn ?_|(refine zd (fun hc=>?_) (fun hc=>?_)<;>try exact⟨⟩)|fail)<;>conv=>whnf)
 .exact AH (by simp[BC];intros;omega)
 have h10:p.AP.length<=10:=by omega
 refine B1 p.AP.length (fun k (n:Int)=>[(3,eI n),(4,eI (A4 k))]) (fun _ _=>[]) (fun k n=>Cu 0 p.AP=Cu n (p.AP.drop k)/\0<=n/\n+Bt (p.AP.drop k)=Bt p.AP/\n<=4*k) 0 rfl (by simp) Sat.nil ?_;rintro k n Z hk ⟨hn,hn0,hn1,hn2⟩ hs
 conv=>whnf
 repeat'((first|clear U K|apply st|(apply zk;intro K U)|refine zn ?_|(refine fc (fun x hx hlt hc=>?_) (fun hk hc=>?_)<;>(try rw[hc])<;>clear hc)|refine Pure.use (mJ _ (by omega)) ?_|refine Pure.use (qJ _ _) ?_|(refine zd (fun hc=>?_) (fun hc=>?_)<;>try exact⟨⟩)|fail)<;>conv=>whnf)
 .exact AH (by simp only[BC];rw[hn,drop_cons hx,Cu];simp;intros;omega)
 .have hms:n+(x.AG.length:Int)+Bt (p.AP.drop (k+1))=Bt p.AP:=by
   rw[drop_cons hx]at hn1;simp only[Bt,FA,List.sum_cons]at hn1 ⊢;omega
  have hsl:=(hP.2 x (Bp hx)).2.1
  have hn':Cu 0 p.AP=(MH n x.AG&&Cu (n+x.AG.length) (p.AP.drop (k+1))):=by
   have a1:x.AG.length<=4:=by omega
   have a2:x.parents.length<=3:=by omega
   rw[hn,drop_cons hx,Cu];simp only[a1,a2,decide_true,Ds]
  revert x
  rintro c hx hcs h3 hms hsl hn';refine B1 c.AG.length (fun j (m:Int)=>[(3,eI m),(6,eI (A4 j))]) (fun _ _=>[]) (fun j m=>Cu 0 p.AP=(MH m (c.AG.drop j)&&Cu (n+c.AG.length) (p.AP.drop (k+1)))/\m=n+j) n rfl ⟨hn',by simp⟩ Sat.nil ?_;rintro j m Z hj ⟨hm,he⟩ hs
  conv=>whnf
  repeat'((first|clear U K|apply st|(apply zk;intro K U)|refine zn ?_|(refine fc (fun x hx hlt hc=>?_) (fun hk hc=>?_)<;>(try rw[hc])<;>clear hc)|refine za (fun hc=>?_) fun hc=>?_|fail)<;>conv=>whnf)
  .exact AH (by simp only[BC];rw[hm,drop_cons (by assumption),MH];simp[hc])
  .refine⟨hlt,_,rfl,⟨?_,?_⟩,hs⟩
   .rw[hm,drop_cons (by assumption),MH,wrap64 (by omega) (by omega)];simp[hc]
   .rw[wrap64 (by omega) (by omega)];omega
  .refine⟨by assumption,m,rfl,⟨?_,by omega,by omega,by omega⟩,hs⟩
   rw[hm,Ai (by assumption),MH,Ds,he];congr 1;omega
 .exact AH (by simp only[BC];rw[hn,drop_cons hx,Cu];simp;intros;omega)
 .have hne:n=Bt p.AP:=by rw[Ai hk]at hn1;simpa[Bt]using hn1
  exact AH (by simp only[BC];rw[hc];simp)
 .have hne:n=Bt p.AP:=by rw[Ai hk]at hn1;simpa[Bt]using hn1
  have hsb:Cu 0 p.AP=true:=by rw[hn,Ai hk];rfl
  have hms:=(Fm _ _ hsb).1;have hok:=RZ h10 hsb hc
  have hcb:BC p=Gp (AL p) n 0 p.AP:=by
   simp only[BC,hsb,hc,<-hne];simp[*]
  refine(Pn p hP (by omega) (by omega)).use ?_
  conv=>whnf
  repeat'((first|clear U K|apply st|(apply zk;intro K U)|refine zr fun Z hs=>?_|refine zp fun nn hnn Z hs=>?_|fail)<;>conv=>whnf)
  refine B1 p.AP.length (fun k (_:Unit)=>[(9,eI (A4 k))]) (fun _ _=>[.box nn (Az (AL p))]) (fun k _=>BC p=Gp (AL p) n k (p.AP.drop k)) () rfl (by rw[hcb];rfl) hs ?_;rintro k - Z hk hn hs
  conv=>whnf
  repeat'((first|clear U K|apply st|(apply zk;intro K U)|refine zn ?_|(refine fc (fun x hx hlt hc=>?_) (fun hk hc=>?_)<;>(try rw[hc])<;>clear hc)|fail)<;>conv=>whnf)
  .have e3 : IntKind.i64.wrap (A4 k+3)=(k:Int)+3:=by rw[Ag (by omega),wrap64 (by omega) (by omega)]
   rw[e3];have hgl:(A5 p).length=p.AP.length:=by simp[A5]
   refine(uh (A5 p) false ((k:Int)+3) (ED hc) (by omega) (by omega)).use ?_
   conv=>whnf
   repeat'((first|clear U K|apply st|(apply zk;intro K U)|refine zn ?_|refine za (fun hc=>?_) fun hc=>?_|fail)<;>conv=>whnf)
   .have hlb:oC (AL p).parents ((k:Int)+3)=false:=by
     show(!((CG (A5 p)).getD ((k:Int)+3).toNat []).isEmpty)=false;rw[hc];rfl
    exact AH (by rw[hn,drop_cons hx,Gp,hlb];rfl)
   .have hil:=(hP.2 x (Bp hx)).2.2
    have hn':BC p=(EV (AL p) ((k:Int)+3) n [] x.inits&&Gp (AL p) n (k+1) (p.AP.drop (k+1))):=by
     have hlb:oC (AL p).parents ((k:Int)+3)=true:=by
      show(!((CG (A5 p)).getD ((k:Int)+3).toNat []).isEmpty)=true;rw[hc];rfl
     rw[hn,drop_cons hx,Gp,hlb];rfl
    revert x
    rintro c hx hil hn';refine B1 c.inits.length (fun j (_:Unit)=>[(14,eI (A4 j))]) (fun _ _=>[.box nn (Az (AL p))]) (fun j _=>BC p=(EV (AL p) ((k:Int)+3) n (c.inits.take j) (c.inits.drop j)&&Gp (AL p) n (k+1) (p.AP.drop (k+1)))) () rfl (by rw[hn'];rfl) hs ?_;rintro j - Z hj hm hs
    conv=>whnf
    repeat'((first|clear U K|apply st|(apply zk;intro K U)|refine zn ?_|(refine fc (fun x hx hlt hc=>?_) (fun hk hc=>?_)<;>(try rw[hc])<;>clear hc)|refine za (fun hc=>?_) fun hc=>?_|fail)<;>conv=>whnf)
    .refine(jW (AL p) ((k:Int)+3) x.1 hok (by omega) (by rw[show(AL p).parents=A5 p from rfl];omega) (by omega) (by rw[show(AL p).owner=BU 0 p.AP from rfl,Cj];omega)).use ?_
     conv=>whnf
     repeat'((first|clear U K|apply st|(apply zk;intro K U)|refine zn ?_|refine Pure.use (sH _) ?_|refine za (fun hc=>?_) fun hc=>?_|fail)<;>conv=>whnf)
     .exact AH (by rw[hm,drop_cons hx,EV];simp[*])
     .have hm':BC p=((c.inits.take j).all (fun y=>y.1 != x.1)&&(EV (AL p) ((k:Int)+3) n (c.inits.take (j+1)) (c.inits.drop (j+1))&&Gp (AL p) n (k+1) (p.AP.drop (k+1)))):=by
       have b1:decide (0<=x.1)=true:=decide_eq_true (by assumption);have b2:decide (x.1<n)=true:=decide_eq_true (by assumption);rw[hm,drop_cons hx,EV,AN hx,b1,b2,‹hasB _ _ _=true›,hc];simp only[Ds,Bool.and_assoc]
      revert x
      rintro x hxj hx0 hx1 hhb hbt hm';refine B1 j (fun i (_:Unit)=>[(15,eI (A4 i))]) (fun _ _=>[.box nn (Az (AL p))]) (fun i _=>BC p=(((c.inits.take j).drop i).all (fun y=>y.1 != x.1)&&(EV (AL p) ((k:Int)+3) n (c.inits.take (j+1)) (c.inits.drop (j+1))&&Gp (AL p) n (k+1) (p.AP.drop (k+1))))) () rfl (by rw[hm'];rfl) hs ?_;rintro i - Z hi hl hs;rcases Nat.lt_or_ge i j with hij|hij
      .obtain⟨y,hy⟩: ∃y,c.inits[i]? =some y:=⟨_,Cs (by omega)⟩
       have hy':(c.inits.take j)[i]? =some y:=by rw[List.getElem?_take,if_pos hij,hy]
       conv=>whnf
       repeat'((first|clear U K|apply st|(apply zk;intro K U)|refine zn ?_|(refine zb (fun hc=>?_) (fun hc=>?_)<;>try exact⟨⟩)|fail)<;>conv=>whnf)
       .exact AH (by rw[hl,drop_cons hy',K5,hc];simp)
       .refine⟨hij,(),rfl,?_,hs⟩
        have hc':(y.1 != x.1)=true:=by simpa using hc
        rw[hl,drop_cons hy',K5,hc',Ds]
      .conv=>whnf
       repeat'((first|clear U K|apply st|(apply zk;intro K U)|refine zn ?_|(refine zb (fun hc=>?_) (fun hc=>?_)<;>try exact⟨⟩)|fail)<;>conv=>whnf)
       refine⟨by assumption,(),rfl,?_,hs⟩;rw[hl,List.drop_of_length_le (by rw[Jl];omega),List.all_nil,Ds]
     .exact AH (by rw[hm,drop_cons hx,EV];simp[*])
    .exact AH (by rw[hm,drop_cons hx,EV];simp;intros;omega)
    .exact AH (by rw[hm,drop_cons hx,EV];simp;intros;omega)
    .refine⟨by assumption,(),rfl,?_,hs⟩
     rw[hm,Ai hk,EV,Ds]
  .exact AH (by rw[hn,Ai hk];rfl)
 .have hne:n=Bt p.AP:=by rw[Ai hk]at hn1;simpa[Bt]using hn1
  exact AH (by simp only[BC];rw[<-hne];simp[hc])
def F8 (f:Int->Int->List Int->Option (List Int)) (op size:Int):Nat->List Int->List Int->Option (List Int)
 | _,[],s=>some s
 | i,k::r,s=>match f k (if op=9/\i=1 then size+1 else size) s with
   | none=>none
   | some s'=>F8 f op size (i+1) r s'
def ET (p:Prog) (next:Bool) (size:Int) (x:Node):Bool:=((x.kids.length:Int)==J2 p x)&&(Nr p x size&&(x.op != 18||next))
def CZ (p:Prog) (next:Bool):Nat->Int->Int->List Int->Option (List Int)
 | 0,_,_,_=>none
 | d+1,n,size,s=>
   if n<0\/(p.nodes.length:Int)<=n\/0<=s.getD n.toNat 0 then none else
   match p.nodes[n.toNat]? with
   | none=>none
   | some x=>if ET p next size x then F8 (CZ p next d) x.op size 0 x.kids (s.set n.toNat size)else none
def Wp (v:V) (s:List Int) (o:Option (List Int)) (r:R) (post:List At):Prop:=
 ∃s':List Int,s'.length=s.length/\post= [.own v 1 (iL s')]/\((o=some s'/\r= .ret (.b true))\/(o=none/\r= .ret (.b false)))
def Qc {v:V} {s s':List Int} {o:Option (List Int)} {Z:AE} {rest:List At} (hs:Sat Z (.own v 1 (iL s')::rest)) (hl:s'.length=s.length) (ho:o=none):Am Z (.b false) fun r Z'=> ∃post,Wp v s o r post/\Sat Z' post:=
 As hs (.cons₂ _ (Jf _)) (.refl _) fun Z' hs'=>⟨_,⟨s',hl,rfl,.inr ⟨ho,rfl⟩⟩,hs'⟩
def ja {p:Prog} (h:FX (.a (BG p))) {x:Node} (hx:x∈p.nodes):x.kids.length<=Aa:=by
 simp only[BG,Hn,Dk,Hm,KE]at h
 have h2:Io (J5 x):=by
  first|exact h.2.2.2.2.1.2 x hx|exact h.2.2.2.2.2.1.2 x hx|exact h.2.2.2.1.2 x hx|exact h.2.2.1.2 x hx|exact h.2.1.2 x hx
 simp only[J5,Dk,Hm,B9]at h2
 first|exact h2.2.2.1.1|exact h2.2.2.1|exact h2.1
def Po {p:Prog} {next:Bool} {d:Nat} {n size:Int} {s:List Int} {x:Node} {y:Int} (h0:0<=n) (h1:n<(p.nodes.length:Int)) (hs:s[n.toNat]? =some y) (hy:y<0) (hx:p.nodes[n.toNat]? =some x) :
    CZ p next (d+1) n size s=if ET p next size x then F8 (CZ p next d) x.op size 0 x.kids (s.set n.toNat size)else none:=by
 have e:s.getD n.toNat 0=y:=by rw[C6,hs];rfl
 simp only[CZ];rw[if_neg (by rw[e];omega),hx]
def OL {p:Prog} {next:Bool} {d:Nat} {n size:Int} {s:List Int} (h:n<0\/(p.nodes.length:Int)<=n\/0<=s.getD n.toNat 0):CZ p next (d+1) n size s=none:=by
 simp only[CZ];rw[if_pos h]
def ia (p : Prog) (next:Bool): ∀d:Nat,d<=12-> ∀(n size depth:Int) (s:List Int) (v:V),depth=13 - d->0<=size->size+d<=100->s.length=p.nodes.length->(CC v).isSome=true->
    BQ zP 157 [.a (BG p),eI n,eI size,eI depth,.b next,v] [.own v 1 (iL s)] (Wp v s (CZ p next d n size s)):=by
 intro d
 induction d with
 | zero=>
   intro _ n size depth s v hd h0 h1 hl hv Z hs;refine Au.fit (by kernel_rfl) fun hf=>?_
   have⟨p1,p2,p3,p4⟩:=Gn hf.1;have hM:=Mx;refine js kZ ?_
   conv=>whnf
   repeat'((first|clear U K|apply st|(apply zk;intro K U)|refine zn ?_|refine ze fun x hx=>?_|(refine zb (fun hc=>?_) (fun hc=>?_)<;>try exact⟨⟩)|fail)<;>conv=>whnf)
   all_goals exact As hs (.refl _) (.refl _) fun Z' hs'=>⟨_,⟨s,rfl,rfl,.inr ⟨rfl,rfl⟩⟩,hs'⟩
 | succ d ih =>
   intro hd12 n size depth s v hd h0 h1 hl hv Z hs;refine Au.fit (by kernel_rfl) fun hf=>?_
   have⟨p1,p2,p3,p4⟩:=Gn hf.1;have hM:=Mx;refine js kZ ?_
   conv=>whnf
   repeat'((first|clear U K|apply st|(apply zk;intro K U)|refine zn ?_|refine rk ?_ ?_|exact fun s e=>by cases e;rfl|refine ze fun x hx=>?_|refine zr fun Z hs=>?_|refine Pure.use (px _ _) ?_|refine Pure.use (eM _ _ _) ?_|(refine zb (fun hc=>?_) (fun hc=>?_)<;>try exact⟨⟩)|refine zp fun nn hnn Z hs=>?_|fail)<;>conv=>whnf)
   .exact Qc hs (by simp) (by rw[Po (by assumption) (by assumption) (by assumption) (by assumption) hx];simp[ET, *])
   rotate_left
   .cases hc
   rotate_left
   .exact Qc hs (by simp) (by rw[Po (by assumption) (by assumption) (by assumption) (by assumption) hx];simp[ET, *])
   .exact Qc hs (by simp) (by rw[Po (by assumption) (by assumption) (by assumption) (by assumption) hx];simp[ET, *])
   .exact Qc hs rfl (OL (.inr (.inr (by rw[C6,hx];exact hc))))
   .exact Qc hs rfl (OL (.inr (.inl hc)))
   .exact Qc hs rfl (OL (.inl hc))
   all_goals
    have hW:CZ p next (d+1) n size s=F8 (CZ p next d) x.op size 0 x.kids (s.set n.toNat size):=by
     rw[Po (by assumption) (by assumption) (by assumption) (by assumption) hx];simp[ET, *]
    rw[hW]
    rename Node=>nd
    refine B1 nd.kids.length (fun k (_:List Int)=>[(14,eI (A4 k))]) (fun _ s'=>[.own v 1 (iL s'),.obj nn (.cs (J5 nd))]) (fun k s'=>s'.length=s.length/\F8 (CZ p next d) nd.op size 0 nd.kids (s.set n.toNat size)=F8 (CZ p next d) nd.op size k (nd.kids.drop k) s') (s.set n.toNat size) rfl ⟨by simp,by simp⟩ hs ?_;clear hs;rintro k s' Z hk ⟨hl',hkids⟩ hs;have hkm:=ja hf.1 (Bp hx);have hck:A4 k=k:=Ag (by omega);by_cases hlt:k<nd.kids.length
    .obtain⟨kid,hkid⟩: ∃kid,nd.kids[k]? =some kid:=⟨_,Cs hlt⟩
     have hrec:=fun kid sz h0 h1=>ih (by omega) kid sz (depth+1) s' v (by omega) h0 h1 (by omega) hv
     conv=>whnf
     repeat'((first|clear U K|apply st|(apply zk;intro K U)|refine zn ?_|(refine fc (fun x hx hlt hc=>?_) (fun hk hc=>?_)<;>(try rw[hc])<;>clear hc)|(refine zb (fun hc=>?_) (fun hc=>?_)<;>try exact⟨⟩)|fail)<;>conv=>whnf)
     all_goals try(exfalso;omega)
     all_goals try refine Jv (enc:=fun i:Int=>[V.i .i64 i]) hkid hkm rfl ?_
     conv=>whnf
     all_goals try(exfalso;omega)
     all_goals
      have hK2:=hkids;rw[drop_cons hx,F8]at hK2
      first
       | rw[if_pos (by omega)]at hK2
         rw[wrap64 (by omega) (by omega),wrap64 (by omega) (by omega)];refine(hrec x (size+1) (by omega) (by omega)).use hs ?_
       | rw[if_neg (by omega)]at hK2
         rw[wrap64 (by omega) (by omega)];refine(hrec x size (by omega) (by omega)).use hs ?_
      rintro r post Z' ⟨s2,hl2,rfl,⟨ho,rfl⟩|⟨ho,rfl⟩⟩ hs
      .rw[ho]at hK2
       conv=>whnf
       repeat'((first|clear U K|apply st|(apply zk;intro K U)|refine zn ?_|(refine zd (fun hc=>?_) (fun hc=>?_)<;>try exact⟨⟩)|fail)<;>conv=>whnf)
       all_goals first|(exfalso;cases hc;done)|exact⟨hlt,s2,rfl,⟨by omega,hK2⟩,hs⟩
      .rw[ho]at hK2
       conv=>whnf
       repeat'((first|clear U K|apply st|(apply zk;intro K U)|refine zn ?_|(refine zd (fun hc=>?_) (fun hc=>?_)<;>try exact⟨⟩)|fail)<;>conv=>whnf)
       all_goals first|exact Qc hs (by omega) hK2|(exfalso;cases hc;done)
    .have hke:k=nd.kids.length:=by omega
     conv=>whnf
     repeat'((first|clear U K|apply st|(apply zk;intro K U)|refine zn ?_|(refine fc (fun x hx hlt hc=>?_) (fun hk hc=>?_)<;>(try rw[hc])<;>clear hc)|(refine zb (fun hc=>?_) (fun hc=>?_)<;>try exact⟨⟩)|fail)<;>conv=>whnf)
     all_goals try(exfalso;omega)
     rw[hke,Ai rfl]at hkids;exact As hs (.cons₂ _ (Jf _)) (.refl _) fun Z' hs'=>⟨_,⟨s',hl',rfl,.inl ⟨(by first|rw[hW,hkids,F8]|rw[hkids,F8]),rfl⟩⟩,hs'⟩
end Go.Gl
