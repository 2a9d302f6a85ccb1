import Derived.ChangeOld
import Derived.Below
import Derived.Carry
import Derived.ChangeArms
import Derived.Deep.Slices
import Derived.Test.YtinppljblkpedaaGreatProg
import Derived.KernelRfl
import Derived.Test.YtinppljblkpedaaGreatU12
set_option linter.all false
set_option linter.defProp false
set_option maxHeartbeats 8000000
noncomputable section
namespace Go.Gl
open Go.ChangeShapes Go.WideShapes Go.ChangeAt Go.RowKit
def mJ {w w':World} (h:B8 (fun _=>False) emp w emp w'):Below w.heap.size w w':=
 ⟨h.os,h.tape,h.output,h.size,fun k hk=>h.frame k hk rfl⟩
def uB {w:World} {b o:Nat}:Hh (fun _=>False) emp w b o=w.cell? ⟨b,o,none⟩:=by
 unfold Hh;rw[if_neg (by simp[emp])]
def Om {α:Type} {Q:Nat->α->Prop}: ∀(len:Nat),(∀i,i<len-> ∃v,Q i v)-> ∃l:List α,l.length=len/\ ∀i v,l[i]? =some v->Q i v
 | 0,_=>⟨[],rfl,fun i v h=>by simp at h⟩
 | k + 1,h=>by
   obtain⟨l,hl,hl2⟩:=Om k fun i hi=>h i (by omega)
   obtain⟨u,hu⟩:=h k (by omega);refine⟨l++[u],by simp[hl],fun i v hv=>?_⟩;by_cases hi:i<l.length
   .rw[X1 hi]at hv
    exact hl2 i v hv
   .rw[List.getElem?_append_right (by omega)]at hv
    have:i - l.length=0:=by
     have:=(Ip.1 hv).1;simp at this;omega
    have hik:i=k:=by omega
    subst hik;rw[this]at hv;rw[<-Option.some.inj hv];exact hu
section
variable {H:Type} {enc:TypeId×Value->H} {P:Program} {W:World}
def mf {H:Type} (enc:TypeId×Value->H) (P:Program) (W:World) (n:Nat) (t:TypeId) {α:Type} (ea:α->List V):Prop:=
 ∀(cs:List Value) (d:DataW H) (ps:List MemPlace),DataW.trod enc P W 0 (fun _=>true) true n t cs=some (d,ps)->(∀x∈d.weights P t,x<=reachBytes)-> ∃a:α,cs.length=(ea a).length/\BX (Hh (fun _=>False) emp W) (fun i=>cs[i]?) 0 (ea a)
def X0 {H:Type} (enc:TypeId×Value->H) (P:Program) (W:World) (t:TypeId) {α:Type} (ea:α->List V):Prop:= ∀n,mf enc P W n t ea
def Mq {t:TypeId} {α:Type} {ea:α->List V}:mf enc P W 0 t ea:=fun cs d ps h=>by simp[DataW.trod]at h
def KZ {n:Nat} {t:TypeId} {α β:Type} {ea:α->List V} {eb:β->List V} (h:mf enc P W n t ea) (g:α->β) (hg: ∀a,ea a=eb (g a)):mf enc P W n t eb:=fun cs d ps h1 h2=>by
 obtain⟨a,h3,h4⟩:=h cs d ps h1 h2;exact⟨g a,by rw[<-hg];exact h3,by rw[<-hg];exact h4⟩
def Ty {t:TypeId} (ht:P.underlying t=some (.int .i64)):X0 enc P W t fun x:Int=>[V.i .i64 x]:=fun n cs d ps h _=>by
 obtain⟨k,rfl,-,hw⟩:=DataW.trod_int ht h;simp only[Lit.wf,A4,B7]at hw;refine⟨k,rfl,⟨_,rfl,?_⟩,trivial⟩;simp only[Ac]
 first
  | exact⟨rfl,hw⟩
  | exact⟨trivial,hw⟩
  | exact hw
def Sq {n:Nat} {t e:TypeId} {sz:Nat} {α:Type} {ea:α->List V} (ht:P.underlying t=some (.slice e)) (hc:P.cellsOf e=sz) (hsz:0<sz) (hb:8<=P.bytesOf e) (he: ∀a,(ea a).length=sz) (h:mf enc P W n e ea) :
    mf enc P W (n+1) t fun l:List α=>[V.l (l.map ea) false]:=by
 intro cs d ps htr hw;rcases DataW.trod_slice ht htr with⟨rfl,hx⟩|⟨a,len,cap,elems,rest,n',hn,rfl,hx,-,hl,hm,hlen,hel,-,-⟩
 .refine⟨[],rfl,⟨_,rfl,?_⟩,trivial⟩
  simp only[List.map_nil,Ac];exact⟨none,0,rfl,Ft _,fun h=>(by cases h),Nat.zero_le _,fun _=>rfl,fun h=>absurd rfl h⟩
 .obtain rfl:n'=n:=by omega
  simp only[Prod.mk.injEq]at hx;obtain⟨rfl,-⟩:=hx;simp only[DataW.weights,ht,Ep,Dn]at hw;have hwl:=hw _ (.inl rfl)
  have hwe: ∀(l:List (DataW H)) (D:DataW H),D∈l-> ∀x∈D.weights P e,x∈DataW.weightsAll P e l:=by
   intro l
   induction l with
   | nil=>intro D hD;cases hD
   | cons y r ih=>
     intro D hD x hx;simp only[DataW.weightsAll,Dn];rcases Ep.1 hD with rfl|hD
     .exact .inl hx
     .exact .inr (ih D hD x hx)
  have hM:len<=Ab:=by
   simp only[Bc,hlen,reachBytes]at hwl;have h8:(len+rest.length)*8<=(len+rest.length)*P.bytesOf e:=Nat.mul_le_mul_left _ hb;unfold Ab;omega
  have each: ∀i,i<len-> ∃v:α,∃cs',W.cells? 0 (a.add (i*sz)) sz=some cs'/\BX (Hh (fun _=>False) emp W) (fun j=>cs'[j]?) 0 (ea v):=fun i hi=>by
   have hi':=hel i hi;obtain⟨x,hx⟩: ∃x,elems[i]? =some x:=⟨_,Cd (by omega)⟩
   rw[hx,Option.bind_eq_some_iff,hc]at hi';obtain⟨cs',h1,h2⟩:=hi';obtain⟨v,-,h4⟩:=h cs' x.1 x.2 h2 fun y hy=>hw y (.inr (.inl (hwe _ x.1 (GK.2 ⟨x,B6 hx,rfl⟩) y hy)))
   exact⟨v,cs',h1,h4⟩
  obtain⟨l,hll,hlc⟩:=Om len each;refine⟨l,rfl,⟨_,rfl,?_⟩,trivial⟩;simp only[Ac,Bc];refine⟨some a,cap,by rw[hll],by omega,fun h=>(by cases h),Mb (by omega),fun h=>(by cases h),fun hne=>?_⟩;obtain⟨b,o,spot⟩:=a
  have h0:0<l.length:=by
   rcases l with _|⟨v,r⟩
   .exact absurd rfl hne
   .simp
  have hspot:spot=none:=by
   obtain⟨cs',h1,-⟩:=hlc 0 l[0] (Cd h0);obtain⟨-,h3,h4⟩:=World.cells?_some h1;have h5:=h4 0 hsz;rw[Cd (by omega)]at h5;have:=World.cell?_spot h5;simpa[Addr.add]using this
  subst hspot
  have hcell: ∀i v,l[i]? =some v-> ∀k u,(ea v)[k]? =some u-> ∃c,W.cell? ⟨b,o+i*sz+k,none⟩=some c/\Ac (Hh (fun _=>False) emp W) u c:=fun i v hv k u hu=>by
   obtain⟨cs',h1,h2⟩:=hlc i v hv;obtain⟨-,h3,h4⟩:=World.cells?_some h1;have hk:k<sz:=by rw[<-he v];exact(Ip.1 hu).1
   obtain⟨c,hc',hr⟩:=Bg.1 h2 k u hu;have h5:=h4 k hk;simp only[GZ]at hc';rw[add_plain,add_plain]at h5;exact⟨c,by rw[<-hc',<-h5],hr⟩
  refine⟨b,o,sz,rfl,BI.2 fun j e hj=>?_⟩;rw[LY]at hj;obtain⟨v,hv,rfl⟩:=Option.map_eq_some_iff.1 hj;refine⟨he v,Bg.2 fun k u hu=>?_⟩;obtain⟨c,h1,h2⟩:=hcell j v hv k u hu;exact⟨c,by rw[uB];exact h1,h2⟩
def J7 {t e:TypeId} {sz:Nat} {α:Type} {ea:α->List V} (ht:P.underlying t=some (.slice e)) (hc:P.cellsOf e=sz) (hsz:0<sz) (hb:8<=P.bytesOf e) (he: ∀a,(ea a).length=sz) (h:X0 enc P W e ea) :
    X0 enc P W t fun l:List α=>[V.l (l.map ea) false]
 | 0=>Mq
 | n+1=>Sq ht hc hsz hb he (h n)
def yf {H:Type} (enc:TypeId×Value->H) (P:Program) (W:World) (n:Nat) (fs:List Field) (o:Nat) {α:Type} (ea:α->List V):Prop:=
 ∀ (cs:List Value) (xs:List (DataW H×List MemPlace)),xs.length=fs.length->(∀(i:Nat) (f:Field),fs[i]? =some f->DataW.trod enc P W 0 (fun _=>true) true n (Field.type f) ((cs.drop (Field.offset f)).take (P.cellsOf (Field.type f)))=xs[i]?)->
   (∀x∈DataW.weightsEach P (fs.map fun f:Field=>f.type) (xs.map (·.1)),x<=reachBytes)-> ∃a:α,BX (Hh (fun _=>False) emp W) (fun i=>cs[i]?) o (ea a)
def Ka {n o:Nat}:yf enc P W n [] o fun _:Unit=>([]:List V):=fun _ _ _ _ _=>⟨(),trivial⟩
def Bh {n o c:Nat} {f:Field} {fs:List Field} {α β:Type} {ea:α->List V} {eb:β->List V} (hf:f.offset=o) (hc:P.cellsOf f.type=c) (he: ∀a,(ea a).length=c) (h1:mf enc P W n f.type ea) (h2:yf enc P W n fs (o+c) eb) :
    yf enc P W n (f::fs) o fun p:α×β=>ea p.1++eb p.2:=by
 intro cs xs hl hx hw
 match xs,hl with
 | x ::r,hl=>
   have hx0:=hx 0 f rfl;simp only[fL]at hx0;simp only[CK,DataW.weightsEach,Dn]at hw;obtain⟨a,ha1,ha2⟩:=h1 _ x.1 x.2 hx0 fun y hy=>hw y (.inl hy)
   obtain⟨b,hb⟩:=h2 cs r (by simpa using hl) (fun i g hg=>by
    have:=hx (i+1) g (by simpa using hg)
    simpa using this) fun y hy=>hw y (.inr hy)
   refine⟨(a,b),OX (Bg.2 fun k u hu=>?_) (by rw[he];exact hb)⟩;obtain⟨cc,h3,h4⟩:=Bg.1 ha2 k u hu;have hk:k<c:=by rw[<-he a];exact(Ip.1 hu).1
   refine⟨cc,?_,h4⟩;rw[hf,hc,GZ,List.getElem?_take,if_pos hk,fD]at h3;exact h3
def Q5 {n:Nat} {t:TypeId} {fs:List Field} {α:Type} {ea:α->List V} (ht:P.underlying t=some (.struct fs.toArray)) (h:yf enc P W n fs 0 ea) (hl: ∀a,(ea a).length=P.cellsOf t):mf enc P W (n+1) t ea:=by
 intro cs d ps htr hw;obtain⟨xs,k,hk,hx,hcl,hxl,hf⟩:=DataW.trod_struct ht htr;obtain rfl:k=n:=by omega
 simp only[Prod.mk.injEq]at hx;obtain⟨rfl,-⟩:=hx;simp only[DataW.weights,ht]at hw;obtain⟨a,ha⟩:=h cs xs (by rw[hxl];simp) (fun i f hfi=>hf i f (by simpa using hfi)) (by simpa using hw);exact⟨a,by rw[hcl,hl],ha⟩
def Ib {t:TypeId} {fs:List Field} {α:Type} {ea:α->List V} (ht:P.underlying t=some (.struct fs.toArray)) (h: ∀n,yf enc P W n fs 0 ea) (hl: ∀a,(ea a).length=P.cellsOf t):X0 enc P W t ea
 | 0=>Mq
 | n+1=>Q5 ht (h n) hl
end
end Go.Gl
namespace Go.Gl
open Go.Proofs
section
variable {H:Type} {enc:TypeId×Value->H} {W:World}
def b8 {n:Nat} (h:Nat.ble 8 n=true):8<=n:=Nat.le_of_ble_eq_true h
def Pg:X0 enc Tryz.prog W 3 fun x:Int=>[V.i .i64 x]:=Ty Tryz.underlying3
def Vc:X0 enc Tryz.prog W 23 fun l:List Int=>[V.l (iL l) false]:=J7 Tryz.underlying23 (by kernel_rfl) (by decide) (b8 (by kernel_rfl)) (fun _=>rfl) Pg
def s6:X0 enc Tryz.prog W 374 fun p:Int×Int=>[eI p.1,eI p.2]:=fun n=>
 KZ (Ib Tryz.underlying374
  (fun n=>Bh (c:=1) rfl (by kernel_rfl) (fun _=>rfl) (Pg n) (Bh (c:=1) rfl (by kernel_rfl) (fun _=>rfl) (Pg n) Ka)) (fun _=>(show _=2 from rfl).trans (by kernel_rfl)) n) (fun x=>(x.1,x.2.1)) fun _=>rfl
def oG:X0 enc Tryz.prog W 117 fun l:List (Int×Int)=>[V.l (l.map fun p=>[eI p.1,eI p.2]) false]:=J7 (sz:=2) Tryz.underlying117 (by kernel_rfl) (by decide) (b8 (by kernel_rfl)) (fun _=>rfl) s6
def zI:X0 enc Tryz.prog W 119 MG:=fun n=>
 KZ (Ib Tryz.underlying119
  (fun n=>Bh (c:=1) rfl (by kernel_rfl) (fun _=>rfl) (Vc n) (Bh (c:=1) rfl (by kernel_rfl) (fun _=>rfl) (Vc n)
   (Bh (c:=1) rfl (by kernel_rfl) (fun _=>rfl) (oG n) Ka))) (fun _=>(show _=3 from rfl).trans (by kernel_rfl)) n) (fun x=>⟨x.1,x.2.1,x.2.2.1⟩) fun _=>rfl
def sy:X0 enc Tryz.prog W 88 JN:=fun n=>
 KZ (Ib Tryz.underlying88
  (fun n=>Bh (c:=1) rfl (by kernel_rfl) (fun _=>rfl) (Ty Tryz.underlying86 n) (Bh (c:=1) rfl (by kernel_rfl) (fun _=>rfl) (Pg n)
   (Bh (c:=1) rfl (by kernel_rfl) (fun _=>rfl) (Vc n) Ka))) (fun _=>(show _=3 from rfl).trans (by kernel_rfl)) n) (fun x=>⟨x.1,x.2.1,x.2.2.1⟩) fun _=>rfl
def oE:X0 enc Tryz.prog W 25 fun l:List Node=>[V.l (l.map JN) false]:=J7 (sz:=3) Tryz.underlying25 (by kernel_rfl) (by decide) (b8 (by kernel_rfl)) (fun _=>rfl) sy
def s8:X0 enc Tryz.prog W 22 fun l:List Rp=>[V.l (l.map MG) false]:=J7 (sz:=3) Tryz.underlying22 (by kernel_rfl) (by decide) (b8 (by kernel_rfl)) (fun _=>rfl) zI
def N8 (f:Fact):(EI f).length=6:=by rw[BC];rfl
def aH: ∀n,mf enc Tryz.prog W n 38 EI/\mf enc Tryz.prog W n 36 fun l:List Fact=>[V.l (facts l) false]
 | 0=>⟨Mq,Mq⟩
 | n + 1 =>by
   obtain⟨h1,h2⟩:=aH n;refine⟨?_,Sq Tryz.underlying36 (by kernel_rfl) (by decide) (b8 (by kernel_rfl)) N8 h1⟩
   exact KZ (Q5 Tryz.underlying38
    (Bh (c:=1) rfl (by kernel_rfl) (fun _=>rfl) (Ty Tryz.underlying35 n) (Bh (c:=1) rfl (by kernel_rfl) (fun _=>rfl) (Pg n)
     (Bh (c:=1) rfl (by kernel_rfl) (fun _=>rfl) (Vc n) (Bh (c:=1) rfl (by kernel_rfl) (fun _=>rfl) (Pg n)
      (Bh (c:=1) rfl (by kernel_rfl) (fun _=>rfl) (Pg n) (Bh (c:=1) rfl (by kernel_rfl) (fun _=>rfl) h2 Ka)))))) (fun _=>(show _=6 from rfl).trans (by kernel_rfl)))
    (fun x=>Fact.mk x.1 x.2.1 x.2.2.1 x.2.2.2.1 x.2.2.2.2.1 x.2.2.2.2.2.1) fun x=>by rw[BC];rfl
def s7:X0 enc Tryz.prog W 38 EI:=fun n=>(aH n).1
def s5:X0 enc Tryz.prog W 58 Zp:=fun n=>
 KZ (Ib Tryz.underlying58
  (fun n=>Bh (c:=1) rfl (by kernel_rfl) (fun _=>rfl) (Ty Tryz.underlying56 n) (Bh (c:=1) rfl (by kernel_rfl) (fun _=>rfl) (Pg n)
   (Bh (c:=6) rfl (by kernel_rfl) N8 (s7 n) (Bh (c:=1) rfl (by kernel_rfl) (fun _=>rfl) (Pg n) Ka)))) (fun x=>(show _=9 from by simp only[HQ,N8];rfl).trans (by kernel_rfl)) n) (fun x=>⟨x.1,x.2.1,x.2.2.1,x.2.2.2.1⟩) fun x=>by rw[BC];rfl
def oF:X0 enc Tryz.prog W 24 fun l:List MJ=>[V.l (l.map Zp) false]:=J7 (sz:=9) Tryz.underlying24 (by kernel_rfl) (by decide) (b8 (by kernel_rfl)) (fun _=>rfl) s5
def sx : X0 enc Tryz.prog W 27 BF:=fun n=>
 KZ (Ib Tryz.underlying27
  (fun n=>Bh (c:=1) rfl (by kernel_rfl) (fun _=>rfl) (s8 n)
   (Bh (c:=1) rfl (by kernel_rfl) (fun _=>rfl) (Pg n) (Bh (c:=1) rfl (by kernel_rfl) (fun _=>rfl) (Vc n)
    (Bh (c:=1) rfl (by kernel_rfl) (fun _=>rfl) (oF n)
     (Bh (c:=1) rfl (by kernel_rfl) (fun _=>rfl) (oE n)
      (Bh (c:=1) rfl (by kernel_rfl) (fun _=>rfl) (Pg n) Ka)))))) (fun _=>(show _=6 from rfl).trans (by kernel_rfl)) n) (fun x=>⟨x.1,x.2.1,x.2.2.1,x.2.2.2.1,x.2.2.2.2.1,x.2.2.2.2.2.1⟩) fun _=>rfl
end
end Go.Gl
namespace Go.Gl
variable {P:Program} {Z Z':AE}
mutual
def Fc:V->Prop
 | .i k n=>k.min<=n/\n<=k.max
 | .rp cs=>It cs
 | .l es _=>es.length<=Jk es/\VN es
 | .f _ a b=>It a/\It b
 | .ME _ v=>Fc v
 | .a cs=>It cs
 | .t vs=>It vs
 | _=>True
def It:List V->Prop
 | []=>True
 | v::r=>Fc v/\It r
def VN:List (List V)->Prop
 | []=>True
 | e::r=>It e/\VN r
end
mutual
def rB {H:Nat->Nat->Option Value}: ∀(v:V) (c:Value),Ac H v c->Fc v
 | .b _,_,_| .s _,_,_| .pn,_,_| .p _ _,_,_| .sl _ _ _,_,_| .sv _ _ _ _,_,_| .pe _ _ _ _,_,_| .m _,_,_| .mn,_,_| .fl,_,_| .K7,_,_| .any,_,_=>by simp only[Fc]
 | .i k n,_,h=>by
   simp only[Ac]at h;simp only[Fc];exact h.2
 | .rp cs,_,h=>by
   simp only[Ac]at h;obtain⟨b,o,rfl,h⟩:=h;simp only[Fc];exact Jz cs o h
 | .l es full,_,h=>by
   simp only[Ac]at h;obtain⟨a,cap,h1,h2,h3,h4,h5,h6⟩:=h;simp only[Fc];refine⟨h4,?_⟩;cases es with
   | nil=>exact trivial
   | cons e es=>
     obtain⟨b,o,sz,h7,h8⟩:=h6 (by simp);exact iV (e::es) o h8
 | .f fn first cap,_,h=>by
   simp only[Ac]at h;obtain⟨f',c',h1,h2,h3,h4,h5⟩:=h;simp only[Fc];exact⟨Jz first 0 h3,Jz cap 0 h5⟩
 | .ME t v,_,h=>by
   simp only[Ac]at h;obtain⟨c',h1,h2⟩:=h;simp only[Fc];exact rB v c' h2
 | .a cs,_,h=>by
   simp only[Ac]at h;obtain⟨c',h1,h2,h3⟩:=h;simp only[Fc];exact Jz cs 0 h3
 | .t cs,_,h=>by
   simp only[Ac]at h;obtain⟨c',h1,h2,h3⟩:=h;simp only[Fc];exact Jz cs 0 h3
def Jz {H:Nat->Nat->Option Value} {g:Nat->Option Value}: ∀(vs:List V) (o:Nat),BX H g o vs->It vs
 | [],_,_=>trivial
 | v::vs,o,h=>by
   simp only[BX]at h;obtain⟨⟨c,h1,h2⟩,h3⟩:=h;exact⟨rB v c h2,Jz vs (o+1) h3⟩
def iV {H:Nat->Nat->Option Value} {g:Nat->Option Value} {sz:Nat}: ∀(es:List (List V)) (o:Nat),BJ H g sz o es->VN es
 | [],_,_=>trivial
 | e::es,o,h=>by
   simp only[BJ]at h;obtain⟨h1,h2,h3⟩:=h;exact⟨Jz e o h2,iV es (o+sz) h3⟩
end
def As.fit {f:FuncId} {args:List V} {Q:R->AE->Prop} (hok:okF P f=true) (h:It args->As P f args Z Q):As P f args Z Q:=
 ⟨hok,fun F w cs hR hv=>(h (Jz args 0 hv.2)).2 F w cs hR hv⟩
def Pure.fit {f:FuncId} {args:List V} {v:V} (hok:okF P f=true) (h:It args->Pure P f args v):Pure P f args v:=As.fit hok h
def BL.fit {f:FuncId} {args:List V} {pre:List At} {Φ:R->List At->Prop} (hok:okF P f=true) (h:It args->BL P f args pre Φ):BL P f args pre Φ:=fun Z hs=>As.fit hok fun hf=>h hf Z hs
def lj {es:List (List V)}:VN es↔ ∀e∈es,It e:=by
 induction es with
 | nil=>simp[VN]
 | cons e r ih=>simp[VN,ih]
def J9 {α:Type} {enc:α->List V} {xs:List α}:VN (xs.map enc)↔ ∀x∈xs,It (enc x):=by
 rw[lj];simp
def Gw {α:Type} {enc:α->List V} [hn:VT enc] {xs:List α} {f:Bool}:Fc (.l (xs.map enc) f)↔(xs.map enc).length<=Ab/\VN (xs.map enc):=
 ⟨fun⟨h1,h2⟩=>⟨by rw[Bc];exact lJ hn.h h1,h2⟩,fun⟨h1,h2⟩=>⟨Mb h1,h2⟩⟩
def J0 {cs:List V}:Fc (.a cs)↔It cs:=Iff.rfl
def Un {cs:List V}:Fc (.rp cs)↔It cs:=Iff.rfl
def Ey {v:V} {r:List V}:It (v::r)↔Fc v/\It r:=Iff.rfl
def drop_cons {α:Type} {xs:List α} {k:Nat} {x:α} (h:xs[k]? =some x):xs.drop k=x::xs.drop (k+1):=by
 obtain⟨hk,rfl⟩:=Ip.1 h;exact List.drop_eq_getElem_cons hk
def Aj {α:Type} {xs:List α} {k:Nat} (h:k=xs.length):xs.drop k= []:=List.drop_of_length_le (by omega)
end Go.Gl
namespace Go.Gl
variable {P:Program} {Z:AE} {env:Env}
class Pb (G:Prop) (G':outParam Prop):Prop where
 h:G'->G
def st {G G':Prop} [i:Pb G G'] (h:G'):G:=i.h h
def sq {l:List Nat} {a b:Aq} {Q:Ak->Env->AE->Prop} (h: ∀K:Env->AE->Prop,(∀env Z,(pk l env fun E=>W P b Q E Z)->K env Z)->W P a (Ak.andThen K Q) env Z):W P (.seq l a b) Q env Z:=GJ h
class Sti (G:Prop) (G':outParam Prop):Prop where
 h:G'->G
def si {G G':Prop} [i:Sti G G'] (h:G'):G:=i.h h
instance {ops:List BD} {Q:Ak->Env->AE->Prop}:Sti (W P (.H3 ops) Q env Z) (∀(KR:Env->AE->Prop) (KP:Env->V->AE->Prop),(∀env Z,Q .normal env Z->KR env Z)->(∀env v Z,Q (.C3 v) env Z->KP env v Z)->WT P ops KR KP env Z):=⟨DV⟩
instance {l:List Nat} {ops:List DL} {Q:Ak->Env->AE->Prop}:Sti (W P (.K9 l ops) Q env Z) (∀(KR:Env->AE->Prop) (KP:V->AE->Prop),(∀env Z,(pk l env fun E=>Q .normal E Z)->KR env Z)->(∀v Z,(∀Z',Sub Z Z'->Q (.C3 v) [] Z')->KP v Z)->WD P ops KR KP env Z):=⟨bz⟩
instance {c:CG} {a b:Aq} {Q:Ak->Env->AE->Prop}:Pb (W P (.cond c a b) Q env Z) (match ev env c with
 | some (.b t)=>(t=true->W P a Q env Z)/\(t=false->W P b Q env Z)
 | _=>False):=⟨I1⟩
instance {id:Nat} {a:Aq} {Q:Ak->Env->AE->Prop}:Pb (W P (.block id a) Q env Z) (W P a (Ak.inBlock id Q) env Z):=⟨IU⟩
instance {l:List Nat} {a:Aq} {Q:Ak->Env->AE->Prop}:Pb (W P (.loop l a) Q env Z) (pk l env fun E=>AZ l a (W P a) Q E Z):=⟨PV⟩
instance {id:Nat} {Q:Ak->Env->AE->Prop}:Pb (W P (.exit id) Q env Z) (Q (.exit id) env Z):=⟨PW⟩
instance {Q:Ak->Env->AE->Prop}:Pb (W P .ret Q env Z) (Q .ret env Z):=⟨jg⟩
instance {Q:Ak->Env->AE->Prop}:Pb (W P .skip Q env Z) (Q .normal env Z):=⟨Kp⟩
instance {a:Aq} {Q:Ak->Env->AE->Prop}:Pb (W P (.scope a) Q env Z) (W P a Q env Z):=⟨mT⟩
instance {l:List Nat} {g:CG} {ps:List Nat} {a b:Aq} {Q:Ak->Env->AE->Prop}:Pb (W P (.FB l g ps a b) Q env Z) (match ev env g with
 | some (.f (.func gf) [] cap)=>pk l env fun E=> ∀L,Z L=none->As P gf (.f (.yield L) [] []::cap) (BZ Z L (.loop .ready E (Bo P ps a b))) (J3 L Q env)
 | _=>False):=⟨mU⟩
instance {A B:Prop}:Pb ((true=true->A)/\(true=false->B)) A:=⟨jQ⟩
instance {A B:Prop}:Pb ((false=true->A)/\(false=false->B)) B:=⟨jR⟩
instance {A B:Prop}:Pb ((false=false->A)/\(false=true->B)) A:=⟨qO⟩
instance {A B:Prop}:Pb ((true=false->A)/\(true=true->B)) B:=⟨qN⟩
instance {A B:Prop} {b:Bool}:Pb ((b=true->A)/\(b= !true->B)) ((b=true->A)/\(b=false->B)):=⟨id⟩
instance {A B:Prop} {b:Bool}:Pb ((b=false->A)/\(b= !false->B)) ((b=false->A)/\(b=true->B)):=⟨id⟩
instance {agg:Option Nat} {cs:List V} {K:V->Prop}:Pb (AT Z agg (.rp cs) K) (cut agg cs 0 K):=⟨fun h=>h⟩
instance {es:List (List V)} {f:Bool} {K:V->Prop}:Pb (An (.l es f) K) (K (.i .i64 es.length)):=⟨Vj⟩
def kc {K A:Env->AE->Prop} (h:A env Z) (hk: ∀env Z,A env Z->K env Z:=by assumption):K env Z:=hk _ _ h
def kp {K A:Env->V->AE->Prop} {v:V} (h:A env v Z) (hk: ∀env v Z,A env v Z->K env v Z:=by assumption):K env v Z:=hk _ _ _ h
def rk {x:BD} {r:List BD} {A:Prop} (h1:IH P x env Z) (h2:Ej P r env Z/\A):Ej P (x::r) env Z/\A:=⟨⟨h1,h2.1⟩,h2.2⟩
def dr {A:Prop} (h:A):Ej P [] env Z/\A:=⟨trivial,h⟩
class BP (b v:Bool) (p:outParam Prop):Prop where
 h:b=v->p
def bp {b v:Bool} {p:Prop} [i:BP b v p] (h:b=v):p:=i.h h
instance (priority:=low) {b v:Bool}:BP b v (b=v):=⟨id⟩
instance (priority:=mid) {p:Prop} [Decidable p]:BP (decide p) true p:=⟨of_decide_eq_true⟩
instance (priority:=mid) {p:Prop} [Decidable p]:BP (decide p) false (¬p):=⟨of_decide_eq_false⟩
instance {a b:Int}:BP (decide (a<b)) false (b<=a):=⟨fun h=>Int.not_lt.1 (of_decide_eq_false h)⟩
instance {a b:Int}:BP (decide (a<=b)) false (b<a):=⟨fun h=>Int.not_le.1 (of_decide_eq_false h)⟩
instance {a b:Int}:BP (a==b) true (a=b):=⟨fun h=>by simpa using h⟩
instance {a b:Int}:BP (a==b) false (a≠b):=⟨fun h=>by simpa using h⟩
instance {a b:Int}:BP (a != b) true (a≠b):=⟨fun h=>by simpa using h⟩
instance {a b:Int}:BP (a != b) false (a=b):=⟨fun h=>by simpa using h⟩
instance {b:Bool} {p:Prop} [i:BP b false p]:BP (!b) true p:=⟨fun h=>i.h (by simpa using h)⟩
instance {b:Bool} {p:Prop} [i:BP b true p]:BP (!b) false p:=⟨fun h=>i.h (by simpa using h)⟩
instance {b x v:Bool} {p:Prop} [i:BP b v p]:BP (bif false then x else b) v p:=⟨i.h⟩
instance {b x v:Bool} {p:Prop} [i:BP b v p]:BP (bif true then b else x) v p:=⟨i.h⟩
def fc {α:Type} {enc:α->List V} {xs:List α} {k:Nat} {A B:Prop} (h1: ∀x,xs[k]? =some x->k<xs.length->decide (A7 k<((xs.map enc).length:Nat))=true->A) (h2:k=xs.length->decide (A7 k<((xs.map enc).length:Nat))=false->B) (hk:k<=xs.length:=by assumption) (hm:xs.length<=Ab:=by first|assumption|omega|simp[Ab]<;>omega) :
    (decide (A7 k<((xs.map enc).length:Nat))=true->A)/\(decide (A7 k<((xs.map enc).length:Nat))=false->B):=
 ⟨fun h=>(Gv (enc:=enc) (A:=A) (B:=True) hk hm (fun x hx hlt=>h1 x hx hlt h) fun _=>trivial).1 h,fun h=>(Gv (enc:=enc) (A:=True) (B:=B) hk hm (fun _ _ _=>trivial) fun he=>h2 he h).2 h⟩
def ix {α:Type} {enc:α->List V} {xs:List α} {f:Bool} {sz:Nat} {K:V->Prop} {ki:IntKind} {k:Nat} {x:α} (h:K (.rp (enc x))) (hx:xs[k]? =some x:=by assumption) (hm:xs.length<=Ab:=by first|assumption|omega|simp[Ab]<;>omega) (hs:(enc x).length=sz:=by first|rfl|simp) :
    AQ sz none (.l (xs.map enc) f) (.i ki (A7 k)) K:=Jm hx hm hs h
def iq {α:Type} {enc:α->List V} {xs:List α} {f:Bool} {sz:Nat} {K:V->Prop} {ki:IntKind} {j:Int} (h: ∀x,xs[j.toNat]? =some x->K (.rp (enc x))) (h0:0<=j:=by omega) (h1:j<xs.length:=by omega) (hs: ∀x,(enc x).length=sz:=by intro x;first|rfl|simp|(rw[BC];rfl)) :
    AQ sz none (.l (xs.map enc) f) (.i ki j) K:=by
 have hlt:j.toNat<xs.length:=by omega
 exact VR j.toNat (Cd hlt) (by omega) (hs _) (h _ (Cd hlt))
def sk1 {α:Type} {enc:α->List V} {xs:List α} {f:Bool} {sz:Nat} {ki:IntKind} {k:Nat} {K:V->AE->Prop} (h:K (.l ((xs.take k).map enc) (f&&decide ((k:Int)=((xs.map enc).length:Nat)))) Z) (hl:k<=xs.length:=by first|assumption|omega) (hm:xs.length<=Ab:=by first|assumption|omega) (hs: ∀x,(enc x).length=sz:=by intro x;first|rfl|simp|(rw[BC];rfl)) :
    AP Z sz (.l (xs.map enc) f) none (some (.i ki (A7 k))) none K:=by
 rw[AS (by omega)];refine⟨fun e he=>?_,?_⟩
 .obtain⟨x,_,rfl⟩:=GK.1 he
  exact hs x
 .simp only[Ou,Bc]
  refine⟨by omega,by omega,by omega,?_⟩;rw[GR];simpa[List.map_take]using h
def rb {xs:List Fact} {f:Bool} {K:V->Prop} {ki:IntKind} {k:Nat} {x:Fact} (h:K (.rp (xF x))) (hx:xs[k]? =some x:=by assumption) (hm:xs.length<=Ab:=by first|assumption|omega):AQ 6 none (.l (xs.map EI) f) (.i ki (A7 k)) K:=by
 refine Jm hx hm (by rw[BC];rfl) ?_;rw[BC];exact h
def Ro {a0:At} {l:List At}:(a0::l)[0]? =some a0:=rfl
def Rn {a0 a1:At} {l:List At}:(a0::a1::l)[1]? =some a1:=rfl
def Rm {a0 a1 a2:At} {l:List At}:(a0::a1::a2::l)[2]? =some a2:=rfl
def Rl {a0 a1 a2 a3:At} {l:List At}:(a0::a1::a2::a3::l)[3]? =some a3:=rfl
def Rk {a0 a1 a2 a3 a4:At} {l:List At}:(a0::a1::a2::a3::a4::l)[4]? =some a4:=rfl
def Rj {a0 a1 a2 a3 a4 a5:At} {l:List At}:(a0::a1::a2::a3::a4::a5::l)[5]? =some a5:=rfl
def ld {l:List At} {i n off:Nat} {agg:Option Nat} {vs:List V} {K:V->Prop} (hk:cut agg vs off K) (h:Sat Z l:=by assumption)
    (hi:l[i]? =some (.box n vs):=by first|exact Ro|exact Rn|exact Rm|exact Rl|exact Rk|exact Rj):AT Z agg (.p n off) K:=Vl h i hi hk
def s1 {l:List At} {i n off:Nat} {vs:List V} {x:V} {K:AE->Prop} (hk: ∀Z',Sat Z' (l.set i (.box n (vs.set off x)))->K Z') (h:Sat Z l:=by assumption)
    (hi:l[i]? =some (.box n vs):=by first|exact Ro|exact Rn|exact Rm|exact Rl|exact Rk|exact Rj)
    (h1:Dg x=true:=by first|rfl|exact FZ (by assumption) 0 rfl|exact FZ (by assumption) 1 rfl|exact FZ (by assumption) 2 rfl|exact FZ (by assumption) 3 rfl|simp) (ho:off+1<=vs.length:=by exact Nat.le_of_ble_eq_true rfl):AR Z 1 (.p n off) x K:=
 Iz h i hi h1 ho hk
def sn {l:List At} {i n off sz:Nat} {vs vc:List V} {x:V} {K:AE->Prop} (hk: ∀Z',Sat Z' (l.set i (.box n (putAt vs off vc)))->K Z') (h:Sat Z l:=by assumption)
    (hi:l[i]? =some (.box n vs):=by first|exact Ro|exact Rn|exact Rm|exact Rl|exact Rk|exact Rj)
    (hc:cellsOf x=some vc:=by rfl) (hl:vc.length=sz:=by rfl) (h1:vc.all Dg=true:=by first|rfl|simp) (ho:off+sz<=vs.length:=by exact Nat.le_of_ble_eq_true rfl):AR Z sz (.p n off) x K:=
 FF h i hi hc hl h1 ho hk
def Iv:Dj (fun f:Fact=>EI f) 6:=fun f=>by
 simp only[BC];refine⟨rfl,fun v hv=>?_⟩;simp only[Ep,List.not_mem_nil,or_false]at hv;rcases hv with rfl|rfl|rfl|rfl|rfl|rfl<;>rfl
def PN:Dj (fun l:List Fact=>[V.l (facts l) false]) 1:=fun x=>⟨rfl,fun v hv=>by simp at hv;subst hv;rfl⟩
def af {α:Type} {enc:α->List V} {sz:Nat} {ys:List α} {g:Bool} {K:V->Prop} (hk:K (.l (ys.map enc) false)) (hg:Dj enc sz:=by first|exact Cs|exact DQ|exact PM|exact Iv|exact PN) {b:Nat} (hl:ys.length<=Ab/\ys.length*b<=140737488355328:=by first|assumption|omega) :
    AX b Z sz (.l [] true) (.l (ys.map enc) g) K:=iO hg hl hk
def al {l:List At} {o:O} {n:Nat} {K:Prop} {Z':AE} (e:BZ Z n o=Z') (hk:Sat Z' (l++[.obj n o])->K) (hn:Z n=none:=by assumption) (h:Sat Z l:=by assumption):K:=hk (e ▸ fh h hn)
def oi {l:List At} {i:Nat} {v:V} {sz:Nat} {es:List (List V)} {ki:IntKind} {j:Int} {K:V->Prop} (hk:K (FW v sz j.toNat)) (h:Sat Z l:=by assumption)
    (hi:l[i]? =some (.own v sz es):=by first|exact Ro|exact Rn|exact Rm|exact Rl|exact Rk|exact Rj) (h0:0<=j:=by omega) (h1:j<es.length:=by first|omega|(simp only[Bc]at *;omega)):AQ sz none v (.i ki j) K:=
 fG h i j.toNat hi (by omega) (by omega) hk
def oc {l:List At} {i:Nat} {v:V} {sz k:Nat} {es:List (List V)} {ki:IntKind} {K:V->Prop} (hk:K (FW v sz k)) (h:Sat Z l:=by assumption)
    (hi:l[i]? =some (.own v sz es):=by first|exact Ro|exact Rn|exact Rm|exact Rl|exact Rk|exact Rj) (h1:k<es.length:=by first|omega|(simp only[Bc]at *;omega)) (hm:k<=Ab:=by first|omega|(simp only[Ab];omega)):AQ sz none v (.i ki (A7 k)) K:=
 fG h i k hi (AS (by omega)) h1 hk
def ol {α:Type} {enc:α->List V} {xs:List α} {l:List At} {i:Nat} {v:V} {sz k:Nat} {agg:Option Nat} {K:V->Prop} (hk: ∀x,xs[k]? =some x->cut agg (enc x) 0 K) (h:Sat Z l:=by assumption)
    (hi:l[i]? =some (.own v sz (xs.map enc)):=by first|exact Ro|exact Rn|exact Rm|exact Rl|exact Rk|exact Rj) (h1:k<xs.length:=by first|omega|(simp only[Bc]at *;omega)):AT Z agg (FW v sz k) K:=
 I0 h i hi (by rw[LY,Cd h1];rfl) (hk _ (Cd h1))
def oset {α:Type} {enc:α->List V} {xs:List α} {y:α} {l:List At} {i:Nat} {v x:V} {sz k:Nat} {vc:List V} {K:AE->Prop} (hk: ∀Z',Sat Z' (l.set i (.own v sz ((xs.set k y).map enc)))->K Z') (h:Sat Z l:=by assumption)
    (hi:l[i]? =some (.own v sz (xs.map enc)):=by first|exact Ro|exact Rn|exact Rm|exact Rl|exact Rk|exact Rj) (hc:cellsOf x=some vc:=by rfl) (he:vc=enc y:=by rfl) (hg:Dj enc sz:=by first|exact Cs|exact DQ|exact PM|exact Iv|exact PN)
    (hv:(Bi v).isSome=true:=by assumption) (h1:k<xs.length:=by first|omega|(simp only[Bc]at *;omega)):AR Z sz (FW v sz k) x K:=by
 subst he;refine M1 h i hi (by rw[LY,Cd h1];rfl) hc (hg y).1 (Cu.2 fun v hv=>(hg y).2 v hv) (hg _).1 hv fun Z' hs=>hk Z' ?_
 rw[List.map_set];exact hs
def G5 {b sz:Nat} {v:V} {e:List V} {f:Bool} {K:V->AE->Prop} (h:AL b Z sz v (.l [e] f) fun v' Z'=>(Bi v').isSome=true->K v' Z'):AL b Z sz v (.l [e] f) K:=by
 obtain⟨h1,h2,h3⟩:=h;refine⟨h1,h2,?_⟩;cases v with
 | l es full=>exact⟨h3.1,h3.2.1,fun e=>(by cases e),fun e=>⟨(h3.2.2.2 e).1,fun n cap hn hc=>(h3.2.2.2 e).2 n cap hn hc rfl⟩⟩
 | sl n len cap=>
   simp only at h3 ⊢;split at h3
   .exact⟨h3.1,h3.2.1,h3.2.2.1,h3.2.2.2.1,fun n' cap' hn hc=>h3.2.2.2.2 n' cap' hn hc rfl⟩
   .exact h3.elim
 | _=>exact h3.elim
def aq {l:List At} {i:Nat} {α:Type} {enc:α->List V} {sz:Nat} {xs:List α} {x:α} {v:V} {f:Bool} {e:List V} {K:V->AE->Prop} (hk: ∀v' Z',Sat Z' (l.set i (.own v' sz ((xs++[x]).map enc)))->(Bi v').isSome=true->K v' Z') (h:Sat Z l:=by assumption)
    (hi:l[i]? =some (.own v sz (xs.map enc)):=by first|exact Ro|exact Rn|exact Rm|exact Rl|exact Rk|exact Rj)
    (he:e=enc x:=by rfl) (hg:Dj enc sz:=by first|exact Cs|exact DQ|exact PM|exact Iv|exact PN)
    {b:Nat} (hl:xs.length<Ab/\(xs.length+1)*b<=140737488355328:=by first|assumption|omega|(simp only[HQ,Bc,HH,List.length_nil,Je,yN,List.length_replicate,Ab]at *;omega)):AL b Z sz v (.l [e] f) K:=
 G5 (GO h i hi hl hg hk he)
end Go.Gl
namespace Go.Gl
variable {P:Program} {Z:AE} {env:Env}
def iqF {xs:List Fact} {f:Bool} {K:V->Prop} {ki:IntKind} {j:Int} (h: ∀x,xs[j.toNat]? =some x->K (.rp (xF x))) (h0:0<=j:=by omega) (h1:j<xs.length:=by omega):AQ 6 none (.l (xs.map EI) f) (.i ki j) K:=by
 refine iq (fun x hx=>?_) h0 h1 (by intro x;rw[BC];rfl);rw[BC];exact h x hx
def lo {l:List At} {i:Nat} {v:V} {sz:Nat} {es:List (List V)} {K:V->Prop} (hk:K (.i .i64 es.length)) (h:Sat Z l:=by assumption)
    (hi:l[i]? =some (.own v sz es):=by first|exact Ro|exact Rn|exact Rm|exact Rl|exact Rk|exact Rj) (hm:es.length<=Ab:=by first|omega|(simp only[Bc,List.length_replicate,List.length_set,Ab]at *;omega)):An v K:=NZ h i hi hm hk
def slq {α:Type} {enc:α->List V} {xs:List α} {f:Bool} {sz:Nat} {ki:IntKind} {j:Int} {K:V->AE->Prop} (h:K (.l ((xs.take j.toNat).map enc) (f&&decide (j=((xs.map enc).length:Nat)))) Z) (h0:0<=j:=by omega) (h1:j<=xs.length:=by first|omega|(simp only[Bc]at *;omega)) (hs: ∀x,(enc x).length=sz:=by intro x;first|rfl|simp|(rw[BC];rfl)) :
    AP Z sz (.l (xs.map enc) f) none (some (.i ki j)) none K:=by
 refine⟨fun e he=>?_,?_⟩
 .obtain⟨x,_,rfl⟩:=GK.1 he
  exact hs x
 .simp only[Ou,Bc]
  refine⟨by omega,by omega,by omega,?_⟩;simpa[List.map_take]using h
def Sat.take {l:List At} (h:Sat Z l) (n:Nat):Sat Z (l.take n):=h.less (List.take_sublist _ _)
def Bm {b:Bool} {Z Z':AE}:FY Z Z' (.l [] b) (.l [] false):= .l (fun h=>by cases h) .nil
def OQ {b:Bool} {Z Z':AE} {es:List (List V)}:FY Z Z' (.l es b) (.l es false):= .l (fun h=>by cases h) (Eg.refl _ _ _)
mutual
def TY {Z Z':AE}: ∀vs:List V,Ct Z Z' vs vs
 | []=> .nil
 | v::r=> .cons (.refl v) (TY r)
end
def C2 {Z Z':AE}: ∀es:List (List V),Eg Z Z' es es
 | []=> .nil
 | e::r=> .cons (TY e) (C2 r)
def os2 {α:Type} {enc:α->List V} {xs:List α} {y:α} {l:List At} {i:Nat} {v x:V} {sz k:Nat} {vc:List V} {K:AE->Prop} (hk: ∀Z',Sat Z' (l.set i (.own v sz ((xs.set k y).map enc)))->K Z') (h:Sat Z l:=by assumption)
    (hi:l[i]? =some (.own v sz (xs.map enc)):=by first|exact Ro|exact Rn|exact Rm|exact Rl|exact Rk|exact Rj) (hc:cellsOf x=some vc:=by rfl) (he:vc=enc y:=by rfl) (hg:Dj enc sz:=by first|exact Cs|exact DQ|exact PM|exact Iv|exact PN)
    (hv:(Bi v).isSome=true:=by rfl) (h1:k<xs.length:=by first|omega|(simp only[Bc]at *;omega)):AR Z sz (FW v sz k) x K:=oset hk h hi hc he hg hv h1
def A9 {α:Type} (xs:List α) {k:Nat} (hk:k<=xs.length):(∃x,xs[k]? =some x/\k<xs.length)\/k=xs.length:=by
 rcases Nat.lt_or_ge k xs.length with h|h
 .exact .inl ⟨_,Cd h,h⟩
 .exact .inr (by omega)
def NT {α:Type} {enc:α->List V} {xs:List α} {k:Nat} {x:α} {A B:Prop} (h1:decide (A7 k<((xs.map enc).length:Nat))=true->A) (hx:xs[k]? =some x:=by assumption) (hm:xs.length<=Ab:=by first|assumption|omega|simp[Ab]<;>omega) :
    (decide (A7 k<((xs.map enc).length:Nat))=true->A)/\(decide (A7 k<((xs.map enc).length:Nat))=false->B):=by
 refine⟨h1,fun h=>?_⟩;have hlt:=(Ip.1 hx).1;rw[AS (by omega),Bc]at h;have:=of_decide_eq_false h;omega
def SF {α:Type} {enc:α->List V} {xs:List α} {k:Nat} {A B:Prop} (h1:decide (A7 k<((xs.map enc).length:Nat))=false->B) (hx:k=xs.length:=by assumption) (hm:xs.length<=Ab:=by first|assumption|omega|simp[Ab]<;>omega) :
    (decide (A7 k<((xs.map enc).length:Nat))=true->A)/\(decide (A7 k<((xs.map enc).length:Nat))=false->B):=by
 refine⟨fun h=>?_,h1⟩;rw[AS (by omega),Bc]at h;have:=of_decide_eq_true h;omega
def iqk {α:Type} {enc:α->List V} {xs:List α} {f:Bool} {sz:Nat} {K:V->Prop} {ki:IntKind} {j:Int} {x:α} (h:K (.rp (enc x))) (hx:xs[j.toNat]? =some x:=by assumption) (h0:0<=j:=by omega) (hs:(enc x).length=sz:=by first|rfl|simp|(rw[BC];rfl)) :
    AQ sz none (.l (xs.map enc) f) (.i ki j) K:=VR j.toNat hx (by omega) hs h
def yr {xs:List Fact} {f:Bool} {K:V->Prop} {ki:IntKind} {j:Int} {x:Fact} (h:K (.rp (xF x))) (hx:xs[j.toNat]? =some x:=by assumption) (h0:0<=j:=by omega):AQ 6 none (.l (xs.map EI) f) (.i ki j) K:=by
 refine iqk ?_ hx h0;rw[BC];exact h
class CB (b:Bool) (v:outParam Bool):Prop where
 h:b=v
instance :CB true true:=⟨rfl⟩
instance :CB false false:=⟨rfl⟩
instance {b:Bool} [i:CB b true]:CB (!b) false:=⟨by rw[i.h];rfl⟩
instance {b:Bool} [i:CB b false]:CB (!b) true:=⟨by rw[i.h];rfl⟩
instance {b x y v:Bool} [i:CB b true] [j:CB x v]:CB (bif b then x else y) v:=⟨by rw[i.h,j.h];rfl⟩
instance {b x y v:Bool} [i:CB b false] [j:CB y v]:CB (bif b then x else y) v:=⟨by rw[i.h,j.h];rfl⟩
instance {a b:Bool} [i:CB a true] [j:CB b true]:CB (a==b) true:=⟨by rw[i.h,j.h];rfl⟩
instance {a b:Bool} [i:CB a true] [j:CB b false]:CB (a==b) false:=⟨by rw[i.h,j.h];rfl⟩
instance {a b:Bool} [i:CB a false] [j:CB b true]:CB (a==b) false:=⟨by rw[i.h,j.h];rfl⟩
instance {a b:Bool} [i:CB a false] [j:CB b false]:CB (a==b) true:=⟨by rw[i.h,j.h];rfl⟩
instance {a b:Bool} [i:CB a true] [j:CB b true]:CB (a != b) false:=⟨by rw[i.h,j.h];rfl⟩
instance {a b:Bool} [i:CB a true] [j:CB b false]:CB (a != b) true:=⟨by rw[i.h,j.h];rfl⟩
instance {a b:Bool} [i:CB a false] [j:CB b true]:CB (a != b) true:=⟨by rw[i.h,j.h];rfl⟩
instance {a b:Bool} [i:CB a false] [j:CB b false]:CB (a != b) false:=⟨by rw[i.h,j.h];rfl⟩
def Zg {A B:Prop} {b:Bool} [i:CB b true] (h:A):(b=true->A)/\(b=false->B):=⟨fun _=>h,fun e=>(by rw[i.h]at e;cases e)⟩
def SG {A B:Prop} {b:Bool} [i:CB b false] (h:B):(b=true->A)/\(b=false->B):=⟨fun e=>(by rw[i.h]at e;cases e),fun _=>h⟩
def y0 {A B:Prop} {b:Bool} [i:CB b true] (h:B):(b=false->A)/\(b=true->B):=⟨fun e=>(by rw[i.h]at e;cases e),fun _=>h⟩
def sO {A B:Prop} {b:Bool} [i:CB b false] (h:A):(b=false->A)/\(b=true->B):=⟨fun _=>h,fun e=>(by rw[i.h]at e;cases e)⟩
def oi2 {l:List At} {i:Nat} {v:V} {sz:Nat} {es:List (List V)} {ki:IntKind} {j:Int} {K:V->Prop} (hk:K (FW v sz j.toNat)) (h:Sat Z l:=by assumption)
    (hi:l[i]? =some (.own v sz es):=by first|exact Ro|exact Rn|exact Rm|exact Rl|exact Rk|exact Rj) (h0:0<=j:=by omega) (h1:j<es.length:=by(simp only[Bc,List.length_set];omega)):AQ sz none v (.i ki j) K:=
 fG h i j.toNat hi (by omega) (by omega) hk
def oc2 {l:List At} {i:Nat} {v:V} {sz k:Nat} {es:List (List V)} {ki:IntKind} {K:V->Prop} (hk:K (FW v sz k)) (h:Sat Z l:=by assumption)
    (hi:l[i]? =some (.own v sz es):=by first|exact Ro|exact Rn|exact Rm|exact Rl|exact Rk|exact Rj) (h1:k<es.length:=by(simp only[Bc,List.length_set];omega)) (hm:k<=Ab:=by first|omega|(simp only[Ab];omega)):AQ sz none v (.i ki (A7 k)) K:=
 fG h i k hi (AS (by omega)) h1 hk
def olk {α:Type} {enc:α->List V} {xs:List α} {x:α} {l:List At} {i:Nat} {v:V} {sz k:Nat} {agg:Option Nat} {K:V->Prop} (hk:cut agg (enc x) 0 K) (h:Sat Z l:=by assumption)
    (hi:l[i]? =some (.own v sz (xs.map enc)):=by first|exact Ro|exact Rn|exact Rm|exact Rl|exact Rk|exact Rj) (hx:xs[k]? =some x:=by assumption):AT Z agg (FW v sz k) K:=
 I0 h i hi (by rw[LY,hx];rfl) hk
def cL {xs:List Fact} {x:Fact} {l:List At} {i:Nat} {v:V} {k:Nat} {agg:Option Nat} {K:V->Prop} (hk:cut agg (xF x) 0 K) (h:Sat Z l:=by assumption)
    (hi:l[i]? =some (.own v 6 (facts xs)):=by first|exact Ro|exact Rn|exact Rm|exact Rl|exact Rk|exact Rj) (hx:xs[k]? =some x:=by assumption):AT Z agg (FW v 6 k) K:=
 I0 h i hi (by rw[LY,hx];exact congrArg some (BC x)) hk
def ol2 {α:Type} {enc:α->List V} {xs:List α} {l:List At} {i:Nat} {v:V} {sz k:Nat} {agg:Option Nat} {K:V->Prop} (hk: ∀x,xs[k]? =some x->cut agg (enc x) 0 K) (h:Sat Z l:=by assumption)
    (hi:l[i]? =some (.own v sz (xs.map enc)):=by first|exact Ro|exact Rn|exact Rm|exact Rl|exact Rk|exact Rj) (h1:k<xs.length:=by(simp only[Bc,List.length_set];omega)):AT Z agg (FW v sz k) K:=ol hk h hi h1
def VZ {v:V} (h:(Bi v).isSome=true): ∃n l c,v= .sl n l c:=by
 cases v<;>first|(cases h;done)|exact⟨_,_,_,rfl⟩
def yZ {l:List At} {i:Nat} {xs:List Fact} {x:Fact} {v:V} {f:Bool} {e:List V} {K:V->AE->Prop} (hk: ∀v' Z',Sat Z' (l.set i (.own v' 6 (facts (xs++[x]))))->(Bi v').isSome=true->K v' Z') (h:Sat Z l:=by assumption)
    (hi:l[i]? =some (.own v 6 (facts xs)):=by first|exact Ro|exact Rn|exact Rm|exact Rl|exact Rk|exact Rj)
    (he:e=xF x:=by rfl)
    {b:Nat} (hl:xs.length<Ab/\(xs.length+1)*b<=140737488355328:=by first|assumption|omega|(simp only[HQ,Bc,HH,List.length_nil,Je,yN,List.length_replicate,Ab]at *;omega)):AL b Z 6 v (.l [e] f) K:=
 G5 (GO h i hi hl Iv hk (by rw[he,BC]))
end Go.Gl
