import Derived.ChangeOld
import Derived.Below
import Derived.Carry
import Derived.ChangeArms
import Derived.Deep.Slices
import Derived.Test.YtegbmnmnaijioaaGreatProg
import Derived.KernelRfl
import Derived.Test.YtegbmnmnaijioaaGreatX5
set_option linter.all false
set_option linter.defProp false
set_option maxHeartbeats 8000000
noncomputable section
namespace Go.Gl
open Go.ChangeShapes Go.WideShapes Go.ChangeAt Go.RowKit
def nA {w w':World} (h:B9 (fun _=>False) emp w emp w'):Below w.heap.size w w':=
 ⟨h.os,h.tape,h.output,h.size,fun k hk=>h.frame k hk rfl⟩
def uo {w:World} {b o:Nat}:Hh (fun _=>False) emp w b o=w.cell? ⟨b,o,none⟩:=by
 unfold Hh;rw[if_neg (by simp[emp])]
def O1 {α:Type} {Q:Nat->α->Prop}: ∀(len:Nat),(∀i,i<len-> ∃v,Q i v)-> ∃l:List α,l.length=len/\ ∀i v,l[i]? =some v->Q i v
 | 0,_=>⟨[],rfl,fun i v h=>by simp at h⟩
 | k + 1,h=>by
   obtain⟨l,hl,hl2⟩:=O1 k fun i hi=>h i (by omega)
   obtain⟨u,hu⟩:=h k (by omega);refine⟨l++[u],by simp[hl],fun i v hv=>?_⟩;by_cases hi:i<l.length
   .rw[nX hi]at hv
    exact hl2 i v hv
   .rw[List.getElem?_append_right (by omega)]at hv
    have:i - l.length=0:=by
     have:=(JT.1 hv).1;simp at this;omega
    have hik:i=k:=by omega
    subst hik;rw[this]at hv;rw[<-Option.some.inj hv];exact hu
section
variable {H:Type} {enc:TypeId×Value->H} {P:Program} {W:World}
def ng {H:Type} (enc:TypeId×Value->H) (P:Program) (W:World) (n:Nat) (t:TypeId) {α:Type} (ea:α->List V):Prop:=
 ∀(cs:List Value) (d:DataW H) (ps:List MemPlace),DataW.trod enc P W 0 (fun _=>true) true n t cs=some (d,ps)->(∀x∈d.weights P t,x<=reachBytes)-> ∃a:α,cs.length=(ea a).length/\Ba (Hh (fun _=>False) emp W) (fun i=>cs[i]?) 0 (ea a)
def SJ {H:Type} (enc:TypeId×Value->H) (P:Program) (W:World) (t:TypeId) {α:Type} (ea:α->List V):Prop:= ∀n,ng enc P W n t ea
def Me {t:TypeId} {α:Type} {ea:α->List V}:ng enc P W 0 t ea:=fun cs d ps h=>by simp[DataW.trod]at h
def GG {n:Nat} {t:TypeId} {α β:Type} {ea:α->List V} {eb:β->List V} (h:ng enc P W n t ea) (g:α->β) (hg: ∀a,ea a=eb (g a)):ng enc P W n t eb:=fun cs d ps h1 h2=>by
 obtain⟨a,h3,h4⟩:=h cs d ps h1 h2;exact⟨g a,by rw[<-hg];exact h3,by rw[<-hg];exact h4⟩
def QM {t:TypeId} (ht:P.underlying t=some (.int .i64)):SJ enc P W t fun x:Int=>[V.i .i64 x]:=fun n cs d ps h _=>by
 obtain⟨k,rfl,-,hw⟩:=DataW.trod_int ht h;simp only[Lit.wf,A0,CC]at hw;refine⟨k,rfl,⟨_,rfl,?_⟩,trivial⟩;simp only[Af]
 first
  | exact⟨rfl,hw⟩
  | exact⟨trivial,hw⟩
  | exact hw
def TD {n:Nat} {t e:TypeId} {sz:Nat} {α:Type} {ea:α->List V} (ht:P.underlying t=some (.slice e)) (hc:P.cellsOf e=sz) (hsz:0<sz) (hb:8<=P.bytesOf e) (he: ∀a,(ea a).length=sz) (h:ng enc P W n e ea) :
    ng enc P W (n+1) t fun l:List α=>[V.l (l.map ea) false]:=by
 intro cs d ps htr hw;rcases DataW.trod_slice ht htr with⟨rfl,hx⟩|⟨a,len,cap,elems,rest,n',hn,rfl,hx,-,hl,hm,hlen,hel,-,-⟩
 .refine⟨[],rfl,⟨_,rfl,?_⟩,trivial⟩
  simp only[List.map_nil,Af];exact⟨none,0,rfl,Ia _,fun h=>(by cases h),Nat.zero_le _,fun _=>rfl,fun h=>absurd rfl h⟩
 .obtain rfl:n'=n:=by omega
  simp only[Prod.mk.injEq]at hx;obtain⟨rfl,-⟩:=hx;simp only[DataW.weights,ht,Fl,D9]at hw;have hwl:=hw _ (.inl rfl)
  have hwe: ∀(l:List (DataW H)) (D:DataW H),D∈l-> ∀x∈D.weights P e,x∈DataW.weightsAll P e l:=by
   intro l
   induction l with
   | nil=>intro D hD;cases hD
   | cons y r ih=>
     intro D hD x hx;simp only[DataW.weightsAll,D9];rcases Fl.1 hD with rfl|hD
     .exact .inl hx
     .exact .inr (ih D hD x hx)
  have hM:len<=Ae:=by
   simp only[Ca,hlen,reachBytes]at hwl;have h8:(len+rest.length)*8<=(len+rest.length)*P.bytesOf e:=Nat.mul_le_mul_left _ hb;unfold Ae;omega
  have each: ∀i,i<len-> ∃v:α,∃cs',W.cells? 0 (a.add (i*sz)) sz=some cs'/\Ba (Hh (fun _=>False) emp W) (fun j=>cs'[j]?) 0 (ea v):=fun i hi=>by
   have hi':=hel i hi;obtain⟨x,hx⟩: ∃x,elems[i]? =some x:=⟨_,DC (by omega)⟩
   rw[hx,Option.bind_eq_some_iff,hc]at hi';obtain⟨cs',h1,h2⟩:=hi';obtain⟨v,-,h4⟩:=h cs' x.1 x.2 h2 fun y hy=>hw y (.inr (.inl (hwe _ x.1 (Hp.2 ⟨x,CY hx,rfl⟩) y hy)))
   exact⟨v,cs',h1,h4⟩
  obtain⟨l,hll,hlc⟩:=O1 len each;refine⟨l,rfl,⟨_,rfl,?_⟩,trivial⟩;simp only[Af,Ca];refine⟨some a,cap,by rw[hll],by omega,fun h=>(by cases h),by omega,fun h=>(by cases h),fun hne=>?_⟩;obtain⟨b,o,spot⟩:=a
  have h0:0<l.length:=by
   rcases l with _|⟨v,r⟩
   .exact absurd rfl hne
   .simp
  have hspot:spot=none:=by
   obtain⟨cs',h1,-⟩:=hlc 0 l[0] (DC h0);obtain⟨-,h3,h4⟩:=World.cells?_some h1;have h5:=h4 0 hsz;rw[DC (by omega)]at h5;have:=World.cell?_spot h5;simpa[Addr.add]using this
  subst hspot
  have hcell: ∀i v,l[i]? =some v-> ∀k u,(ea v)[k]? =some u-> ∃c,W.cell? ⟨b,o+i*sz+k,none⟩=some c/\Af (Hh (fun _=>False) emp W) u c:=fun i v hv k u hu=>by
   obtain⟨cs',h1,h2⟩:=hlc i v hv;obtain⟨-,h3,h4⟩:=World.cells?_some h1;have hk:k<sz:=by rw[<-he v];exact(JT.1 hu).1
   obtain⟨c,hc',hr⟩:=Bg.1 h2 k u hu;have h5:=h4 k hk;simp only[Gu]at hc';rw[add_plain,add_plain]at h5;exact⟨c,by rw[<-hc',<-h5],hr⟩
  refine⟨b,o,sz,rfl,BG.2 fun j e hj=>?_⟩;rw[OR]at hj;obtain⟨v,hv,rfl⟩:=Option.map_eq_some_iff.1 hj;refine⟨he v,Bg.2 fun k u hu=>?_⟩;obtain⟨c,h1,h2⟩:=hcell j v hv k u hu;exact⟨c,by rw[uo];exact h1,h2⟩
def Gh {t e:TypeId} {sz:Nat} {α:Type} {ea:α->List V} (ht:P.underlying t=some (.slice e)) (hc:P.cellsOf e=sz) (hsz:0<sz) (hb:8<=P.bytesOf e) (he: ∀a,(ea a).length=sz) (h:SJ enc P W e ea) :
    SJ enc P W t fun l:List α=>[V.l (l.map ea) false]
 | 0=>Me
 | n+1=>TD ht hc hsz hb he (h n)
def zj {H:Type} (enc:TypeId×Value->H) (P:Program) (W:World) (n:Nat) (fs:List Field) (o:Nat) {α:Type} (ea:α->List V):Prop:=
 ∀ (cs:List Value) (xs:List (DataW H×List MemPlace)),xs.length=fs.length->(∀(i:Nat) (f:Field),fs[i]? =some f->DataW.trod enc P W 0 (fun _=>true) true n (Field.type f) ((cs.drop (Field.offset f)).take (P.cellsOf (Field.type f)))=xs[i]?)->
   (∀x∈DataW.weightsEach P (fs.map fun f:Field=>f.type) (xs.map (·.1)),x<=reachBytes)-> ∃a:α,Ba (Hh (fun _=>False) emp W) (fun i=>cs[i]?) o (ea a)
def GH {n o:Nat}:zj enc P W n [] o fun _:Unit=>([]:List V):=fun _ _ _ _ _=>⟨(),trivial⟩
def BH {n o c:Nat} {f:Field} {fs:List Field} {α β:Type} {ea:α->List V} {eb:β->List V} (hf:f.offset=o) (hc:P.cellsOf f.type=c) (he: ∀a,(ea a).length=c) (h1:ng enc P W n f.type ea) (h2:zj enc P W n fs (o+c) eb) :
    zj enc P W n (f::fs) o fun p:α×β=>ea p.1++eb p.2:=by
 intro cs xs hl hx hw
 match xs,hl with
 | x ::r,hl=>
   have hx0:=hx 0 f rfl;simp only[se]at hx0;simp only[EW,DataW.weightsEach,D9]at hw;obtain⟨a,ha1,ha2⟩:=h1 _ x.1 x.2 hx0 fun y hy=>hw y (.inl hy)
   obtain⟨b,hb⟩:=h2 cs r (by simpa using hl) (fun i g hg=>by
    have:=hx (i+1) g (by simpa using hg)
    simpa using this) fun y hy=>hw y (.inr hy)
   refine⟨(a,b),Oh (Bg.2 fun k u hu=>?_) (by rw[he];exact hb)⟩;obtain⟨cc,h3,h4⟩:=Bg.1 ha2 k u hu;have hk:k<c:=by rw[<-he a];exact(JT.1 hu).1
   refine⟨cc,?_,h4⟩;rw[hf,hc,Gu,List.getElem?_take,if_pos hk,nU]at h3;exact h3
def RN {n:Nat} {t:TypeId} {fs:List Field} {α:Type} {ea:α->List V} (ht:P.underlying t=some (.struct fs.toArray)) (h:zj enc P W n fs 0 ea) (hl: ∀a,(ea a).length=P.cellsOf t):ng enc P W (n+1) t ea:=by
 intro cs d ps htr hw;obtain⟨xs,k,hk,hx,hcl,hxl,hf⟩:=DataW.trod_struct ht htr;obtain rfl:k=n:=by omega
 simp only[Prod.mk.injEq]at hx;obtain⟨rfl,-⟩:=hx;simp only[DataW.weights,ht]at hw;obtain⟨a,ha⟩:=h cs xs (by rw[hxl];simp) (fun i f hfi=>hf i f (by simpa using hfi)) (by simpa using hw);exact⟨a,by rw[hcl,hl],ha⟩
def Er {t:TypeId} {fs:List Field} {α:Type} {ea:α->List V} (ht:P.underlying t=some (.struct fs.toArray)) (h: ∀n,zj enc P W n fs 0 ea) (hl: ∀a,(ea a).length=P.cellsOf t):SJ enc P W t ea
 | 0=>Me
 | n+1=>RN ht (h n) hl
end
end Go.Gl
namespace Go.Gl
open Go.Proofs
section
variable {H:Type} {enc:TypeId×Value->H} {W:World}
def b8 {n:Nat} (h:Nat.ble 8 n=true):8<=n:=Nat.le_of_ble_eq_true h
def Lv:SJ enc Tryz.prog W 3 fun x:Int=>[V.i .i64 x]:=QM Tryz.underlying3
def V7:SJ enc Tryz.prog W 23 fun l:List Int=>[V.l (iL l) false]:=Gh Tryz.underlying23 (by kernel_rfl) (by decide) (b8 (by kernel_rfl)) (fun _=>rfl) Lv
def tr:SJ enc Tryz.prog W 314 fun p:Int×Int=>[eI p.1,eI p.2]:=fun n=>
 GG (Er Tryz.underlying314
  (fun n=>BH (c:=1) rfl (by kernel_rfl) (fun _=>rfl) (Lv n) (BH (c:=1) rfl (by kernel_rfl) (fun _=>rfl) (Lv n) GH)) (fun _=>(show _=2 from rfl).trans (by kernel_rfl)) n) (fun x=>(x.1,x.2.1)) fun _=>rfl
def o8:SJ enc Tryz.prog W 59 fun l:List (Int×Int)=>[V.l (l.map fun p=>[eI p.1,eI p.2]) false]:=Gh (sz:=2) Tryz.underlying59 (by kernel_rfl) (by decide) (b8 (by kernel_rfl)) (fun _=>rfl) tr
def AAY:SJ enc Tryz.prog W 61 UF:=fun n=>
 GG (Er Tryz.underlying61
  (fun n=>BH (c:=1) rfl (by kernel_rfl) (fun _=>rfl) (V7 n) (BH (c:=1) rfl (by kernel_rfl) (fun _=>rfl) (V7 n)
   (BH (c:=1) rfl (by kernel_rfl) (fun _=>rfl) (o8 n) GH))) (fun _=>(show _=3 from rfl).trans (by kernel_rfl)) n) (fun x=>⟨x.1,x.2.1,x.2.2.1⟩) fun _=>rfl
def tp:SJ enc Tryz.prog W 199 Jk:=fun n=>
 GG (Er Tryz.underlying199
  (fun n=>BH (c:=1) rfl (by kernel_rfl) (fun _=>rfl) (QM Tryz.underlying197 n) (BH (c:=1) rfl (by kernel_rfl) (fun _=>rfl) (Lv n)
   (BH (c:=1) rfl (by kernel_rfl) (fun _=>rfl) (V7 n) GH))) (fun _=>(show _=3 from rfl).trans (by kernel_rfl)) n) (fun x=>⟨x.1,x.2.1,x.2.2.1⟩) fun _=>rfl
def o6:SJ enc Tryz.prog W 25 fun l:List Node=>[V.l (l.map Jk) false]:=Gh (sz:=3) Tryz.underlying25 (by kernel_rfl) (by decide) (b8 (by kernel_rfl)) (fun _=>rfl) tp
def tt:SJ enc Tryz.prog W 22 fun l:List R9=>[V.l (l.map UF) false]:=Gh (sz:=3) Tryz.underlying22 (by kernel_rfl) (by decide) (b8 (by kernel_rfl)) (fun _=>rfl) AAY
def OG (f:Fact):(FN f).length=6:=by rw[Bn];rfl
def bC: ∀n,ng enc Tryz.prog W n 44 FN/\ng enc Tryz.prog W n 42 fun l:List Fact=>[V.l (facts l) false]
 | 0=>⟨Me,Me⟩
 | n + 1 =>by
   obtain⟨h1,h2⟩:=bC n;refine⟨?_,TD Tryz.underlying42 (by kernel_rfl) (by decide) (b8 (by kernel_rfl)) OG h1⟩
   exact GG (RN Tryz.underlying44
    (BH (c:=1) rfl (by kernel_rfl) (fun _=>rfl) (QM Tryz.underlying41 n) (BH (c:=1) rfl (by kernel_rfl) (fun _=>rfl) (Lv n)
     (BH (c:=1) rfl (by kernel_rfl) (fun _=>rfl) (V7 n) (BH (c:=1) rfl (by kernel_rfl) (fun _=>rfl) (Lv n)
      (BH (c:=1) rfl (by kernel_rfl) (fun _=>rfl) (Lv n) (BH (c:=1) rfl (by kernel_rfl) (fun _=>rfl) h2 GH)))))) (fun _=>(show _=6 from rfl).trans (by kernel_rfl)))
    (fun x=>Fact.mk x.1 x.2.1 x.2.2.1 x.2.2.2.1 x.2.2.2.2.1 x.2.2.2.2.2.1) fun x=>by rw[Bn];rfl
def ts:SJ enc Tryz.prog W 44 FN:=fun n=>(bC n).1
def tq:SJ enc Tryz.prog W 81 iV:=fun n=>
 GG (Er Tryz.underlying81
  (fun n=>BH (c:=1) rfl (by kernel_rfl) (fun _=>rfl) (QM Tryz.underlying79 n) (BH (c:=1) rfl (by kernel_rfl) (fun _=>rfl) (Lv n)
   (BH (c:=6) rfl (by kernel_rfl) OG (ts n) (BH (c:=1) rfl (by kernel_rfl) (fun _=>rfl) (Lv n) GH)))) (fun x=>(show _=9 from by simp only[SB,OG];rfl).trans (by kernel_rfl)) n) (fun x=>⟨x.1,x.2.1,x.2.2.1,x.2.2.2.1⟩) fun x=>by rw[Bn];rfl
def o7:SJ enc Tryz.prog W 24 fun l:List Na=>[V.l (l.map iV) false]:=Gh (sz:=9) Tryz.underlying24 (by kernel_rfl) (by decide) (b8 (by kernel_rfl)) (fun _=>rfl) tq
def tn : SJ enc Tryz.prog W 27 BR:=fun n=>
 GG (Er Tryz.underlying27
  (fun n=>BH (c:=1) rfl (by kernel_rfl) (fun _=>rfl) (tt n)
   (BH (c:=1) rfl (by kernel_rfl) (fun _=>rfl) (Lv n) (BH (c:=1) rfl (by kernel_rfl) (fun _=>rfl) (V7 n)
    (BH (c:=1) rfl (by kernel_rfl) (fun _=>rfl) (o7 n)
     (BH (c:=1) rfl (by kernel_rfl) (fun _=>rfl) (o6 n)
      (BH (c:=1) rfl (by kernel_rfl) (fun _=>rfl) (Lv n) GH)))))) (fun _=>(show _=6 from rfl).trans (by kernel_rfl)) n) (fun x=>⟨x.1,x.2.1,x.2.2.1,x.2.2.2.1,x.2.2.2.2.1,x.2.2.2.2.2.1⟩) fun _=>rfl
end
end Go.Gl
namespace Go.Gl
variable {P:Program} {Z Z':AE}
mutual
def FO:V->Prop
 | .i k n=>k.min<=n/\n<=k.max
 | .rp cs=>Ie cs
 | .l es _=>es.length<=Ae/\Vq es
 | .f _ a b=>Ie a/\Ie b
 | .FF _ v=>FO v
 | .a cs=>Ie cs
 | .t vs=>Ie vs
 | _=>True
def Ie:List V->Prop
 | []=>True
 | v::r=>FO v/\Ie r
def Vq:List (List V)->Prop
 | []=>True
 | e::r=>Ie e/\Vq r
end
mutual
def sP {H:Nat->Nat->Option Value}: ∀(v:V) (c:Value),Af H v c->FO v
 | .b _,_,_| .s _,_,_| .pn,_,_| .p _ _,_,_| .sl _ _ _,_,_| .sv _ _ _ _,_,_| .pe _ _ _ _,_,_| .m _,_,_| .mn,_,_| .Lx,_,_| .Dv,_,_| .any,_,_=>by simp only[FO]
 | .i k n,_,h=>by
   simp only[Af]at h;simp only[FO];exact h.2
 | .rp cs,_,h=>by
   simp only[Af]at h;obtain⟨b,o,rfl,h⟩:=h;simp only[FO];exact Jp cs o h
 | .l es full,_,h=>by
   simp only[Af]at h;obtain⟨a,cap,h1,h2,h3,h4,h5,h6⟩:=h;simp only[FO];refine⟨h4,?_⟩;cases es with
   | nil=>exact trivial
   | cons e es=>
     obtain⟨b,o,sz,h7,h8⟩:=h6 (by simp);exact ji (e::es) o h8
 | .f fn first cap,_,h=>by
   simp only[Af]at h;obtain⟨f',c',h1,h2,h3,h4,h5⟩:=h;simp only[FO];exact⟨Jp first 0 h3,Jp cap 0 h5⟩
 | .FF t v,_,h=>by
   simp only[Af]at h;obtain⟨c',h1,h2⟩:=h;simp only[FO];exact sP v c' h2
 | .a cs,_,h=>by
   simp only[Af]at h;obtain⟨c',h1,h2,h3⟩:=h;simp only[FO];exact Jp cs 0 h3
 | .t cs,_,h=>by
   simp only[Af]at h;obtain⟨c',h1,h2,h3⟩:=h;simp only[FO];exact Jp cs 0 h3
def Jp {H:Nat->Nat->Option Value} {g:Nat->Option Value}: ∀(vs:List V) (o:Nat),Ba H g o vs->Ie vs
 | [],_,_=>trivial
 | v::vs,o,h=>by
   simp only[Ba]at h;obtain⟨⟨c,h1,h2⟩,h3⟩:=h;exact⟨sP v c h2,Jp vs (o+1) h3⟩
def ji {H:Nat->Nat->Option Value} {g:Nat->Option Value} {sz:Nat}: ∀(es:List (List V)) (o:Nat),BJ H g sz o es->Vq es
 | [],_,_=>trivial
 | e::es,o,h=>by
   simp only[BJ]at h;obtain⟨h1,h2,h3⟩:=h;exact⟨Jp e o h2,ji es (o+sz) h3⟩
end
def Ar.fit {f:FuncId} {args:List V} {Q:R->AE->Prop} (hok:okF P f=true) (h:Ie args->Ar P f args Z Q):Ar P f args Z Q:=
 ⟨hok,fun F w cs hR hv=>(h (Jp args 0 hv.2)).2 F w cs hR hv⟩
def Pure.fit {f:FuncId} {args:List V} {v:V} (hok:okF P f=true) (h:Ie args->Pure P f args v):Pure P f args v:=Ar.fit hok h
def BS.fit {f:FuncId} {args:List V} {pre:List At} {Φ:R->List At->Prop} (hok:okF P f=true) (h:Ie args->BS P f args pre Φ):BS P f args pre Φ:=fun Z hs=>Ar.fit hok fun hf=>h hf Z hs
def mX {es:List (List V)}:Vq es↔ ∀e∈es,Ie e:=by
 induction es with
 | nil=>simp[Vq]
 | cons e r ih=>simp[Vq,ih]
def Jx {α:Type} {enc:α->List V} {xs:List α}:Vq (xs.map enc)↔ ∀x∈xs,Ie (enc x):=by
 rw[mX];simp
def E4 {es:List (List V)} {f:Bool}:FO (.l es f)↔es.length<=Ae/\Vq es:=Iff.rfl
def Jq {cs:List V}:FO (.a cs)↔Ie cs:=Iff.rfl
def U9 {cs:List V}:FO (.rp cs)↔Ie cs:=Iff.rfl
def Es {v:V} {r:List V}:Ie (v::r)↔FO v/\Ie r:=Iff.rfl
def drop_cons {α:Type} {xs:List α} {k:Nat} {x:α} (h:xs[k]? =some x):xs.drop k=x::xs.drop (k+1):=by
 obtain⟨hk,rfl⟩:=JT.1 h;exact List.drop_eq_getElem_cons hk
def Ao {α:Type} {xs:List α} {k:Nat} (h:k=xs.length):xs.drop k= []:=List.drop_of_length_le (by omega)
end Go.Gl
namespace Go.Gl
variable {P:Program} {Z:AE} {env:Env}
class Pv (G:Prop) (G':outParam Prop):Prop where
 h:G'->G
def st {G G':Prop} [i:Pv G G'] (h:G'):G:=i.h h
def sq {l:List Nat} {a b:AV} {Q:Ad->Env->AE->Prop} (h: ∀K:Env->AE->Prop,(∀env Z,(pk l env fun E=>W P b Q E Z)->K env Z)->W P a (Ad.andThen K Q) env Z):W P (.seq l a b) Q env Z:=F4 h
class Sti (G:Prop) (G':outParam Prop):Prop where
 h:G'->G
def si {G G':Prop} [i:Sti G G'] (h:G'):G:=i.h h
instance {ops:List Aq} {Q:Ad->Env->AE->Prop}:Sti (W P (.DH ops) Q env Z) (∀(KR:Env->AE->Prop) (KP:Env->V->AE->Prop),(∀env Z,Q .normal env Z->KR env Z)->(∀env v Z,Q (.Bh v) env Z->KP env v Z)->WT P ops KR KP env Z):=⟨DS⟩
instance {l:List Nat} {ops:List Cq} {Q:Ad->Env->AE->Prop}:Sti (W P (.HT l ops) Q env Z) (∀(KR:Env->AE->Prop) (KP:V->AE->Prop),(∀env Z,(pk l env fun E=>Q .normal E Z)->KR env Z)->(∀v Z,(∀Z',Sub Z Z'->Q (.Bh v) [] Z')->KP v Z)->WD P ops KR KP env Z):=⟨cZ⟩
instance {c:Bo} {a b:AV} {Q:Ad->Env->AE->Prop}:Pv (W P (.cond c a b) Q env Z) (match ev env c with
 | some (.b t)=>(t=true->W P a Q env Z)/\(t=false->W P b Q env Z)
 | _=>False):=⟨Ir⟩
instance {id:Nat} {a:AV} {Q:Ad->Env->AE->Prop}:Pv (W P (.block id a) Q env Z) (W P a (Ad.inBlock id Q) env Z):=⟨IL⟩
instance {l:List Nat} {a:AV} {Q:Ad->Env->AE->Prop}:Pv (W P (.loop l a) Q env Z) (pk l env fun E=>Aa l a (W P a) Q E Z):=⟨Po⟩
instance {id:Nat} {Q:Ad->Env->AE->Prop}:Pv (W P (.exit id) Q env Z) (Q (.exit id) env Z):=⟨Pp⟩
instance {Q:Ad->Env->AE->Prop}:Pv (W P .ret Q env Z) (Q .ret env Z):=⟨kq⟩
instance {Q:Ad->Env->AE->Prop}:Pv (W P .skip Q env Z) (Q .normal env Z):=⟨KH⟩
instance {a:AV} {Q:Ad->Env->AE->Prop}:Pv (W P (.scope a) Q env Z) (W P a Q env Z):=⟨nM⟩
instance {l:List Nat} {g:Bo} {ps:List Nat} {a b:AV} {Q:Ad->Env->AE->Prop}:Pv (W P (.D0 l g ps a b) Q env Z) (match ev env g with
 | some (.f (.func gf) [] cap)=>pk l env fun E=> ∀L,Z L=none->Ar P gf (.f (.yield L) [] []::cap) (B5 Z L (.loop .ready E (Bk P ps a b))) (LP L Q env)
 | _=>False):=⟨nP⟩
instance {A B:Prop}:Pv ((true=true->A)/\(true=false->B)) A:=⟨kL⟩
instance {A B:Prop}:Pv ((false=true->A)/\(false=false->B)) B:=⟨kN⟩
instance {A B:Prop}:Pv ((false=false->A)/\(false=true->B)) A:=⟨rQ⟩
instance {A B:Prop}:Pv ((true=false->A)/\(true=true->B)) B:=⟨rP⟩
instance {A B:Prop} {b:Bool}:Pv ((b=true->A)/\(b= !true->B)) ((b=true->A)/\(b=false->B)):=⟨id⟩
instance {A B:Prop} {b:Bool}:Pv ((b=false->A)/\(b= !false->B)) ((b=false->A)/\(b=true->B)):=⟨id⟩
instance {agg:Option Nat} {cs:List V} {K:V->Prop}:Pv (AT Z agg (.rp cs) K) (cut agg cs 0 K):=⟨fun h=>h⟩
instance {es:List (List V)} {f:Bool} {K:V->Prop}:Pv (As (.l es f) K) (K (.i .i64 es.length)):=⟨WB⟩
def kc {K A:Env->AE->Prop} (h:A env Z) (hk: ∀env Z,A env Z->K env Z:=by assumption):K env Z:=hk _ _ h
def kp {K A:Env->V->AE->Prop} {v:V} (h:A env v Z) (hk: ∀env v Z,A env v Z->K env v Z:=by assumption):K env v Z:=hk _ _ _ h
def rk {x:Aq} {r:List Aq} {A:Prop} (h1:H9 P x env Z) (h2:ER P r env Z/\A):ER P (x::r) env Z/\A:=⟨⟨h1,h2.1⟩,h2.2⟩
def dr {A:Prop} (h:A):ER P [] env Z/\A:=⟨trivial,h⟩
class BP (b v:Bool) (p:outParam Prop):Prop where
 h:b=v->p
def bp {b v:Bool} {p:Prop} [i:BP b v p] (h:b=v):p:=i.h h
instance (priority:=low) {b v:Bool}:BP b v (b=v):=⟨id⟩
instance (priority:=mid) {p:Prop} [Decidable p]:BP (decide p) true p:=⟨of_decide_eq_true⟩
instance (priority:=mid) {p:Prop} [Decidable p]:BP (decide p) false (¬p):=⟨of_decide_eq_false⟩
instance {a b:Int}:BP (decide (a<b)) false (b<=a):=⟨fun h=>Int.not_lt.1 (of_decide_eq_false h)⟩
instance {a b:Int}:BP (decide (a<=b)) false (b<a):=⟨fun h=>Int.not_le.1 (of_decide_eq_false h)⟩
instance {a b:Int}:BP (a==b) true (a=b):=⟨fun h=>by simpa using h⟩
instance {a b:Int}:BP (a==b) false (a≠b):=⟨fun h=>by simpa using h⟩
instance {a b:Int}:BP (a != b) true (a≠b):=⟨fun h=>by simpa using h⟩
instance {a b:Int}:BP (a != b) false (a=b):=⟨fun h=>by simpa using h⟩
instance {b:Bool} {p:Prop} [i:BP b false p]:BP (!b) true p:=⟨fun h=>i.h (by simpa using h)⟩
instance {b:Bool} {p:Prop} [i:BP b true p]:BP (!b) false p:=⟨fun h=>i.h (by simpa using h)⟩
instance {b x v:Bool} {p:Prop} [i:BP b v p]:BP (bif false then x else b) v p:=⟨i.h⟩
instance {b x v:Bool} {p:Prop} [i:BP b v p]:BP (bif true then b else x) v p:=⟨i.h⟩
def fc {α:Type} {enc:α->List V} {xs:List α} {k:Nat} {A B:Prop} (h1: ∀x,xs[k]? =some x->k<xs.length->decide (BL k<((xs.map enc).length:Nat))=true->A) (h2:k=xs.length->decide (BL k<((xs.map enc).length:Nat))=false->B) (hk:k<=xs.length:=by assumption) (hm:xs.length<=Ae:=by first|assumption|omega|simp[Ae]<;>omega) :
    (decide (BL k<((xs.map enc).length:Nat))=true->A)/\(decide (BL k<((xs.map enc).length:Nat))=false->B):=
 ⟨fun h=>(Gf (enc:=enc) (A:=A) (B:=True) hk hm (fun x hx hlt=>h1 x hx hlt h) fun _=>trivial).1 h,fun h=>(Gf (enc:=enc) (A:=True) (B:=B) hk hm (fun _ _ _=>trivial) fun he=>h2 he h).2 h⟩
def ix {α:Type} {enc:α->List V} {xs:List α} {f:Bool} {sz:Nat} {K:V->Prop} {ki:IntKind} {k:Nat} {x:α} (h:K (.rp (enc x))) (hx:xs[k]? =some x:=by assumption) (hm:xs.length<=Ae:=by first|assumption|omega|simp[Ae]<;>omega) (hs:(enc x).length=sz:=by first|rfl|simp) :
    AQ sz none (.l (xs.map enc) f) (.i ki (BL k)) K:=Jd hx hm hs h
def iq {α:Type} {enc:α->List V} {xs:List α} {f:Bool} {sz:Nat} {K:V->Prop} {ki:IntKind} {j:Int} (h: ∀x,xs[j.toNat]? =some x->K (.rp (enc x))) (h0:0<=j:=by omega) (h1:j<xs.length:=by omega) (hs: ∀x,(enc x).length=sz:=by intro x;first|rfl|simp|(rw[Bn];rfl)) :
    AQ sz none (.l (xs.map enc) f) (.i ki j) K:=by
 have hlt:j.toNat<xs.length:=by omega
 exact Vw j.toNat (DC hlt) (by omega) (hs _) (h _ (DC hlt))
def sk1 {α:Type} {enc:α->List V} {xs:List α} {f:Bool} {sz:Nat} {ki:IntKind} {k:Nat} {K:V->AE->Prop} (h:K (.l ((xs.take k).map enc) (f&&decide ((k:Int)=((xs.map enc).length:Nat)))) Z) (hl:k<=xs.length:=by first|assumption|omega) (hm:xs.length<=Ae:=by first|assumption|omega) (hs: ∀x,(enc x).length=sz:=by intro x;first|rfl|simp|(rw[Bn];rfl)) :
    AP Z sz (.l (xs.map enc) f) none (some (.i ki (BL k))) none K:=by
 rw[Ag (by omega)];refine⟨fun e he=>?_,?_⟩
 .obtain⟨x,_,rfl⟩:=Hp.1 he
  exact hs x
 .simp only[O7,Ca]
  refine⟨by omega,by omega,by omega,?_⟩;rw[HP];simpa[List.map_take]using h
def ixF {xs:List Fact} {f:Bool} {K:V->Prop} {ki:IntKind} {k:Nat} {x:Fact} (h:K (.rp (xF x))) (hx:xs[k]? =some x:=by assumption) (hm:xs.length<=Ae:=by first|assumption|omega):AQ 6 none (.l (xs.map FN) f) (.i ki (BL k)) K:=by
 refine Jd hx hm (by rw[Bn];rfl) ?_;rw[Bn];exact h
def SI {a0:At} {l:List At}:(a0::l)[0]? =some a0:=rfl
def SH {a0 a1:At} {l:List At}:(a0::a1::l)[1]? =some a1:=rfl
def SG {a0 a1 a2:At} {l:List At}:(a0::a1::a2::l)[2]? =some a2:=rfl
def SF {a0 a1 a2 a3:At} {l:List At}:(a0::a1::a2::a3::l)[3]? =some a3:=rfl
def SE {a0 a1 a2 a3 a4:At} {l:List At}:(a0::a1::a2::a3::a4::l)[4]? =some a4:=rfl
def SD {a0 a1 a2 a3 a4 a5:At} {l:List At}:(a0::a1::a2::a3::a4::a5::l)[5]? =some a5:=rfl
def ld {l:List At} {i n off:Nat} {agg:Option Nat} {vs:List V} {K:V->Prop} (hk:cut agg vs off K) (h:Sat Z l:=by assumption)
    (hi:l[i]? =some (.box n vs):=by first|exact SI|exact SH|exact SG|exact SF|exact SE|exact SD):AT Z agg (.p n off) K:=WE h i hi hk
def s1 {l:List At} {i n off:Nat} {vs:List V} {x:V} {K:AE->Prop} (hk: ∀Z',Sat Z' (l.set i (.box n (vs.set off x)))->K Z') (h:Sat Z l:=by assumption)
    (hi:l[i]? =some (.box n vs):=by first|exact SI|exact SH|exact SG|exact SF|exact SE|exact SD)
    (h1:CN x=true:=by first|rfl|exact Ic (by assumption) 0 rfl|exact Ic (by assumption) 1 rfl|exact Ic (by assumption) 2 rfl|exact Ic (by assumption) 3 rfl|simp) (ho:off+1<=vs.length:=by exact Nat.le_of_ble_eq_true rfl):AR Z 1 (.p n off) x K:=
 MJ h i hi h1 ho hk
def sn {l:List At} {i n off sz:Nat} {vs vc:List V} {x:V} {K:AE->Prop} (hk: ∀Z',Sat Z' (l.set i (.box n (putAt vs off vc)))->K Z') (h:Sat Z l:=by assumption)
    (hi:l[i]? =some (.box n vs):=by first|exact SI|exact SH|exact SG|exact SF|exact SE|exact SD)
    (hc:cellsOf x=some vc:=by rfl) (hl:vc.length=sz:=by rfl) (h1:vc.all CN=true:=by first|rfl|simp) (ho:off+sz<=vs.length:=by exact Nat.le_of_ble_eq_true rfl):AR Z sz (.p n off) x K:=
 Jo h i hi hc hl h1 ho hk
def QR:E0 (fun f:Fact=>FN f) 6:=fun f=>by
 simp only[Bn];refine⟨rfl,fun v hv=>?_⟩;simp only[Fl,List.not_mem_nil,or_false]at hv;rcases hv with rfl|rfl|rfl|rfl|rfl|rfl<;>rfl
def Pd:E0 (fun l:List Fact=>[V.l (facts l) false]) 1:=fun x=>⟨rfl,fun v hv=>by simp at hv;subst hv;rfl⟩
def af {α:Type} {enc:α->List V} {sz:Nat} {ys:List α} {g:Bool} {K:V->Prop} (hk:K (.l (ys.map enc) false)) (hg:E0 enc sz:=by first|exact C0|exact DP|exact Pc|exact QR|exact Pd) {b:Nat} (hl:ys.length<=Ae/\ys.length*b<=140737488355328:=by first|assumption|omega) :
    AX b Z sz (.l [] true) (.l (ys.map enc) g) K:=je hg hl hk
def al {l:List At} {o:O} {n:Nat} {K:Prop} {Z':AE} (e:B5 Z n o=Z') (hk:Sat Z' (l++[.obj n o])->K) (hn:Z n=none:=by assumption) (h:Sat Z l:=by assumption):K:=hk (e ▸ gx h hn)
def oi {l:List At} {i:Nat} {v:V} {sz:Nat} {es:List (List V)} {ki:IntKind} {j:Int} {K:V->Prop} (hk:K (FM v sz j.toNat)) (h:Sat Z l:=by assumption)
    (hi:l[i]? =some (.own v sz es):=by first|exact SI|exact SH|exact SG|exact SF|exact SE|exact SD) (h0:0<=j:=by omega) (h1:j<es.length:=by first|omega|(simp only[Ca]at *;omega)):AQ sz none v (.i ki j) K:=
 gX h i j.toNat hi (by omega) (by omega) hk
def oc {l:List At} {i:Nat} {v:V} {sz k:Nat} {es:List (List V)} {ki:IntKind} {K:V->Prop} (hk:K (FM v sz k)) (h:Sat Z l:=by assumption)
    (hi:l[i]? =some (.own v sz es):=by first|exact SI|exact SH|exact SG|exact SF|exact SE|exact SD) (h1:k<es.length:=by first|omega|(simp only[Ca]at *;omega)) (hm:k<=Ae:=by first|omega|(simp only[Ae];omega)):AQ sz none v (.i ki (BL k)) K:=
 gX h i k hi (Ag (by omega)) h1 hk
def ol {α:Type} {enc:α->List V} {xs:List α} {l:List At} {i:Nat} {v:V} {sz k:Nat} {agg:Option Nat} {K:V->Prop} (hk: ∀x,xs[k]? =some x->cut agg (enc x) 0 K) (h:Sat Z l:=by assumption)
    (hi:l[i]? =some (.own v sz (xs.map enc)):=by first|exact SI|exact SH|exact SG|exact SF|exact SE|exact SD) (h1:k<xs.length:=by first|omega|(simp only[Ca]at *;omega)):AT Z agg (FM v sz k) K:=
 Ip h i hi (by rw[OR,DC h1];rfl) (hk _ (DC h1))
def oset {α:Type} {enc:α->List V} {xs:List α} {y:α} {l:List At} {i:Nat} {v x:V} {sz k:Nat} {vc:List V} {K:AE->Prop} (hk: ∀Z',Sat Z' (l.set i (.own v sz ((xs.set k y).map enc)))->K Z') (h:Sat Z l:=by assumption)
    (hi:l[i]? =some (.own v sz (xs.map enc)):=by first|exact SI|exact SH|exact SG|exact SF|exact SE|exact SD) (hc:cellsOf x=some vc:=by rfl) (he:vc=enc y:=by rfl) (hg:E0 enc sz:=by first|exact C0|exact DP|exact Pc|exact QR|exact Pd)
    (hv:(Ce v).isSome=true:=by assumption) (h1:k<xs.length:=by first|omega|(simp only[Ca]at *;omega)):AR Z sz (FM v sz k) x K:=by
 subst he;refine Mp h i hi (by rw[OR,DC h1];rfl) hc (hg y).1 (DJ.2 fun v hv=>(hg y).2 v hv) (hg _).1 hv fun Z' hs=>hk Z' ?_
 rw[List.map_set];exact hs
def Iz {b sz:Nat} {v:V} {e:List V} {f:Bool} {K:V->AE->Prop} (h:AL b Z sz v (.l [e] f) fun v' Z'=>(Ce v').isSome=true->K v' Z'):AL b Z sz v (.l [e] f) K:=by
 obtain⟨h1,h2,h3⟩:=h;refine⟨h1,h2,?_⟩;cases v with
 | l es full=>exact⟨h3.1,h3.2.1,fun e=>(by cases e),fun e=>⟨(h3.2.2.2 e).1,fun n cap hn hc=>(h3.2.2.2 e).2 n cap hn hc rfl⟩⟩
 | sl n len cap=>
   simp only at h3 ⊢;split at h3
   .exact⟨h3.1,h3.2.1,h3.2.2.1,h3.2.2.2.1,fun n' cap' hn hc=>h3.2.2.2.2 n' cap' hn hc rfl⟩
   .exact h3.elim
 | _=>exact h3.elim
def aq {l:List At} {i:Nat} {α:Type} {enc:α->List V} {sz:Nat} {xs:List α} {x:α} {v:V} {f:Bool} {e:List V} {K:V->AE->Prop} (hk: ∀v' Z',Sat Z' (l.set i (.own v' sz ((xs++[x]).map enc)))->(Ce v').isSome=true->K v' Z') (h:Sat Z l:=by assumption)
    (hi:l[i]? =some (.own v sz (xs.map enc)):=by first|exact SI|exact SH|exact SG|exact SF|exact SE|exact SD)
    (he:e=enc x:=by rfl) (hg:E0 enc sz:=by first|exact C0|exact DP|exact Pc|exact QR|exact Pd)
    {b:Nat} (hl:xs.length<Ae/\(xs.length+1)*b<=140737488355328:=by first|assumption|omega|(simp only[SB,Ca,Lr,List.length_nil,Lq,List.length_drop,List.length_replicate,Ae]at *;omega)):AL b Z sz v (.l [e] f) K:=
 Iz (GY h i hi hl hg hk he)
end Go.Gl
namespace Go.Gl
variable {P:Program} {Z:AE} {env:Env}
def iqF {xs:List Fact} {f:Bool} {K:V->Prop} {ki:IntKind} {j:Int} (h: ∀x,xs[j.toNat]? =some x->K (.rp (xF x))) (h0:0<=j:=by omega) (h1:j<xs.length:=by omega):AQ 6 none (.l (xs.map FN) f) (.i ki j) K:=by
 refine iq (fun x hx=>?_) h0 h1 (by intro x;rw[Bn];rfl);rw[Bn];exact h x hx
def lo {l:List At} {i:Nat} {v:V} {sz:Nat} {es:List (List V)} {K:V->Prop} (hk:K (.i .i64 es.length)) (h:Sat Z l:=by assumption)
    (hi:l[i]? =some (.own v sz es):=by first|exact SI|exact SH|exact SG|exact SF|exact SE|exact SD) (hm:es.length<=Ae:=by first|omega|(simp only[Ca,List.length_replicate,List.length_set,Ae]at *;omega)):As v K:=AAE h i hi hm hk
def slq {α:Type} {enc:α->List V} {xs:List α} {f:Bool} {sz:Nat} {ki:IntKind} {j:Int} {K:V->AE->Prop} (h:K (.l ((xs.take j.toNat).map enc) (f&&decide (j=((xs.map enc).length:Nat)))) Z) (h0:0<=j:=by omega) (h1:j<=xs.length:=by first|omega|(simp only[Ca]at *;omega)) (hs: ∀x,(enc x).length=sz:=by intro x;first|rfl|simp|(rw[Bn];rfl)) :
    AP Z sz (.l (xs.map enc) f) none (some (.i ki j)) none K:=by
 refine⟨fun e he=>?_,?_⟩
 .obtain⟨x,_,rfl⟩:=Hp.1 he
  exact hs x
 .simp only[O7,Ca]
  refine⟨by omega,by omega,by omega,?_⟩;simpa[List.map_take]using h
def Sat.take {l:List At} (h:Sat Z l) (n:Nat):Sat Z (l.take n):=h.less (List.take_sublist _ _)
def MK {b:Bool} {Z Z':AE}:GD Z Z' (.l [] b) (.l [] false):= .l (fun h=>by cases h) .nil
def iT {b:Bool} {Z Z':AE} {es:List (List V)}:GD Z Z' (.l es b) (.l es false):= .l (fun h=>by cases h) (Fm.refl _ _ _)
mutual
def T1 {Z Z':AE}: ∀vs:List V,DQ Z Z' vs vs
 | []=> .nil
 | v::r=> .cons (.refl v) (T1 r)
end
def Ki {Z Z':AE}: ∀es:List (List V),Fm Z Z' es es
 | []=> .nil
 | e::r=> .cons (T1 e) (Ki r)
def os2 {α:Type} {enc:α->List V} {xs:List α} {y:α} {l:List At} {i:Nat} {v x:V} {sz k:Nat} {vc:List V} {K:AE->Prop} (hk: ∀Z',Sat Z' (l.set i (.own v sz ((xs.set k y).map enc)))->K Z') (h:Sat Z l:=by assumption)
    (hi:l[i]? =some (.own v sz (xs.map enc)):=by first|exact SI|exact SH|exact SG|exact SF|exact SE|exact SD) (hc:cellsOf x=some vc:=by rfl) (he:vc=enc y:=by rfl) (hg:E0 enc sz:=by first|exact C0|exact DP|exact Pc|exact QR|exact Pd)
    (hv:(Ce v).isSome=true:=by rfl) (h1:k<xs.length:=by first|omega|(simp only[Ca]at *;omega)):AR Z sz (FM v sz k) x K:=oset hk h hi hc he hg hv h1
def BF {α:Type} (xs:List α) {k:Nat} (hk:k<=xs.length):(∃x,xs[k]? =some x/\k<xs.length)\/k=xs.length:=by
 rcases Nat.lt_or_ge k xs.length with h|h
 .exact .inl ⟨_,DC h,h⟩
 .exact .inr (by omega)
def fck {α:Type} {enc:α->List V} {xs:List α} {k:Nat} {x:α} {A B:Prop} (h1:decide (BL k<((xs.map enc).length:Nat))=true->A) (hx:xs[k]? =some x:=by assumption) (hm:xs.length<=Ae:=by first|assumption|omega|simp[Ae]<;>omega) :
    (decide (BL k<((xs.map enc).length:Nat))=true->A)/\(decide (BL k<((xs.map enc).length:Nat))=false->B):=by
 refine⟨h1,fun h=>?_⟩;have hlt:=(JT.1 hx).1;rw[Ag (by omega),Ca]at h;have:=of_decide_eq_false h;omega
def fcn {α:Type} {enc:α->List V} {xs:List α} {k:Nat} {A B:Prop} (h1:decide (BL k<((xs.map enc).length:Nat))=false->B) (hx:k=xs.length:=by assumption) (hm:xs.length<=Ae:=by first|assumption|omega|simp[Ae]<;>omega) :
    (decide (BL k<((xs.map enc).length:Nat))=true->A)/\(decide (BL k<((xs.map enc).length:Nat))=false->B):=by
 refine⟨fun h=>?_,h1⟩;rw[Ag (by omega),Ca]at h;have:=of_decide_eq_true h;omega
def iqk {α:Type} {enc:α->List V} {xs:List α} {f:Bool} {sz:Nat} {K:V->Prop} {ki:IntKind} {j:Int} {x:α} (h:K (.rp (enc x))) (hx:xs[j.toNat]? =some x:=by assumption) (h0:0<=j:=by omega) (hs:(enc x).length=sz:=by first|rfl|simp|(rw[Bn];rfl)) :
    AQ sz none (.l (xs.map enc) f) (.i ki j) K:=Vw j.toNat hx (by omega) hs h
def AAA {xs:List Fact} {f:Bool} {K:V->Prop} {ki:IntKind} {j:Int} {x:Fact} (h:K (.rp (xF x))) (hx:xs[j.toNat]? =some x:=by assumption) (h0:0<=j:=by omega):AQ 6 none (.l (xs.map FN) f) (.i ki j) K:=by
 refine iqk ?_ hx h0;rw[Bn];exact h
class CB (b:Bool) (v:outParam Bool):Prop where
 h:b=v
instance :CB true true:=⟨rfl⟩
instance :CB false false:=⟨rfl⟩
instance {b:Bool} [i:CB b true]:CB (!b) false:=⟨by rw[i.h];rfl⟩
instance {b:Bool} [i:CB b false]:CB (!b) true:=⟨by rw[i.h];rfl⟩
instance {b x y v:Bool} [i:CB b true] [j:CB x v]:CB (bif b then x else y) v:=⟨by rw[i.h,j.h];rfl⟩
instance {b x y v:Bool} [i:CB b false] [j:CB y v]:CB (bif b then x else y) v:=⟨by rw[i.h,j.h];rfl⟩
instance {a b:Bool} [i:CB a true] [j:CB b true]:CB (a==b) true:=⟨by rw[i.h,j.h];rfl⟩
instance {a b:Bool} [i:CB a true] [j:CB b false]:CB (a==b) false:=⟨by rw[i.h,j.h];rfl⟩
instance {a b:Bool} [i:CB a false] [j:CB b true]:CB (a==b) false:=⟨by rw[i.h,j.h];rfl⟩
instance {a b:Bool} [i:CB a false] [j:CB b false]:CB (a==b) true:=⟨by rw[i.h,j.h];rfl⟩
instance {a b:Bool} [i:CB a true] [j:CB b true]:CB (a != b) false:=⟨by rw[i.h,j.h];rfl⟩
instance {a b:Bool} [i:CB a true] [j:CB b false]:CB (a != b) true:=⟨by rw[i.h,j.h];rfl⟩
instance {a b:Bool} [i:CB a false] [j:CB b true]:CB (a != b) true:=⟨by rw[i.h,j.h];rfl⟩
instance {a b:Bool} [i:CB a false] [j:CB b false]:CB (a != b) false:=⟨by rw[i.h,j.h];rfl⟩
def cft {A B:Prop} {b:Bool} [i:CB b true] (h:A):(b=true->A)/\(b=false->B):=⟨fun _=>h,fun e=>(by rw[i.h]at e;cases e)⟩
def cff {A B:Prop} {b:Bool} [i:CB b false] (h:B):(b=true->A)/\(b=false->B):=⟨fun e=>(by rw[i.h]at e;cases e),fun _=>h⟩
def AAJ {A B:Prop} {b:Bool} [i:CB b true] (h:B):(b=false->A)/\(b=true->B):=⟨fun e=>(by rw[i.h]at e;cases e),fun _=>h⟩
def AAK {A B:Prop} {b:Bool} [i:CB b false] (h:A):(b=false->A)/\(b=true->B):=⟨fun _=>h,fun e=>(by rw[i.h]at e;cases e)⟩
def oi2 {l:List At} {i:Nat} {v:V} {sz:Nat} {es:List (List V)} {ki:IntKind} {j:Int} {K:V->Prop} (hk:K (FM v sz j.toNat)) (h:Sat Z l:=by assumption)
    (hi:l[i]? =some (.own v sz es):=by first|exact SI|exact SH|exact SG|exact SF|exact SE|exact SD) (h0:0<=j:=by omega) (h1:j<es.length:=by(simp only[Ca,List.length_set];omega)):AQ sz none v (.i ki j) K:=
 gX h i j.toNat hi (by omega) (by omega) hk
def oc2 {l:List At} {i:Nat} {v:V} {sz k:Nat} {es:List (List V)} {ki:IntKind} {K:V->Prop} (hk:K (FM v sz k)) (h:Sat Z l:=by assumption)
    (hi:l[i]? =some (.own v sz es):=by first|exact SI|exact SH|exact SG|exact SF|exact SE|exact SD) (h1:k<es.length:=by(simp only[Ca,List.length_set];omega)) (hm:k<=Ae:=by first|omega|(simp only[Ae];omega)):AQ sz none v (.i ki (BL k)) K:=
 gX h i k hi (Ag (by omega)) h1 hk
def olk {α:Type} {enc:α->List V} {xs:List α} {x:α} {l:List At} {i:Nat} {v:V} {sz k:Nat} {agg:Option Nat} {K:V->Prop} (hk:cut agg (enc x) 0 K) (h:Sat Z l:=by assumption)
    (hi:l[i]? =some (.own v sz (xs.map enc)):=by first|exact SI|exact SH|exact SG|exact SF|exact SE|exact SD) (hx:xs[k]? =some x:=by assumption):AT Z agg (FM v sz k) K:=
 Ip h i hi (by rw[OR,hx];rfl) hk
def z6 {xs:List Fact} {x:Fact} {l:List At} {i:Nat} {v:V} {k:Nat} {agg:Option Nat} {K:V->Prop} (hk:cut agg (xF x) 0 K) (h:Sat Z l:=by assumption)
    (hi:l[i]? =some (.own v 6 (facts xs)):=by first|exact SI|exact SH|exact SG|exact SF|exact SE|exact SD) (hx:xs[k]? =some x:=by assumption):AT Z agg (FM v 6 k) K:=
 Ip h i hi (by rw[OR,hx];exact congrArg some (Bn x)) hk
def ol2 {α:Type} {enc:α->List V} {xs:List α} {l:List At} {i:Nat} {v:V} {sz k:Nat} {agg:Option Nat} {K:V->Prop} (hk: ∀x,xs[k]? =some x->cut agg (enc x) 0 K) (h:Sat Z l:=by assumption)
    (hi:l[i]? =some (.own v sz (xs.map enc)):=by first|exact SI|exact SH|exact SG|exact SF|exact SE|exact SD) (h1:k<xs.length:=by(simp only[Ca,List.length_set];omega)):AT Z agg (FM v sz k) K:=ol hk h hi h1
def AAU {v:V} (h:(Ce v).isSome=true): ∃n l c,v= .sl n l c:=by
 cases v<;>first|(cases h;done)|exact⟨_,_,_,rfl⟩
end Go.Gl
namespace Go.Gl
variable {P:Program} {Z:AE}
abbrev eU (n:Nat):V:= .i .u64 (n:Int)
def IB {n:Nat} (h:n<18446744073709551616):IntKind.u64.wrap (n:Int)=n:=by
 simp only[IntKind.wrap,IntKind.signed,IntKind.bits];simp;omega
def HG {a b:Nat} (ha:a<18446744073709551616) (hb:b<18446744073709551616):bits .or .u64 (a:Int) (b:Int)=((a|||b:Nat):Int):=by
 have h:a|||b<2 ^ 64:=Nat.or_lt_two_pow (n:=64) (by simpa using ha) (by simpa using hb)
 simp only[bits,IntKind.bits]
 have e1:(BitVec.ofInt 64 (a:Int)|||BitVec.ofInt 64 (b:Int)).toNat=a|||b:=by
  simp only[BitVec.ofInt_natCast,BitVec.toNat_or,BitVec.toNat_ofNat];rw[Nat.mod_eq_of_lt (by simpa using ha),Nat.mod_eq_of_lt (by simpa using hb)]
 have e2:=IB (n:=a|||b) (by simpa using h);rw[<-e1]at e2;rw[<-e1];exact e2
def Fw {a b:Nat} (ha:a<18446744073709551616) (hb:b<18446744073709551616):bits .and .u64 (a:Int) (b:Int)=((a&&&b:Nat):Int):=by
 have h:a&&&b<2 ^ 64:=Nat.and_lt_two_pow (n:=64) a (by simpa using hb);simp only[bits,IntKind.bits]
 have e1:(BitVec.ofInt 64 (a:Int)&&&BitVec.ofInt 64 (b:Int)).toNat=a&&&b:=by
  simp only[BitVec.ofInt_natCast,BitVec.toNat_and,BitVec.toNat_ofNat];rw[Nat.mod_eq_of_lt (by simpa using ha),Nat.mod_eq_of_lt (by simpa using hb)]
 have e2:=IB (n:=a&&&b) (by simpa using h);rw[<-e1]at e2;rw[<-e1];exact e2
def L0 (a b:Nat):Nat:=(BitVec.ofNat 64 a&&& ~~~BitVec.ofNat 64 b).toNat
def VF (a b:Nat):L0 a b<18446744073709551616:=by
 have:=(BitVec.ofNat 64 a&&& ~~~BitVec.ofNat 64 b).isLt;simpa[L0]using this
def IY {a b:Nat}:bits .andNot .u64 (a:Int) (b:Int)=((L0 a b:Nat):Int):=by
 simp only[bits,IntKind.bits]
 have e1:(BitVec.ofInt 64 (a:Int)&&& ~~~BitVec.ofInt 64 (b:Int)).toNat=L0 a b:=by
  simp only[BitVec.ofInt_natCast,L0]
 have e2:=IB (n:=L0 a b) (VF a b);rw[<-e1]at e2;rw[<-e1];exact e2
def Q5 {a b i:Nat} (hi:i<64):(L0 a b).testBit i=(a.testBit i&& !b.testBit i):=by
 rw[L0,BitVec.testBit_toNat,BitVec.getLsbD_and,BitVec.getLsbD_not];rw[BitVec.getLsbD_ofNat,BitVec.getLsbD_ofNat];simp only[hi,decide_true,Cm]
def Uq {c:Nat} (h:c<64):IntKind.u64.wrap (1*2 ^ (min c IntKind.u64.bits))=((2 ^ c:Nat):Int):=by
 have hb:IntKind.u64.bits=64:=rfl;rw[hb,Nat.min_eq_left (by omega),Int.one_mul];have:=IB (n:=2 ^ c) (by have:=Nat.pow_lt_pow_right (show 1<2 by omega) h;simpa using this);rw[<-this];simp
def Gc {c:Nat} (h:c<64):2 ^ c<18446744073709551616:=by
 have:=Nat.pow_lt_pow_right (show 1<2 by omega) h;simpa using this
def Up {a c:Nat} (h:c<64):(a:Int).fdiv (2 ^ (min c IntKind.u64.bits))=((a >>> c:Nat):Int):=by
 have hb:IntKind.u64.bits=64:=rfl;rw[hb,Nat.min_eq_left (by omega),Nat.shiftRight_eq_div_pow,Int.fdiv_eq_ediv_of_nonneg _ (Int.pow_nonneg (by omega))];simp
def DV {v:V} {Q:R->AE->Prop} (h:Q (.Bh v) Z):AZ Z v Q:=⟨v,Z,fun _ _ h=>h,.refl v,h⟩
def BA {g:FuncId} {fi ca args:List V} {Q:R->AE->Prop} (h:Ar P g (fi++args++ca) Z Q):Am P (.f (.func g) fi ca) args Z Q:=h
def Pure.of {f:FuncId} {args:List V} {v:V} (h:Ar P f args emp fun r _=>r= .ret v):Pure P f args v:=by
 refine⟨h.1,fun F w cs hR hv=>Calls.mono (h.2 F w cs hR hv) fun e w' ⟨r,Z',hr,h1,h2,h3⟩=>?_⟩;subst hr;obtain⟨c,rfl,hv'⟩:=h1;have hsub:Sub emp Z':=fun n o ho=>by cases ho
 exact⟨.ret v,emp,⟨rfl,rfl⟩,⟨c,rfl,GD.rel h2 hsub (.refl v) hv'⟩,h2.drop hsub,⟨h3.frame,h3.size,h3.os,h3.tape,h3.output,fun _ _ _=>rfl⟩⟩
def DL {α S:Type} (P:Program) (x:V) (ea:α->V) (H:S->List At) (stp:α->S->Bool×S) (D:α->S->Prop):Prop:=
 ∀y s,D y s-> ∀Z,Sat Z (H s)->Am P x [ea y] Z fun r Z'=>r= .ret (.b (stp y s).1)/\Sat Z' (H (stp y s).2)
def DL.use {α S:Type} {x:V} {ea:α->V} {H:S->List At} {stp:α->S->Bool×S} {D:α->S->Prop} (h:DL P x ea H stp D) {y:α} {s:S} (hd:D y s) (hs:Sat Z (H s)) {k kp:V->AE->Prop} (hk: ∀Z',Sat Z' (H (stp y s).2)->k (.b (stp y s).1) Z'):Am P x [ea y] Z (qk k kp):=
 (h y s hd Z hs).mono fun r Z' ⟨e,h'⟩=>by rw[e];exact hk Z' h'
def DL.useF {α S:Type} {g:FuncId} {fi ca:List V} {ea:α->V} {H:S->List At} {stp:α->S->Bool×S} {D:α->S->Prop} (h:DL P (.f (.func g) fi ca) ea H stp D) {y:α} {s:S} (hd:D y s) {rest:List At} (hs:Sat Z (H s++rest)) {k kp:V->AE->Prop} (hk: ∀Z',Sat Z' (H (stp y s).2++rest)->k (.b (stp y s).1) Z'):Am P (.f (.func g) fi ca) [ea y] Z (qk k kp):=by
 refine BA ?_;have h1:BS P g (fi++[ea y]++ca) (H s) fun r post=>r= .ret (.b (stp y s).1)/\post=H (stp y s).2:=fun Z hs=>Ar.mono (h y s hd Z hs) fun r Z' ⟨e,h2⟩=>⟨_,⟨e,rfl⟩,h2⟩
 refine h1.use hs ?_;rintro r post Z' ⟨rfl,rfl⟩ hs';exact hk Z' hs'
def Bj {α S:Type} (stp:α->S->Bool×S):List α->Nat->S->Int×S
 | [],_,s=>(-1,s)
 | y::r,k,s=>if(stp y s).1 then((k:Int),(stp y s).2)else Bj stp r (k+1) (stp y s).2
def CL {α S:Type} (stp:α->S->Bool×S):List α->S->Bool×S
 | [],s=>(true,s)
 | y::r,s=>if(stp y s).1 then CL stp r (stp y s).2 else(false,(stp y s).2)
def YO {α S:Type} (stp:α->S->Bool×S) (D:α->S->Prop):List α->S->Prop
 | [],_=>True
 | y::r,s=>D y s/\YO stp D r (stp y s).2
def OF {α S:Type} {stp:α->S->Bool×S}: ∀(xs:List α) (k:Nat) (s:S),(Bj (fun y s=>(!(stp y s).1,(stp y s).2)) xs k s).2=(CL stp xs s).2/\(decide ((Bj (fun y s=>(!(stp y s).1,(stp y s).2)) xs k s).1≥0)= !(CL stp xs s).1)
 | [],_,_=>⟨rfl,rfl⟩
 | y::r,k,s=>by
   simp only[Bj,CL];cases h:(stp y s).1
   .simp
   .simpa using OF r (k+1) (stp y s).2
def Ut {α S:Type} {stp:α->S->Bool×S} {D:α->S->Prop}: ∀(xs:List α) (s:S),YO stp D xs s->YO (fun y s=>(!(stp y s).1,(stp y s).2)) D xs s
 | [],_,_=>trivial
 | _::r,_,h=>⟨h.1,Ut r _ h.2⟩
def Kg {α:Type} (f:α->Bool): ∀(xs:List α),CL (fun y (_:Unit)=>(f y,())) xs ()=(xs.all f,())
 | []=>rfl
 | y::r=>by
   simp only[CL,R8];cases f y
   .rfl
   .simpa using Kg f r
def Ha {α S:Type} {stp:α->S->Bool×S} {D:α->S->Prop}: ∀ {xs:List α} {s:S},(∀y∈xs,∀s,D y s)->YO stp D xs s
 | [],_,_=>trivial
 | y::r,s,h=>⟨h y (.head _) s,Ha fun z hz=>h z (.tail _ hz)⟩
end Go.Gl
namespace Go.Gl
variable {P:Program} {Z:AE}
def Sat.zU {l:List At} {a:At} (h:Sat Z (l++[a])):Sat Z (a::l):=h.perm (by
 have:=PL (l₁:=l) (l₂:=[a])
 simpa using this)
def Db {l:List At} (h:Sat Z l) (sz:Nat):Sat Z (.own (.l [] true) sz []::l):=(Gy h sz).zU
def iS {l:List At} (h:Sat Z l) {sz:Nat} {es:List (List V)} (hs: ∀e∈es,e.length=sz):Sat Z (.own (.l es true) sz es::l):=(tM h hs).zU
def alF {l:List At} {o:O} {n:Nat} {K:Prop} {Z':AE} (e:B5 Z n o=Z') (hk:Sat Z' (.obj n o::l)->K) (hn:Z n=none:=by assumption) (h:Sat Z l:=by assumption):K:=hk (e ▸ (gx h hn).zU)
def LY {α:Type}: ∀ {l:List α} {j:Nat} {a:α},l[j]? =some a->l.Perm (a::l.eraseIdx j)
 | x::r,0,a,h=>by simp at h;subst h;simp
 | x::r,j+1,a,h=>by
   simp only[zF]at h;simp only[List.eraseIdx_cons_succ];exact((LY h).cons x).trans (.swap _ _ _)
def Sat.front {l:List At} {j:Nat} {a:At} (h:Sat Z l) (hj:l[j]? =some a):Sat Z (a::l.eraseIdx j):=h.perm (LY hj)
def Sat.back {l:List At} {j:Nat} {a:At} (h:Sat Z (a::l.eraseIdx j)) (hj:l[j]? =some a):Sat Z l:=h.perm (LY hj).symm
def BS.rn {f:FuncId} {args:List V} {a:At} {Φ:R->Prop} (h:BS P f args [a] fun r post=>Φ r/\post= [a]) {l:List At} {j:Nat} (hs:Sat Z l) (hj:l[j]? =some a) {Q:R->AE->Prop} (hk: ∀r Z',Φ r->Sat Z' l->Q r Z'):Ar P f args Z Q:=by
 refine h.use (rest:=l.eraseIdx j) (hs.front hj) ?_;rintro r post Z' ⟨hr,rfl⟩ hs';exact hk r Z' hr (Sat.back hs' hj)
def s1b {l:List At} {i n off:Nat} {vs:List V} {x:V} {K:AE->Prop} (hk: ∀Z',Sat Z' (l.set i (.box n (vs.set off x)))->K Z') (h:Sat Z l:=by assumption)
    (hi:l[i]? =some (.box n vs):=by first|exact SI|exact SH|exact SG|exact SF|exact SE|exact SD)
    (h1:CN x=true:=by first|rfl|exact Ic (by assumption) 0 rfl|exact Ic (by assumption) 1 rfl|exact Ic (by assumption) 2 rfl|exact Ic (by assumption) 3 rfl|(simp<;>fail)) (ho:off+1<=vs.length:=by exact Nat.le_of_ble_eq_true rfl):AR Z 1 (.p n off) x K:=
 MJ h i hi h1 ho hk
def snb {l:List At} {i n off sz:Nat} {vs vc:List V} {x:V} {K:AE->Prop} (hk: ∀Z',Sat Z' (l.set i (.box n (putAt vs off vc)))->K Z') (h:Sat Z l:=by assumption)
    (hi:l[i]? =some (.box n vs):=by first|exact SI|exact SH|exact SG|exact SF|exact SE|exact SD)
    (hc:cellsOf x=some vc:=by rfl) (hl:vc.length=sz:=by rfl) (h1:vc.all CN=true:=by first|rfl|(simp<;>fail)|(simp[*]<;>fail)) (ho:off+sz<=vs.length:=by exact Nat.le_of_ble_eq_true rfl):AR Z sz (.p n off) x K:=
 Jo h i hi hc hl h1 ho hk
def zZ {sz m n o:Nat} {ki:IntKind} {j:Int} {K:V->Prop} (h:K (.p n (o+j.toNat*sz))) (h0:0<=j:=by omega) (h1:j<m:=by omega):AQ sz (some m) (.p n o) (.i ki j) K:=⟨h0,h1,h⟩
def iar {sz m:Nat} {cs:List V} {ki:IntKind} {j:Int} {K:V->Prop} (h:K (.rp (cs.drop (j.toNat*sz)))) (h0:0<=j:=by omega) (h1:j<m:=by omega):AQ sz (some m) (.rp cs) (.i ki j) K:=⟨h0,h1,h⟩
def ud {l:List At} (h:Sat Z l) (i:Nat) {v:V} {sz:Nat} {es es':List (List V)} (hi:l[i]? =some (.own v sz es)) (he: ∀Z2,Fm Z Z2 es es'): ∃Z2,Sub Z2 Z/\GD Z Z2 v (.l es' false)/\Sat Z2 (l.eraseIdx i):=by
 rcases h.get hi with⟨rfl,_⟩|⟨n,cap,rfl,hn⟩
 .exact⟨Z,fun _ _ h=>h,.l (fun h=>(by cases h)) (he _),h.less (List.eraseIdx_sublist _ _)⟩
 .refine⟨del Z n,GF Z n,.arr hn (Df Z n) rfl (he _),?_⟩
  refine⟨fun b hb=>?_,h.2.sublist (List.eraseIdx_sublist _ _)⟩;refine FK (h.1 b (List.mem_of_mem_eraseIdx hb)) fun m hm=>?_
  rw[Hc];intro e;subst e;exact FD h.2 hi b hb m rfl hm
def AAD {l:List At} (h:Sat Z l) {sz:Nat} {z:List V} {n m:Nat} {K:V->AE->Prop} (hnm:n<=m) (hn:m<=1073741824) (hk: ∀v Z',Sat Z' (.own v sz (List.replicate n z)::l)->(∃id,v= .sl id n m)->K v Z') {ki kj:IntKind} :
    AJ Z sz z (.i ki (n:Int)) (.i kj (m:Int)) K:=by
 refine⟨by omega,by omega,by omega,fun id hid=>?_⟩;simp only[HP];refine hk _ _ (h.add (a:= .own (.sl id n m) sz (List.replicate n z)) (fun b hb=>FK hb fun m hm=>?_) (fun b hb m hm hb'=>?_) (.inr ⟨id,m,by simp,by simp[B5]⟩)).zU ⟨id,rfl⟩
 .obtain⟨o,ho⟩:=DA hb hm
  rw[Cn];intro e;subst e;rw[hid]at ho;cases ho
 .cases hm
  obtain⟨o,ho⟩:=DA hb hb';rw[hid]at ho;cases ho
def ia {Z:AE} {l:List At} {i:Nat} {v:V} {sz:Nat} {es:List (List V)} (hs:Sat Z l) (hi:l[i]? =some (.own v sz es)) (he: ∀e∈es,e.length=sz) (hm:es.length<=Ae) {K:V->AE->Prop} (hk: ∀Z',Sat Z' (l.eraseIdx i)->K (.l es true) Z'):AP Z sz v none (some (.i .i64 (es.length:Int))) (some (.i .i64 (es.length:Int))) K:=by
 rcases hs.get hi with⟨rfl,_⟩|⟨n,cap,rfl,hn⟩
 .refine⟨he,?_⟩
  simp only[O7];refine⟨Int.le_refl _,Int.natCast_nonneg _,Int.le_refl _,trivial,?_⟩;have:=hk Z (hs.less (List.eraseIdx_sublist _ _));simpa using this
 .unfold AP
  simp only[O7];refine⟨Int.le_refl _,Int.natCast_nonneg _,Int.le_refl _,trivial,trivial,trivial,?_⟩;rw[hn];refine⟨rfl,rfl,rfl,.inl (hk _ ?_)⟩;refine⟨fun b hb=>?_,hs.2.sublist (List.eraseIdx_sublist _ _)⟩;refine FK (hs.1 b (List.mem_of_mem_eraseIdx hb)) fun m hm=>?_
  rw[Hc];intro e;subst e;exact FD hs.2 hi b hb m rfl hm
end Go.Gl
namespace Go.Gl
variable {P:Program} {Z:AE} {env:Env}
structure Hd (G:Prop):Prop where
 h:G
class KI (K:Env->AE->Prop) (A:outParam (Env->AE->Prop)):Prop where
 h: ∀env Z,A env Z->K env Z
class KJ (K:(Env->AE->Prop)×(Env->V->AE->Prop)) (A:outParam (Env->AE->Prop)) (B:outParam (Env->V->AE->Prop)):Prop where
 h: ∀env Z,A env Z->K.1 env Z
 g: ∀env v Z,B env v Z->K.2 env v Z
class KN (K:(Env->AE->Prop)×(V->AE->Prop)) (A:outParam (Env->AE->Prop)) (B:outParam (V->AE->Prop)):Prop where
 h: ∀env Z,A env Z->K.1 env Z
 g: ∀v Z,B v Z->K.2 v Z
instance (priority:=low) {K A:Env->AE->Prop} [i:KI K A]:Pv (K env Z) (A env Z):=⟨i.h _ _⟩
instance {K:(Env->AE->Prop)×(Env->V->AE->Prop)} {A:Env->AE->Prop} {B:Env->V->AE->Prop} [i:KJ K A B]:Pv (K.1 env Z) (A env Z):=⟨i.h _ _⟩
instance {K:(Env->AE->Prop)×(Env->V->AE->Prop)} {A:Env->AE->Prop} {B:Env->V->AE->Prop} {v:V} [i:KJ K A B]:Pv (K.2 env v Z) (B env v Z):=⟨i.g _ _ _⟩
instance {K:(Env->AE->Prop)×(V->AE->Prop)} {A:Env->AE->Prop} {B:V->AE->Prop} [i:KN K A B]:Pv (K.1 env Z) (A env Z):=⟨i.h _ _⟩
instance {K:(Env->AE->Prop)×(V->AE->Prop)} {A:Env->AE->Prop} {B:V->AE->Prop} {v:V} [i:KN K A B]:Pv (K.2 v Z) (B v Z):=⟨i.g _ _⟩
instance {A:Prop}:Pv (ER P [] env Z/\A) A:=⟨dr⟩
class ZK (G:Prop) (α:outParam Type) (β:outParam (α->Prop)) (G':outParam (α->Prop)):Prop where
 h:(∀x,β x->G' x)->G
def zk {G:Prop} {α:Type} {β G':α->Prop} [i:ZK G α β G'] (h: ∀x,β x->G' x):G:=i.h h
instance {l:List Nat} {a b:AV} {Q:Ad->Env->AE->Prop}:ZK (W P (.seq l a b) Q env Z) (Env->AE->Prop) (fun K=>KI K fun env Z=>pk l env fun E=>W P b Q E Z) (fun K=>W P a (Ad.andThen K Q) env Z):=⟨fun h=>sq fun K U=>h K ⟨U⟩⟩
instance {ops:List Aq} {Q:Ad->Env->AE->Prop}:ZK (W P (.DH ops) Q env Z) ((Env->AE->Prop)×(Env->V->AE->Prop)) (fun K=>KJ K (fun env Z=>Q .normal env Z) fun env v Z=>Q (.Bh v) env Z) (fun K=>WT P ops K.1 K.2 env Z):=⟨fun h=>DS fun A B hA hB=>h (A,B) ⟨hA,hB⟩⟩
instance {l:List Nat} {ops:List Cq} {Q:Ad->Env->AE->Prop}:ZK (W P (.HT l ops) Q env Z) ((Env->AE->Prop)×(V->AE->Prop)) (fun K=>KN K (fun env Z=>pk l env fun E=>Q .normal E Z) fun v Z=> ∀Z',Sub Z Z'->Q (.Bh v) [] Z') (fun K=>WD P ops K.1 K.2 env Z):=⟨fun h=>cZ fun A B hA hB=>h (A,B) ⟨hA,hB⟩⟩
def zg {G G':Prop} (h:G') (t:Hd G'->G:=by
 intro h
 (first|refine⟨rfl,?_⟩|refine⟨kZ,?_⟩|fail)
 exact h.h):G:=t ⟨h⟩
def zn {G G':Prop} (h:G') (t:Hd G'->G:=by
 intro h
 (first|refine⟨rfl,?_⟩|refine⟨kZ,?_⟩|refine ld ?_|refine ix ?_|refine ixF ?_|refine sk1 ?_|refine oi ?_|refine oc ?_|refine af ?_|fail)
 exact h.h):G:=t ⟨h⟩
def zX {G G':Prop} (h:G') (t:Hd G'->G:=by
 intro h
 (first|refine⟨rfl,?_⟩|refine⟨kZ,?_⟩|refine ix ?_|refine ixF ?_|refine sk1 ?_|refine AAA ?_|refine iqk ?_|refine lo ?_|refine slq ?_|refine ld ?_|refine oi ?_|refine oc ?_|refine oi2 ?_|refine oc2 ?_|refine z6 ?_|refine olk ?_|refine af ?_|refine cft ?_|refine cff ?_|refine AAJ ?_|refine AAK ?_|(refine fck (fun hc=>?_);(try rw[hc]);clear hc)|(refine fcn (fun hc=>?_);(try rw[hc]);clear hc)|fail)
 exact h.h):G:=t ⟨h⟩
def zY {G G':Prop} (h:G') (t:Hd G'->G:=by
 intro h
 (first|refine⟨rfl,?_⟩|refine⟨kZ,?_⟩|refine ix ?_|refine ixF ?_|refine sk1 ?_|refine zZ ?_|refine iar ?_|refine AAA ?_|refine iqk ?_|refine lo ?_|refine slq ?_|refine ld ?_|refine oi ?_|refine oc ?_|refine oi2 ?_|refine oc2 ?_|refine z6 ?_|refine olk ?_|refine af ?_|refine cft ?_|refine cff ?_|refine AAJ ?_|refine AAK ?_|(refine fck (fun hc=>?_);(try rw[hc]);clear hc)|(refine fcn (fun hc=>?_);(try rw[hc]);clear hc)|fail)
 exact h.h):G:=t ⟨h⟩
def zC {G G':Prop} (h:G') (t:Hd G'->G:=by
 intro h
 first|refine c1.use ?_|refine c2.use ?_|refine c3.use ?_|refine c4.use ?_|refine c5.use ?_|refine c6.use ?_|refine c0.use ?_|refine Pure.use (by assumption) ?_|fail
 exact h.h):G:=t ⟨h⟩
def zs {G:Prop} {α:Type} {β G':α->Prop} (h: ∀x,β x->G' x) (t:Hd (∀x,β x->G' x)->G:=by
 intro h
 first|refine os2 fun Z hs=>?_|refine s1b fun Z hs=>?_|refine snb fun Z hs=>?_|refine oset fun Z hs=>?_|fail
 exact h.h Z hs):G:=t ⟨h⟩
def zr {G:Prop} {α:Type} {β G':α->Prop} (h: ∀x,β x->G' x) (t:Hd (∀x,β x->G' x)->G:=by
 intro h
 first|refine os2 fun Z hs=>?_|refine s1 fun Z hs=>?_|refine sn fun Z hs=>?_|refine oset fun Z hs=>?_|fail
 exact h.h Z hs):G:=t ⟨h⟩
def ze {G:Prop} {α:Type} {β G':α->Prop} (h: ∀x,β x->G' x) (t:Hd (∀x,β x->G' x)->G:=by
 intro h
 first|refine iqF fun x hx=>?_|refine iq fun x hx=>?_|refine ol fun x hx=>?_|refine ol2 fun x hx=>?_|fail
 exact h.h x hx):G:=t ⟨h⟩
def zo {G:Nat->Prop} {β:Nat->Prop} {γ G':Nat->AE->Prop} (h: ∀n,β n-> ∀Z,γ n Z->G' n Z) (t:Hd (∀n,β n-> ∀Z,γ n Z->G' n Z)-> ∀n,β n->G n:=by
 intro h nn hnn;generalize hg:B5 _ nn _=Z;refine alF hg fun hs=>?_
 clear hg
 exact h.h nn hnn Z hs): ∀n,β n->G n:=t ⟨h⟩
def zp {G:Nat->Prop} {β:Nat->Prop} {γ G':Nat->AE->Prop} (h: ∀n,β n-> ∀Z,γ n Z->G' n Z) (t:Hd (∀n,β n-> ∀Z,γ n Z->G' n Z)-> ∀n,β n->G n:=by
 intro h nn hnn;generalize hg:B5 _ nn _=Z;refine al hg fun hs=>?_
 clear hg
 exact h.h nn hnn Z hs): ∀n,β n->G n:=t ⟨h⟩
def zb {A B:Prop} {b c d:Bool} {p q A' B':Prop} (h1:p->A') (h2:q->B')
    (t1 : Hd (p->A')->b=c->A:=by
     intro h hc
     (try rw[hc])
     replace hc:=bp hc
     first
      | (refine False.elim ((fun(_:Hd (False->True))=>(?_:False)) h);(try simp(disch:=omega) only[Ca,wrap64,Ag]at hc);first|done|omega|fail)
      | ((try simp(disch:=omega) only[Ca,wrap64,Ag]at hc);exact h.h hc)
      | fail)
    (t2 : Hd (q->B')->b=d->B:=by
     intro h hc
     (try rw[hc])
     replace hc:=bp hc
     first
      | (refine False.elim ((fun(_:Hd (False->True))=>(?_:False)) h);(try simp(disch:=omega) only[Ca,wrap64,Ag]at hc);first|done|omega|fail)
      | ((try simp(disch:=omega) only[Ca,wrap64,Ag]at hc);exact h.h hc)
      | fail):(b=c->A)/\(b=d->B):=⟨t1 ⟨h1⟩,t2 ⟨h2⟩⟩
def za {A B:Prop} {b c d:Bool} {p q A' B':Prop} (h1:p->A') (h2:q->B')
    (t1:Hd (p->A')->b=c->A:=by intro h hc;(try rw[hc]);replace hc:=bp hc;exact h.h hc)
    (t2:Hd (q->B')->b=d->B:=by intro h hc;(try rw[hc]);replace hc:=bp hc;exact h.h hc):(b=c->A)/\(b=d->B):=⟨t1 ⟨h1⟩,t2 ⟨h2⟩⟩
def zd {A B:Prop} {b c d:Bool} {p q A' B':Prop} (h1:p->A') (h2:q->B')
    (t1 : Hd (p->A')->b=c->A:=by
     intro h hc
     (try rw[hc])
     replace hc:=bp hc
     first
      | (refine False.elim ((fun(_:Hd (False->True))=>(?_:False)) h);simp(disch:=omega) only[Ca,wrap64,Ag]at hc;done)
      | ((try simp(disch:=omega) only[Ca,wrap64,Ag]at hc);exact h.h hc)
      | fail)
    (t2 : Hd (q->B')->b=d->B:=by
     intro h hc
     (try rw[hc])
     replace hc:=bp hc
     first
      | (refine False.elim ((fun(_:Hd (False->True))=>(?_:False)) h);simp(disch:=omega) only[Ca,wrap64,Ag]at hc;done)
      | ((try simp(disch:=omega) only[Ca,wrap64,Ag]at hc);exact h.h hc)
      | fail):(b=c->A)/\(b=d->B):=⟨t1 ⟨h1⟩,t2 ⟨h2⟩⟩
def zh {G G':Prop} (h:G') (t:Hd G'->G:=by
 intro h
 conv=>whnf
 repeat((first|clear hKz Kz|apply st|(apply zk;intro Kz hKz)|refine zg ?_|fail);try(conv=>whnf))
 repeat(first|clear hKz Kz|revert hKz Kz)
 exact h.h):G:=t ⟨h⟩
def zu {G G':Prop} (h:G') (t:Hd G'->G:=by
 intro h
 conv=>whnf
 repeat((first|clear hKz Kz|apply st|(apply zk;intro Kz hKz)|refine zn ?_|fail);try(conv=>whnf))
 repeat(first|clear hKz Kz|revert hKz Kz)
 exact h.h):G:=t ⟨h⟩
def zv {G G':Prop} (h:G') (t:Hd G'->G:=by
 intro h
 conv=>whnf
 repeat((first|clear hKz Kz|apply st|(apply zk;intro Kz hKz)|refine zX ?_|fail);try(conv=>whnf))
 repeat(first|clear hKz Kz|revert hKz Kz)
 exact h.h):G:=t ⟨h⟩
def zz {G G':Prop} (h:G') (t:Hd G'->G:=by
 intro h
 conv=>whnf
 repeat((first|clear hKz Kz|apply st|(apply zk;intro Kz hKz)|refine zY ?_|fail);try(conv=>whnf))
 repeat(first|clear hKz Kz|revert hKz Kz)
 exact h.h):G:=t ⟨h⟩
def zW {G:Prop} (t:G:=by
 conv=>whnf
 repeat'((first|clear U K|apply st|(apply zk;intro K U)|refine zY ?_|refine ze fun x hx=>?_|refine zs fun Z hs=>?_|refine zC ?_|(refine zb (fun hc=>?_) (fun hc=>?_)<;>try exact⟨⟩)|refine zo fun nn hnn Z hs=>?_|fail)<;>try(conv=>whnf))
 all_goals first|exact AG rfl|fail):G:=t
end Go.Gl
namespace Go.Gl
def axI (n:Nat):List Nat->List Nat
 | []=>[n]
 | x::r=>bif Nat.beq n x then x::r else bif Nat.ble n x then n::x::r else x::axI n r
def zO:List Nat->List Nat->List Nat
 | [],l=>l
 | n::r,l=>zO r (axI n l)
def axD (n:Nat):List Nat->List Nat
 | []=>[]
 | x::r=>bif Nat.beq x n then r else x::axD n r
def axS:List Nat->List Nat->List Nat
 | [],l=>l
 | n::r,l=>axS r (axD n l)
def axO (o:Aq) (n:List Nat):List Nat:=zO (looks o) (match o.dst with|some d=>axD d n|none=>n)
def tU:List Aq->List Nat->List Nat
 | [],n=>n
 | o::r,n=>axO o (tU r n)
def axX (i:Nat):List (Nat×List Nat)->List Nat
 | []=>[]
 | (j,l)::r=>bif Nat.beq i j then l else axX i r
def YN (rs:List Nat):AV->List (Nat×List Nat)->List Nat->List Nat
 | .skip,_,n=>n
 | .ret,_,_=>rs
 | .exit i,X,_=>axX i X
 | .DH ops,_,n=>tU ops n
 | .HT _ ops,_,n=>tU (ops.map (·.o)) n
 | .seq _ a b,X,n=>YN rs a X (YN rs b X n)
 | .cond c a b,X,n=>zO (rd c) (zO (YN rs a X n) (YN rs b X n))
 | .block i a,X,n=>YN rs a ((i,n)::X) n
 | .scope a,X,n=>YN rs a X n
 | .D0 _ g ps a b,_,n=>zO (rd g) (zO n (axS ps (YN [] a [] (YN [] b [] []))))
 | .loop _ a,X,_=>YN rs a X []
def cw (rs:List Nat):AV->List (Nat×List Nat)->List Nat->AV
 | .skip,_,_=> .skip
 | .ret,_,_=> .ret
 | .exit i,_,_=> .exit i
 | .DH ops,_,_=> .DH ops
 | .HT _ ops,_,n=> .HT n ops
 | .seq _ a b,X,n=> .seq (YN rs b X n) (cw rs a X (YN rs b X n)) (cw rs b X n)
 | .cond c a b,X,n=> .cond c (cw rs a X n) (cw rs b X n)
 | .block i a,X,n=> .block i (cw rs a ((i,n)::X) n)
 | .scope a,X,n=> .scope (cw rs a X n)
 | .D0 _ g ps a b,_,_=> .D0 (axS ps (YN [] a [] (YN [] b [] []))) g ps (cw [] a [] (YN [] b [] [])) (cw [] b [] [])
 | .loop _ a,X,_=> .loop (YN rs a X []) (cw rs a X (YN rs a X []))
variable {P:Program}
def CtrX (P:Program) (k n:Nat) (ac:AV) (rs:List Nat):Prop:= ∀ ⦃args:List V⦄,args.length<=n-> ∀ ⦃Z:AE⦄ ⦃Q:R->AE->Prop⦄,W P ac (iF rs Q) (A6 0 args) Z->Ar P k args Z Q
def ABf (P:Program) (k n:Nat) (ac:AV) (rs:List RS):Prop:= ∀ ⦃args:List V⦄,args.length<=n-> ∀ ⦃Z:AE⦄ ⦃Q:R->AE->Prop⦄,W P ac (Vy rs Q) (A6 0 args) Z->Ar P k args Z Q
def zQ:RS->Nat
 | .t n=>n
 | .c n _=>n
def cX {k n:Nat} {fn:Func} {ac:AV} {rs:List Nat} (pu fz:List Nat) (hf:P.funcs[k]? =some fn)
    (hn:fn.ntmps=n:=by conv=>lhs;reduce)
    (hr:Gg fn.results.toList=some rs:=by conv=>lhs;reduce)
    (hc:cw rs ((fn.body.bind (res P fn.ntmps pu fz)).getD .skip) [] rs=ac:=by conv=>lhs;reduce;try simp only[Int.reduceOfNat,Int.reduceNegSucc])
    (hb:fn.body.bind (res P fn.ntmps pu fz)=some (erase ac):=by kernel_rfl) (hok:okF P k=true:=by kernel_rfl):CtrX P k n ac rs:=
 fun _ ha _ _ h=>Lg hf hok hb hr (hn ▸ ha) (nv h)
def Vc {k n:Nat} {fn:Func} {ac:AV} {rs:List RS} (pu fz:List Nat) (hf:P.funcs[k]? =some fn)
    (hn:fn.ntmps=n:=by conv=>lhs;reduce)
    (hr:NR P fn.results.toList=some rs:=by conv=>lhs;reduce)
    (hc:cw (rs.map zQ) ((fn.body.bind (res P fn.ntmps pu fz)).getD .skip) [] (rs.map zQ)=ac:=by conv=>lhs;reduce;try simp only[Int.reduceOfNat,Int.reduceNegSucc])
    (hb:fn.body.bind (res P fn.ntmps pu fz)=some (erase ac):=by kernel_rfl) (hok:okF P k=true:=by kernel_rfl):ABf P k n ac rs:=
 fun _ ha _ _ h=>Eu hf hok hb hr (hn ▸ ha) (nv h)
end Go.Gl
namespace Go.Gl
open Go.Proofs
set_option maxRecDepth 100000
def iZ:=cX [] [1] Tryz.func13
def aQ:=cX [] [3,5] Tryz.func15
def iY:=cX [] [2] Tryz.func18
def iX:=cX [] [2] Tryz.func19
def aP:=cX [] [3,4,5] Tryz.func23
def ABW:=cX [] [1] Tryz.func29
def ABV:=Vc [] [] Tryz.func33
def ABU:=cX [] [] Tryz.func34
def ABT:=cX [] [1] Tryz.func36
def WU:=cX [] [4] Tryz.func47
def ABS:=cX [] [4] Tryz.func48
def sT:=cX [] [] Tryz.func49
set_option maxRecDepth 100000
def sS:=cX [] [4,5] Tryz.func52
def ABR:=Vc [] [1] Tryz.func53
def ABQ:=cX [] [1] Tryz.func54
def ABP:=Vc [] [4] Tryz.func55
def iW:=Vc [] [3] Tryz.func59
def ABO:=cX [] [2] Tryz.func60
def ABN:=cX [] [2] Tryz.func61
def sR:=cX [] [2] Tryz.func62
def ABM:=cX [] [1] Tryz.func71
def ABL:=cX [] [2] Tryz.func72
def ABK:=cX [] [1] Tryz.func73
def ABJ:=cX [] [2,3] Tryz.func74
def ABI:=cX [] [4] Tryz.func78
def ABH:=cX [] [] Tryz.func79
def ABG:=cX [] [2,3] Tryz.func86
def ABF:=cX [] [2] Tryz.func87
def ABE:=cX [] [2] Tryz.func88
def sQ:=Vc [] [1] Tryz.func92
def ABD:=cX [] [] Tryz.func95
def ABC:=cX [] [] Tryz.func96
def ABB:=cX [] [1] Tryz.func97
set_option maxRecDepth 100000
def yz:=cX [] [2] Tryz.func101
def yy:=cX [] [] Tryz.func102
def yx:=cX [] [2] Tryz.func112
def yw:=cX [] [] Tryz.func113
def kF:=cX [] [1,16] Tryz.func114
def Nr:=cX [] [5] Tryz.func115
def yu:=cX [] [4,5,7] Tryz.func116
def kE:=cX [] [] Tryz.func117
def yr:=cX [] [2] Tryz.func118
def Uf:=cX [] [4] Tryz.func119
def yq:=cX [] [1] Tryz.func120
def Ik:=cX [181] [5] Tryz.func121
def yp:=cX [] [1,19] Tryz.func122
def yo:=cX [] [3] Tryz.func123
def yn:=Vc [] [] Tryz.func124
def ym:=cX [] [2,3] Tryz.func125
def yl:=cX [] [2,3] Tryz.func126
abbrev kY:AV:=(.DH [⟨(some 4),.alloc [(.b false)],none⟩])
def r8:List Aq:=[⟨(some 5),.gK (.func 191) [] [(.t 4)],none⟩]
abbrev kW:AV:=(.seq [4] (.DH [⟨(some 6),.mv (.t 0),none⟩,
 ⟨(some 7),.mv (.t 1),none⟩,
 ⟨(some 8),.call 128 [(.t 6),(.t 7)],none⟩,
 ⟨(some 9),.call 192 [(.t 8)],none⟩])
 (.seq [4] (.DH [⟨none,.store 1 (.t 4) (.c (.b true)),none⟩])
 .ret))
def tj:Tryz.f127.body.bind (LF Tryz.prog Tryz.f127.ntmps [] [])=some (erase kY,r8,(.t 5),erase kW):=by kernel_rfl
def yk {args:List V} (hn:args.length<=10) {Z:AE} {Q:R->AE->Prop} (h:W Tryz.prog (.seq [0,1,4] kY (.DH r8)) (CW (iD Tryz.prog (.t 5) [0,1,4] kW [.c 4 none] Q)) (A6 0 args) Z):Ar Tryz.prog 127 args Z Q:=
 I0 Tryz.func127 (by kernel_rfl) tj (by kernel_rfl) hn (sa h)
def yj:=cX [] [11] Tryz.func128
def Y0:=Vc [] [2] Tryz.func131
def yi:=cX [] [1] Tryz.func132
def yh:=Vc [] [2] Tryz.func133
def yg:=cX [] [] Tryz.func134
def yf:=cX [] [1] Tryz.func138
def ye:=cX [] [2,3] Tryz.func139
def yd:=cX [] [] Tryz.func140
def yc:=cX [] [] Tryz.func141
def yb:=Vc [] [] Tryz.func142
def Yz:=cX [] [2,3] Tryz.func143
def ya:=cX [] [] Tryz.func144
def yZ:=cX [] [2,3] Tryz.func145
set_option maxRecDepth 100000
def yY:=cX [] [2,3] Tryz.func146
def yX:=cX [] [1] Tryz.func148
def yW:=cX [] [2,3] Tryz.func149
def yV:=cX [] [1] Tryz.func150
def yU:=Vc [] [1] Tryz.func151
def yT:=cX [] [1] Tryz.func155
def yS:=cX [] [1] Tryz.func156
def kD:=cX [] [6] Tryz.func157
def yR:=cX [] [] Tryz.func158
def yQ:=cX [] [] Tryz.func159
def yP:=cX [] [] Tryz.func160
def yO:=cX [] [2] Tryz.func163
def yN:=cX [] [2] Tryz.func164
def yM:=cX [] [2] Tryz.func165
def kC:=cX [] [] Tryz.func166
def yL:=cX [] [] Tryz.func167
def yK:=cX [] [2] Tryz.func168
def yJ:=cX [] [2] Tryz.func169
def yI:=cX [] [] Tryz.func170
def kB:=cX [] [] Tryz.func171
def yH:=cX [] [2,3] Tryz.func172
def yG:=cX [] [] Tryz.func173
def yF:=cX [] [1] Tryz.func174
def yE:=cX [] [2] Tryz.func175
def kA:=cX [] [2,3] Tryz.func176
def yD:=cX [] [3] Tryz.func177
def yC:=cX [] [2] Tryz.func178
def yB:=cX [] [2] Tryz.func179
def yA:=cX [] [1] Tryz.func180
def x9:=Vc [] [] Tryz.func181
def x8:=cX [] [] Tryz.func182
def x7:=cX [] [] Tryz.func183
def jz:=cX [] [2] Tryz.func184
def x6:=cX [] [] Tryz.func185
def x5:=cX [] [] Tryz.func186
def x4:=cX [] [4,5,6] Tryz.func187
def x3:=cX [] [5] Tryz.func188
def xz:=cX [] [] Tryz.func189
def xy:=cX [] [] Tryz.func190
def r7:List Aq:=[⟨(some 5),.gI 260 (.a []) true (.t 4),none⟩,
    ⟨(some 3),.mv (.t 5),none⟩,
    ⟨(some 6),.extract 0 (.t 3),none⟩,
    ⟨(some 7),.extract 1 (.t 3),none⟩,
    ⟨(some 1),.alloc [],none⟩,
    ⟨none,.store 0 (.t 1) (.t 6),none⟩,
    ⟨(some 2),.mv (.t 7),none⟩]
abbrev kV:AV:=(.seq [0,8] (.DH [⟨(some 8),.mv (.t 2),none⟩])
 (.cond (.t 8)
 (.DH [⟨none,.store 1 (.t 0) (.c (.b false)),none⟩])
 .skip))
def ti:Tryz.f191.body.bind (resRec Tryz.prog Tryz.f191.ntmps [] [])=some (4,r7,erase kV):=by kernel_rfl
def cE {args:List V} (hn:args.length<=9) {m:Option V} {Z:AE} {Q:AE->Prop} (h:W Tryz.prog (.seq [0,2] (.DH r7) kV) (PH Q) (put (some 4) (m.getD .Dv) (A6 0 args)) Z):Hw Tryz.prog 191 args m Z Q:=
 Kb Tryz.func191 (by kernel_rfl) ti rfl hn (nv h)
def xx:=cX [] [] Tryz.func192
def xw:=cX [] [3] Tryz.func193
set_option maxRecDepth 100000
def xv:=cX [] [3] Tryz.func194
def xu:=cX [] [3] Tryz.func195
def xr:=cX [] [3] Tryz.func196
def xq:=Vc [] [] Tryz.func199
def jy:=cX [] [] Tryz.func200
def Yy:=cX [] [] Tryz.func201
def xp:=cX [] [1] Tryz.func205
def xn:=cX [] [3] Tryz.func206
def xm:=cX [] [4,5] Tryz.func207
def Yx:=cX [] [7] Tryz.func208
def xl:=cX [] [4,5,7] Tryz.func209
def xk:=cX [] [] Tryz.func210
def Ue:=cX [] [] Tryz.func211
def xj:=cX [] [] Tryz.func212
def xi:=Vc [] [] Tryz.func214
def xh:=cX [] [3] Tryz.func215
def jx:=cX [] [3,4] Tryz.func216
def xg:=cX [] [4,5] Tryz.func217
def xf:=cX [] [] Tryz.func218
def xe:=cX [] [2] Tryz.func219
def xd:=cX [] [2] Tryz.func220
def xc:=cX [] [1] Tryz.func221
def xb:=cX [] [1] Tryz.func222
def xa:=cX [] [1] Tryz.func223
def xZ:=Vc [] [1] Tryz.func224
def xY:=cX [] [2,3] Tryz.func227
def xX:=cX [] [4,5] Tryz.func229
def xW:=cX [] [] Tryz.func232
def xV:=cX [] [] Tryz.func233
def xU:=cX [] [3] Tryz.func234
def xT:=cX [] [] Tryz.func235
def xS:=cX [] [2,3] Tryz.func236
def xR:=cX [] [3,4] Tryz.func237
def xQ:=cX [] [] Tryz.func239
def xP:=cX [] [] Tryz.func241
set_option maxRecDepth 100000
def jw:=cX [] [] Tryz.func242
def jv:=cX [] [] Tryz.func243
def xO:=cX [] [] Tryz.func244
def xN:=cX [] [] Tryz.func245
def ju:=cX [] [3] Tryz.func246
def jt:=cX [] [] Tryz.func247
def xM:=cX [] [3] Tryz.func248
def xL:=cX [] [2] Tryz.func249
def xK:=cX [] [4,5,6,7] Tryz.func250
def xJ:=cX [] [3] Tryz.func251
def Yw:=cX [] [3] Tryz.func252
def xI:=cX [] [] Tryz.func253
def xH:=cX [] [2] Tryz.func254
def xG:=cX [] [] Tryz.func255
def xE:=cX [] [2] Tryz.func256
def xD:=cX [] [] Tryz.func257
def xC:=cX [] [] Tryz.func258
def xB:=cX [] [3] Tryz.func259
def xA:=cX [] [] Tryz.func260
def w9:=cX [] [1] Tryz.func261
def w8:=cX [] [3] Tryz.func262
def w7:=cX [] [] Tryz.func263
def wz:=cX [] [] Tryz.func264
def wy:=cX [] [] Tryz.func265
def wx:=cX [] [2] Tryz.func266
def js:=cX [] [3] Tryz.func267
def wu:=cX [] [] Tryz.func268
def wq:=cX [] [3] Tryz.func269
def wm:=cX [] [4] Tryz.func270
def jr:=cX [] [2] Tryz.func272
def wk:=cX [] [] Tryz.func273
def wj:=cX [] [] Tryz.func278
def wi:=cX [] [] Tryz.func279
abbrev kX:AV:=(.DH [⟨(some 2),.alloc [(.b false)],none⟩])
def r6:List Aq:=[⟨(some 3),.gK (.func 322) [] [(.t 2)],none⟩]
abbrev kU:AV:=(.seq [2] (.DH [⟨(some 4),.mv (.t 0),none⟩,
 ⟨(some 5),.Jm (.t 4) [],none⟩])
 (.seq [2] (.DH [⟨none,.store 1 (.t 2) (.c (.b true)),none⟩])
 .ret))
def th:Tryz.f280.body.bind (LF Tryz.prog Tryz.f280.ntmps [] [])=some (erase kX,r6,(.t 3),erase kU):=by kernel_rfl
def wh {args:List V} (hn:args.length<=6) {Z:AE} {Q:R->AE->Prop} (h:W Tryz.prog (.seq [0,2] kX (.DH r6)) (CW (iD Tryz.prog (.t 3) [0,2] kU [.c 2 none] Q)) (A6 0 args) Z):Ar Tryz.prog 280 args Z Q:=
 I0 Tryz.func280 (by kernel_rfl) th (by kernel_rfl) hn (sa h)
def wg:=cX [] [] Tryz.func281
def we:=cX [] [1] Tryz.func282
def jq:=cX [] [] Tryz.func283
def wc:=cX [] [7] Tryz.func284
def wb:=cX [] [3,4,5] Tryz.func285
def wa:=cX [] [3,4] Tryz.func286
def wZ:=cX [] [] Tryz.func287
def wY:=cX [] [1] Tryz.func288
def wX:=cX [] [] Tryz.func289
set_option maxRecDepth 100000
def wW:=cX [] [1] Tryz.func290
def wV:=cX [] [] Tryz.func291
def wU:=cX [] [] Tryz.func293
def wT:=Vc [] [2,3] Tryz.func295
def wS:=cX [] [] Tryz.func296
def wR:=cX [] [3,5] Tryz.func297
def wQ:=cX [] [3] Tryz.func298
def jo:=cX [] [] Tryz.func301
def wP:=cX [] [2] Tryz.func302
def wO:=cX [] [] Tryz.func303
def wN:=cX [] [] Tryz.func304
def wM:=cX [] [] Tryz.func305
def wL:=cX [] [4] Tryz.func306
def wK:=cX [] [] Tryz.func307
def wJ:=cX [] [2] Tryz.func308
def wI:=cX [] [] Tryz.func309
def wH:=cX [] [] Tryz.func310
def wG:=cX [] [] Tryz.func311
def wF:=cX [] [] Tryz.func312
def wE:=cX [] [] Tryz.func313
def wD:=cX [] [] Tryz.func314
def wB:=cX [] [] Tryz.func315
def wA:=cX [] [2,3] Tryz.func316
def v8:=cX [] [] Tryz.func317
def r5:List Aq:=[⟨(some 1),.mv (.t 4),none⟩]
abbrev kT:AV:=(.seq [0,1,6] (.DH [⟨(some 5),.mv (.t 1),none⟩,
 ⟨(some 6),.gO 2 true (.t 5),none⟩])
 (.cond (.t 6)
 (.seq [0] (.seq [0,1,3] (.DH [⟨(some 8),.mv (.t 1),none⟩,
  ⟨(some 9),.gI 377 (.a []) true (.t 8),none⟩,
  ⟨(some 7),.mv (.t 9),none⟩,
  ⟨(some 10),.extract 0 (.t 7),none⟩,
  ⟨(some 11),.extract 1 (.t 7),none⟩,
  ⟨(some 2),.alloc [],none⟩,
  ⟨none,.store 0 (.t 2) (.t 10),none⟩,
  ⟨(some 3),.mv (.t 11),none⟩])
 (.seq [0,1,13] (.DH [⟨(some 12),.mv (.t 3),none⟩,
  ⟨(some 13),.not (.t 12),none⟩])
 (.cond (.t 13)
 (.DH [⟨(some 14),.mv (.t 1),none⟩,
  ⟨none,.panic (.t 14),none⟩])
 .skip)))
 (.DH [⟨none,.store 1 (.t 0) (.c (.b false)),none⟩]))
 .skip))
def tg:Tryz.f322.body.bind (resRec Tryz.prog Tryz.f322.ntmps [] [])=some (4,r5,erase kT):=by kernel_rfl
def cD {args:List V} (hn:args.length<=15) {m:Option V} {Z:AE} {Q:AE->Prop} (h:W Tryz.prog (.seq [0,1] (.DH r5) kT) (PH Q) (put (some 4) (m.getD .Dv) (A6 0 args)) Z):Hw Tryz.prog 322 args m Z Q:=
 Kb Tryz.func322 (by kernel_rfl) tg rfl hn (nv h)
def v7:=cX [] [] Tryz.func323
def vw:=cX [] [] Tryz.func324
def vt:=cX [] [2] Tryz.func325
def vr:=cX [] [] Tryz.func326
def vq:=cX [] [4] Tryz.func327
def jn:=cX [] [6] Tryz.func328
def vo:=cX [] [] Tryz.func329
def vj:=cX [] [] Tryz.func330
def vg:=cX [] [] Tryz.func331
def ve:=cX [] [0] Tryz.func332
def vd:=cX [] [2] Tryz.func333
def vZ:=cX [] [] Tryz.func336
def vY:=cX [] [] Tryz.func337
set_option maxRecDepth 100000
def vX:=cX [] [3,4,5] Tryz.func338
def vW:=cX [] [] Tryz.func339
def vV:=cX [] [] Tryz.func349
def vU:=cX [] [] Tryz.func350
def vT:=cX [] [] Tryz.func352
def vS:=cX [] [] Tryz.func353
def vR:=cX [] [] Tryz.func354
def vQ:=cX [] [] Tryz.func355
def vP:=cX [] [] Tryz.func356
def vO:=Vc [] [] Tryz.func366
def vN:=Vc [] [3] Tryz.func367
def vM:=cX [] [] Tryz.func368
def vL:=cX [] [] Tryz.func376
def vK:=cX [] [0] Tryz.func377
def vJ:=cX [] [] Tryz.func379
def jm:=cX [] [] Tryz.func380
def vI:=cX [] [] Tryz.func381
def vH:=cX [] [] Tryz.func382
def vG:=cX [] [4,5] Tryz.func399
def vF:=cX [] [3,4,5] Tryz.func400
@[reducible] noncomputable def zP:=Tryz.prog
end Go.Gl
namespace Go.Gl
open Go.Proofs
attribute [local irreducible] Ar Aj AZ AQ AL AX AP AR AJ AW AM AN Am Av Sat AT As Aa W
def Az (p:Prog):List (List Int):=p.AO.map (·.parents)
def tR (p:Prog):Prop:=p.AO.length<=Ae/\ ∀c∈p.AO,c.parents.length<=Ae/\c.AH.length<=Ae/\c.inits.length<=Ae
def bc (p:Prog) (hp:tR p) (hk0:p.AO.length<=1000):Pure zP 122 [.a (BR p)] (.l (En (Az p)) false):=by
 refine yp kZ ?_;refine zh ?_;(repeat clear U K);repeat intro K U
 refine CZ p.AO.length (fun k v=>[(3,v),(4,eI (BL k))]) (fun k v=>[.own v 1 (En ((p.AO.take k).map (·.parents)))]) (fun _ _=>True) (.l [] true) rfl trivial (Gy Sat.nil 1) ?_;rintro k v Z hk - hs;refine zh ?_;(repeat clear U K);repeat intro K U
 refine Gf hk hp.1 (fun c hc hlt=>?_) fun hk=>?_
 .have hcm:=hp.2 c (CY hc)
  refine zh ?_;(repeat clear U K);repeat intro K U
  refine Jd hc hp.1 rfl ?_;refine zh ?_;(repeat clear U K);repeat intro K U
  refine je C0 (by have:=hcm.1;have hM:=Mx;omega) ?_
  conv=>whnf
  refine GY hs 0 (x:=c.parents) rfl (by have hM:=Mx;simp only[Ca,Lq];omega) DP fun v' Z' hs'=>?_
  refine zh ?_;(repeat clear U K);repeat intro K U
  refine⟨hlt,v',rfl,trivial,?_⟩;rw[AU hc,VV];exact hs'
 .refine zh ?_;(repeat clear U K);repeat intro K U
  exact Gi hs 0 rfl (by rw[BC hk];rfl)
def BT (i:Nat):List R9->List Int
 | []=>[]
 | c::r=>List.replicate c.AH.length ((i:Int)+3)++BT (i+1) r
def AK (p:Prog):AF:=⟨Az p,BT 0 p.AO⟩
def JL (i:Nat) (a b:List R9):BT i (a++b)=BT i a++BT (i+a.length) b:=by
 induction a generalizing i with
 | nil=>simp[BT]
 | cons c r ih=>
   simp only[List.cons_append,BT,ih,Ps,Lr];rw[show i+1+r.length=i+(r.length+1) by omega]
def Br (cs:List R9):Nat:=(cs.map (·.AH.length)).sum
def Cj (i:Nat) (cs:List R9):(BT i cs).length=Br cs:=by
 induction cs generalizing i with
 | nil=>rfl
 | cons c r ih=>simp[BT,ih,Br]
def Rg {cs:List R9} {k:Nat} {c:R9} (h:cs[k]? =some c):Br (cs.take k)+c.AH.length<=Br cs:=by
 induction cs generalizing k with
 | nil=>cases h
 | cons d r ih=>
   cases k with
   | zero=>simp at h;subst h;simp[Br]
   | succ k=>simp at h;have:=ih h;simp only[Br,List.take_succ_cons,EW,List.sum_cons]at *;omega
def Uk (p:Prog) (hp:tR p) (hk0:p.AO.length<=1000) (hm:Br p.AO<=Ae):Pure zP 53 [.a (BR p)] (.a (A9 (AK p))):=by
 refine ABR kZ ?_
 conv=>whnf
 repeat((first|clear U K|(apply zk;intro K U)|fail);conv=>whnf)
 intro n hn;have hs:=gx (l:=[]) (Z:=emp) Sat.nil hn (o:= .cs [.l [] true,.l [] true]);refine zh ?_;(repeat clear U K);repeat intro K U
 refine(bc p hp hk0).use ?_
 conv=>whnf
 intro m hm;have hs:=gx hs hm (o:= .cs [.l [] true,.l [] true])
 conv=>whnf
 refine Jo hs 1 rfl rfl rfl rfl (by decide) fun Z hs=>?_
 refine zh ?_;(repeat clear U K);repeat intro K U
 refine CZ p.AO.length (fun k _=>[(4,eI (BL k))]) (fun k v=>[.box n [.l [] true,.l [] true],.box m [.l (En (Az p)) false,v],.own v 1 (iL (BT 0 (p.AO.take k)))]) (fun _ _=>True) (.l [] true) rfl trivial (Gy hs 1) ?_;rintro k v Z hk - hs;refine zh ?_;(repeat clear U K);repeat intro K U
 refine Gf hk hp.1 (fun c hc hlt=>?_) fun hk=>?_
 .have hcm:=hp.2 c (CY hc)
  have htk:=Rg hc;refine zh ?_;(repeat clear U K);repeat intro K U
  refine CZ c.AH.length (fun j _=>[(5,eI (BL j))]) (fun j v=>[.box n [.l [] true,.l [] true],.box m [.l (En (Az p)) false,v],.own v 1 (iL (BT 0 (p.AO.take k)++List.replicate j ((k:Int)+3)))]) (fun _ _=>True) v rfl trivial (by simpa using hs) ?_;rintro j v Z hj - hs;refine zh ?_;(repeat clear U K);repeat intro K U
  refine Jd hc hp.1 rfl ?_;refine zh ?_;(repeat clear U K);repeat intro K U
  refine Gf hj hcm.2.1 (fun s hsl hjlt=>?_) fun hj=>?_
  .refine zh ?_;(repeat clear U K);repeat intro K U
   refine WE hs 1 rfl ?_;refine zh ?_;(repeat clear U K);repeat intro K U
   have he:IntKind.i64.wrap (BL k+3)=(k:Int)+3:=by
    have:=hp.1;rw[Ag (by omega),wrap64 (by omega) (by simp only[Ae]at *;omega)]
   refine GY hs 2 (x:=IntKind.i64.wrap (BL k+3)) rfl (by have hM:=Mx;simp only[SB,Cj,List.length_replicate];omega) C0 fun v' Z' hs'=>?_
   conv=>whnf
   refine MJ hs' 1 rfl (Ic hs' 2 rfl) kZ fun Z2 hs2=>?_
   refine zh ?_;(repeat clear U K);repeat intro K U
   refine⟨hjlt,v',rfl,trivial,?_⟩;rw[List.replicate_succ',<-Ps];rw[he]at hs2;exact hs2
  .refine zh ?_;(repeat clear U K);repeat intro K U
   refine⟨hlt,v,rfl,trivial,?_⟩;rw[AU hc,JL];have:(p.AO.take k).length=k:=by simp;omega
   rw[this];simpa[BT,hj]using hs
 .refine zh ?_;(repeat clear U K);repeat intro K U
  refine WE hs 1 rfl ?_;refine zh ?_;(repeat clear U K);repeat intro K U
  refine Jo hs 0 rfl rfl rfl (by simp[Ic hs 2 rfl]) kZ fun Z2 hs2=>?_
  refine zh ?_;(repeat clear U K);repeat intro K U
  refine WE hs2 0 rfl ?_;refine zh ?_;(repeat clear U K);repeat intro K U
  refine BZ (.a (.cons (.refl _) (.cons ?_ .nil)));have:=hs2.HQ 2 rfl;rw[BC hk]at this;exact this
def jc (xs:List Int) (f:Bool) (x:Int) (hx:xs.length<=Ae):Pure zP 296 [.l (iL xs) f,.i .i64 x] (.b (xs.contains x)):=by
 refine wS kZ ?_;refine zh ?_;(repeat clear U K);repeat intro K U
 refine CZ xs.length (fun k (_:Unit)=>[(5,eI (BL k))]) (fun _ _=>[]) (fun k _=>x∉xs.take k) () rfl (by simp) Sat.nil ?_;rintro k - Z hk hn -;refine zh ?_;(repeat clear U K);repeat intro K U
 refine Gf hk hx (fun y hy hlt=>?_) fun hk=>?_
 .refine zh ?_;(repeat clear U K);repeat intro K U
  refine Jd hy hx rfl ?_;refine zh ?_;(repeat clear U K);repeat intro K U
  refine bo (fun he=>?_) (fun he=>?_)
  .refine zh ?_;(repeat clear U K);repeat intro K U
   refine AG ?_;have:x∈xs:=he ▸ CY hy;simp[this]
  .refine zh ?_;(repeat clear U K);repeat intro K U
   refine⟨hlt,(),rfl,?_,Sat.nil⟩;rw[AU hy];simp only[D9,Lp,not_or];exact⟨hn,fun e=>he e.symm⟩
 .refine zh ?_;(repeat clear U K);repeat intro K U
  refine AG ?_;rw[BC hk]at hn;simp[hn]
def RA (xs:List Int) (f:Bool) (x:Int) (hx:xs.length<=Ae):Pure zP 355 [.l (iL xs) f,.i .i64 x] (.l (iL (xs.filter (· != x))) false):=by
 refine vQ kZ ?_;refine zh ?_;(repeat clear U K);repeat intro K U
 refine CZ xs.length (fun k v=>[(5,v),(6,eI (BL k))]) (fun k v=>[.own v 1 (iL ((xs.take k).filter (· != x)))]) (fun _ _=>True) (.l [] true) rfl trivial (Gy Sat.nil 1) ?_;rintro k v Z hk - hs;refine zh ?_;(repeat clear U K);repeat intro K U
 refine Gf hk hx (fun y hy hlt=>?_) fun hk=>?_
 .refine zh ?_;(repeat clear U K);repeat intro K U
  refine Jd hy hx rfl ?_;refine zh ?_;(repeat clear U K);repeat intro K U
  refine qd (fun he=>?_) (fun he=>?_)
  .conv=>whnf
   repeat((first|clear U K|(apply zk;intro K U)|fail);conv=>whnf)
   refine Jd hy hx rfl ?_;refine zh ?_;(repeat clear U K);repeat intro K U
   refine GY hs 0 (x:=y) rfl (by have:=Pr (· != x) (xs.take k);simp only[Lq]at this;have hM:=Mx;omega) C0 fun v' Z' hs'=>?_
   refine zh ?_;(repeat clear U K);repeat intro K U
   refine⟨hlt,v',rfl,trivial,?_⟩;rw[AU hy,List.filter_append];simpa[he]using hs'
  .refine zh ?_;(repeat clear U K);repeat intro K U
   refine⟨hlt,v,rfl,trivial,?_⟩;rw[AU hy,List.filter_append];simpa[he]using hs
 .refine zh ?_;(repeat clear U K);repeat intro K U
  exact Gi hs 0 rfl (by rw[BC hk])
def free (ls:List (List Int)) (x:Int):Bool:=ls.all fun l=> !(l.drop 1).contains x
def qa (ls:List (List Int)) (f:Bool) (x:Int) (hl:ls.length<=Ae) (hls: ∀l∈ls,l.length<=Ae):Pure zP 356 [.l (En ls) f,.i .i64 x] (.b (free ls x)):=by
 refine vP kZ ?_;refine zh ?_;(repeat clear U K);repeat intro K U
 refine CZ ls.length (fun k (_:Unit)=>[(5,eI (BL k))]) (fun _ _=>[]) (fun k _=> ∀l∈ls.take k,x∉l.drop 1) () rfl (by simp) Sat.nil ?_;rintro k - Z hk hn -;refine zh ?_;(repeat clear U K);repeat intro K U
 refine Gf hk hl (fun y hy hlt=>?_) fun hk=>?_
 .have hb:=hls _ (CY hy)
  have next:(x∉y.drop 1)-> ∀l∈ls.take (k+1),x∉l.drop 1:=fun hc l hm=>by
   rw[AU hy]at hm;rcases D9.1 hm with hm|hm
   .exact hn l hm
   .rw[Lp.1 hm];exact hc
  refine zh ?_;(repeat clear U K);repeat intro K U
  refine Jd hy hl rfl ?_;refine zh ?_;(repeat clear U K);repeat intro K U
  refine⟨fun h=>?_,fun h=>?_⟩<;>(try rw[h])
  .have hp:=of_decide_eq_true h
   simp only[Ca]at hp;refine zh ?_;(repeat clear U K);repeat intro K U
   refine Jd hy hl rfl ?_;refine zh ?_;(repeat clear U K);repeat intro K U
   refine Wp 1 rfl (by omega) (fun _=>rfl) ?_;refine zh ?_;(repeat clear U K);repeat intro K U
   refine(jc _ _ _ (by rw[List.length_drop];omega)).use ?_;refine zh ?_;(repeat clear U K);repeat intro K U
   refine⟨fun hc=>?_,fun hc=>?_⟩
   .refine zh ?_;(repeat clear U K);repeat intro K U
    refine AG ?_
    have:free ls x=false:=by
     simp only[free,List.all_eq_false];exact⟨y,CY hy,by simpa using hc⟩
    rw[this]
   .refine zh ?_;(repeat clear U K);repeat intro K U
    exact⟨hlt,(),rfl,next (by simpa using hc),Sat.nil⟩
  .have hp: ¬_:=of_decide_eq_false h
   simp only[Ca]at hp;refine zh ?_;(repeat clear U K);repeat intro K U
   refine⟨hlt,(),rfl,next ?_,Sat.nil⟩;rw[List.drop_eq_nil_of_le (by omega)];simp
 .refine zh ?_;(repeat clear U K);repeat intro K U
  rw[BC hk]at hn;refine AG ?_;have:free ls x=true:=by simpa[free]using hn
  rw[this]
def A3 (ls:List (List Int)) (c:Int):List Int:=if c<3 then []else ls.getD (c - 3).toNat []
def ZT (ls:List (List Int)) (f:Bool) (c:Int) (hc:c<3+ls.length) (hm:ls.length<=Ae):Pure zP 354 [.l (En ls) f,.i .i64 c] (.l (iL (A3 ls c)) false):=by
 refine vR kZ ?_;refine zh ?_;(repeat clear U K);repeat intro K U
 refine fork (fun h=>?_) (fun h=>?_)
 .refine zh ?_;(repeat clear U K);repeat intro K U
  refine BZ (.l (fun h=>(by cases h)) ?_);rw[A3,if_pos h];exact .nil
 .refine zh ?_;(repeat clear U K);repeat intro K U
  simp only[Ae]at hm;have hlt:(c - 3).toNat<ls.length:=by omega
  refine Vw (c - 3).toNat (DC hlt) (by rw[wrap64 (by omega) (by omega)];omega) rfl ?_;refine zh ?_;(repeat clear U K);repeat intro K U
  refine AG ?_;rw[A3,if_neg h,C6,DC hlt];rfl
def EY (ls os:List (List Int)) (c:Int):Option (List (List Int)):=
 if(A3 ls c).any fun p=>(os.getD p.toNat []).isEmpty then none else some ((A3 ls c).map (fun p=>(os.getD p.toNat []).filter (· != 0))++[A3 ls c])
def AAd (o:Option (List (List Int))):V:=match o with|some l=> .t [.l (En l) false,.b true]|none=> .t [.l [] false,.b false]
def mH (ls os:List (List Int)) (f:Bool) (w:V) (c:Int) (hc:c<3+ls.length) (hm:ls.length<=Ae) (hos: ∀o∈os,o.length<=Ae) (hpl:(A3 ls c).length<1000000)
    (hp: ∀p∈A3 ls c,0<=p/\p.toNat<os.length):BS zP 331 [.l (En ls) f,w,.i .i64 c] [.own w 1 (En os)] fun r post=>r= .ret (AAd (EY ls os c))/\post= [.own w 1 (En os)]:=by
 have hM:=Mx;intro Z hs;refine vg kZ ?_
 conv=>whnf
 repeat((first|clear U K|apply st|(apply zk;intro K U)|fail);conv=>whnf)
 refine(ZT _ _ _ hc hm).use ?_;refine zh ?_;(repeat clear U K);repeat intro K U
 refine CZ (A3 ls c).length (fun k v=>[(8,v),(10,eI (BL k))]) (fun k v=>[.own w 1 (En os),.own v 1 (En (((A3 ls c).take k).map fun p=>(os.getD p.toNat []).filter (· != 0)))]) (fun k _=> ∀p∈(A3 ls c).take k,(os.getD p.toNat []).isEmpty=false)
  (.l [] true) rfl (by simp) (Gy hs 1) ?_
 rintro k v Z hk hne hs;refine zh ?_;(repeat clear U K);repeat intro K U
 refine Gf hk (by omega) (fun p hpk hlt=>?_) fun hk=>?_
 .obtain ⟨hp0,hp1⟩:=hp _ (CY hpk)
  have hq:=DC hp1
  have hgd:os.getD p.toNat []=os[p.toNat]:=by
   rw[C6,hq];rfl
  have hqm:(En os)[p.toNat]? =some [.l (iL os[p.toNat]) false]:=by rw[OR,hq];rfl
  refine zh ?_;(repeat clear U K);repeat intro K U
  refine Jd hpk (by omega) rfl ?_;refine zh ?_;(repeat clear U K);repeat intro K U
  refine gX hs 0 p.toNat rfl (by omega) (by simpa using hp1) ?_
  conv=>whnf
  refine Ip hs 0 rfl hqm ?_;refine zh ?_;(repeat clear U K);repeat intro K U
  refine bo (fun he=>?_) (fun he=>?_)
  .refine zh ?_;(repeat clear U K);repeat intro K U
   have hn:EY ls os c=none:=by
    simp only[EY];rw[if_pos];rw[Hn];refine⟨p,CY hpk,?_⟩;rw[hgd];have:(os[p.toNat]).length=0:=by simpa using he
    simp[YM.1 this]
   rw[hn];exact Aw (l':=[.own w 1 (En os)]) hs (by simp) (.t (.cons (.l (fun h=>(by cases h)) .nil) (.cons (.refl _) .nil))) fun Z' hs'=>⟨_,⟨rfl,rfl⟩,hs'⟩
  .refine zh ?_;(repeat clear U K);repeat intro K U
   refine Jd hpk (by omega) rfl ?_;refine zh ?_;(repeat clear U K);repeat intro K U
   refine gX hs 0 p.toNat rfl (by omega) (by simpa using hp1) ?_
   conv=>whnf
   refine Ip hs 0 rfl hqm ?_
   conv=>whnf
   refine(RA _ _ _ (hos _ (List.getElem_mem hp1))).use ?_
   conv=>whnf
   refine GY hs 1 (x:=os[p.toNat].filter (· != 0)) rfl (by have hM:=Mx;simp;omega) DP fun v' Z' hs'=>?_
   refine zh ?_;(repeat clear U K);repeat intro K U
   refine⟨hlt,v',rfl,fun q hm=>?_,?_⟩
   .rw [AU hpk]at hm
    rcases D9.1 hm with hm|hm
    .exact hne q hm
    .rw[Lp.1 hm,hgd]
     have:(os[p.toNat]).length≠0:=by
      intro e;exact he (by simp[e])
     cases hq:os[p.toNat]with
     | nil=>rw[hq]at this;exact absurd rfl this
     | cons _ _=>rfl
   .rw[AU hpk,VV,List.map_singleton,hgd]
    exact hs'
 .rw[BC hk]at hne hs
  refine zh ?_;(repeat clear U K);repeat intro K U
  refine GY hs 1 (x:=A3 ls c) rfl (by have hM:=Mx;simp;omega) DP fun v' Z' hs'=>?_
  refine zh ?_;(repeat clear U K);repeat intro K U
  have hn:EY ls os c=some ((A3 ls c).map (fun p=>(os.getD p.toNat []).filter (· != 0))++[A3 ls c]):=by
   simp only[EY];rw[if_neg];rw[Hn];rintro⟨p,h1,h2⟩;rw[hne p h1]at h2;cases h2
  rw[hn];obtain⟨Z2,h1,h2,h3⟩:=JC hs' 1 rfl;exact Is h1 (.t (.cons h2 (.cons (.refl _) .nil))) ⟨_,⟨rfl,rfl⟩,h3⟩
end Go.Gl
