import Derived.ChangeOld
import Derived.Below
import Derived.Carry
import Derived.ChangeArms
import Derived.Deep.Slices
import Derived.Test.YtcfkfhaedllcpaaGreatProg
import Derived.KernelRfl
import Derived.Test.YtcfkfhaedllcpaaGreatW12
set_option linter.all false
set_option linter.defProp false
set_option maxHeartbeats 8000000
noncomputable section
namespace Go.Gl
open Go.ChangeShapes Go.WideShapes Go.ChangeAt Go.RowKit
def je {w w':World} (h:Bu (fun _=>False) emp w emp w'):Below w.heap.size w w':=
 ⟨h.os,h.tape,h.output,h.size,fun k hk=>h.frame k hk rfl⟩
def rJ {w:World} {b o:Nat}:Hh (fun _=>False) emp w b o=w.cell? ⟨b,o,none⟩:=by
 unfold Hh;rw[if_neg (by simp[emp])]
def OF {α:Type} {Q:Nat->α->Prop}: ∀(len:Nat),(∀i,i<len-> ∃v,Q i v)-> ∃l:List α,l.length=len/\ ∀i v,l[i]? =some v->Q i v
 | 0,_=>⟨[],rfl,fun i v h=>by simp at h⟩
 | k + 1,h=>by
   obtain⟨l,hl,hl2⟩:=OF k fun i hi=>h i (by omega)
   obtain⟨u,hu⟩:=h k (by omega);refine⟨l++[u],by simp[hl],fun i v hv=>?_⟩;by_cases hi:i<l.length
   .rw[jq hi]at hv
    exact hl2 i v hv
   .rw[List.getElem?_append_right (by omega)]at hv
    have:i - l.length=0:=by
     have:=(IN.1 hv).1;simp at this;omega
    have hik:i=k:=by omega
    subst hik;rw[this]at hv;rw[<-Option.some.inj hv];exact hu
section
variable {H:Type} {enc:TypeId×Value->H} {P:Program} {W:World}
def jw {H:Type} (enc:TypeId×Value->H) (P:Program) (W:World) (n:Nat) (t:TypeId) {α:Type} (ea:α->List V):Prop:=
 ∀(cs:List Value) (d:DataW H) (ps:List MemPlace),DataW.trod enc P W 0 (fun _=>true) true n t cs=some (d,ps)->(∀x∈d.weights P t,x<=reachBytes)-> ∃a:α,cs.length=(ea a).length/\BT (Hh (fun _=>False) emp W) (fun i=>cs[i]?) 0 (ea a)
def W0 {H:Type} (enc:TypeId×Value->H) (P:Program) (W:World) (t:TypeId) {α:Type} (ea:α->List V):Prop:= ∀n,jw enc P W n t ea
def Ly {t:TypeId} {α:Type} {ea:α->List V}:jw enc P W 0 t ea:=fun cs d ps h=>by simp[DataW.trod]at h
def JW {n:Nat} {t:TypeId} {α β:Type} {ea:α->List V} {eb:β->List V} (h:jw enc P W n t ea) (g:α->β) (hg: ∀a,ea a=eb (g a)):jw enc P W n t eb:=fun cs d ps h1 h2=>by
 obtain⟨a,h3,h4⟩:=h cs d ps h1 h2;exact⟨g a,by rw[<-hg];exact h3,by rw[<-hg];exact h4⟩
def TM {t:TypeId} (ht:P.underlying t=some (.int .i64)):W0 enc P W t fun x:Int=>[V.i .i64 x]:=fun n cs d ps h _=>by
 obtain⟨k,rfl,-,hw⟩:=DataW.trod_int ht h;simp only[Lit.wf,BD,CN]at hw;refine⟨k,rfl,⟨_,rfl,?_⟩,trivial⟩;simp only[Ab]
 first
  | exact⟨rfl,hw⟩
  | exact⟨trivial,hw⟩
  | exact hw
def R4 {n:Nat} {t e:TypeId} {sz:Nat} {α:Type} {ea:α->List V} (ht:P.underlying t=some (.slice e)) (hc:P.cellsOf e=sz) (hsz:0<sz) (hb:8<=P.bytesOf e) (he: ∀a,(ea a).length=sz) (h:jw enc P W n e ea) :
    jw enc P W (n+1) t fun l:List α=>[V.l (l.map ea) false]:=by
 intro cs d ps htr hw;rcases DataW.trod_slice ht htr with⟨rfl,hx⟩|⟨a,len,cap,elems,rest,n',hn,rfl,hx,-,hl,hm,hlen,hel,-,-⟩
 .refine⟨[],rfl,⟨_,rfl,?_⟩,trivial⟩
  simp only[List.map_nil,Ab];exact⟨none,0,rfl,Io _,fun h=>(by cases h),Nat.zero_le _,fun _=>rfl,fun h=>absurd rfl h⟩
 .obtain rfl:n'=n:=by omega
  simp only[Prod.mk.injEq]at hx;obtain⟨rfl,-⟩:=hx;simp only[DataW.weights,ht,Fm,E4]at hw;have hwl:=hw _ (.inl rfl)
  have hwe: ∀(l:List (DataW H)) (D:DataW H),D∈l-> ∀x∈D.weights P e,x∈DataW.weightsAll P e l:=by
   intro l
   induction l with
   | nil=>intro D hD;cases hD
   | cons y r ih=>
     intro D hD x hx;simp only[DataW.weightsAll,E4];rcases Fm.1 hD with rfl|hD
     .exact .inl hx
     .exact .inr (ih D hD x hx)
  have hM:len<=AY:=by
   simp only[BU,hlen,reachBytes]at hwl;have h8:(len+rest.length)*8<=(len+rest.length)*P.bytesOf e:=Nat.mul_le_mul_left _ hb;unfold AY;omega
  have each: ∀i,i<len-> ∃v:α,∃cs',W.cells? 0 (a.add (i*sz)) sz=some cs'/\BT (Hh (fun _=>False) emp W) (fun j=>cs'[j]?) 0 (ea v):=fun i hi=>by
   have hi':=hel i hi;obtain⟨x,hx⟩: ∃x,elems[i]? =some x:=⟨_,Cy (by omega)⟩
   rw[hx,Option.bind_eq_some_iff,hc]at hi';obtain⟨cs',h1,h2⟩:=hi';obtain⟨v,-,h4⟩:=h cs' x.1 x.2 h2 fun y hy=>hw y (.inr (.inl (hwe _ x.1 (Mg.2 ⟨x,B1 hx,rfl⟩) y hy)))
   exact⟨v,cs',h1,h4⟩
  obtain⟨l,hll,hlc⟩:=OF len each;refine⟨l,rfl,⟨_,rfl,?_⟩,trivial⟩;simp only[Ab,BU];refine⟨some a,cap,by rw[hll],by omega,fun h=>(by cases h),Lg (by omega),fun h=>(by cases h),fun hne=>?_⟩;obtain⟨b,o,spot⟩:=a
  have h0:0<l.length:=by
   rcases l with _|⟨v,r⟩
   .exact absurd rfl hne
   .simp
  have hspot:spot=none:=by
   obtain⟨cs',h1,-⟩:=hlc 0 l[0] (Cy h0);obtain⟨-,h3,h4⟩:=World.cells?_some h1;have h5:=h4 0 hsz;rw[Cy (by omega)]at h5;have:=World.cell?_spot h5;simpa[Addr.add]using this
  subst hspot
  have hcell: ∀i v,l[i]? =some v-> ∀k u,(ea v)[k]? =some u-> ∃c,W.cell? ⟨b,o+i*sz+k,none⟩=some c/\Ab (Hh (fun _=>False) emp W) u c:=fun i v hv k u hu=>by
   obtain⟨cs',h1,h2⟩:=hlc i v hv;obtain⟨-,h3,h4⟩:=World.cells?_some h1;have hk:k<sz:=by rw[<-he v];exact(IN.1 hu).1
   obtain⟨c,hc',hr⟩:=BW.1 h2 k u hu;have h5:=h4 k hk;simp only[Gj]at hc';rw[add_plain,add_plain]at h5;exact⟨c,by rw[<-hc',<-h5],hr⟩
  refine⟨b,o,sz,rfl,BE.2 fun j e hj=>?_⟩;rw[Md]at hj;obtain⟨v,hv,rfl⟩:=Option.map_eq_some_iff.1 hj;refine⟨he v,BW.2 fun k u hu=>?_⟩;obtain⟨c,h1,h2⟩:=hcell j v hv k u hu;exact⟨c,by rw[rJ];exact h1,h2⟩
def JF {t e:TypeId} {sz:Nat} {α:Type} {ea:α->List V} (ht:P.underlying t=some (.slice e)) (hc:P.cellsOf e=sz) (hsz:0<sz) (hb:8<=P.bytesOf e) (he: ∀a,(ea a).length=sz) (h:W0 enc P W e ea) :
    W0 enc P W t fun l:List α=>[V.l (l.map ea) false]
 | 0=>Ly
 | n+1=>R4 ht hc hsz hb he (h n)
def wB {H:Type} (enc:TypeId×Value->H) (P:Program) (W:World) (n:Nat) (fs:List Field) (o:Nat) {α:Type} (ea:α->List V):Prop:=
 ∀ (cs:List Value) (xs:List (DataW H×List MemPlace)),xs.length=fs.length->(∀(i:Nat) (f:Field),fs[i]? =some f->DataW.trod enc P W 0 (fun _=>true) true n (Field.type f) ((cs.drop (Field.offset f)).take (P.cellsOf (Field.type f)))=xs[i]?)->
   (∀x∈DataW.weightsEach P (fs.map fun f:Field=>f.type) (xs.map (·.1)),x<=reachBytes)-> ∃a:α,BT (Hh (fun _=>False) emp W) (fun i=>cs[i]?) o (ea a)
def JX {n o:Nat}:wB enc P W n [] o fun _:Unit=>([]:List V):=fun _ _ _ _ _=>⟨(),trivial⟩
def Ba {n o c:Nat} {f:Field} {fs:List Field} {α β:Type} {ea:α->List V} {eb:β->List V} (hf:f.offset=o) (hc:P.cellsOf f.type=c) (he: ∀a,(ea a).length=c) (h1:jw enc P W n f.type ea) (h2:wB enc P W n fs (o+c) eb) :
    wB enc P W n (f::fs) o fun p:α×β=>ea p.1++eb p.2:=by
 intro cs xs hl hx hw
 match xs,hl with
 | x ::r,hl=>
   have hx0:=hx 0 f rfl;simp only[nr]at hx0;simp only[Ex,DataW.weightsEach,E4]at hw;obtain⟨a,ha1,ha2⟩:=h1 _ x.1 x.2 hx0 fun y hy=>hw y (.inl hy)
   obtain⟨b,hb⟩:=h2 cs r (by simpa using hl) (fun i g hg=>by
    have:=hx (i+1) g (by simpa using hg)
    simpa using this) fun y hy=>hw y (.inr hy)
   refine⟨(a,b),N1 (BW.2 fun k u hu=>?_) (by rw[he];exact hb)⟩;obtain⟨cc,h3,h4⟩:=BW.1 ha2 k u hu;have hk:k<c:=by rw[<-he a];exact(IN.1 hu).1
   refine⟨cc,?_,h4⟩;rw[hf,hc,Gj,List.getElem?_take,if_pos hk,vS]at h3;exact h3
def QE {n:Nat} {t:TypeId} {fs:List Field} {α:Type} {ea:α->List V} (ht:P.underlying t=some (.struct fs.toArray)) (h:wB enc P W n fs 0 ea) (hl: ∀a,(ea a).length=P.cellsOf t):jw enc P W (n+1) t ea:=by
 intro cs d ps htr hw;obtain⟨xs,k,hk,hx,hcl,hxl,hf⟩:=DataW.trod_struct ht htr;obtain rfl:k=n:=by omega
 simp only[Prod.mk.injEq]at hx;obtain⟨rfl,-⟩:=hx;simp only[DataW.weights,ht]at hw;obtain⟨a,ha⟩:=h cs xs (by rw[hxl];simp) (fun i f hfi=>hf i f (by simpa using hfi)) (by simpa using hw);exact⟨a,by rw[hcl,hl],ha⟩
def Ha {t:TypeId} {fs:List Field} {α:Type} {ea:α->List V} (ht:P.underlying t=some (.struct fs.toArray)) (h: ∀n,wB enc P W n fs 0 ea) (hl: ∀a,(ea a).length=P.cellsOf t):W0 enc P W t ea
 | 0=>Ly
 | n+1=>QE ht (h n) hl
end
end Go.Gl
namespace Go.Gl
open Go.Proofs
section
variable {H:Type} {enc:TypeId×Value->H} {W:World}
def b8 {n:Nat} (h:Nat.ble 8 n=true):8<=n:=Nat.le_of_ble_eq_true h
def O1:W0 enc Tryz.prog W 3 fun x:Int=>[V.i .i64 x]:=TM Tryz.underlying3
def Ra:W0 enc Tryz.prog W 23 fun l:List Int=>[V.l (iL l) false]:=JF Tryz.underlying23 (by kernel_rfl) (by decide) (b8 (by kernel_rfl)) (fun _=>rfl) O1
def qR:W0 enc Tryz.prog W 156 fun p:Int×Int=>[eI p.1,eI p.2]:=fun n=>
 JW (Ha Tryz.underlying156
  (fun n=>Ba (c:=1) rfl (by kernel_rfl) (fun _=>rfl) (O1 n) (Ba (c:=1) rfl (by kernel_rfl) (fun _=>rfl) (O1 n) JX)) (fun _=>(show _=2 from rfl).trans (by kernel_rfl)) n) (fun x=>(x.1,x.2.1)) fun _=>rfl
def lP:W0 enc Tryz.prog W 157 fun l:List (Int×Int)=>[V.l (l.map fun p=>[eI p.1,eI p.2]) false]:=JF (sz:=2) Tryz.underlying157 (by kernel_rfl) (by decide) (b8 (by kernel_rfl)) (fun _=>rfl) qR
def wj:W0 enc Tryz.prog W 159 Q6:=fun n=>
 JW (Ha Tryz.underlying159
  (fun n=>Ba (c:=1) rfl (by kernel_rfl) (fun _=>rfl) (Ra n) (Ba (c:=1) rfl (by kernel_rfl) (fun _=>rfl) (Ra n)
   (Ba (c:=1) rfl (by kernel_rfl) (fun _=>rfl) (lP n) JX))) (fun _=>(show _=3 from rfl).trans (by kernel_rfl)) n) (fun x=>⟨x.1,x.2.1,x.2.2.1⟩) fun _=>rfl
def qP:W0 enc Tryz.prog W 154 Ig:=fun n=>
 JW (Ha Tryz.underlying154
  (fun n=>Ba (c:=1) rfl (by kernel_rfl) (fun _=>rfl) (TM Tryz.underlying152 n) (Ba (c:=1) rfl (by kernel_rfl) (fun _=>rfl) (O1 n)
   (Ba (c:=1) rfl (by kernel_rfl) (fun _=>rfl) (Ra n) JX))) (fun _=>(show _=3 from rfl).trans (by kernel_rfl)) n) (fun x=>⟨x.1,x.2.1,x.2.2.1⟩) fun _=>rfl
def lN:W0 enc Tryz.prog W 25 fun l:List Node=>[V.l (l.map Ig) false]:=JF (sz:=3) Tryz.underlying25 (by kernel_rfl) (by decide) (b8 (by kernel_rfl)) (fun _=>rfl) qP
def qU:W0 enc Tryz.prog W 22 fun l:List Qz=>[V.l (l.map Q6) false]:=JF (sz:=3) Tryz.underlying22 (by kernel_rfl) (by decide) (b8 (by kernel_rfl)) (fun _=>rfl) wj
def Nc (f:Fact):(GB f).length=6:=by rw[BV];rfl
def ZL: ∀n,jw enc Tryz.prog W n 105 GB/\jw enc Tryz.prog W n 103 fun l:List Fact=>[V.l (facts l) false]
 | 0=>⟨Ly,Ly⟩
 | n + 1 =>by
   obtain⟨h1,h2⟩:=ZL n;refine⟨?_,R4 Tryz.underlying103 (by kernel_rfl) (by decide) (b8 (by kernel_rfl)) Nc h1⟩
   exact JW (QE Tryz.underlying105
    (Ba (c:=1) rfl (by kernel_rfl) (fun _=>rfl) (TM Tryz.underlying102 n) (Ba (c:=1) rfl (by kernel_rfl) (fun _=>rfl) (O1 n)
     (Ba (c:=1) rfl (by kernel_rfl) (fun _=>rfl) (Ra n) (Ba (c:=1) rfl (by kernel_rfl) (fun _=>rfl) (O1 n)
      (Ba (c:=1) rfl (by kernel_rfl) (fun _=>rfl) (O1 n) (Ba (c:=1) rfl (by kernel_rfl) (fun _=>rfl) h2 JX)))))) (fun _=>(show _=6 from rfl).trans (by kernel_rfl)))
    (fun x=>Fact.mk x.1 x.2.1 x.2.2.1 x.2.2.2.1 x.2.2.2.2.1 x.2.2.2.2.2.1) fun x=>by rw[BV];rfl
def qS:W0 enc Tryz.prog W 105 GB:=fun n=>(ZL n).1
def qQ:W0 enc Tryz.prog W 107 Y0:=fun n=>
 JW (Ha Tryz.underlying107
  (fun n=>Ba (c:=1) rfl (by kernel_rfl) (fun _=>rfl) (TM Tryz.underlying101 n) (Ba (c:=1) rfl (by kernel_rfl) (fun _=>rfl) (O1 n)
   (Ba (c:=6) rfl (by kernel_rfl) Nc (qS n) (Ba (c:=1) rfl (by kernel_rfl) (fun _=>rfl) (O1 n) JX)))) (fun x=>(show _=9 from by simp only[RQ,Nc];rfl).trans (by kernel_rfl)) n) (fun x=>⟨x.1,x.2.1,x.2.2.1,x.2.2.2.1⟩) fun x=>by rw[BV];rfl
def lO:W0 enc Tryz.prog W 24 fun l:List OT=>[V.l (l.map Y0) false]:=JF (sz:=9) Tryz.underlying24 (by kernel_rfl) (by decide) (b8 (by kernel_rfl)) (fun _=>rfl) qQ
def qO : W0 enc Tryz.prog W 27 A9:=fun n=>
 JW (Ha Tryz.underlying27
  (fun n=>Ba (c:=1) rfl (by kernel_rfl) (fun _=>rfl) (qU n)
   (Ba (c:=1) rfl (by kernel_rfl) (fun _=>rfl) (O1 n) (Ba (c:=1) rfl (by kernel_rfl) (fun _=>rfl) (Ra n)
    (Ba (c:=1) rfl (by kernel_rfl) (fun _=>rfl) (lO n)
     (Ba (c:=1) rfl (by kernel_rfl) (fun _=>rfl) (lN n)
      (Ba (c:=1) rfl (by kernel_rfl) (fun _=>rfl) (O1 n) JX)))))) (fun _=>(show _=6 from rfl).trans (by kernel_rfl)) n) (fun x=>⟨x.1,x.2.1,x.2.2.1,x.2.2.2.1,x.2.2.2.2.1,x.2.2.2.2.2.1⟩) fun _=>rfl
end
end Go.Gl
namespace Go.Gl
variable {P:Program} {Z Z':AE}
mutual
def E0:V->Prop
 | .i k n=>k.min<=n/\n<=k.max
 | .rp cs=>Hn cs
 | .l es _=>es.length<=Iy es/\Ur es
 | .f _ a b=>Hn a/\Hn b
 | .Ey _ v=>E0 v
 | .a cs=>Hn cs
 | .t vs=>Hn vs
 | _=>True
def Hn:List V->Prop
 | []=>True
 | v::r=>E0 v/\Hn r
def Ur:List (List V)->Prop
 | []=>True
 | e::r=>Hn e/\Ur r
end
mutual
def oq {H:Nat->Nat->Option Value}: ∀(v:V) (c:Value),Ab H v c->E0 v
 | .b _,_,_| .s _,_,_| .pn,_,_| .p _ _,_,_| .sl _ _ _,_,_| .sv _ _ _ _,_,_| .pe _ _ _ _,_,_| .m _,_,_| .mn,_,_| .LN,_,_| .DZ,_,_| .any,_,_=>by simp only[E0]
 | .i k n,_,h=>by
   simp only[Ab]at h;simp only[E0];exact h.2
 | .rp cs,_,h=>by
   simp only[Ab]at h;obtain⟨b,o,rfl,h⟩:=h;simp only[E0];exact JC cs o h
 | .l es full,_,h=>by
   simp only[Ab]at h;obtain⟨a,cap,h1,h2,h3,h4,h5,h6⟩:=h;simp only[E0];refine⟨h4,?_⟩;cases es with
   | nil=>exact trivial
   | cons e es=>
     obtain⟨b,o,sz,h7,h8⟩:=h6 (by simp);exact fh (e::es) o h8
 | .f fn first cap,_,h=>by
   simp only[Ab]at h;obtain⟨f',c',h1,h2,h3,h4,h5⟩:=h;simp only[E0];exact⟨JC first 0 h3,JC cap 0 h5⟩
 | .Ey t v,_,h=>by
   simp only[Ab]at h;obtain⟨c',h1,h2⟩:=h;simp only[E0];exact oq v c' h2
 | .a cs,_,h=>by
   simp only[Ab]at h;obtain⟨c',h1,h2,h3⟩:=h;simp only[E0];exact JC cs 0 h3
 | .t cs,_,h=>by
   simp only[Ab]at h;obtain⟨c',h1,h2,h3⟩:=h;simp only[E0];exact JC cs 0 h3
def JC {H:Nat->Nat->Option Value} {g:Nat->Option Value}: ∀(vs:List V) (o:Nat),BT H g o vs->Hn vs
 | [],_,_=>trivial
 | v::vs,o,h=>by
   simp only[BT]at h;obtain⟨⟨c,h1,h2⟩,h3⟩:=h;exact⟨oq v c h2,JC vs (o+1) h3⟩
def fh {H:Nat->Nat->Option Value} {g:Nat->Option Value} {sz:Nat}: ∀(es:List (List V)) (o:Nat),BH H g sz o es->Ur es
 | [],_,_=>trivial
 | e::es,o,h=>by
   simp only[BH]at h;obtain⟨h1,h2,h3⟩:=h;exact⟨JC e o h2,fh es (o+sz) h3⟩
end
def A3.fit {f:FuncId} {args:List V} {Q:R->AE->Prop} (hok:okF P f=true) (h:Hn args->A3 P f args Z Q):A3 P f args Z Q:=
 ⟨hok,fun F w cs hR hv=>(h (JC args 0 hv.2)).2 F w cs hR hv⟩
def Pure.fit {f:FuncId} {args:List V} {v:V} (hok:okF P f=true) (h:Hn args->Pure P f args v):Pure P f args v:=A3.fit hok h
def Bc.fit {f:FuncId} {args:List V} {pre:List At} {Φ:R->List At->Prop} (hok:okF P f=true) (h:Hn args->Bc P f args pre Φ):Bc P f args pre Φ:=fun Z hs=>A3.fit hok fun hf=>h hf Z hs
def jB {es:List (List V)}:Ur es↔ ∀e∈es,Hn e:=by
 induction es with
 | nil=>simp[Ur]
 | cons e r ih=>simp[Ur,ih]
def JH {α:Type} {enc:α->List V} {xs:List α}:Ur (xs.map enc)↔ ∀x∈xs,Hn (enc x):=by
 rw[jB];simp
def Gx {α:Type} {enc:α->List V} [hn:RC enc] {xs:List α} {f:Bool}:E0 (.l (xs.map enc) f)↔(xs.map enc).length<=AY/\Ur (xs.map enc):=
 ⟨fun⟨h1,h2⟩=>⟨by rw[BU];exact ib hn.h h1,h2⟩,fun⟨h1,h2⟩=>⟨Lg h1,h2⟩⟩
def Gy {cs:List V}:E0 (.a cs)↔Hn cs:=Iff.rfl
def T9 {cs:List V}:E0 (.rp cs)↔Hn cs:=Iff.rfl
def DQ {v:V} {r:List V}:Hn (v::r)↔E0 v/\Hn r:=Iff.rfl
def drop_cons {α:Type} {xs:List α} {k:Nat} {x:α} (h:xs[k]? =some x):xs.drop k=x::xs.drop (k+1):=by
 obtain⟨hk,rfl⟩:=IN.1 h;exact List.drop_eq_getElem_cons hk
def Ao {α:Type} {xs:List α} {k:Nat} (h:k=xs.length):xs.drop k= []:=List.drop_of_length_le (by omega)
end Go.Gl
namespace Go.Gl
variable {P:Program} {Z:AE} {env:Env}
class Oy (G:Prop) (G':outParam Prop):Prop where
 h:G'->G
def st {G G':Prop} [i:Oy G G'] (h:G'):G:=i.h h
def sq {l:List Nat} {a b:AV} {Q:Aa->Env->AE->Prop} (h: ∀K:Env->AE->Prop,(∀env Z,(pk l env fun E=>W P b Q E Z)->K env Z)->W P a (Aa.andThen K Q) env Z):W P (.seq l a b) Q env Z:=Dj h
class yR (G:Prop) (G':outParam Prop):Prop where
 h:G'->G
def si {G G':Prop} [i:yR G G'] (h:G'):G:=i.h h
instance {ops:List Am} {Q:Aa->Env->AE->Prop}:yR (W P (.B5 ops) Q env Z) (∀(KR:Env->AE->Prop) (KP:Env->V->AE->Prop),(∀env Z,Q .normal env Z->KR env Z)->(∀env v Z,Q (.Bb v) env Z->KP env v Z)->WT P ops KR KP env Z):=⟨Ca⟩
instance {l:List Nat} {ops:List Cd} {Q:Aa->Env->AE->Prop}:yR (W P (.EG l ops) Q env Z) (∀(KR:Env->AE->Prop) (KP:V->AE->Prop),(∀env Z,(pk l env fun E=>Q .normal E Z)->KR env Z)->(∀v Z,(∀Z',Sub Z Z'->Q (.Bb v) [] Z')->KP v Z)->WD P ops KR KP env Z):=⟨H6⟩
instance {c:Bf} {a b:AV} {Q:Aa->Env->AE->Prop}:Oy (W P (.cond c a b) Q env Z) (match ev env c with
 | some (.b t)=>(t=true->W P a Q env Z)/\(t=false->W P b Q env Z)
 | _=>False):=⟨EE⟩
instance {id:Nat} {a:AV} {Q:Aa->Env->AE->Prop}:Oy (W P (.block id a) Q env Z) (W P a (Aa.inBlock id Q) env Z):=⟨Dm⟩
instance {l:List Nat} {a:AV} {Q:Aa->Env->AE->Prop}:Oy (W P (.loop l a) Q env Z) (pk l env fun E=>Ah l a (W P a) Q E Z):=⟨Fs⟩
instance {id:Nat} {Q:Aa->Env->AE->Prop}:Oy (W P (.exit id) Q env Z) (Q (.exit id) env Z):=⟨Ft⟩
instance {Q:Aa->Env->AE->Prop}:Oy (W P .ret Q env Z) (Q .ret env Z):=⟨Km⟩
instance {Q:Aa->Env->AE->Prop}:Oy (W P .skip Q env Z) (Q .normal env Z):=⟨Es⟩
instance {a:AV} {Q:Aa->Env->AE->Prop}:Oy (W P (.scope a) Q env Z) (W P a Q env Z):=⟨HW⟩
instance {l:List Nat} {g:Bf} {ps:List Nat} {a b:AV} {Q:Aa->Env->AE->Prop}:Oy (W P (.Dg l g ps a b) Q env Z) (match ev env g with
 | some (.f (.func gf) [] cap)=>pk l env fun E=> ∀L,Z L=none->A3 P gf (.f (.yield L) [] []::cap) (Bd Z L (.loop .ready E (Bt P ps a b))) (Ko L Q env)
 | _=>False):=⟨HX⟩
instance {A B:Prop}:Oy ((true=true->A)/\(true=false->B)) A:=⟨Kk⟩
instance {A B:Prop}:Oy ((false=true->A)/\(false=false->B)) B:=⟨Kl⟩
instance {A B:Prop}:Oy ((false=false->A)/\(false=true->B)) A:=⟨Ji⟩
instance {A B:Prop}:Oy ((true=false->A)/\(true=true->B)) B:=⟨Jh⟩
instance {A B:Prop} {b:Bool}:Oy ((b=true->A)/\(b= !true->B)) ((b=true->A)/\(b=false->B)):=⟨id⟩
instance {A B:Prop} {b:Bool}:Oy ((b=false->A)/\(b= !false->B)) ((b=false->A)/\(b=true->B)):=⟨id⟩
instance {agg:Option Nat} {cs:List V} {K:V->Prop}:Oy (AX Z agg (.rp cs) K) (cut agg cs 0 K):=⟨fun h=>h⟩
instance {es:List (List V)} {f:Bool} {K:V->Prop}:Oy (A4 (.l es f) K) (K (.i .i64 es.length)):=⟨J6⟩
def kc {K A:Env->AE->Prop} (h:A env Z) (hk: ∀env Z,A env Z->K env Z:=by assumption):K env Z:=hk _ _ h
def kp {K A:Env->V->AE->Prop} {v:V} (h:A env v Z) (hk: ∀env v Z,A env v Z->K env v Z:=by assumption):K env v Z:=hk _ _ _ h
def rk {x:Am} {r:List Am} {A:Prop} (h1:HL P x env Z) (h2:D5 P r env Z/\A):D5 P (x::r) env Z/\A:=⟨⟨h1,h2.1⟩,h2.2⟩
def dr {A:Prop} (h:A):D5 P [] env Z/\A:=⟨trivial,h⟩
class BP (b v:Bool) (p:outParam Prop):Prop where
 h:b=v->p
def bp {b v:Bool} {p:Prop} [i:BP b v p] (h:b=v):p:=i.h h
instance (priority:=low) {b v:Bool}:BP b v (b=v):=⟨id⟩
instance (priority:=mid) {p:Prop} [Decidable p]:BP (decide p) true p:=⟨of_decide_eq_true⟩
instance (priority:=mid) {p:Prop} [Decidable p]:BP (decide p) false (¬p):=⟨of_decide_eq_false⟩
instance {a b:Int}:BP (decide (a<b)) false (b<=a):=⟨fun h=>Int.not_lt.1 (of_decide_eq_false h)⟩
instance {a b:Int}:BP (decide (a<=b)) false (b<a):=⟨fun h=>Int.not_le.1 (of_decide_eq_false h)⟩
instance {a b:Int}:BP (a==b) true (a=b):=⟨fun h=>by simpa using h⟩
instance {a b:Int}:BP (a==b) false (a≠b):=⟨fun h=>by simpa using h⟩
instance {a b:Int}:BP (a != b) true (a≠b):=⟨fun h=>by simpa using h⟩
instance {a b:Int}:BP (a != b) false (a=b):=⟨fun h=>by simpa using h⟩
instance {b:Bool} {p:Prop} [i:BP b false p]:BP (!b) true p:=⟨fun h=>i.h (by simpa using h)⟩
instance {b:Bool} {p:Prop} [i:BP b true p]:BP (!b) false p:=⟨fun h=>i.h (by simpa using h)⟩
instance {b x v:Bool} {p:Prop} [i:BP b v p]:BP (bif false then x else b) v p:=⟨i.h⟩
instance {b x v:Bool} {p:Prop} [i:BP b v p]:BP (bif true then b else x) v p:=⟨i.h⟩
def fc {α:Type} {enc:α->List V} {xs:List α} {k:Nat} {A B:Prop} (h1: ∀x,xs[k]? =some x->k<xs.length->decide (A8 k<((xs.map enc).length:Nat))=true->A) (h2:k=xs.length->decide (A8 k<((xs.map enc).length:Nat))=false->B) (hk:k<=xs.length:=by assumption) (hm:xs.length<=AY:=by first|assumption|omega|simp[AY]<;>omega) :
    (decide (A8 k<((xs.map enc).length:Nat))=true->A)/\(decide (A8 k<((xs.map enc).length:Nat))=false->B):=
 ⟨fun h=>(GD (enc:=enc) (A:=A) (B:=True) hk hm (fun x hx hlt=>h1 x hx hlt h) fun _=>trivial).1 h,fun h=>(GD (enc:=enc) (A:=True) (B:=B) hk hm (fun _ _ _=>trivial) fun he=>h2 he h).2 h⟩
def ix {α:Type} {enc:α->List V} {xs:List α} {f:Bool} {sz:Nat} {K:V->Prop} {ki:IntKind} {k:Nat} {x:α} (h:K (.rp (enc x))) (hx:xs[k]? =some x:=by assumption) (hm:xs.length<=AY:=by first|assumption|omega|simp[AY]<;>omega) (hs:(enc x).length=sz:=by first|rfl|simp) :
    AR sz none (.l (xs.map enc) f) (.i ki (A8 k)) K:=I2 hx hm hs h
def iq {α:Type} {enc:α->List V} {xs:List α} {f:Bool} {sz:Nat} {K:V->Prop} {ki:IntKind} {j:Int} (h: ∀x,xs[j.toNat]? =some x->K (.rp (enc x))) (h0:0<=j:=by omega) (h1:j<xs.length:=by omega) (hs: ∀x,(enc x).length=sz:=by intro x;first|rfl|simp|(rw[BV];rfl)) :
    AR sz none (.l (xs.map enc) f) (.i ki j) K:=by
 have hlt:j.toNat<xs.length:=by omega
 exact Uy j.toNat (Cy hlt) (by omega) (hs _) (h _ (Cy hlt))
def xp {α:Type} {enc:α->List V} {xs:List α} {f:Bool} {sz:Nat} {ki:IntKind} {k:Nat} {K:V->AE->Prop} (h:K (.l ((xs.take k).map enc) (f&&decide ((k:Int)=((xs.map enc).length:Nat)))) Z) (hl:k<=xs.length:=by first|assumption|omega) (hm:xs.length<=AY:=by first|assumption|omega) (hs: ∀x,(enc x).length=sz:=by intro x;first|rfl|simp|(rw[BV];rfl)) :
    AQ Z sz (.l (xs.map enc) f) none (some (.i ki (A8 k))) none K:=by
 rw[AO (by omega)];refine⟨fun e he=>?_,?_⟩
 .obtain⟨x,_,rfl⟩:=Mg.1 he
  exact hs x
 .simp only[OL,BU]
  refine⟨by omega,by omega,by omega,?_⟩;rw[JP];simpa[List.map_take]using h
def xz {xs:List Fact} {f:Bool} {K:V->Prop} {ki:IntKind} {k:Nat} {x:Fact} (h:K (.rp (xF x))) (hx:xs[k]? =some x:=by assumption) (hm:xs.length<=AY:=by first|assumption|omega):AR 6 none (.l (xs.map GB) f) (.i ki (A8 k)) K:=by
 refine I2 hx hm (by rw[BV];rfl) ?_;rw[BV];exact h
def Qy {a0:At} {l:List At}:(a0::l)[0]? =some a0:=rfl
def Qx {a0 a1:At} {l:List At}:(a0::a1::l)[1]? =some a1:=rfl
def Qw {a0 a1 a2:At} {l:List At}:(a0::a1::a2::l)[2]? =some a2:=rfl
def Qv {a0 a1 a2 a3:At} {l:List At}:(a0::a1::a2::a3::l)[3]? =some a3:=rfl
def Qu {a0 a1 a2 a3 a4:At} {l:List At}:(a0::a1::a2::a3::a4::l)[4]? =some a4:=rfl
def Qt {a0 a1 a2 a3 a4 a5:At} {l:List At}:(a0::a1::a2::a3::a4::a5::l)[5]? =some a5:=rfl
def ld {l:List At} {i n off:Nat} {agg:Option Nat} {vs:List V} {K:V->Prop} (hk:cut agg vs off K) (h:Sat Z l:=by assumption)
    (hi:l[i]? =some (.box n vs):=by first|exact Qy|exact Qx|exact Qw|exact Qv|exact Qu|exact Qt):AX Z agg (.p n off) K:=U6 h i hi hk
def s1 {l:List At} {i n off:Nat} {vs:List V} {x:V} {K:AE->Prop} (hk: ∀Z',Sat Z' (l.set i (.box n (vs.set off x)))->K Z') (h:Sat Z l:=by assumption)
    (hi:l[i]? =some (.box n vs):=by first|exact Qy|exact Qx|exact Qw|exact Qv|exact Qu|exact Qt)
    (h1:CC x=true:=by first|rfl|exact Gq (by assumption) 0 rfl|exact Gq (by assumption) 1 rfl|exact Gq (by assumption) 2 rfl|exact Gq (by assumption) 3 rfl|simp) (ho:off+1<=vs.length:=by exact Nat.le_of_ble_eq_true rfl):AT Z 1 (.p n off) x K:=
 Lh h i hi h1 ho hk
def sn {l:List At} {i n off sz:Nat} {vs vc:List V} {x:V} {K:AE->Prop} (hk: ∀Z',Sat Z' (l.set i (.box n (putAt vs off vc)))->K Z') (h:Sat Z l:=by assumption)
    (hi:l[i]? =some (.box n vs):=by first|exact Qy|exact Qx|exact Qw|exact Qv|exact Qu|exact Qt)
    (hc:cellsOf x=some vc:=by rfl) (hl:vc.length=sz:=by rfl) (h1:vc.all CC=true:=by first|rfl|simp) (ho:off+sz<=vs.length:=by exact Nat.le_of_ble_eq_true rfl):AT Z sz (.p n off) x K:=
 Hv h i hi hc hl h1 ho hk
def Ke:Em (fun f:Fact=>GB f) 6:=fun f=>by
 simp only[BV];refine⟨rfl,fun v hv=>?_⟩;simp only[Fm,List.not_mem_nil,or_false]at hv;rcases hv with rfl|rfl|rfl|rfl|rfl|rfl<;>rfl
def Li:Em (fun l:List Fact=>[V.l (facts l) false]) 1:=fun x=>⟨rfl,fun v hv=>by simp at hv;subst hv;rfl⟩
def af {α:Type} {enc:α->List V} {sz:Nat} {ys:List α} {g:Bool} {K:V->Prop} (hk:K (.l (ys.map enc) false)) (hg:Em enc sz:=by first|exact BZ|exact C3|exact On|exact Ke|exact Li) {b:Nat} (hl:ys.length<=AY/\ys.length*b<=140737488355328:=by first|assumption|omega) :
    Ad b Z sz (.l [] true) (.l (ys.map enc) g) K:=ff hg hl hk
def al {l:List At} {o:O} {n:Nat} {K:Prop} {Z':AE} (e:Bd Z n o=Z') (hk:Sat Z' (l++[.obj n o])->K) (hn:Z n=none:=by assumption) (h:Sat Z l:=by assumption):K:=hk (e ▸ dw h hn)
def oi {l:List At} {i:Nat} {v:V} {sz:Nat} {es:List (List V)} {ki:IntKind} {j:Int} {K:V->Prop} (hk:K (FA v sz j.toNat)) (h:Sat Z l:=by assumption)
    (hi:l[i]? =some (.own v sz es):=by first|exact Qy|exact Qx|exact Qw|exact Qv|exact Qu|exact Qt) (h0:0<=j:=by omega) (h1:j<es.length:=by first|omega|(simp only[BU]at *;omega)):AR sz none v (.i ki j) K:=
 dd h i j.toNat hi (by omega) (by omega) hk
def oc {l:List At} {i:Nat} {v:V} {sz k:Nat} {es:List (List V)} {ki:IntKind} {K:V->Prop} (hk:K (FA v sz k)) (h:Sat Z l:=by assumption)
    (hi:l[i]? =some (.own v sz es):=by first|exact Qy|exact Qx|exact Qw|exact Qv|exact Qu|exact Qt) (h1:k<es.length:=by first|omega|(simp only[BU]at *;omega)) (hm:k<=AY:=by first|omega|(simp only[AY];omega)):AR sz none v (.i ki (A8 k)) K:=
 dd h i k hi (AO (by omega)) h1 hk
def ol {α:Type} {enc:α->List V} {xs:List α} {l:List At} {i:Nat} {v:V} {sz k:Nat} {agg:Option Nat} {K:V->Prop} (hk: ∀x,xs[k]? =some x->cut agg (enc x) 0 K) (h:Sat Z l:=by assumption)
    (hi:l[i]? =some (.own v sz (xs.map enc)):=by first|exact Qy|exact Qx|exact Qw|exact Qv|exact Qu|exact Qt) (h1:k<xs.length:=by first|omega|(simp only[BU]at *;omega)):AX Z agg (FA v sz k) K:=
 H0 h i hi (by rw[Md,Cy h1];rfl) (hk _ (Cy h1))
def oset {α:Type} {enc:α->List V} {xs:List α} {y:α} {l:List At} {i:Nat} {v x:V} {sz k:Nat} {vc:List V} {K:AE->Prop} (hk: ∀Z',Sat Z' (l.set i (.own v sz ((xs.set k y).map enc)))->K Z') (h:Sat Z l:=by assumption)
    (hi:l[i]? =some (.own v sz (xs.map enc)):=by first|exact Qy|exact Qx|exact Qw|exact Qv|exact Qu|exact Qt) (hc:cellsOf x=some vc:=by rfl) (he:vc=enc y:=by rfl) (hg:Em enc sz:=by first|exact BZ|exact C3|exact On|exact Ke|exact Li)
    (hv:(Be v).isSome=true:=by assumption) (h1:k<xs.length:=by first|omega|(simp only[BU]at *;omega)):AT Z sz (FA v sz k) x K:=by
 subst he;refine MA h i hi (by rw[Md,Cy h1];rfl) hc (hg y).1 (E3.2 fun v hv=>(hg y).2 v hv) (hg _).1 hv fun Z' hs=>hk Z' ?_
 rw[List.map_set];exact hs
def GK {b sz:Nat} {v:V} {e:List V} {f:Bool} {K:V->AE->Prop} (h:AJ b Z sz v (.l [e] f) fun v' Z'=>(Be v').isSome=true->K v' Z'):AJ b Z sz v (.l [e] f) K:=by
 obtain⟨h1,h2,h3⟩:=h;refine⟨h1,h2,?_⟩;cases v with
 | l es full=>exact⟨h3.1,h3.2.1,fun e=>(by cases e),fun e=>⟨(h3.2.2.2 e).1,fun n cap hn hc=>(h3.2.2.2 e).2 n cap hn hc rfl⟩⟩
 | sl n len cap=>
   simp only at h3 ⊢;split at h3
   .exact⟨h3.1,h3.2.1,h3.2.2.1,h3.2.2.2.1,fun n' cap' hn hc=>h3.2.2.2.2 n' cap' hn hc rfl⟩
   .exact h3.elim
 | _=>exact h3.elim
def aq {l:List At} {i:Nat} {α:Type} {enc:α->List V} {sz:Nat} {xs:List α} {x:α} {v:V} {f:Bool} {e:List V} {K:V->AE->Prop} (hk: ∀v' Z',Sat Z' (l.set i (.own v' sz ((xs++[x]).map enc)))->(Be v').isSome=true->K v' Z') (h:Sat Z l:=by assumption)
    (hi:l[i]? =some (.own v sz (xs.map enc)):=by first|exact Qy|exact Qx|exact Qw|exact Qv|exact Qu|exact Qt)
    (he:e=enc x:=by rfl) (hg:Em enc sz:=by first|exact BZ|exact C3|exact On|exact Ke|exact Li)
    {b:Nat} (hl:xs.length<AY/\(xs.length+1)*b<=140737488355328:=by first|assumption|omega|(simp only[RQ,BU,LF,List.length_nil,Mf,pF,List.length_replicate,AY]at *;omega)):AJ b Z sz v (.l [e] f) K:=
 GK (Fj h i hi hl hg hk he)
end Go.Gl
namespace Go.Gl
variable {P:Program} {Z:AE} {env:Env}
def iqF {xs:List Fact} {f:Bool} {K:V->Prop} {ki:IntKind} {j:Int} (h: ∀x,xs[j.toNat]? =some x->K (.rp (xF x))) (h0:0<=j:=by omega) (h1:j<xs.length:=by omega):AR 6 none (.l (xs.map GB) f) (.i ki j) K:=by
 refine iq (fun x hx=>?_) h0 h1 (by intro x;rw[BV];rfl);rw[BV];exact h x hx
def lo {l:List At} {i:Nat} {v:V} {sz:Nat} {es:List (List V)} {K:V->Prop} (hk:K (.i .i64 es.length)) (h:Sat Z l:=by assumption)
    (hi:l[i]? =some (.own v sz es):=by first|exact Qy|exact Qx|exact Qw|exact Qv|exact Qu|exact Qt) (hm:es.length<=AY:=by first|omega|(simp only[BU,List.length_replicate,List.length_set,AY]at *;omega)):A4 v K:=wP h i hi hm hk
def pH {α:Type} {enc:α->List V} {xs:List α} {f:Bool} {sz:Nat} {ki:IntKind} {j:Int} {K:V->AE->Prop} (h:K (.l ((xs.take j.toNat).map enc) (f&&decide (j=((xs.map enc).length:Nat)))) Z) (h0:0<=j:=by omega) (h1:j<=xs.length:=by first|omega|(simp only[BU]at *;omega)) (hs: ∀x,(enc x).length=sz:=by intro x;first|rfl|simp|(rw[BV];rfl)) :
    AQ Z sz (.l (xs.map enc) f) none (some (.i ki j)) none K:=by
 refine⟨fun e he=>?_,?_⟩
 .obtain⟨x,_,rfl⟩:=Mg.1 he
  exact hs x
 .simp only[OL,BU]
  refine⟨by omega,by omega,by omega,?_⟩;simpa[List.map_take]using h
def Sat.take {l:List At} (h:Sat Z l) (n:Nat):Sat Z (l.take n):=h.less (List.take_sublist _ _)
def H2 {b:Bool} {Z Z':AE}:Ez Z Z' (.l [] b) (.l [] false):= .l (fun h=>by cases h) .nil
def eY {b:Bool} {Z Z':AE} {es:List (List V)}:Ez Z Z' (.l es b) (.l es false):= .l (fun h=>by cases h) (D7.refl _ _ _)
mutual
def S2 {Z Z':AE}: ∀vs:List V,DA Z Z' vs vs
 | []=> .nil
 | v::r=> .cons (.refl v) (S2 r)
end
def Ea {Z Z':AE}: ∀es:List (List V),D7 Z Z' es es
 | []=> .nil
 | e::r=> .cons (S2 e) (Ea r)
def xw {α:Type} {enc:α->List V} {xs:List α} {y:α} {l:List At} {i:Nat} {v x:V} {sz k:Nat} {vc:List V} {K:AE->Prop} (hk: ∀Z',Sat Z' (l.set i (.own v sz ((xs.set k y).map enc)))->K Z') (h:Sat Z l:=by assumption)
    (hi:l[i]? =some (.own v sz (xs.map enc)):=by first|exact Qy|exact Qx|exact Qw|exact Qv|exact Qu|exact Qt) (hc:cellsOf x=some vc:=by rfl) (he:vc=enc y:=by rfl) (hg:Em enc sz:=by first|exact BZ|exact C3|exact On|exact Ke|exact Li)
    (hv:(Be v).isSome=true:=by rfl) (h1:k<xs.length:=by first|omega|(simp only[BU]at *;omega)):AT Z sz (FA v sz k) x K:=oset hk h hi hc he hg hv h1
def BC {α:Type} (xs:List α) {k:Nat} (hk:k<=xs.length):(∃x,xs[k]? =some x/\k<xs.length)\/k=xs.length:=by
 rcases Nat.lt_or_ge k xs.length with h|h
 .exact .inl ⟨_,Cy h,h⟩
 .exact .inr (by omega)
def Uc {α:Type} {enc:α->List V} {xs:List α} {k:Nat} {x:α} {A B:Prop} (h1:decide (A8 k<((xs.map enc).length:Nat))=true->A) (hx:xs[k]? =some x:=by assumption) (hm:xs.length<=AY:=by first|assumption|omega|simp[AY]<;>omega) :
    (decide (A8 k<((xs.map enc).length:Nat))=true->A)/\(decide (A8 k<((xs.map enc).length:Nat))=false->B):=by
 refine⟨h1,fun h=>?_⟩;have hlt:=(IN.1 hx).1;rw[AO (by omega),BU]at h;have:=of_decide_eq_false h;omega
def de {α:Type} {enc:α->List V} {xs:List α} {k:Nat} {A B:Prop} (h1:decide (A8 k<((xs.map enc).length:Nat))=false->B) (hx:k=xs.length:=by assumption) (hm:xs.length<=AY:=by first|assumption|omega|simp[AY]<;>omega) :
    (decide (A8 k<((xs.map enc).length:Nat))=true->A)/\(decide (A8 k<((xs.map enc).length:Nat))=false->B):=by
 refine⟨fun h=>?_,h1⟩;rw[AO (by omega),BU]at h;have:=of_decide_eq_true h;omega
def nz {α:Type} {enc:α->List V} {xs:List α} {f:Bool} {sz:Nat} {K:V->Prop} {ki:IntKind} {j:Int} {x:α} (h:K (.rp (enc x))) (hx:xs[j.toNat]? =some x:=by assumption) (h0:0<=j:=by omega) (hs:(enc x).length=sz:=by first|rfl|simp|(rw[BV];rfl)) :
    AR sz none (.l (xs.map enc) f) (.i ki j) K:=Uy j.toNat hx (by omega) hs h
def wN {xs:List Fact} {f:Bool} {K:V->Prop} {ki:IntKind} {j:Int} {x:Fact} (h:K (.rp (xF x))) (hx:xs[j.toNat]? =some x:=by assumption) (h0:0<=j:=by omega):AR 6 none (.l (xs.map GB) f) (.i ki j) K:=by
 refine nz ?_ hx h0;rw[BV];exact h
class CB (b:Bool) (v:outParam Bool):Prop where
 h:b=v
instance :CB true true:=⟨rfl⟩
instance :CB false false:=⟨rfl⟩
instance {b:Bool} [i:CB b true]:CB (!b) false:=⟨by rw[i.h];rfl⟩
instance {b:Bool} [i:CB b false]:CB (!b) true:=⟨by rw[i.h];rfl⟩
instance {b x y v:Bool} [i:CB b true] [j:CB x v]:CB (bif b then x else y) v:=⟨by rw[i.h,j.h];rfl⟩
instance {b x y v:Bool} [i:CB b false] [j:CB y v]:CB (bif b then x else y) v:=⟨by rw[i.h,j.h];rfl⟩
instance {a b:Bool} [i:CB a true] [j:CB b true]:CB (a==b) true:=⟨by rw[i.h,j.h];rfl⟩
instance {a b:Bool} [i:CB a true] [j:CB b false]:CB (a==b) false:=⟨by rw[i.h,j.h];rfl⟩
instance {a b:Bool} [i:CB a false] [j:CB b true]:CB (a==b) false:=⟨by rw[i.h,j.h];rfl⟩
instance {a b:Bool} [i:CB a false] [j:CB b false]:CB (a==b) true:=⟨by rw[i.h,j.h];rfl⟩
instance {a b:Bool} [i:CB a true] [j:CB b true]:CB (a != b) false:=⟨by rw[i.h,j.h];rfl⟩
instance {a b:Bool} [i:CB a true] [j:CB b false]:CB (a != b) true:=⟨by rw[i.h,j.h];rfl⟩
instance {a b:Bool} [i:CB a false] [j:CB b true]:CB (a != b) true:=⟨by rw[i.h,j.h];rfl⟩
instance {a b:Bool} [i:CB a false] [j:CB b false]:CB (a != b) false:=⟨by rw[i.h,j.h];rfl⟩
def df {A B:Prop} {b:Bool} [i:CB b true] (h:A):(b=true->A)/\(b=false->B):=⟨fun _=>h,fun e=>(by rw[i.h]at e;cases e)⟩
def Ox {A B:Prop} {b:Bool} [i:CB b false] (h:B):(b=true->A)/\(b=false->B):=⟨fun e=>(by rw[i.h]at e;cases e),fun _=>h⟩
def bA {A B:Prop} {b:Bool} [i:CB b true] (h:B):(b=false->A)/\(b=true->B):=⟨fun e=>(by rw[i.h]at e;cases e),fun _=>h⟩
def Mq {A B:Prop} {b:Bool} [i:CB b false] (h:A):(b=false->A)/\(b=true->B):=⟨fun _=>h,fun e=>(by rw[i.h]at e;cases e)⟩
def oi2 {l:List At} {i:Nat} {v:V} {sz:Nat} {es:List (List V)} {ki:IntKind} {j:Int} {K:V->Prop} (hk:K (FA v sz j.toNat)) (h:Sat Z l:=by assumption)
    (hi:l[i]? =some (.own v sz es):=by first|exact Qy|exact Qx|exact Qw|exact Qv|exact Qu|exact Qt) (h0:0<=j:=by omega) (h1:j<es.length:=by(simp only[BU,List.length_set];omega)):AR sz none v (.i ki j) K:=
 dd h i j.toNat hi (by omega) (by omega) hk
def oc2 {l:List At} {i:Nat} {v:V} {sz k:Nat} {es:List (List V)} {ki:IntKind} {K:V->Prop} (hk:K (FA v sz k)) (h:Sat Z l:=by assumption)
    (hi:l[i]? =some (.own v sz es):=by first|exact Qy|exact Qx|exact Qw|exact Qv|exact Qu|exact Qt) (h1:k<es.length:=by(simp only[BU,List.length_set];omega)) (hm:k<=AY:=by first|omega|(simp only[AY];omega)):AR sz none v (.i ki (A8 k)) K:=
 dd h i k hi (AO (by omega)) h1 hk
def vt {α:Type} {enc:α->List V} {xs:List α} {x:α} {l:List At} {i:Nat} {v:V} {sz k:Nat} {agg:Option Nat} {K:V->Prop} (hk:cut agg (enc x) 0 K) (h:Sat Z l:=by assumption)
    (hi:l[i]? =some (.own v sz (xs.map enc)):=by first|exact Qy|exact Qx|exact Qw|exact Qv|exact Qu|exact Qt) (hx:xs[k]? =some x:=by assumption):AX Z agg (FA v sz k) K:=
 H0 h i hi (by rw[Md,hx];rfl) hk
def wK {xs:List Fact} {x:Fact} {l:List At} {i:Nat} {v:V} {k:Nat} {agg:Option Nat} {K:V->Prop} (hk:cut agg (xF x) 0 K) (h:Sat Z l:=by assumption)
    (hi:l[i]? =some (.own v 6 (facts xs)):=by first|exact Qy|exact Qx|exact Qw|exact Qv|exact Qu|exact Qt) (hx:xs[k]? =some x:=by assumption):AX Z agg (FA v 6 k) K:=
 H0 h i hi (by rw[Md,hx];exact congrArg some (BV x)) hk
def ol2 {α:Type} {enc:α->List V} {xs:List α} {l:List At} {i:Nat} {v:V} {sz k:Nat} {agg:Option Nat} {K:V->Prop} (hk: ∀x,xs[k]? =some x->cut agg (enc x) 0 K) (h:Sat Z l:=by assumption)
    (hi:l[i]? =some (.own v sz (xs.map enc)):=by first|exact Qy|exact Qx|exact Qw|exact Qv|exact Qu|exact Qt) (h1:k<xs.length:=by(simp only[BU,List.length_set];omega)):AX Z agg (FA v sz k) K:=ol hk h hi h1
def eM {v:V} (h:(Be v).isSome=true): ∃n l c,v= .sl n l c:=by
 cases v<;>first|(cases h;done)|exact⟨_,_,_,rfl⟩
def apF {l:List At} {i:Nat} {xs:List Fact} {x:Fact} {v:V} {f:Bool} {e:List V} {K:V->AE->Prop} (hk: ∀v' Z',Sat Z' (l.set i (.own v' 6 (facts (xs++[x]))))->(Be v').isSome=true->K v' Z') (h:Sat Z l:=by assumption)
    (hi:l[i]? =some (.own v 6 (facts xs)):=by first|exact Qy|exact Qx|exact Qw|exact Qv|exact Qu|exact Qt)
    (he:e=xF x:=by rfl)
    {b:Nat} (hl:xs.length<AY/\(xs.length+1)*b<=140737488355328:=by first|assumption|omega|(simp only[RQ,BU,LF,List.length_nil,Mf,pF,List.length_replicate,AY]at *;omega)):AJ b Z 6 v (.l [e] f) K:=
 GK (Fj h i hi hl Ke hk (by rw[he,BV]))
end Go.Gl
