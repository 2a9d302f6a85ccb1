import Derived.ChangeOld
import Derived.Below
import Derived.Carry
import Derived.ChangeArms
import Derived.Deep.Slices
import Derived.Test.YtcfkfhaedllcpaaGreatProg
import Derived.KernelRfl
import Derived.Test.YtcfkfhaedllcpaaGreatU12
set_option linter.all false
set_option linter.defProp false
set_option maxHeartbeats 8000000
noncomputable section
namespace Go.Gl
open Go.ChangeShapes Go.WideShapes Go.ChangeAt Go.RowKit
def XS {w w':World} (h:Bb (fun _=>False) emp w emp w'):Below w.heap.size w w':=
 ⟨h.os,h.tape,h.output,h.size,fun k hk=>h.frame k hk rfl⟩
def cS {w:World} {b o:Nat}:Hh (fun _=>False) emp w b o=w.cell? ⟨b,o,none⟩:=by
 unfold Hh;rw[if_neg (by simp[emp])]
def KO {α:Type} {Q:Nat->α->Prop}: ∀(len:Nat),(∀i,i<len-> ∃v,Q i v)-> ∃l:List α,l.length=len/\ ∀i v,l[i]? =some v->Q i v
 | 0,_=>⟨[],rfl,fun i v h=>by simp at h⟩
 | k + 1,h=>by
   obtain⟨l,hl,hl2⟩:=KO k fun i hi=>h i (by omega)
   obtain⟨u,hu⟩:=h k (by omega);refine⟨l++[u],by simp[hl],fun i v hv=>?_⟩;by_cases hi:i<l.length
   .rw[fV hi]at hv
    exact hl2 i v hv
   .rw[List.getElem?_append_right (by omega)]at hv
    have:i - l.length=0:=by
     have:=(KT.1 hv).1;simp at this;omega
    have hik:i=k:=by omega
    subst hik;rw[this]at hv;rw[<-Option.some.inj hv];exact hu
section
variable {H:Type} {enc:TypeId×Value->H} {P:Program} {W:World}
def Xf {H:Type} (enc:TypeId×Value->H) (P:Program) (W:World) (n:Nat) (t:TypeId) {α:Type} (ea:α->List V):Prop:=
 ∀(cs:List Value) (d:DataW H) (ps:List MemPlace),DataW.trod enc P W 0 (fun _=>true) true n t cs=some (d,ps)->(∀x∈d.weights P t,x<=reachBytes)-> ∃a:α,cs.length=(ea a).length/\A8 (Hh (fun _=>False) emp W) (fun i=>cs[i]?) 0 (ea a)
def MO {H:Type} (enc:TypeId×Value->H) (P:Program) (W:World) (t:TypeId) {α:Type} (ea:α->List V):Prop:= ∀n,Xf enc P W n t ea
def Io {t:TypeId} {α:Type} {ea:α->List V}:Xf enc P W 0 t ea:=fun cs d ps h=>by simp[DataW.trod]at h
def ES {n:Nat} {t:TypeId} {α β:Type} {ea:α->List V} {eb:β->List V} (h:Xf enc P W n t ea) (g:α->β) (hg: ∀a,ea a=eb (g a)):Xf enc P W n t eb:=fun cs d ps h1 h2=>by
 obtain⟨a,h3,h4⟩:=h cs d ps h1 h2;exact⟨g a,by rw[<-hg];exact h3,by rw[<-hg];exact h4⟩
def JQ {t:TypeId} (ht:P.underlying t=some (.int .i64)):MO enc P W t fun x:Int=>[V.i .i64 x]:=fun n cs d ps h _=>by
 obtain⟨k,rfl,-,hw⟩:=DataW.trod_int ht h;simp only[Lit.wf,Ba,DG]at hw;refine⟨k,rfl,⟨_,rfl,?_⟩,trivial⟩;simp only[AQ]
 first
  | exact⟨rfl,hw⟩
  | exact⟨trivial,hw⟩
  | exact hw
def M0 {n:Nat} {t e:TypeId} {sz:Nat} {α:Type} {ea:α->List V} (ht:P.underlying t=some (.slice e)) (hc:P.cellsOf e=sz) (hsz:0<sz) (hb:8<=P.bytesOf e) (he: ∀a,(ea a).length=sz) (h:Xf enc P W n e ea) :
    Xf enc P W (n+1) t fun l:List α=>[V.l (l.map ea) false]:=by
 intro cs d ps htr hw;rcases DataW.trod_slice ht htr with⟨rfl,hx⟩|⟨a,len,cap,elems,rest,n',hn,rfl,hx,-,hl,hm,hlen,hel,-,-⟩
 .refine⟨[],rfl,⟨_,rfl,?_⟩,trivial⟩
  simp only[List.map_nil,AQ];exact⟨none,0,rfl,JE _,fun h=>(by cases h),Nat.zero_le _,fun _=>rfl,fun h=>absurd rfl h⟩
 .obtain rfl:n'=n:=by omega
  simp only[Prod.mk.injEq]at hx;obtain⟨rfl,-⟩:=hx;simp only[DataW.weights,ht,HV,FC]at hw;have hwl:=hw _ (.inl rfl)
  have hwe: ∀(l:List (DataW H)) (D:DataW H),D∈l-> ∀x∈D.weights P e,x∈DataW.weightsAll P e l:=by
   intro l
   induction l with
   | nil=>intro D hD;cases hD
   | cons y r ih=>
     intro D hD x hx;simp only[DataW.weightsAll,FC];rcases HV.1 hD with rfl|hD
     .exact .inl hx
     .exact .inr (ih D hD x hx)
  have hM:len<=AX:=by
   simp only[BW,hlen,reachBytes]at hwl;have h8:(len+rest.length)*8<=(len+rest.length)*P.bytesOf e:=Nat.mul_le_mul_left _ hb;unfold AX;omega
  have each: ∀i,i<len-> ∃v:α,∃cs',W.cells? 0 (a.add (i*sz)) sz=some cs'/\A8 (Hh (fun _=>False) emp W) (fun j=>cs'[j]?) 0 (ea v):=fun i hi=>by
   have hi':=hel i hi;obtain⟨x,hx⟩: ∃x,elems[i]? =some x:=⟨_,D2 (by omega)⟩
   rw[hx,Option.bind_eq_some_iff,hc]at hi';obtain⟨cs',h1,h2⟩:=hi';obtain⟨v,-,h4⟩:=h cs' x.1 x.2 h2 fun y hy=>hw y (.inr (.inl (hwe _ x.1 (Ol.2 ⟨x,Dx hx,rfl⟩) y hy)))
   exact⟨v,cs',h1,h4⟩
  obtain⟨l,hll,hlc⟩:=KO len each;refine⟨l,rfl,⟨_,rfl,?_⟩,trivial⟩;simp only[AQ,BW];refine⟨some a,cap,by rw[hll],by omega,fun h=>(by cases h),IZ (by omega),fun h=>(by cases h),fun hne=>?_⟩;obtain⟨b,o,spot⟩:=a
  have h0:0<l.length:=by
   rcases l with _|⟨v,r⟩
   .exact absurd rfl hne
   .simp
  have hspot:spot=none:=by
   obtain⟨cs',h1,-⟩:=hlc 0 l[0] (D2 h0);obtain⟨-,h3,h4⟩:=World.cells?_some h1;have h5:=h4 0 hsz;rw[D2 (by omega)]at h5;have:=World.cell?_spot h5;simpa[Addr.add]using this
  subst hspot
  have hcell: ∀i v,l[i]? =some v-> ∀k u,(ea v)[k]? =some u-> ∃c,W.cell? ⟨b,o+i*sz+k,none⟩=some c/\AQ (Hh (fun _=>False) emp W) u c:=fun i v hv k u hu=>by
   obtain⟨cs',h1,h2⟩:=hlc i v hv;obtain⟨-,h3,h4⟩:=World.cells?_some h1;have hk:k<sz:=by rw[<-he v];exact(KT.1 hu).1
   obtain⟨c,hc',hr⟩:=BG.1 h2 k u hu;have h5:=h4 k hk;simp only[Ex]at hc';rw[add_plain,add_plain]at h5;exact⟨c,by rw[<-hc',<-h5],hr⟩
  refine⟨b,o,sz,rfl,Av.2 fun j e hj=>?_⟩;rw[NX]at hj;obtain⟨v,hv,rfl⟩:=Option.map_eq_some_iff.1 hj;refine⟨he v,BG.2 fun k u hu=>?_⟩;obtain⟨c,h1,h2⟩:=hcell j v hv k u hu;exact⟨c,by rw[cS];exact h1,h2⟩
def El {t e:TypeId} {sz:Nat} {α:Type} {ea:α->List V} (ht:P.underlying t=some (.slice e)) (hc:P.cellsOf e=sz) (hsz:0<sz) (hb:8<=P.bytesOf e) (he: ∀a,(ea a).length=sz) (h:MO enc P W e ea) :
    MO enc P W t fun l:List α=>[V.l (l.map ea) false]
 | 0=>Io
 | n+1=>M0 ht hc hsz hb he (h n)
def fq {H:Type} (enc:TypeId×Value->H) (P:Program) (W:World) (n:Nat) (fs:List Field) (o:Nat) {α:Type} (ea:α->List V):Prop:=
 ∀ (cs:List Value) (xs:List (DataW H×List MemPlace)),xs.length=fs.length->(∀(i:Nat) (f:Field),fs[i]? =some f->DataW.trod enc P W 0 (fun _=>true) true n (Field.type f) ((cs.drop (Field.offset f)).take (P.cellsOf (Field.type f)))=xs[i]?)->
   (∀x∈DataW.weightsEach P (fs.map fun f:Field=>f.type) (xs.map (·.1)),x<=reachBytes)-> ∃a:α,A8 (Hh (fun _=>False) emp W) (fun i=>cs[i]?) o (ea a)
def ET {n o:Nat}:fq enc P W n [] o fun _:Unit=>([]:List V):=fun _ _ _ _ _=>⟨(),trivial⟩
def Aq {n o c:Nat} {f:Field} {fs:List Field} {α β:Type} {ea:α->List V} {eb:β->List V} (hf:f.offset=o) (hc:P.cellsOf f.type=c) (he: ∀a,(ea a).length=c) (h1:Xf enc P W n f.type ea) (h2:fq enc P W n fs (o+c) eb) :
    fq enc P W n (f::fs) o fun p:α×β=>ea p.1++eb p.2:=by
 intro cs xs hl hx hw
 match xs,hl with
 | x ::r,hl=>
   have hx0:=hx 0 f rfl;simp only[aT]at hx0;simp only[Fw,DataW.weightsEach,FC]at hw;obtain⟨a,ha1,ha2⟩:=h1 _ x.1 x.2 hx0 fun y hy=>hw y (.inl hy)
   obtain⟨b,hb⟩:=h2 cs r (by simpa using hl) (fun i g hg=>by
    have:=hx (i+1) g (by simpa using hg)
    simpa using this) fun y hy=>hw y (.inr hy)
   refine⟨(a,b),J8 (BG.2 fun k u hu=>?_) (by rw[he];exact hb)⟩;obtain⟨cc,h3,h4⟩:=BG.1 ha2 k u hu;have hk:k<c:=by rw[<-he a];exact(KT.1 hu).1
   refine⟨cc,?_,h4⟩;rw[hf,hc,Ex,List.getElem?_take,if_pos hk,ib]at h3;exact h3
def Lo {n:Nat} {t:TypeId} {fs:List Field} {α:Type} {ea:α->List V} (ht:P.underlying t=some (.struct fs.toArray)) (h:fq enc P W n fs 0 ea) (hl: ∀a,(ea a).length=P.cellsOf t):Xf enc P W (n+1) t ea:=by
 intro cs d ps htr hw;obtain⟨xs,k,hk,hx,hcl,hxl,hf⟩:=DataW.trod_struct ht htr;obtain rfl:k=n:=by omega
 simp only[Prod.mk.injEq]at hx;obtain⟨rfl,-⟩:=hx;simp only[DataW.weights,ht]at hw;obtain⟨a,ha⟩:=h cs xs (by rw[hxl];simp) (fun i f hfi=>hf i f (by simpa using hfi)) (by simpa using hw);exact⟨a,by rw[hcl,hl],ha⟩
def DQ {t:TypeId} {fs:List Field} {α:Type} {ea:α->List V} (ht:P.underlying t=some (.struct fs.toArray)) (h: ∀n,fq enc P W n fs 0 ea) (hl: ∀a,(ea a).length=P.cellsOf t):MO enc P W t ea
 | 0=>Io
 | n+1=>Lo ht (h n) hl
end
end Go.Gl
namespace Go.Gl
open Go.Proofs
section
variable {H:Type} {enc:TypeId×Value->H} {W:World}
def b8 {n:Nat} (h:Nat.ble 8 n=true):8<=n:=Nat.le_of_ble_eq_true h
def HT:MO enc Tryz.prog W 3 fun x:Int=>[V.i .i64 x]:=JQ Tryz.underlying3
def Me:MO enc Tryz.prog W 23 fun l:List Int=>[V.l (iL l) false]:=El Tryz.underlying23 (by kernel_rfl) (by decide) (b8 (by kernel_rfl)) (fun _=>rfl) HT
def bZ:MO enc Tryz.prog W 156 fun p:Int×Int=>[eI p.1,eI p.2]:=fun n=>
 ES (DQ Tryz.underlying156
  (fun n=>Aq (c:=1) rfl (by kernel_rfl) (fun _=>rfl) (HT n) (Aq (c:=1) rfl (by kernel_rfl) (fun _=>rfl) (HT n) ET)) (fun _=>(show _=2 from rfl).trans (by kernel_rfl)) n) (fun x=>(x.1,x.2.1)) fun _=>rfl
def YO:MO enc Tryz.prog W 157 fun l:List (Int×Int)=>[V.l (l.map fun p=>[eI p.1,eI p.2]) false]:=El (sz:=2) Tryz.underlying157 (by kernel_rfl) (by decide) (b8 (by kernel_rfl)) (fun _=>rfl) bZ
def gp:MO enc Tryz.prog W 159 Hm:=fun n=>
 ES (DQ Tryz.underlying159
  (fun n=>Aq (c:=1) rfl (by kernel_rfl) (fun _=>rfl) (Me n) (Aq (c:=1) rfl (by kernel_rfl) (fun _=>rfl) (Me n)
   (Aq (c:=1) rfl (by kernel_rfl) (fun _=>rfl) (YO n) ET))) (fun _=>(show _=3 from rfl).trans (by kernel_rfl)) n) (fun x=>⟨x.1,x.2.1,x.2.2.1⟩) fun _=>rfl
def bW:MO enc Tryz.prog W 154 GQ:=fun n=>
 ES (DQ Tryz.underlying154
  (fun n=>Aq (c:=1) rfl (by kernel_rfl) (fun _=>rfl) (JQ Tryz.underlying152 n) (Aq (c:=1) rfl (by kernel_rfl) (fun _=>rfl) (HT n)
   (Aq (c:=1) rfl (by kernel_rfl) (fun _=>rfl) (Me n) ET))) (fun _=>(show _=3 from rfl).trans (by kernel_rfl)) n) (fun x=>⟨x.1,x.2.1,x.2.2.1⟩) fun _=>rfl
def YM:MO enc Tryz.prog W 25 fun l:List Node=>[V.l (l.map GQ) false]:=El (sz:=3) Tryz.underlying25 (by kernel_rfl) (by decide) (b8 (by kernel_rfl)) (fun _=>rfl) bW
def bc:MO enc Tryz.prog W 22 fun l:List MD=>[V.l (l.map Hm) false]:=El (sz:=3) Tryz.underlying22 (by kernel_rfl) (by decide) (b8 (by kernel_rfl)) (fun _=>rfl) gp
def Ju (f:Fact):(GR f).length=6:=by rw[Br];rfl
def Se: ∀n,Xf enc Tryz.prog W n 105 GR/\Xf enc Tryz.prog W n 103 fun l:List Fact=>[V.l (facts l) false]
 | 0=>⟨Io,Io⟩
 | n + 1 =>by
   obtain⟨h1,h2⟩:=Se n;refine⟨?_,M0 Tryz.underlying103 (by kernel_rfl) (by decide) (b8 (by kernel_rfl)) Ju h1⟩
   exact ES (Lo Tryz.underlying105
    (Aq (c:=1) rfl (by kernel_rfl) (fun _=>rfl) (JQ Tryz.underlying102 n) (Aq (c:=1) rfl (by kernel_rfl) (fun _=>rfl) (HT n)
     (Aq (c:=1) rfl (by kernel_rfl) (fun _=>rfl) (Me n) (Aq (c:=1) rfl (by kernel_rfl) (fun _=>rfl) (HT n)
      (Aq (c:=1) rfl (by kernel_rfl) (fun _=>rfl) (HT n) (Aq (c:=1) rfl (by kernel_rfl) (fun _=>rfl) h2 ET)))))) (fun _=>(show _=6 from rfl).trans (by kernel_rfl)))
    (fun x=>Fact.mk x.1 x.2.1 x.2.2.1 x.2.2.2.1 x.2.2.2.2.1 x.2.2.2.2.2.1) fun x=>by rw[Br];rfl
def ba:MO enc Tryz.prog W 105 GR:=fun n=>(Se n).1
def bX:MO enc Tryz.prog W 107 SL:=fun n=>
 ES (DQ Tryz.underlying107
  (fun n=>Aq (c:=1) rfl (by kernel_rfl) (fun _=>rfl) (JQ Tryz.underlying101 n) (Aq (c:=1) rfl (by kernel_rfl) (fun _=>rfl) (HT n)
   (Aq (c:=6) rfl (by kernel_rfl) Ju (ba n) (Aq (c:=1) rfl (by kernel_rfl) (fun _=>rfl) (HT n) ET)))) (fun x=>(show _=9 from by simp only[Uw,Ju];rfl).trans (by kernel_rfl)) n) (fun x=>⟨x.1,x.2.1,x.2.2.1,x.2.2.2.1⟩) fun x=>by rw[Br];rfl
def YN:MO enc Tryz.prog W 24 fun l:List MT=>[V.l (l.map SL) false]:=El (sz:=9) Tryz.underlying24 (by kernel_rfl) (by decide) (b8 (by kernel_rfl)) (fun _=>rfl) bX
def bV : MO enc Tryz.prog W 27 A7:=fun n=>
 ES (DQ Tryz.underlying27
  (fun n=>Aq (c:=1) rfl (by kernel_rfl) (fun _=>rfl) (bc n)
   (Aq (c:=1) rfl (by kernel_rfl) (fun _=>rfl) (HT n) (Aq (c:=1) rfl (by kernel_rfl) (fun _=>rfl) (Me n)
    (Aq (c:=1) rfl (by kernel_rfl) (fun _=>rfl) (YN n)
     (Aq (c:=1) rfl (by kernel_rfl) (fun _=>rfl) (YM n)
      (Aq (c:=1) rfl (by kernel_rfl) (fun _=>rfl) (HT n) ET)))))) (fun _=>(show _=6 from rfl).trans (by kernel_rfl)) n) (fun x=>⟨x.1,x.2.1,x.2.2.1,x.2.2.2.1,x.2.2.2.2.1,x.2.2.2.2.2.1⟩) fun _=>rfl
end
end Go.Gl
namespace Go.Gl
variable {P:Program} {Z Z':AE}
mutual
def Dg:V->Prop
 | .i k n=>k.min<=n/\n<=k.max
 | .rp cs=>Fy cs
 | .l es _=>es.length<=Ge es/\Oz es
 | .f _ a b=>Fy a/\Fy b
 | .De _ v=>Dg v
 | .a cs=>Fy cs
 | .t vs=>Fy vs
 | _=>True
def Fy:List V->Prop
 | []=>True
 | v::r=>Dg v/\Fy r
def Oz:List (List V)->Prop
 | []=>True
 | e::r=>Fy e/\Oz r
end
mutual
def Z7 {H:Nat->Nat->Option Value}: ∀(v:V) (c:Value),AQ H v c->Dg v
 | .b _,_,_| .s _,_,_| .pn,_,_| .p _ _,_,_| .sl _ _ _,_,_| .sv _ _ _ _,_,_| .pe _ _ _ _,_,_| .m _,_,_| .mn,_,_| .IM,_,_| .C0,_,_| .any,_,_=>by simp only[Dg]
 | .i k n,_,h=>by
   simp only[AQ]at h;simp only[Dg];exact h.2
 | .rp cs,_,h=>by
   simp only[AQ]at h;obtain⟨b,o,rfl,h⟩:=h;simp only[Dg];exact Gs cs o h
 | .l es full,_,h=>by
   simp only[AQ]at h;obtain⟨a,cap,h1,h2,h3,h4,h5,h6⟩:=h;simp only[Dg];refine⟨h4,?_⟩;cases es with
   | nil=>exact trivial
   | cons e es=>
     obtain⟨b,o,sz,h7,h8⟩:=h6 (by simp);exact Vt (e::es) o h8
 | .f fn first cap,_,h=>by
   simp only[AQ]at h;obtain⟨f',c',h1,h2,h3,h4,h5⟩:=h;simp only[Dg];exact⟨Gs first 0 h3,Gs cap 0 h5⟩
 | .De t v,_,h=>by
   simp only[AQ]at h;obtain⟨c',h1,h2⟩:=h;simp only[Dg];exact Z7 v c' h2
 | .a cs,_,h=>by
   simp only[AQ]at h;obtain⟨c',h1,h2,h3⟩:=h;simp only[Dg];exact Gs cs 0 h3
 | .t cs,_,h=>by
   simp only[AQ]at h;obtain⟨c',h1,h2,h3⟩:=h;simp only[Dg];exact Gs cs 0 h3
def Gs {H:Nat->Nat->Option Value} {g:Nat->Option Value}: ∀(vs:List V) (o:Nat),A8 H g o vs->Fy vs
 | [],_,_=>trivial
 | v::vs,o,h=>by
   simp only[A8]at h;obtain⟨⟨c,h1,h2⟩,h3⟩:=h;exact⟨Z7 v c h2,Gs vs (o+1) h3⟩
def Vt {H:Nat->Nat->Option Value} {g:Nat->Option Value} {sz:Nat}: ∀(es:List (List V)) (o:Nat),Az H g sz o es->Oz es
 | [],_,_=>trivial
 | e::es,o,h=>by
   simp only[Az]at h;obtain⟨h1,h2,h3⟩:=h;exact⟨Gs e o h2,Vt es (o+sz) h3⟩
end
def BD.fit {f:FuncId} {args:List V} {Q:R->AE->Prop} (hok:okF P f=true) (h:Fy args->BD P f args Z Q):BD P f args Z Q:=
 ⟨hok,fun F w cs hR hv=>(h (Gs args 0 hv.2)).2 F w cs hR hv⟩
def Pure.fit {f:FuncId} {args:List V} {v:V} (hok:okF P f=true) (h:Fy args->Pure P f args v):Pure P f args v:=BD.fit hok h
def Cl.fit {f:FuncId} {args:List V} {pre:List At} {Φ:R->List At->Prop} (hok:okF P f=true) (h:Fy args->Cl P f args pre Φ):Cl P f args pre Φ:=fun Z hs=>BD.fit hok fun hf=>h hf Z hs
def W9 {es:List (List V)}:Oz es↔ ∀e∈es,Fy e:=by
 induction es with
 | nil=>simp[Oz]
 | cons e r ih=>simp[Oz,ih]
def Gw {α:Type} {enc:α->List V} {xs:List α}:Oz (xs.map enc)↔ ∀x∈xs,Fy (enc x):=by
 rw[W9];simp
def FK {α:Type} {enc:α->List V} [hn:MS enc] {xs:List α} {f:Bool}:Dg (.l (xs.map enc) f)↔(xs.map enc).length<=AX/\Oz (xs.map enc):=
 ⟨fun⟨h1,h2⟩=>⟨by rw[BW];exact Wu hn.h h1,h2⟩,fun⟨h1,h2⟩=>⟨IZ h1,h2⟩⟩
def F4 {cs:List V}:Dg (.a cs)↔Fy cs:=Iff.rfl
def ON {cs:List V}:Dg (.rp cs)↔Fy cs:=Iff.rfl
def C3 {v:V} {r:List V}:Fy (v::r)↔Dg v/\Fy r:=Iff.rfl
def drop_cons {α:Type} {xs:List α} {k:Nat} {x:α} (h:xs[k]? =some x):xs.drop k=x::xs.drop (k+1):=by
 obtain⟨hk,rfl⟩:=KT.1 h;exact List.drop_eq_getElem_cons hk
def Ax {α:Type} {xs:List α} {k:Nat} (h:k=xs.length):xs.drop k= []:=List.drop_of_length_le (by omega)
end Go.Gl
namespace Go.Gl
variable {P:Program} {Z:AE} {env:Env}
class Ku (G:Prop) (G':outParam Prop):Prop where
 h:G'->G
def st {G G':Prop} [i:Ku G G'] (h:G'):G:=i.h h
def sq {l:List Nat} {a b:AK} {Q:AR->Env->AE->Prop} (h: ∀K:Env->AE->Prop,(∀env Z,(pk l env fun E=>W P b Q E Z)->K env Z)->W P a (AR.andThen K Q) env Z):W P (.seq l a b) Q env Z:=Cs h
class jU (G:Prop) (G':outParam Prop):Prop where
 h:G'->G
def si {G G':Prop} [i:jU G G'] (h:G'):G:=i.h h
instance {ops:List Ad} {Q:AR->Env->AE->Prop}:jU (W P (.Bh ops) Q env Z) (∀(KR:Env->AE->Prop) (KP:Env->V->AE->Prop),(∀env Z,Q .normal env Z->KR env Z)->(∀env v Z,Q (.BL v) env Z->KP env v Z)->WT P ops KR KP env Z):=⟨By⟩
instance {l:List Nat} {ops:List B0} {Q:AR->Env->AE->Prop}:jU (W P (.DH l ops) Q env Z) (∀(KR:Env->AE->Prop) (KP:V->AE->Prop),(∀env Z,(pk l env fun E=>Q .normal E Z)->KR env Z)->(∀v Z,(∀Z',Sub Z Z'->Q (.BL v) [] Z')->KP v Z)->WD P ops KR KP env Z):=⟨F9⟩
instance {c:BQ} {a b:AK} {Q:AR->Env->AE->Prop}:Ku (W P (.cond c a b) Q env Z) (match ev env c with
 | some (.b t)=>(t=true->W P a Q env Z)/\(t=false->W P b Q env Z)
 | _=>False):=⟨DE⟩
instance {id:Nat} {a:AK} {Q:AR->Env->AE->Prop}:Ku (W P (.block id a) Q env Z) (W P a (AR.inBlock id Q) env Z):=⟨Cw⟩
instance {l:List Nat} {a:AK} {Q:AR->Env->AE->Prop}:Ku (W P (.loop l a) Q env Z) (pk l env fun E=>Aw l a (W P a) Q E Z):=⟨EW⟩
instance {id:Nat} {Q:AR->Env->AE->Prop}:Ku (W P (.exit id) Q env Z) (Q (.exit id) env Z):=⟨EX⟩
instance {Q:AR->Env->AE->Prop}:Ku (W P .ret Q env Z) (Q .ret env Z):=⟨Hz⟩
instance {Q:AR->Env->AE->Prop}:Ku (W P .skip Q env Z) (Q .normal env Z):=⟨DZ⟩
instance {a:AK} {Q:AR->Env->AE->Prop}:Ku (W P (.scope a) Q env Z) (W P a Q env Z):=⟨Fh⟩
instance {l:List Nat} {g:BQ} {ps:List Nat} {a b:AK} {Q:AR->Env->AE->Prop}:Ku (W P (.Co l g ps a b) Q env Z) (match ev env g with
 | some (.f (.func gf) [] cap)=>pk l env fun E=> ∀L,Z L=none->BD P gf (.f (.yield L) [] []::cap) (BO Z L (.loop .ready E (Bg P ps a b))) (Jf L Q env)
 | _=>False):=⟨Fi⟩
instance {A B:Prop}:Ku ((true=true->A)/\(true=false->B)) A:=⟨Hx⟩
instance {A B:Prop}:Ku ((false=true->A)/\(false=false->B)) B:=⟨Hy⟩
instance {A B:Prop}:Ku ((false=false->A)/\(false=true->B)) A:=⟨HC⟩
instance {A B:Prop}:Ku ((true=false->A)/\(true=true->B)) B:=⟨HB⟩
instance {A B:Prop} {b:Bool}:Ku ((b=true->A)/\(b= !true->B)) ((b=true->A)/\(b=false->B)):=⟨id⟩
instance {A B:Prop} {b:Bool}:Ku ((b=false->A)/\(b= !false->B)) ((b=false->A)/\(b=true->B)):=⟨id⟩
instance {agg:Option Nat} {cs:List V} {K:V->Prop}:Ku (Af Z agg (.rp cs) K) (cut agg cs 0 K):=⟨fun h=>h⟩
instance {es:List (List V)} {f:Bool} {K:V->Prop}:Ku (BK (.l es f) K) (K (.i .i64 es.length)):=⟨Hb⟩
def kc {K A:Env->AE->Prop} (h:A env Z) (hk: ∀env Z,A env Z->K env Z:=by assumption):K env Z:=hk _ _ h
def kp {K A:Env->V->AE->Prop} {v:V} (h:A env v Z) (hk: ∀env v Z,A env v Z->K env v Z:=by assumption):K env v Z:=hk _ _ _ h
def rk {x:Ad} {r:List Ad} {A:Prop} (h1:Fb P x env Z) (h2:DA P r env Z/\A):DA P (x::r) env Z/\A:=⟨⟨h1,h2.1⟩,h2.2⟩
def dr {A:Prop} (h:A):DA P [] env Z/\A:=⟨trivial,h⟩
class BP (b v:Bool) (p:outParam Prop):Prop where
 h:b=v->p
def bp {b v:Bool} {p:Prop} [i:BP b v p] (h:b=v):p:=i.h h
instance (priority:=low) {b v:Bool}:BP b v (b=v):=⟨id⟩
instance (priority:=mid) {p:Prop} [Decidable p]:BP (decide p) true p:=⟨of_decide_eq_true⟩
instance (priority:=mid) {p:Prop} [Decidable p]:BP (decide p) false (¬p):=⟨of_decide_eq_false⟩
instance {a b:Int}:BP (decide (a<b)) false (b<=a):=⟨fun h=>Int.not_lt.1 (of_decide_eq_false h)⟩
instance {a b:Int}:BP (decide (a<=b)) false (b<a):=⟨fun h=>Int.not_le.1 (of_decide_eq_false h)⟩
instance {a b:Int}:BP (a==b) true (a=b):=⟨fun h=>by simpa using h⟩
instance {a b:Int}:BP (a==b) false (a≠b):=⟨fun h=>by simpa using h⟩
instance {a b:Int}:BP (a != b) true (a≠b):=⟨fun h=>by simpa using h⟩
instance {a b:Int}:BP (a != b) false (a=b):=⟨fun h=>by simpa using h⟩
instance {b:Bool} {p:Prop} [i:BP b false p]:BP (!b) true p:=⟨fun h=>i.h (by simpa using h)⟩
instance {b:Bool} {p:Prop} [i:BP b true p]:BP (!b) false p:=⟨fun h=>i.h (by simpa using h)⟩
instance {b x v:Bool} {p:Prop} [i:BP b v p]:BP (bif false then x else b) v p:=⟨i.h⟩
instance {b x v:Bool} {p:Prop} [i:BP b v p]:BP (bif true then b else x) v p:=⟨i.h⟩
def fc {α:Type} {enc:α->List V} {xs:List α} {k:Nat} {A B:Prop} (h1: ∀x,xs[k]? =some x->k<xs.length->decide (BU k<((xs.map enc).length:Nat))=true->A) (h2:k=xs.length->decide (BU k<((xs.map enc).length:Nat))=false->B) (hk:k<=xs.length:=by assumption) (hm:xs.length<=AX:=by first|assumption|omega|simp[AX]<;>omega) :
    (decide (BU k<((xs.map enc).length:Nat))=true->A)/\(decide (BU k<((xs.map enc).length:Nat))=false->B):=
 ⟨fun h=>(Ej (enc:=enc) (A:=A) (B:=True) hk hm (fun x hx hlt=>h1 x hx hlt h) fun _=>trivial).1 h,fun h=>(Ej (enc:=enc) (A:=True) (B:=B) hk hm (fun _ _ _=>trivial) fun he=>h2 he h).2 h⟩
def ix {α:Type} {enc:α->List V} {xs:List α} {f:Bool} {sz:Nat} {K:V->Prop} {ki:IntKind} {k:Nat} {x:α} (h:K (.rp (enc x))) (hx:xs[k]? =some x:=by assumption) (hm:xs.length<=AX:=by first|assumption|omega|simp[AX]<;>omega) (hs:(enc x).length=sz:=by first|rfl|simp) :
    AS sz none (.l (xs.map enc) f) (.i ki (BU k)) K:=Gi hx hm hs h
def iq {α:Type} {enc:α->List V} {xs:List α} {f:Bool} {sz:Nat} {K:V->Prop} {ki:IntKind} {j:Int} (h: ∀x,xs[j.toNat]? =some x->K (.rp (enc x))) (h0:0<=j:=by omega) (h1:j<xs.length:=by omega) (hs: ∀x,(enc x).length=sz:=by intro x;first|rfl|simp|(rw[Br];rfl)) :
    AS sz none (.l (xs.map enc) f) (.i ki j) K:=by
 have hlt:j.toNat<xs.length:=by omega
 exact O5 j.toNat (D2 hlt) (by omega) (hs _) (h _ (D2 hlt))
def ie {α:Type} {enc:α->List V} {xs:List α} {f:Bool} {sz:Nat} {ki:IntKind} {k:Nat} {K:V->AE->Prop} (h:K (.l ((xs.take k).map enc) (f&&decide ((k:Int)=((xs.map enc).length:Nat)))) Z) (hl:k<=xs.length:=by first|assumption|omega) (hm:xs.length<=AX:=by first|assumption|omega) (hs: ∀x,(enc x).length=sz:=by intro x;first|rfl|simp|(rw[Br];rfl)) :
    AU Z sz (.l (xs.map enc) f) none (some (.i ki (BU k))) none K:=by
 rw[AJ (by omega)];refine⟨fun e he=>?_,?_⟩
 .obtain⟨x,_,rfl⟩:=Ol.1 he
  exact hs x
 .simp only[MC,BW]
  refine⟨by omega,by omega,by omega,?_⟩;rw[MF];simpa[List.map_take]using h
def iu {xs:List Fact} {f:Bool} {K:V->Prop} {ki:IntKind} {k:Nat} {x:Fact} (h:K (.rp (xF x))) (hx:xs[k]? =some x:=by assumption) (hm:xs.length<=AX:=by first|assumption|omega):AS 6 none (.l (xs.map GR) f) (.i ki (BU k)) K:=by
 refine Gi hx hm (by rw[Br];rfl) ?_;rw[Br];exact h
def ML {a0:At} {l:List At}:(a0::l)[0]? =some a0:=rfl
def MK {a0 a1:At} {l:List At}:(a0::a1::l)[1]? =some a1:=rfl
def MJ {a0 a1 a2:At} {l:List At}:(a0::a1::a2::l)[2]? =some a2:=rfl
def MI {a0 a1 a2 a3:At} {l:List At}:(a0::a1::a2::a3::l)[3]? =some a3:=rfl
def MH {a0 a1 a2 a3 a4:At} {l:List At}:(a0::a1::a2::a3::a4::l)[4]? =some a4:=rfl
def MG {a0 a1 a2 a3 a4 a5:At} {l:List At}:(a0::a1::a2::a3::a4::a5::l)[5]? =some a5:=rfl
def ld {l:List At} {i n off:Nat} {agg:Option Nat} {vs:List V} {K:V->Prop} (hk:cut agg vs off K) (h:Sat Z l:=by assumption)
    (hi:l[i]? =some (.box n vs):=by first|exact ML|exact MK|exact MJ|exact MI|exact MH|exact MG):Af Z agg (.p n off) K:=SH h i hi hk
def s1 {l:List At} {i n off:Nat} {vs:List V} {x:V} {K:AE->Prop} (hk: ∀Z',Sat Z' (l.set i (.box n (vs.set off x)))->K Z') (h:Sat Z l:=by assumption)
    (hi:l[i]? =some (.box n vs):=by first|exact ML|exact MK|exact MJ|exact MI|exact MH|exact MG)
    (h1:Bm x=true:=by first|rfl|exact FF (by assumption) 0 rfl|exact FF (by assumption) 1 rfl|exact FF (by assumption) 2 rfl|exact FF (by assumption) 3 rfl|simp) (ho:off+1<=vs.length:=by exact Nat.le_of_ble_eq_true rfl):AV Z 1 (.p n off) x K:=
 Ia h i hi h1 ho hk
def sn {l:List At} {i n off sz:Nat} {vs vc:List V} {x:V} {K:AE->Prop} (hk: ∀Z',Sat Z' (l.set i (.box n (putAt vs off vc)))->K Z') (h:Sat Z l:=by assumption)
    (hi:l[i]? =some (.box n vs):=by first|exact ML|exact MK|exact MJ|exact MI|exact MH|exact MG)
    (hc:cellsOf x=some vc:=by rfl) (hl:vc.length=sz:=by rfl) (h1:vc.all Bm=true:=by first|rfl|simp) (ho:off+sz<=vs.length:=by exact Nat.le_of_ble_eq_true rfl):AV Z sz (.p n off) x K:=
 Ht h i hi hc hl h1 ho hk
def Nw:EP (fun f:Fact=>GR f) 6:=fun f=>by
 simp only[Br];refine⟨rfl,fun v hv=>?_⟩;simp only[HV,List.not_mem_nil,or_false]at hv;rcases hv with rfl|rfl|rfl|rfl|rfl|rfl<;>rfl
def Km:EP (fun l:List Fact=>[V.l (facts l) false]) 1:=fun x=>⟨rfl,fun v hv=>by simp at hv;subst hv;rfl⟩
def af {α:Type} {enc:α->List V} {sz:Nat} {ys:List α} {g:Bool} {K:V->Prop} (hk:K (.l (ys.map enc) false)) (hg:EP enc sz:=by first|exact B8|exact CM|exact Kl|exact Nw|exact Km) {b:Nat} (hl:ys.length<=AX/\ys.length*b<=140737488355328:=by first|assumption|omega) :
    Ao b Z sz (.l [] true) (.l (ys.map enc) g) K:=Vr hg hl hk
def al {l:List At} {o:O} {n:Nat} {K:Prop} {Z':AE} (e:BO Z n o=Z') (hk:Sat Z' (l++[.obj n o])->K) (hn:Z n=none:=by assumption) (h:Sat Z l:=by assumption):K:=hk (e ▸ VB h hn)
def oi {l:List At} {i:Nat} {v:V} {sz:Nat} {es:List (List V)} {ki:IntKind} {j:Int} {K:V->Prop} (hk:K (Dl v sz j.toNat)) (h:Sat Z l:=by assumption)
    (hi:l[i]? =some (.own v sz es):=by first|exact ML|exact MK|exact MJ|exact MI|exact MH|exact MG) (h0:0<=j:=by omega) (h1:j<es.length:=by first|omega|(simp only[BW]at *;omega)):AS sz none v (.i ki j) K:=
 Uz h i j.toNat hi (by omega) (by omega) hk
def oc {l:List At} {i:Nat} {v:V} {sz k:Nat} {es:List (List V)} {ki:IntKind} {K:V->Prop} (hk:K (Dl v sz k)) (h:Sat Z l:=by assumption)
    (hi:l[i]? =some (.own v sz es):=by first|exact ML|exact MK|exact MJ|exact MI|exact MH|exact MG) (h1:k<es.length:=by first|omega|(simp only[BW]at *;omega)) (hm:k<=AX:=by first|omega|(simp only[AX];omega)):AS sz none v (.i ki (BU k)) K:=
 Uz h i k hi (AJ (by omega)) h1 hk
def ol {α:Type} {enc:α->List V} {xs:List α} {l:List At} {i:Nat} {v:V} {sz k:Nat} {agg:Option Nat} {K:V->Prop} (hk: ∀x,xs[k]? =some x->cut agg (enc x) 0 K) (h:Sat Z l:=by assumption)
    (hi:l[i]? =some (.own v sz (xs.map enc)):=by first|exact ML|exact MK|exact MJ|exact MI|exact MH|exact MG) (h1:k<xs.length:=by first|omega|(simp only[BW]at *;omega)):Af Z agg (Dl v sz k) K:=
 F7 h i hi (by rw[NX,D2 h1];rfl) (hk _ (D2 h1))
def oset {α:Type} {enc:α->List V} {xs:List α} {y:α} {l:List At} {i:Nat} {v x:V} {sz k:Nat} {vc:List V} {K:AE->Prop} (hk: ∀Z',Sat Z' (l.set i (.own v sz ((xs.set k y).map enc)))->K Z') (h:Sat Z l:=by assumption)
    (hi:l[i]? =some (.own v sz (xs.map enc)):=by first|exact ML|exact MK|exact MJ|exact MI|exact MH|exact MG) (hc:cellsOf x=some vc:=by rfl) (he:vc=enc y:=by rfl) (hg:EP enc sz:=by first|exact B8|exact CM|exact Kl|exact Nw|exact Km)
    (hv:(DI v).isSome=true:=by assumption) (h1:k<xs.length:=by first|omega|(simp only[BW]at *;omega)):AV Z sz (Dl v sz k) x K:=by
 subst he;refine Iu h i hi (by rw[NX,D2 h1];rfl) hc (hg y).1 (JD.2 fun v hv=>(hg y).2 v hv) (hg _).1 hv fun Z' hs=>hk Z' ?_
 rw[List.map_set];exact hs
def ID {b sz:Nat} {v:V} {e:List V} {f:Bool} {K:V->AE->Prop} (h:AL b Z sz v (.l [e] f) fun v' Z'=>(DI v').isSome=true->K v' Z'):AL b Z sz v (.l [e] f) K:=by
 obtain⟨h1,h2,h3⟩:=h;refine⟨h1,h2,?_⟩;cases v with
 | l es full=>exact⟨h3.1,h3.2.1,fun e=>(by cases e),fun e=>⟨(h3.2.2.2 e).1,fun n cap hn hc=>(h3.2.2.2 e).2 n cap hn hc rfl⟩⟩
 | sl n len cap=>
   simp only at h3 ⊢;split at h3
   .exact⟨h3.1,h3.2.1,h3.2.2.1,h3.2.2.2.1,fun n' cap' hn hc=>h3.2.2.2.2 n' cap' hn hc rfl⟩
   .exact h3.elim
 | _=>exact h3.elim
def aq {l:List At} {i:Nat} {α:Type} {enc:α->List V} {sz:Nat} {xs:List α} {x:α} {v:V} {f:Bool} {e:List V} {K:V->AE->Prop} (hk: ∀v' Z',Sat Z' (l.set i (.own v' sz ((xs++[x]).map enc)))->(DI v').isSome=true->K v' Z') (h:Sat Z l:=by assumption)
    (hi:l[i]? =some (.own v sz (xs.map enc)):=by first|exact ML|exact MK|exact MJ|exact MI|exact MH|exact MG)
    (he:e=enc x:=by rfl) (hg:EP enc sz:=by first|exact B8|exact CM|exact Kl|exact Nw|exact Km)
    {b:Nat} (hl:xs.length<AX/\(xs.length+1)*b<=140737488355328:=by first|assumption|omega|(simp only[Uw,BW,Om,List.length_nil,Uv,List.length_drop,List.length_replicate,AX]at *;omega)):AL b Z sz v (.l [e] f) K:=
 ID (E0 h i hi hl hg hk he)
end Go.Gl
namespace Go.Gl
variable {P:Program} {Z:AE} {env:Env}
def pU {xs:List Fact} {f:Bool} {K:V->Prop} {ki:IntKind} {j:Int} (h: ∀x,xs[j.toNat]? =some x->K (.rp (xF x))) (h0:0<=j:=by omega) (h1:j<xs.length:=by omega):AS 6 none (.l (xs.map GR) f) (.i ki j) K:=by
 refine iq (fun x hx=>?_) h0 h1 (by intro x;rw[Br];rfl);rw[Br];exact h x hx
def lo {l:List At} {i:Nat} {v:V} {sz:Nat} {es:List (List V)} {K:V->Prop} (hk:K (.i .i64 es.length)) (h:Sat Z l:=by assumption)
    (hi:l[i]? =some (.own v sz es):=by first|exact ML|exact MK|exact MJ|exact MI|exact MH|exact MG) (hm:es.length<=AX:=by first|omega|(simp only[BW,List.length_replicate,List.length_set,AX]at *;omega)):BK v K:=gJ h i hi hm hk
def pA {α:Type} {enc:α->List V} {xs:List α} {f:Bool} {sz:Nat} {ki:IntKind} {j:Int} {K:V->AE->Prop} (h:K (.l ((xs.take j.toNat).map enc) (f&&decide (j=((xs.map enc).length:Nat)))) Z) (h0:0<=j:=by omega) (h1:j<=xs.length:=by first|omega|(simp only[BW]at *;omega)) (hs: ∀x,(enc x).length=sz:=by intro x;first|rfl|simp|(rw[Br];rfl)) :
    AU Z sz (.l (xs.map enc) f) none (some (.i ki j)) none K:=by
 refine⟨fun e he=>?_,?_⟩
 .obtain⟨x,_,rfl⟩:=Ol.1 he
  exact hs x
 .simp only[MC,BW]
  refine⟨by omega,by omega,by omega,?_⟩;simpa[List.map_take]using h
def Sat.take {l:List At} (h:Sat Z l) (n:Nat):Sat Z (l.take n):=h.less (List.take_sublist _ _)
def Y8 {b:Bool} {Z Z':AE}:EL Z Z' (.l [] b) (.l [] false):= .l (fun h=>by cases h) .nil
def VR {b:Bool} {Z Z':AE} {es:List (List V)}:EL Z Z' (.l es b) (.l es false):= .l (fun h=>by cases h) (DU.refl _ _ _)
mutual
def NU {Z Z':AE}: ∀vs:List V,CU Z Z' vs vs
 | []=> .nil
 | v::r=> .cons (.refl v) (NU r)
end
def NT {Z Z':AE}: ∀es:List (List V),DU Z Z' es es
 | []=> .nil
 | e::r=> .cons (NU e) (NT r)
def pB {α:Type} {enc:α->List V} {xs:List α} {y:α} {l:List At} {i:Nat} {v x:V} {sz k:Nat} {vc:List V} {K:AE->Prop} (hk: ∀Z',Sat Z' (l.set i (.own v sz ((xs.set k y).map enc)))->K Z') (h:Sat Z l:=by assumption)
    (hi:l[i]? =some (.own v sz (xs.map enc)):=by first|exact ML|exact MK|exact MJ|exact MI|exact MH|exact MG) (hc:cellsOf x=some vc:=by rfl) (he:vc=enc y:=by rfl) (hg:EP enc sz:=by first|exact B8|exact CM|exact Kl|exact Nw|exact Km)
    (hv:(DI v).isSome=true:=by rfl) (h1:k<xs.length:=by first|omega|(simp only[BW]at *;omega)):AV Z sz (Dl v sz k) x K:=oset hk h hi hc he hg hv h1
def Bd {α:Type} (xs:List α) {k:Nat} (hk:k<=xs.length):(∃x,xs[k]? =some x/\k<xs.length)\/k=xs.length:=by
 rcases Nat.lt_or_ge k xs.length with h|h
 .exact .inl ⟨_,D2 h,h⟩
 .exact .inr (by omega)
def MN {α:Type} {enc:α->List V} {xs:List α} {k:Nat} {x:α} {A B:Prop} (h1:decide (BU k<((xs.map enc).length:Nat))=true->A) (hx:xs[k]? =some x:=by assumption) (hm:xs.length<=AX:=by first|assumption|omega|simp[AX]<;>omega) :
    (decide (BU k<((xs.map enc).length:Nat))=true->A)/\(decide (BU k<((xs.map enc).length:Nat))=false->B):=by
 refine⟨h1,fun h=>?_⟩;have hlt:=(KT.1 hx).1;rw[AJ (by omega),BW]at h;have:=of_decide_eq_false h;omega
def Qg {α:Type} {enc:α->List V} {xs:List α} {k:Nat} {A B:Prop} (h1:decide (BU k<((xs.map enc).length:Nat))=false->B) (hx:k=xs.length:=by assumption) (hm:xs.length<=AX:=by first|assumption|omega|simp[AX]<;>omega) :
    (decide (BU k<((xs.map enc).length:Nat))=true->A)/\(decide (BU k<((xs.map enc).length:Nat))=false->B):=by
 refine⟨fun h=>?_,h1⟩;rw[AJ (by omega),BW]at h;have:=of_decide_eq_true h;omega
def Xb {α:Type} {enc:α->List V} {xs:List α} {f:Bool} {sz:Nat} {K:V->Prop} {ki:IntKind} {j:Int} {x:α} (h:K (.rp (enc x))) (hx:xs[j.toNat]? =some x:=by assumption) (h0:0<=j:=by omega) (hs:(enc x).length=sz:=by first|rfl|simp|(rw[Br];rfl)) :
    AS sz none (.l (xs.map enc) f) (.i ki j) K:=O5 j.toNat hx (by omega) hs h
def gF {xs:List Fact} {f:Bool} {K:V->Prop} {ki:IntKind} {j:Int} {x:Fact} (h:K (.rp (xF x))) (hx:xs[j.toNat]? =some x:=by assumption) (h0:0<=j:=by omega):AS 6 none (.l (xs.map GR) f) (.i ki j) K:=by
 refine Xb ?_ hx h0;rw[Br];exact h
class CB (b:Bool) (v:outParam Bool):Prop where
 h:b=v
instance :CB true true:=⟨rfl⟩
instance :CB false false:=⟨rfl⟩
instance {b:Bool} [i:CB b true]:CB (!b) false:=⟨by rw[i.h];rfl⟩
instance {b:Bool} [i:CB b false]:CB (!b) true:=⟨by rw[i.h];rfl⟩
instance {b x y v:Bool} [i:CB b true] [j:CB x v]:CB (bif b then x else y) v:=⟨by rw[i.h,j.h];rfl⟩
instance {b x y v:Bool} [i:CB b false] [j:CB y v]:CB (bif b then x else y) v:=⟨by rw[i.h,j.h];rfl⟩
instance {a b:Bool} [i:CB a true] [j:CB b true]:CB (a==b) true:=⟨by rw[i.h,j.h];rfl⟩
instance {a b:Bool} [i:CB a true] [j:CB b false]:CB (a==b) false:=⟨by rw[i.h,j.h];rfl⟩
instance {a b:Bool} [i:CB a false] [j:CB b true]:CB (a==b) false:=⟨by rw[i.h,j.h];rfl⟩
instance {a b:Bool} [i:CB a false] [j:CB b false]:CB (a==b) true:=⟨by rw[i.h,j.h];rfl⟩
instance {a b:Bool} [i:CB a true] [j:CB b true]:CB (a != b) false:=⟨by rw[i.h,j.h];rfl⟩
instance {a b:Bool} [i:CB a true] [j:CB b false]:CB (a != b) true:=⟨by rw[i.h,j.h];rfl⟩
instance {a b:Bool} [i:CB a false] [j:CB b true]:CB (a != b) true:=⟨by rw[i.h,j.h];rfl⟩
instance {a b:Bool} [i:CB a false] [j:CB b false]:CB (a != b) false:=⟨by rw[i.h,j.h];rfl⟩
def Xe {A B:Prop} {b:Bool} [i:CB b true] (h:A):(b=true->A)/\(b=false->B):=⟨fun _=>h,fun e=>(by rw[i.h]at e;cases e)⟩
def U0 {A B:Prop} {b:Bool} [i:CB b false] (h:B):(b=true->A)/\(b=false->B):=⟨fun e=>(by rw[i.h]at e;cases e),fun _=>h⟩
def Nn {A B:Prop} {b:Bool} [i:CB b true] (h:B):(b=false->A)/\(b=true->B):=⟨fun e=>(by rw[i.h]at e;cases e),fun _=>h⟩
def No {A B:Prop} {b:Bool} [i:CB b false] (h:A):(b=false->A)/\(b=true->B):=⟨fun _=>h,fun e=>(by rw[i.h]at e;cases e)⟩
def pD {l:List At} {i:Nat} {v:V} {sz:Nat} {es:List (List V)} {ki:IntKind} {j:Int} {K:V->Prop} (hk:K (Dl v sz j.toNat)) (h:Sat Z l:=by assumption)
    (hi:l[i]? =some (.own v sz es):=by first|exact ML|exact MK|exact MJ|exact MI|exact MH|exact MG) (h0:0<=j:=by omega) (h1:j<es.length:=by(simp only[BW,List.length_set];omega)):AS sz none v (.i ki j) K:=
 Uz h i j.toNat hi (by omega) (by omega) hk
def pF {l:List At} {i:Nat} {v:V} {sz k:Nat} {es:List (List V)} {ki:IntKind} {K:V->Prop} (hk:K (Dl v sz k)) (h:Sat Z l:=by assumption)
    (hi:l[i]? =some (.own v sz es):=by first|exact ML|exact MK|exact MJ|exact MI|exact MH|exact MG) (h1:k<es.length:=by(simp only[BW,List.length_set];omega)) (hm:k<=AX:=by first|omega|(simp only[AX];omega)):AS sz none v (.i ki (BU k)) K:=
 Uz h i k hi (AJ (by omega)) h1 hk
def pC {α:Type} {enc:α->List V} {xs:List α} {x:α} {l:List At} {i:Nat} {v:V} {sz k:Nat} {agg:Option Nat} {K:V->Prop} (hk:cut agg (enc x) 0 K) (h:Sat Z l:=by assumption)
    (hi:l[i]? =some (.own v sz (xs.map enc)):=by first|exact ML|exact MK|exact MJ|exact MI|exact MH|exact MG) (hx:xs[k]? =some x:=by assumption):Af Z agg (Dl v sz k) K:=
 F7 h i hi (by rw[NX,hx];rfl) hk
def gD {xs:List Fact} {x:Fact} {l:List At} {i:Nat} {v:V} {k:Nat} {agg:Option Nat} {K:V->Prop} (hk:cut agg (xF x) 0 K) (h:Sat Z l:=by assumption)
    (hi:l[i]? =some (.own v 6 (facts xs)):=by first|exact ML|exact MK|exact MJ|exact MI|exact MH|exact MG) (hx:xs[k]? =some x:=by assumption):Af Z agg (Dl v 6 k) K:=
 F7 h i hi (by rw[NX,hx];exact congrArg some (Br x)) hk
def pS {α:Type} {enc:α->List V} {xs:List α} {l:List At} {i:Nat} {v:V} {sz k:Nat} {agg:Option Nat} {K:V->Prop} (hk: ∀x,xs[k]? =some x->cut agg (enc x) 0 K) (h:Sat Z l:=by assumption)
    (hi:l[i]? =some (.own v sz (xs.map enc)):=by first|exact ML|exact MK|exact MJ|exact MI|exact MH|exact MG) (h1:k<xs.length:=by(simp only[BW,List.length_set];omega)):Af Z agg (Dl v sz k) K:=ol hk h hi h1
def gh {v:V} (h:(DI v).isSome=true): ∃n l c,v= .sl n l c:=by
 cases v<;>first|(cases h;done)|exact⟨_,_,_,rfl⟩
end Go.Gl
