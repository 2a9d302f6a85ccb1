import Derived.ChangeOld
import Derived.Below
import Derived.Carry
import Derived.ChangeArms
import Derived.Deep.Slices
import Derived.Test.YtnidfcmdimehdaaGreatProg
import Derived.KernelRfl
import Derived.Test.YtnidfcmdimehdaaGreatV12
set_option linter.all false
set_option linter.defProp false
set_option maxHeartbeats 8000000
noncomputable section
namespace Go.Gl
open Go.ChangeShapes Go.WideShapes Go.ChangeAt Go.RowKit
def la {w w':World} (h:B7 (fun _=>False) emp w emp w'):Below w.heap.size w w':=
 ⟨h.os,h.tape,h.output,h.size,fun k hk=>h.frame k hk rfl⟩
def iG {w:World} {b o:Nat}:Hh (fun _=>False) emp w b o=w.cell? ⟨b,o,none⟩:=by
 unfold Hh;rw[if_neg (by simp[emp])]
def Jy {α:Type} {Q:Nat->α->Prop}: ∀(len:Nat),(∀i,i<len-> ∃v,Q i v)-> ∃l:List α,l.length=len/\ ∀i v,l[i]? =some v->Q i v
 | 0,_=>⟨[],rfl,fun i v h=>by simp at h⟩
 | k + 1,h=>by
   obtain⟨l,hl,hl2⟩:=Jy k fun i hi=>h i (by omega)
   obtain⟨u,hu⟩:=h k (by omega);refine⟨l++[u],by simp[hl],fun i v hv=>?_⟩;by_cases hi:i<l.length
   .rw[ec hi]at hv
    exact hl2 i v hv
   .rw[List.getElem?_append_right (by omega)]at hv
    have:i - l.length=0:=by
     have:=(JM.1 hv).1;simp at this;omega
    have hik:i=k:=by omega
    subst hik;rw[this]at hv;rw[<-Option.some.inj hv];exact hu
section
variable {H:Type} {enc:TypeId×Value->H} {P:Program} {W:World}
def fN {H:Type} (enc:TypeId×Value->H) (P:Program) (W:World) (n:Nat) (t:TypeId) {α:Type} (ea:α->List V):Prop:=
 ∀(cs:List Value) (d:DataW H) (ps:List MemPlace),DataW.trod enc P W 0 (fun _=>true) true n t cs=some (d,ps)->(∀x∈d.weights P t,x<=reachBytes)-> ∃a:α,cs.length=(ea a).length/\BV (Hh (fun _=>False) emp W) (fun i=>cs[i]?) 0 (ea a)
def VF {H:Type} (enc:TypeId×Value->H) (P:Program) (W:World) (t:TypeId) {α:Type} (ea:α->List V):Prop:= ∀n,fN enc P W n t ea
def Me {t:TypeId} {α:Type} {ea:α->List V}:fN enc P W 0 t ea:=fun cs d ps h=>by simp[DataW.trod]at h
def J4 {n:Nat} {t:TypeId} {α β:Type} {ea:α->List V} {eb:β->List V} (h:fN enc P W n t ea) (g:α->β) (hg: ∀a,ea a=eb (g a)):fN enc P W n t eb:=fun cs d ps h1 h2=>by
 obtain⟨a,h3,h4⟩:=h cs d ps h1 h2;exact⟨g a,by rw[<-hg];exact h3,by rw[<-hg];exact h4⟩
def Tt {t:TypeId} (ht:P.underlying t=some (.int .i64)):VF enc P W t fun x:Int=>[V.i .i64 x]:=fun n cs d ps h _=>by
 obtain⟨k,rfl,-,hw⟩:=DataW.trod_int ht h;simp only[Lit.wf,A4,Cp]at hw;refine⟨k,rfl,⟨_,rfl,?_⟩,trivial⟩;simp only[AY]
 first
  | exact⟨rfl,hw⟩
  | exact⟨trivial,hw⟩
  | exact hw
def Sg {n:Nat} {t e:TypeId} {sz:Nat} {α:Type} {ea:α->List V} (ht:P.underlying t=some (.slice e)) (hc:P.cellsOf e=sz) (hsz:0<sz) (hb:8<=P.bytesOf e) (he: ∀a,(ea a).length=sz) (h:fN enc P W n e ea) :
    fN enc P W (n+1) t fun l:List α=>[V.l (l.map ea) false]:=by
 intro cs d ps htr hw;rcases DataW.trod_slice ht htr with⟨rfl,hx⟩|⟨a,len,cap,elems,rest,n',hn,rfl,hx,-,hl,hm,hlen,hel,-,-⟩
 .refine⟨[],rfl,⟨_,rfl,?_⟩,trivial⟩
  simp only[List.map_nil,AY];exact⟨none,0,rfl,IS _,fun h=>(by cases h),Nat.zero_le _,fun _=>rfl,fun h=>absurd rfl h⟩
 .obtain rfl:n'=n:=by omega
  simp only[Prod.mk.injEq]at hx;obtain⟨rfl,-⟩:=hx;simp only[DataW.weights,ht,Fg,Ds]at hw;have hwl:=hw _ (.inl rfl)
  have hwe: ∀(l:List (DataW H)) (D:DataW H),D∈l-> ∀x∈D.weights P e,x∈DataW.weightsAll P e l:=by
   intro l
   induction l with
   | nil=>intro D hD;cases hD
   | cons y r ih=>
     intro D hD x hx;simp only[DataW.weightsAll,Ds];rcases Fg.1 hD with rfl|hD
     .exact .inl hx
     .exact .inr (ih D hD x hx)
  have hM:len<=Ad:=by
   simp only[CW,hlen,reachBytes]at hwl;have h8:(len+rest.length)*8<=(len+rest.length)*P.bytesOf e:=Nat.mul_le_mul_left _ hb;unfold Ad;omega
  have each: ∀i,i<len-> ∃v:α,∃cs',W.cells? 0 (a.add (i*sz)) sz=some cs'/\BV (Hh (fun _=>False) emp W) (fun j=>cs'[j]?) 0 (ea v):=fun i hi=>by
   have hi':=hel i hi;obtain⟨x,hx⟩: ∃x,elems[i]? =some x:=⟨_,Dp (by omega)⟩
   rw[hx,Option.bind_eq_some_iff,hc]at hi';obtain⟨cs',h1,h2⟩:=hi';obtain⟨v,-,h4⟩:=h cs' x.1 x.2 h2 fun y hy=>hw y (.inr (.inl (hwe _ x.1 (Hc.2 ⟨x,Cm hx,rfl⟩) y hy)))
   exact⟨v,cs',h1,h4⟩
  obtain⟨l,hll,hlc⟩:=Jy len each;refine⟨l,rfl,⟨_,rfl,?_⟩,trivial⟩;simp only[AY,CW];refine⟨some a,cap,by rw[hll],by omega,fun h=>(by cases h),J6 (by omega),fun h=>(by cases h),fun hne=>?_⟩;obtain⟨b,o,spot⟩:=a
  have h0:0<l.length:=by
   rcases l with _|⟨v,r⟩
   .exact absurd rfl hne
   .simp
  have hspot:spot=none:=by
   obtain⟨cs',h1,-⟩:=hlc 0 l[0] (Dp h0);obtain⟨-,h3,h4⟩:=World.cells?_some h1;have h5:=h4 0 hsz;rw[Dp (by omega)]at h5;have:=World.cell?_spot h5;simpa[Addr.add]using this
  subst hspot
  have hcell: ∀i v,l[i]? =some v-> ∀k u,(ea v)[k]? =some u-> ∃c,W.cell? ⟨b,o+i*sz+k,none⟩=some c/\AY (Hh (fun _=>False) emp W) u c:=fun i v hv k u hu=>by
   obtain⟨cs',h1,h2⟩:=hlc i v hv;obtain⟨-,h3,h4⟩:=World.cells?_some h1;have hk:k<sz:=by rw[<-he v];exact(JM.1 hu).1
   obtain⟨c,hc',hr⟩:=BY.1 h2 k u hu;have h5:=h4 k hk;simp only[Gq]at hc';rw[add_plain,add_plain]at h5;exact⟨c,by rw[<-hc',<-h5],hr⟩
  refine⟨b,o,sz,rfl,BC.2 fun j e hj=>?_⟩;rw[OU]at hj;obtain⟨v,hv,rfl⟩:=Option.map_eq_some_iff.1 hj;refine⟨he v,BY.2 fun k u hu=>?_⟩;obtain⟨c,h1,h2⟩:=hcell j v hv k u hu;exact⟨c,by rw[iG];exact h1,h2⟩
def Jn {t e:TypeId} {sz:Nat} {α:Type} {ea:α->List V} (ht:P.underlying t=some (.slice e)) (hc:P.cellsOf e=sz) (hsz:0<sz) (hb:8<=P.bytesOf e) (he: ∀a,(ea a).length=sz) (h:VF enc P W e ea) :
    VF enc P W t fun l:List α=>[V.l (l.map ea) false]
 | 0=>Me
 | n+1=>Sg ht hc hsz hb he (h n)
def xy {H:Type} (enc:TypeId×Value->H) (P:Program) (W:World) (n:Nat) (fs:List Field) (o:Nat) {α:Type} (ea:α->List V):Prop:=
 ∀ (cs:List Value) (xs:List (DataW H×List MemPlace)),xs.length=fs.length->(∀(i:Nat) (f:Field),fs[i]? =some f->DataW.trod enc P W 0 (fun _=>true) true n (Field.type f) ((cs.drop (Field.offset f)).take (P.cellsOf (Field.type f)))=xs[i]?)->
   (∀x∈DataW.weightsEach P (fs.map fun f:Field=>f.type) (xs.map (·.1)),x<=reachBytes)-> ∃a:α,BV (Hh (fun _=>False) emp W) (fun i=>cs[i]?) o (ea a)
def J5 {n o:Nat}:xy enc P W n [] o fun _:Unit=>([]:List V):=fun _ _ _ _ _=>⟨(),trivial⟩
def Bd {n o c:Nat} {f:Field} {fs:List Field} {α β:Type} {ea:α->List V} {eb:β->List V} (hf:f.offset=o) (hc:P.cellsOf f.type=c) (he: ∀a,(ea a).length=c) (h1:fN enc P W n f.type ea) (h2:xy enc P W n fs (o+c) eb) :
    xy enc P W n (f::fs) o fun p:α×β=>ea p.1++eb p.2:=by
 intro cs xs hl hx hw
 match xs,hl with
 | x ::r,hl=>
   have hx0:=hx 0 f rfl;simp only[rM]at hx0;simp only[EZ,DataW.weightsEach,Ds]at hw;obtain⟨a,ha1,ha2⟩:=h1 _ x.1 x.2 hx0 fun y hy=>hw y (.inl hy)
   obtain⟨b,hb⟩:=h2 cs r (by simpa using hl) (fun i g hg=>by
    have:=hx (i+1) g (by simpa using hg)
    simpa using this) fun y hy=>hw y (.inr hy)
   refine⟨(a,b),Oh (BY.2 fun k u hu=>?_) (by rw[he];exact hb)⟩;obtain⟨cc,h3,h4⟩:=BY.1 ha2 k u hu;have hk:k<c:=by rw[<-he a];exact(JM.1 hu).1
   refine⟨cc,?_,h4⟩;rw[hf,hc,Gq,List.getElem?_take,if_pos hk,xW]at h3;exact h3
def Qv {n:Nat} {t:TypeId} {fs:List Field} {α:Type} {ea:α->List V} (ht:P.underlying t=some (.struct fs.toArray)) (h:xy enc P W n fs 0 ea) (hl: ∀a,(ea a).length=P.cellsOf t):fN enc P W (n+1) t ea:=by
 intro cs d ps htr hw;obtain⟨xs,k,hk,hx,hcl,hxl,hf⟩:=DataW.trod_struct ht htr;obtain rfl:k=n:=by omega
 simp only[Prod.mk.injEq]at hx;obtain⟨rfl,-⟩:=hx;simp only[DataW.weights,ht]at hw;obtain⟨a,ha⟩:=h cs xs (by rw[hxl];simp) (fun i f hfi=>hf i f (by simpa using hfi)) (by simpa using hw);exact⟨a,by rw[hcl,hl],ha⟩
def IF {t:TypeId} {fs:List Field} {α:Type} {ea:α->List V} (ht:P.underlying t=some (.struct fs.toArray)) (h: ∀n,xy enc P W n fs 0 ea) (hl: ∀a,(ea a).length=P.cellsOf t):VF enc P W t ea
 | 0=>Me
 | n+1=>Qv ht (h n) hl
end
end Go.Gl
namespace Go.Gl
open Go.Proofs
section
variable {H:Type} {enc:TypeId×Value->H} {W:World}
def b8 {n:Nat} (h:Nat.ble 8 n=true):8<=n:=Nat.le_of_ble_eq_true h
def Pq:VF enc Tryz.prog W 3 fun x:Int=>[V.i .i64 x]:=Tt Tryz.underlying3
def Vj:VF enc Tryz.prog W 23 fun l:List Int=>[V.l (iL l) false]:=Jn Tryz.underlying23 (by kernel_rfl) (by decide) (b8 (by kernel_rfl)) (fun _=>rfl) Pq
def se:VF enc Tryz.prog W 265 fun p:Int×Int=>[eI p.1,eI p.2]:=fun n=>
 J4 (IF Tryz.underlying265
  (fun n=>Bd (c:=1) rfl (by kernel_rfl) (fun _=>rfl) (Pq n) (Bd (c:=1) rfl (by kernel_rfl) (fun _=>rfl) (Pq n) J5)) (fun _=>(show _=2 from rfl).trans (by kernel_rfl)) n) (fun x=>(x.1,x.2.1)) fun _=>rfl
def nT:VF enc Tryz.prog W 41 fun l:List (Int×Int)=>[V.l (l.map fun p=>[eI p.1,eI p.2]) false]:=Jn (sz:=2) Tryz.underlying41 (by kernel_rfl) (by decide) (b8 (by kernel_rfl)) (fun _=>rfl) se
def ya:VF enc Tryz.prog W 43 Gu:=fun n=>
 J4 (IF Tryz.underlying43
  (fun n=>Bd (c:=1) rfl (by kernel_rfl) (fun _=>rfl) (Vj n) (Bd (c:=1) rfl (by kernel_rfl) (fun _=>rfl) (Vj n)
   (Bd (c:=1) rfl (by kernel_rfl) (fun _=>rfl) (nT n) J5))) (fun _=>(show _=3 from rfl).trans (by kernel_rfl)) n) (fun x=>⟨x.1,x.2.1,x.2.2.1⟩) fun _=>rfl
def sc:VF enc Tryz.prog W 179 JC:=fun n=>
 J4 (IF Tryz.underlying179
  (fun n=>Bd (c:=1) rfl (by kernel_rfl) (fun _=>rfl) (Tt Tryz.underlying177 n) (Bd (c:=1) rfl (by kernel_rfl) (fun _=>rfl) (Pq n)
   (Bd (c:=1) rfl (by kernel_rfl) (fun _=>rfl) (Vj n) J5))) (fun _=>(show _=3 from rfl).trans (by kernel_rfl)) n) (fun x=>⟨x.1,x.2.1,x.2.2.1⟩) fun _=>rfl
def nQ:VF enc Tryz.prog W 25 fun l:List Node=>[V.l (l.map JC) false]:=Jn (sz:=3) Tryz.underlying25 (by kernel_rfl) (by decide) (b8 (by kernel_rfl)) (fun _=>rfl) sc
def sg:VF enc Tryz.prog W 22 fun l:List Pn=>[V.l (l.map Gu) false]:=Jn (sz:=3) Tryz.underlying22 (by kernel_rfl) (by decide) (b8 (by kernel_rfl)) (fun _=>rfl) ya
def OI (f:Fact):(Fm f).length=6:=by rw[Bw];rfl
def Z6: ∀n,fN enc Tryz.prog W n 64 Fm/\fN enc Tryz.prog W n 62 fun l:List Fact=>[V.l (facts l) false]
 | 0=>⟨Me,Me⟩
 | n + 1 =>by
   obtain⟨h1,h2⟩:=Z6 n;refine⟨?_,Sg Tryz.underlying62 (by kernel_rfl) (by decide) (b8 (by kernel_rfl)) OI h1⟩
   exact J4 (Qv Tryz.underlying64
    (Bd (c:=1) rfl (by kernel_rfl) (fun _=>rfl) (Tt Tryz.underlying61 n) (Bd (c:=1) rfl (by kernel_rfl) (fun _=>rfl) (Pq n)
     (Bd (c:=1) rfl (by kernel_rfl) (fun _=>rfl) (Vj n) (Bd (c:=1) rfl (by kernel_rfl) (fun _=>rfl) (Pq n)
      (Bd (c:=1) rfl (by kernel_rfl) (fun _=>rfl) (Pq n) (Bd (c:=1) rfl (by kernel_rfl) (fun _=>rfl) h2 J5)))))) (fun _=>(show _=6 from rfl).trans (by kernel_rfl)))
    (fun x=>Fact.mk x.1 x.2.1 x.2.2.1 x.2.2.2.1 x.2.2.2.2.1 x.2.2.2.2.2.1) fun x=>by rw[Bw];rfl
def sf:VF enc Tryz.prog W 64 Fm:=fun n=>(Z6 n).1
def sd:VF enc Tryz.prog W 79 Zk:=fun n=>
 J4 (IF Tryz.underlying79
  (fun n=>Bd (c:=1) rfl (by kernel_rfl) (fun _=>rfl) (Tt Tryz.underlying77 n) (Bd (c:=1) rfl (by kernel_rfl) (fun _=>rfl) (Pq n)
   (Bd (c:=6) rfl (by kernel_rfl) OI (sf n) (Bd (c:=1) rfl (by kernel_rfl) (fun _=>rfl) (Pq n) J5)))) (fun x=>(show _=9 from by simp only[Ri,OI];rfl).trans (by kernel_rfl)) n) (fun x=>⟨x.1,x.2.1,x.2.2.1,x.2.2.2.1⟩) fun x=>by rw[Bw];rfl
def nR:VF enc Tryz.prog W 24 fun l:List Nc=>[V.l (l.map Zk) false]:=Jn (sz:=9) Tryz.underlying24 (by kernel_rfl) (by decide) (b8 (by kernel_rfl)) (fun _=>rfl) sd
def sb : VF enc Tryz.prog W 27 BT:=fun n=>
 J4 (IF Tryz.underlying27
  (fun n=>Bd (c:=1) rfl (by kernel_rfl) (fun _=>rfl) (sg n)
   (Bd (c:=1) rfl (by kernel_rfl) (fun _=>rfl) (Pq n) (Bd (c:=1) rfl (by kernel_rfl) (fun _=>rfl) (Vj n)
    (Bd (c:=1) rfl (by kernel_rfl) (fun _=>rfl) (nR n)
     (Bd (c:=1) rfl (by kernel_rfl) (fun _=>rfl) (nQ n)
      (Bd (c:=1) rfl (by kernel_rfl) (fun _=>rfl) (Pq n) J5)))))) (fun _=>(show _=6 from rfl).trans (by kernel_rfl)) n) (fun x=>⟨x.1,x.2.1,x.2.2.1,x.2.2.2.1,x.2.2.2.2.1,x.2.2.2.2.2.1⟩) fun _=>rfl
end
end Go.Gl
namespace Go.Gl
variable {P:Program} {Z Z':AE}
mutual
def FF:V->Prop
 | .i k n=>k.min<=n/\n<=k.max
 | .rp cs=>IV cs
 | .l es _=>es.length<=Hk es/\Tk es
 | .f _ a b=>IV a/\IV b
 | .FD _ v=>FF v
 | .a cs=>IV cs
 | .t vs=>IV vs
 | _=>True
def IV:List V->Prop
 | []=>True
 | v::r=>FF v/\IV r
def Tk:List (List V)->Prop
 | []=>True
 | e::r=>IV e/\Tk r
end
mutual
def qm {H:Nat->Nat->Option Value}: ∀(v:V) (c:Value),AY H v c->FF v
 | .b _,_,_| .s _,_,_| .pn,_,_| .p _ _,_,_| .sl _ _ _,_,_| .sv _ _ _ _,_,_| .pe _ _ _ _,_,_| .m _,_,_| .mn,_,_| .Lz,_,_| .Dv,_,_| .any,_,_=>by simp only[FF]
 | .i k n,_,h=>by
   simp only[AY]at h;simp only[FF];exact h.2
 | .rp cs,_,h=>by
   simp only[AY]at h;obtain⟨b,o,rfl,h⟩:=h;simp only[FF];exact Jh cs o h
 | .l es full,_,h=>by
   simp only[AY]at h;obtain⟨a,cap,h1,h2,h3,h4,h5,h6⟩:=h;simp only[FF];refine⟨h4,?_⟩;cases es with
   | nil=>exact trivial
   | cons e es=>
     obtain⟨b,o,sz,h7,h8⟩:=h6 (by simp);exact iN (e::es) o h8
 | .f fn first cap,_,h=>by
   simp only[AY]at h;obtain⟨f',c',h1,h2,h3,h4,h5⟩:=h;simp only[FF];exact⟨Jh first 0 h3,Jh cap 0 h5⟩
 | .FD t v,_,h=>by
   simp only[AY]at h;obtain⟨c',h1,h2⟩:=h;simp only[FF];exact qm v c' h2
 | .a cs,_,h=>by
   simp only[AY]at h;obtain⟨c',h1,h2,h3⟩:=h;simp only[FF];exact Jh cs 0 h3
 | .t cs,_,h=>by
   simp only[AY]at h;obtain⟨c',h1,h2,h3⟩:=h;simp only[FF];exact Jh cs 0 h3
def Jh {H:Nat->Nat->Option Value} {g:Nat->Option Value}: ∀(vs:List V) (o:Nat),BV H g o vs->IV vs
 | [],_,_=>trivial
 | v::vs,o,h=>by
   simp only[BV]at h;obtain⟨⟨c,h1,h2⟩,h3⟩:=h;exact⟨qm v c h2,Jh vs (o+1) h3⟩
def iN {H:Nat->Nat->Option Value} {g:Nat->Option Value} {sz:Nat}: ∀(es:List (List V)) (o:Nat),BE H g sz o es->Tk es
 | [],_,_=>trivial
 | e::es,o,h=>by
   simp only[BE]at h;obtain⟨h1,h2,h3⟩:=h;exact⟨Jh e o h2,iN es (o+sz) h3⟩
end
def Av.fit {f:FuncId} {args:List V} {Q:R->AE->Prop} (hok:okF P f=true) (h:IV args->Av P f args Z Q):Av P f args Z Q:=
 ⟨hok,fun F w cs hR hv=>(h (Jh args 0 hv.2)).2 F w cs hR hv⟩
def Pure.fit {f:FuncId} {args:List V} {v:V} (hok:okF P f=true) (h:IV args->Pure P f args v):Pure P f args v:=Av.fit hok h
def BO.fit {f:FuncId} {args:List V} {pre:List At} {Φ:R->List At->Prop} (hok:okF P f=true) (h:IV args->BO P f args pre Φ):BO P f args pre Φ:=fun Z hs=>Av.fit hok fun hf=>h hf Z hs
def lA {es:List (List V)}:Tk es↔ ∀e∈es,IV e:=by
 induction es with
 | nil=>simp[Tk]
 | cons e r ih=>simp[Tk,ih]
def Jr {α:Type} {enc:α->List V} {xs:List α}:Tk (xs.map enc)↔ ∀x∈xs,IV (enc x):=by
 rw[lA];simp
def IZ {α:Type} {enc:α->List V} [hn:Vb enc] {xs:List α} {f:Bool}:FF (.l (xs.map enc) f)↔(xs.map enc).length<=Ad/\Tk (xs.map enc):=
 ⟨fun⟨h1,h2⟩=>⟨by rw[CW];exact kT hn.h h1,h2⟩,fun⟨h1,h2⟩=>⟨J6 h1,h2⟩⟩
def o8 {es:List (List V)} {f:Bool}:FF (.l es f)↔es.length<=Hk es/\Tk es:=Iff.rfl
def Ji {cs:List V}:FF (.a cs)↔IV cs:=Iff.rfl
def Uj {cs:List V}:FF (.rp cs)↔IV cs:=Iff.rfl
def Eo {v:V} {r:List V}:IV (v::r)↔FF v/\IV r:=Iff.rfl
def drop_cons {α:Type} {xs:List α} {k:Nat} {x:α} (h:xs[k]? =some x):xs.drop k=x::xs.drop (k+1):=by
 obtain⟨hk,rfl⟩:=JM.1 h;exact List.drop_eq_getElem_cons hk
def Au {α:Type} {xs:List α} {k:Nat} (h:k=xs.length):xs.drop k= []:=List.drop_of_length_le (by omega)
end Go.Gl
namespace Go.Gl
variable {P:Program} {Z:AE} {env:Env}
class Pm (G:Prop) (G':outParam Prop):Prop where
 h:G'->G
def st {G G':Prop} [i:Pm G G'] (h:G'):G:=i.h h
def sq {l:List Nat} {a b:AT} {Q:Aa->Env->AE->Prop} (h: ∀K:Env->AE->Prop,(∀env Z,(pk l env fun E=>W P b Q E Z)->K env Z)->W P a (Aa.andThen K Q) env Z):W P (.seq l a b) Q env Z:=D3 h
class Sti (G:Prop) (G':outParam Prop):Prop where
 h:G'->G
def si {G G':Prop} [i:Sti G G'] (h:G'):G:=i.h h
instance {ops:List Ao} {Q:Aa->Env->AE->Prop}:Sti (W P (.DA ops) Q env Z) (∀(KR:Env->AE->Prop) (KP:Env->V->AE->Prop),(∀env Z,Q .normal env Z->KR env Z)->(∀env v Z,Q (.Bf v) env Z->KP env v Z)->WT P ops KR KP env Z):=⟨Ci⟩
instance {l:List Nat} {ops:List Ck} {Q:Aa->Env->AE->Prop}:Sti (W P (.HG l ops) Q env Z) (∀(KR:Env->AE->Prop) (KP:V->AE->Prop),(∀env Z,(pk l env fun E=>Q .normal E Z)->KR env Z)->(∀v Z,(∀Z',Sub Z Z'->Q (.Bf v) [] Z')->KP v Z)->WD P ops KR KP env Z):=⟨Ii⟩
instance {c:Bk} {a b:AT} {Q:Aa->Env->AE->Prop}:Pm (W P (.cond c a b) Q env Z) (match ev env c with
 | some (.b t)=>(t=true->W P a Q env Z)/\(t=false->W P b Q env Z)
 | _=>False):=⟨EY⟩
instance {id:Nat} {a:AT} {Q:Aa->Env->AE->Prop}:Pm (W P (.block id a) Q env Z) (W P a (Aa.inBlock id Q) env Z):=⟨D7⟩
instance {l:List Nat} {a:AT} {Q:Aa->Env->AE->Prop}:Pm (W P (.loop l a) Q env Z) (pk l env fun E=>Ag l a (W P a) Q E Z):=⟨GD⟩
instance {id:Nat} {Q:Aa->Env->AE->Prop}:Pm (W P (.exit id) Q env Z) (Q (.exit id) env Z):=⟨GF⟩
instance {Q:Aa->Env->AE->Prop}:Pm (W P .ret Q env Z) (Q .ret env Z):=⟨LU⟩
instance {Q:Aa->Env->AE->Prop}:Pm (W P .skip Q env Z) (Q .normal env Z):=⟨E6⟩
instance {a:AT} {Q:Aa->Env->AE->Prop}:Pm (W P (.scope a) Q env Z) (W P a Q env Z):=⟨H9⟩
instance {l:List Nat} {g:Bk} {ps:List Nat} {a b:AT} {Q:Aa->Env->AE->Prop}:Pm (W P (.D1 l g ps a b) Q env Z) (match ev env g with
 | some (.f (.func gf) [] cap)=>pk l env fun E=> ∀L,Z L=none->Av P gf (.f (.yield L) [] []::cap) (Bu Z L (.loop .ready E (Bg P ps a b))) (LV L Q env)
 | _=>False):=⟨IA⟩
instance {A B:Prop}:Pm ((true=true->A)/\(true=false->B)) A:=⟨LR⟩
instance {A B:Prop}:Pm ((false=true->A)/\(false=false->B)) B:=⟨LS⟩
instance {A B:Prop}:Pm ((false=false->A)/\(false=true->B)) A:=⟨KF⟩
instance {A B:Prop}:Pm ((true=false->A)/\(true=true->B)) B:=⟨KE⟩
instance {A B:Prop} {b:Bool}:Pm ((b=true->A)/\(b= !true->B)) ((b=true->A)/\(b=false->B)):=⟨id⟩
instance {A B:Prop} {b:Bool}:Pm ((b=false->A)/\(b= !false->B)) ((b=false->A)/\(b=true->B)):=⟨id⟩
instance {agg:Option Nat} {cs:List V} {K:V->Prop}:Pm (AV Z agg (.rp cs) K) (cut agg cs 0 K):=⟨fun h=>h⟩
instance {es:List (List V)} {f:Bool} {K:V->Prop}:Pm (A0 (.l es f) K) (K (.i .i64 es.length)):=⟨Kv⟩
def kc {K A:Env->AE->Prop} (h:A env Z) (hk: ∀env Z,A env Z->K env Z:=by assumption):K env Z:=hk _ _ h
def kp {K A:Env->V->AE->Prop} {v:V} (h:A env v Z) (hk: ∀env v Z,A env v Z->K env v Z:=by assumption):K env v Z:=hk _ _ _ h
def rk {x:Ao} {r:List Ao} {A:Prop} (h1:Hw P x env Z) (h2:EN P r env Z/\A):EN P (x::r) env Z/\A:=⟨⟨h1,h2.1⟩,h2.2⟩
def dr {A:Prop} (h:A):EN P [] env Z/\A:=⟨trivial,h⟩
class BP (b v:Bool) (p:outParam Prop):Prop where
 h:b=v->p
def bp {b v:Bool} {p:Prop} [i:BP b v p] (h:b=v):p:=i.h h
instance (priority:=low) {b v:Bool}:BP b v (b=v):=⟨id⟩
instance (priority:=mid) {p:Prop} [Decidable p]:BP (decide p) true p:=⟨of_decide_eq_true⟩
instance (priority:=mid) {p:Prop} [Decidable p]:BP (decide p) false (¬p):=⟨of_decide_eq_false⟩
instance {a b:Int}:BP (decide (a<b)) false (b<=a):=⟨fun h=>Int.not_lt.1 (of_decide_eq_false h)⟩
instance {a b:Int}:BP (decide (a<=b)) false (b<a):=⟨fun h=>Int.not_le.1 (of_decide_eq_false h)⟩
instance {a b:Int}:BP (a==b) true (a=b):=⟨fun h=>by simpa using h⟩
instance {a b:Int}:BP (a==b) false (a≠b):=⟨fun h=>by simpa using h⟩
instance {a b:Int}:BP (a != b) true (a≠b):=⟨fun h=>by simpa using h⟩
instance {a b:Int}:BP (a != b) false (a=b):=⟨fun h=>by simpa using h⟩
instance {b:Bool} {p:Prop} [i:BP b false p]:BP (!b) true p:=⟨fun h=>i.h (by simpa using h)⟩
instance {b:Bool} {p:Prop} [i:BP b true p]:BP (!b) false p:=⟨fun h=>i.h (by simpa using h)⟩
instance {b x v:Bool} {p:Prop} [i:BP b v p]:BP (bif false then x else b) v p:=⟨i.h⟩
instance {b x v:Bool} {p:Prop} [i:BP b v p]:BP (bif true then b else x) v p:=⟨i.h⟩
def fc {α:Type} {enc:α->List V} {xs:List α} {k:Nat} {A B:Prop} (h1: ∀x,xs[k]? =some x->k<xs.length->decide (BR k<((xs.map enc).length:Nat))=true->A) (h2:k=xs.length->decide (BR k<((xs.map enc).length:Nat))=false->B) (hk:k<=xs.length:=by assumption) (hm:xs.length<=Ad:=by first|assumption|omega|simp[Ad]<;>omega) :
    (decide (BR k<((xs.map enc).length:Nat))=true->A)/\(decide (BR k<((xs.map enc).length:Nat))=false->B):=
 ⟨fun h=>(GZ (enc:=enc) (A:=A) (B:=True) hk hm (fun x hx hlt=>h1 x hx hlt h) fun _=>trivial).1 h,fun h=>(GZ (enc:=enc) (A:=True) (B:=B) hk hm (fun _ _ _=>trivial) fun he=>h2 he h).2 h⟩
def ix {α:Type} {enc:α->List V} {xs:List α} {f:Bool} {sz:Nat} {K:V->Prop} {ki:IntKind} {k:Nat} {x:α} (h:K (.rp (enc x))) (hx:xs[k]? =some x:=by assumption) (hm:xs.length<=Ad:=by first|assumption|omega|simp[Ad]<;>omega) (hs:(enc x).length=sz:=by first|rfl|simp) :
    AQ sz none (.l (xs.map enc) f) (.i ki (BR k)) K:=JV hx hm hs h
def iq {α:Type} {enc:α->List V} {xs:List α} {f:Bool} {sz:Nat} {K:V->Prop} {ki:IntKind} {j:Int} (h: ∀x,xs[j.toNat]? =some x->K (.rp (enc x))) (h0:0<=j:=by omega) (h1:j<xs.length:=by omega) (hs: ∀x,(enc x).length=sz:=by intro x;first|rfl|simp|(rw[Bw];rfl)) :
    AQ sz none (.l (xs.map enc) f) (.i ki j) K:=by
 have hlt:j.toNat<xs.length:=by omega
 exact VX j.toNat (Dp hlt) (by omega) (hs _) (h _ (Dp hlt))
def sk1 {α:Type} {enc:α->List V} {xs:List α} {f:Bool} {sz:Nat} {ki:IntKind} {k:Nat} {K:V->AE->Prop} (h:K (.l ((xs.take k).map enc) (f&&decide ((k:Int)=((xs.map enc).length:Nat)))) Z) (hl:k<=xs.length:=by first|assumption|omega) (hm:xs.length<=Ad:=by first|assumption|omega) (hs: ∀x,(enc x).length=sz:=by intro x;first|rfl|simp|(rw[Bw];rfl)) :
    AP Z sz (.l (xs.map enc) f) none (some (.i ki (BR k))) none K:=by
 rw[Ae (by omega)];refine⟨fun e he=>?_,?_⟩
 .obtain⟨x,_,rfl⟩:=Hc.1 he
  exact hs x
 .simp only[O2,CW]
  refine⟨by omega,by omega,by omega,?_⟩;rw[HX];simpa[List.map_take]using h
def ixF {xs:List Fact} {f:Bool} {K:V->Prop} {ki:IntKind} {k:Nat} {x:Fact} (h:K (.rp (xF x))) (hx:xs[k]? =some x:=by assumption) (hm:xs.length<=Ad:=by first|assumption|omega):AQ 6 none (.l (xs.map Fm) f) (.i ki (BR k)) K:=by
 refine JV hx hm (by rw[Bw];rfl) ?_;rw[Bw];exact h
def Rr {a0:At} {l:List At}:(a0::l)[0]? =some a0:=rfl
def Rq {a0 a1:At} {l:List At}:(a0::a1::l)[1]? =some a1:=rfl
def Rp {a0 a1 a2:At} {l:List At}:(a0::a1::a2::l)[2]? =some a2:=rfl
def Ro {a0 a1 a2 a3:At} {l:List At}:(a0::a1::a2::a3::l)[3]? =some a3:=rfl
def Rn {a0 a1 a2 a3 a4:At} {l:List At}:(a0::a1::a2::a3::a4::l)[4]? =some a4:=rfl
def Rm {a0 a1 a2 a3 a4 a5:At} {l:List At}:(a0::a1::a2::a3::a4::a5::l)[5]? =some a5:=rfl
def ld {l:List At} {i n off:Nat} {agg:Option Nat} {vs:List V} {K:V->Prop} (hk:cut agg vs off K) (h:Sat Z l:=by assumption)
    (hi:l[i]? =some (.box n vs):=by first|exact Rr|exact Rq|exact Rp|exact Ro|exact Rn|exact Rm):AV Z agg (.p n off) K:=Vn h i hi hk
def s1 {l:List At} {i n off:Nat} {vs:List V} {x:V} {K:AE->Prop} (hk: ∀Z',Sat Z' (l.set i (.box n (vs.set off x)))->K Z') (h:Sat Z l:=by assumption)
    (hi:l[i]? =some (.box n vs):=by first|exact Rr|exact Rq|exact Rp|exact Ro|exact Rn|exact Rm)
    (h1:CJ x=true:=by first|rfl|exact Hj (by assumption) 0 rfl|exact Hj (by assumption) 1 rfl|exact Hj (by assumption) 2 rfl|exact Hj (by assumption) 3 rfl|simp) (ho:off+1<=vs.length:=by exact Nat.le_of_ble_eq_true rfl):AS Z 1 (.p n off) x K:=
 MJ h i hi h1 ho hk
def sn {l:List At} {i n off sz:Nat} {vs vc:List V} {x:V} {K:AE->Prop} (hk: ∀Z',Sat Z' (l.set i (.box n (putAt vs off vc)))->K Z') (h:Sat Z l:=by assumption)
    (hi:l[i]? =some (.box n vs):=by first|exact Rr|exact Rq|exact Rp|exact Ro|exact Rn|exact Rm)
    (hc:cellsOf x=some vc:=by rfl) (hl:vc.length=sz:=by rfl) (h1:vc.all CJ=true:=by first|rfl|simp) (ho:off+sz<=vs.length:=by exact Nat.le_of_ble_eq_true rfl):AS Z sz (.p n off) x K:=
 Jg h i hi hc hl h1 ho hk
def QA:E0 (fun f:Fact=>Fm f) 6:=fun f=>by
 simp only[Bw];refine⟨rfl,fun v hv=>?_⟩;simp only[Fg,List.not_mem_nil,or_false]at hv;rcases hv with rfl|rfl|rfl|rfl|rfl|rfl<;>rfl
def PY:E0 (fun l:List Fact=>[V.l (facts l) false]) 1:=fun x=>⟨rfl,fun v hv=>by simp at hv;subst hv;rfl⟩
def af {α:Type} {enc:α->List V} {sz:Nat} {ys:List α} {g:Bool} {K:V->Prop} (hk:K (.l (ys.map enc) false)) (hg:E0 enc sz:=by first|exact Cy|exact DJ|exact PX|exact QA|exact PY) {b:Nat} (hl:ys.length<=Ad/\ys.length*b<=140737488355328:=by first|assumption|omega) :
    Ac b Z sz (.l [] true) (.l (ys.map enc) g) K:=iI hg hl hk
def al {l:List At} {o:O} {n:Nat} {K:Prop} {Z':AE} (e:Bu Z n o=Z') (hk:Sat Z' (l++[.obj n o])->K) (hn:Z n=none:=by assumption) (h:Sat Z l:=by assumption):K:=hk (e ▸ ff h hn)
def oi {l:List At} {i:Nat} {v:V} {sz:Nat} {es:List (List V)} {ki:IntKind} {j:Int} {K:V->Prop} (hk:K (FK v sz j.toNat)) (h:Sat Z l:=by assumption)
    (hi:l[i]? =some (.own v sz es):=by first|exact Rr|exact Rq|exact Rp|exact Ro|exact Rn|exact Rm) (h0:0<=j:=by omega) (h1:j<es.length:=by first|omega|(simp only[CW]at *;omega)):AQ sz none v (.i ki j) K:=
 fH h i j.toNat hi (by omega) (by omega) hk
def oc {l:List At} {i:Nat} {v:V} {sz k:Nat} {es:List (List V)} {ki:IntKind} {K:V->Prop} (hk:K (FK v sz k)) (h:Sat Z l:=by assumption)
    (hi:l[i]? =some (.own v sz es):=by first|exact Rr|exact Rq|exact Rp|exact Ro|exact Rn|exact Rm) (h1:k<es.length:=by first|omega|(simp only[CW]at *;omega)) (hm:k<=Ad:=by first|omega|(simp only[Ad];omega)):AQ sz none v (.i ki (BR k)) K:=
 fH h i k hi (Ae (by omega)) h1 hk
def ol {α:Type} {enc:α->List V} {xs:List α} {l:List At} {i:Nat} {v:V} {sz k:Nat} {agg:Option Nat} {K:V->Prop} (hk: ∀x,xs[k]? =some x->cut agg (enc x) 0 K) (h:Sat Z l:=by assumption)
    (hi:l[i]? =some (.own v sz (xs.map enc)):=by first|exact Rr|exact Rq|exact Rp|exact Ro|exact Rn|exact Rm) (h1:k<xs.length:=by first|omega|(simp only[CW]at *;omega)):AV Z agg (FK v sz k) K:=
 Ie h i hi (by rw[OU,Dp h1];rfl) (hk _ (Dp h1))
def oset {α:Type} {enc:α->List V} {xs:List α} {y:α} {l:List At} {i:Nat} {v x:V} {sz k:Nat} {vc:List V} {K:AE->Prop} (hk: ∀Z',Sat Z' (l.set i (.own v sz ((xs.set k y).map enc)))->K Z') (h:Sat Z l:=by assumption)
    (hi:l[i]? =some (.own v sz (xs.map enc)):=by first|exact Rr|exact Rq|exact Rp|exact Ro|exact Rn|exact Rm) (hc:cellsOf x=some vc:=by rfl) (he:vc=enc y:=by rfl) (hg:E0 enc sz:=by first|exact Cy|exact DJ|exact PX|exact QA|exact PY)
    (hv:(CR v).isSome=true:=by assumption) (h1:k<xs.length:=by first|omega|(simp only[CW]at *;omega)):AS Z sz (FK v sz k) x K:=by
 subst he;refine Mq h i hi (by rw[OU,Dp h1];rfl) hc (hg y).1 (Dj.2 fun v hv=>(hg y).2 v hv) (hg _).1 hv fun Z' hs=>hk Z' ?_
 rw[List.map_set];exact hs
def Ir {b sz:Nat} {v:V} {e:List V} {f:Bool} {K:V->AE->Prop} (h:AL b Z sz v (.l [e] f) fun v' Z'=>(CR v').isSome=true->K v' Z'):AL b Z sz v (.l [e] f) K:=by
 obtain⟨h1,h2,h3⟩:=h;refine⟨h1,h2,?_⟩;cases v with
 | l es full=>exact⟨h3.1,h3.2.1,fun e=>(by cases e),fun e=>⟨(h3.2.2.2 e).1,fun n cap hn hc=>(h3.2.2.2 e).2 n cap hn hc rfl⟩⟩
 | sl n len cap=>
   simp only at h3 ⊢;split at h3
   .exact⟨h3.1,h3.2.1,h3.2.2.1,h3.2.2.2.1,fun n' cap' hn hc=>h3.2.2.2.2 n' cap' hn hc rfl⟩
   .exact h3.elim
 | _=>exact h3.elim
def aq {l:List At} {i:Nat} {α:Type} {enc:α->List V} {sz:Nat} {xs:List α} {x:α} {v:V} {f:Bool} {e:List V} {K:V->AE->Prop} (hk: ∀v' Z',Sat Z' (l.set i (.own v' sz ((xs++[x]).map enc)))->(CR v').isSome=true->K v' Z') (h:Sat Z l:=by assumption)
    (hi:l[i]? =some (.own v sz (xs.map enc)):=by first|exact Rr|exact Rq|exact Rp|exact Ro|exact Rn|exact Rm)
    (he:e=enc x:=by rfl) (hg:E0 enc sz:=by first|exact Cy|exact DJ|exact PX|exact QA|exact PY)
    {b:Nat} (hl:xs.length<Ad/\(xs.length+1)*b<=140737488355328:=by first|assumption|omega|(simp only[Ri,CW,NM,List.length_nil,Lv,List.length_drop,List.length_replicate,Ad]at *;omega)):AL b Z sz v (.l [e] f) K:=
 Ir (GR h i hi hl hg hk he)
end Go.Gl
namespace Go.Gl
variable {P:Program} {Z:AE} {env:Env}
def iqF {xs:List Fact} {f:Bool} {K:V->Prop} {ki:IntKind} {j:Int} (h: ∀x,xs[j.toNat]? =some x->K (.rp (xF x))) (h0:0<=j:=by omega) (h1:j<xs.length:=by omega):AQ 6 none (.l (xs.map Fm) f) (.i ki j) K:=by
 refine iq (fun x hx=>?_) h0 h1 (by intro x;rw[Bw];rfl);rw[Bw];exact h x hx
def lo {l:List At} {i:Nat} {v:V} {sz:Nat} {es:List (List V)} {K:V->Prop} (hk:K (.i .i64 es.length)) (h:Sat Z l:=by assumption)
    (hi:l[i]? =some (.own v sz es):=by first|exact Rr|exact Rq|exact Rp|exact Ro|exact Rn|exact Rm) (hm:es.length<=Ad:=by first|omega|(simp only[CW,List.length_replicate,List.length_set,Ad]at *;omega)):A0 v K:=yG h i hi hm hk
def slq {α:Type} {enc:α->List V} {xs:List α} {f:Bool} {sz:Nat} {ki:IntKind} {j:Int} {K:V->AE->Prop} (h:K (.l ((xs.take j.toNat).map enc) (f&&decide (j=((xs.map enc).length:Nat)))) Z) (h0:0<=j:=by omega) (h1:j<=xs.length:=by first|omega|(simp only[CW]at *;omega)) (hs: ∀x,(enc x).length=sz:=by intro x;first|rfl|simp|(rw[Bw];rfl)) :
    AP Z sz (.l (xs.map enc) f) none (some (.i ki j)) none K:=by
 refine⟨fun e he=>?_,?_⟩
 .obtain⟨x,_,rfl⟩:=Hc.1 he
  exact hs x
 .simp only[O2,CW]
  refine⟨by omega,by omega,by omega,?_⟩;simpa[List.map_take]using h
def Sat.take {l:List At} (h:Sat Z l) (n:Nat):Sat Z (l.take n):=h.less (List.take_sublist _ _)
def MK {b:Bool} {Z Z':AE}:FH Z Z' (.l [] b) (.l [] false):= .l (fun h=>by cases h) .nil
def gJ {b:Bool} {Z Z':AE} {es:List (List V)}:FH Z Z' (.l es b) (.l es false):= .l (fun h=>by cases h) (Ea.refl _ _ _)
mutual
def TS {Z Z':AE}: ∀vs:List V,DD Z Z' vs vs
 | []=> .nil
 | v::r=> .cons (.refl v) (TS r)
end
def IQ {Z Z':AE}: ∀es:List (List V),Ea Z Z' es es
 | []=> .nil
 | e::r=> .cons (TS e) (IQ r)
def os2 {α:Type} {enc:α->List V} {xs:List α} {y:α} {l:List At} {i:Nat} {v x:V} {sz k:Nat} {vc:List V} {K:AE->Prop} (hk: ∀Z',Sat Z' (l.set i (.own v sz ((xs.set k y).map enc)))->K Z') (h:Sat Z l:=by assumption)
    (hi:l[i]? =some (.own v sz (xs.map enc)):=by first|exact Rr|exact Rq|exact Rp|exact Ro|exact Rn|exact Rm) (hc:cellsOf x=some vc:=by rfl) (he:vc=enc y:=by rfl) (hg:E0 enc sz:=by first|exact Cy|exact DJ|exact PX|exact QA|exact PY)
    (hv:(CR v).isSome=true:=by rfl) (h1:k<xs.length:=by first|omega|(simp only[CW]at *;omega)):AS Z sz (FK v sz k) x K:=oset hk h hi hc he hg hv h1
def BK {α:Type} (xs:List α) {k:Nat} (hk:k<=xs.length):(∃x,xs[k]? =some x/\k<xs.length)\/k=xs.length:=by
 rcases Nat.lt_or_ge k xs.length with h|h
 .exact .inl ⟨_,Dp h,h⟩
 .exact .inr (by omega)
def fK {α:Type} {enc:α->List V} {xs:List α} {k:Nat} {x:α} {A B:Prop} (h1:decide (BR k<((xs.map enc).length:Nat))=true->A) (hx:xs[k]? =some x:=by assumption) (hm:xs.length<=Ad:=by first|assumption|omega|simp[Ad]<;>omega) :
    (decide (BR k<((xs.map enc).length:Nat))=true->A)/\(decide (BR k<((xs.map enc).length:Nat))=false->B):=by
 refine⟨h1,fun h=>?_⟩;have hlt:=(JM.1 hx).1;rw[Ae (by omega),CW]at h;have:=of_decide_eq_false h;omega
def qG {α:Type} {enc:α->List V} {xs:List α} {k:Nat} {A B:Prop} (h1:decide (BR k<((xs.map enc).length:Nat))=false->B) (hx:k=xs.length:=by assumption) (hm:xs.length<=Ad:=by first|assumption|omega|simp[Ad]<;>omega) :
    (decide (BR k<((xs.map enc).length:Nat))=true->A)/\(decide (BR k<((xs.map enc).length:Nat))=false->B):=by
 refine⟨fun h=>?_,h1⟩;rw[Ae (by omega),CW]at h;have:=of_decide_eq_true h;omega
def iqk {α:Type} {enc:α->List V} {xs:List α} {f:Bool} {sz:Nat} {K:V->Prop} {ki:IntKind} {j:Int} {x:α} (h:K (.rp (enc x))) (hx:xs[j.toNat]? =some x:=by assumption) (h0:0<=j:=by omega) (hs:(enc x).length=sz:=by first|rfl|simp|(rw[Bw];rfl)) :
    AQ sz none (.l (xs.map enc) f) (.i ki j) K:=VX j.toNat hx (by omega) hs h
def yC {xs:List Fact} {f:Bool} {K:V->Prop} {ki:IntKind} {j:Int} {x:Fact} (h:K (.rp (xF x))) (hx:xs[j.toNat]? =some x:=by assumption) (h0:0<=j:=by omega):AQ 6 none (.l (xs.map Fm) f) (.i ki j) K:=by
 refine iqk ?_ hx h0;rw[Bw];exact h
class CB (b:Bool) (v:outParam Bool):Prop where
 h:b=v
instance :CB true true:=⟨rfl⟩
instance :CB false false:=⟨rfl⟩
instance {b:Bool} [i:CB b true]:CB (!b) false:=⟨by rw[i.h];rfl⟩
instance {b:Bool} [i:CB b false]:CB (!b) true:=⟨by rw[i.h];rfl⟩
instance {b x y v:Bool} [i:CB b true] [j:CB x v]:CB (bif b then x else y) v:=⟨by rw[i.h,j.h];rfl⟩
instance {b x y v:Bool} [i:CB b false] [j:CB y v]:CB (bif b then x else y) v:=⟨by rw[i.h,j.h];rfl⟩
instance {a b:Bool} [i:CB a true] [j:CB b true]:CB (a==b) true:=⟨by rw[i.h,j.h];rfl⟩
instance {a b:Bool} [i:CB a true] [j:CB b false]:CB (a==b) false:=⟨by rw[i.h,j.h];rfl⟩
instance {a b:Bool} [i:CB a false] [j:CB b true]:CB (a==b) false:=⟨by rw[i.h,j.h];rfl⟩
instance {a b:Bool} [i:CB a false] [j:CB b false]:CB (a==b) true:=⟨by rw[i.h,j.h];rfl⟩
instance {a b:Bool} [i:CB a true] [j:CB b true]:CB (a != b) false:=⟨by rw[i.h,j.h];rfl⟩
instance {a b:Bool} [i:CB a true] [j:CB b false]:CB (a != b) true:=⟨by rw[i.h,j.h];rfl⟩
instance {a b:Bool} [i:CB a false] [j:CB b true]:CB (a != b) true:=⟨by rw[i.h,j.h];rfl⟩
instance {a b:Bool} [i:CB a false] [j:CB b false]:CB (a != b) false:=⟨by rw[i.h,j.h];rfl⟩
def xh {A B:Prop} {b:Bool} [i:CB b true] (h:A):(b=true->A)/\(b=false->B):=⟨fun _=>h,fun e=>(by rw[i.h]at e;cases e)⟩
def xi {A B:Prop} {b:Bool} [i:CB b false] (h:B):(b=true->A)/\(b=false->B):=⟨fun e=>(by rw[i.h]at e;cases e),fun _=>h⟩
def yN {A B:Prop} {b:Bool} [i:CB b true] (h:B):(b=false->A)/\(b=true->B):=⟨fun e=>(by rw[i.h]at e;cases e),fun _=>h⟩
def mc {A B:Prop} {b:Bool} [i:CB b false] (h:A):(b=false->A)/\(b=true->B):=⟨fun _=>h,fun e=>(by rw[i.h]at e;cases e)⟩
def oi2 {l:List At} {i:Nat} {v:V} {sz:Nat} {es:List (List V)} {ki:IntKind} {j:Int} {K:V->Prop} (hk:K (FK v sz j.toNat)) (h:Sat Z l:=by assumption)
    (hi:l[i]? =some (.own v sz es):=by first|exact Rr|exact Rq|exact Rp|exact Ro|exact Rn|exact Rm) (h0:0<=j:=by omega) (h1:j<es.length:=by(simp only[CW,List.length_set];omega)):AQ sz none v (.i ki j) K:=
 fH h i j.toNat hi (by omega) (by omega) hk
def oc2 {l:List At} {i:Nat} {v:V} {sz k:Nat} {es:List (List V)} {ki:IntKind} {K:V->Prop} (hk:K (FK v sz k)) (h:Sat Z l:=by assumption)
    (hi:l[i]? =some (.own v sz es):=by first|exact Rr|exact Rq|exact Rp|exact Ro|exact Rn|exact Rm) (h1:k<es.length:=by(simp only[CW,List.length_set];omega)) (hm:k<=Ad:=by first|omega|(simp only[Ad];omega)):AQ sz none v (.i ki (BR k)) K:=
 fH h i k hi (Ae (by omega)) h1 hk
def olk {α:Type} {enc:α->List V} {xs:List α} {x:α} {l:List At} {i:Nat} {v:V} {sz k:Nat} {agg:Option Nat} {K:V->Prop} (hk:cut agg (enc x) 0 K) (h:Sat Z l:=by assumption)
    (hi:l[i]? =some (.own v sz (xs.map enc)):=by first|exact Rr|exact Rq|exact Rp|exact Ro|exact Rn|exact Rm) (hx:xs[k]? =some x:=by assumption):AV Z agg (FK v sz k) K:=
 Ie h i hi (by rw[OU,hx];rfl) hk
def yA {xs:List Fact} {x:Fact} {l:List At} {i:Nat} {v:V} {k:Nat} {agg:Option Nat} {K:V->Prop} (hk:cut agg (xF x) 0 K) (h:Sat Z l:=by assumption)
    (hi:l[i]? =some (.own v 6 (facts xs)):=by first|exact Rr|exact Rq|exact Rp|exact Ro|exact Rn|exact Rm) (hx:xs[k]? =some x:=by assumption):AV Z agg (FK v 6 k) K:=
 Ie h i hi (by rw[OU,hx];exact congrArg some (Bw x)) hk
def ol2 {α:Type} {enc:α->List V} {xs:List α} {l:List At} {i:Nat} {v:V} {sz k:Nat} {agg:Option Nat} {K:V->Prop} (hk: ∀x,xs[k]? =some x->cut agg (enc x) 0 K) (h:Sat Z l:=by assumption)
    (hi:l[i]? =some (.own v sz (xs.map enc)):=by first|exact Rr|exact Rq|exact Rp|exact Ro|exact Rn|exact Rm) (h1:k<xs.length:=by(simp only[CW,List.length_set];omega)):AV Z agg (FK v sz k) K:=ol hk h hi h1
def yW {v:V} (h:(CR v).isSome=true): ∃n l c,v= .sl n l c:=by
 cases v<;>first|(cases h;done)|exact⟨_,_,_,rfl⟩
end Go.Gl
