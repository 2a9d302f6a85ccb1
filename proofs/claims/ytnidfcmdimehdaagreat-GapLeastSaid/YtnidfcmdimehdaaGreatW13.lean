import Derived.ChangeOld
import Derived.Below
import Derived.Carry
import Derived.ChangeArms
import Derived.Deep.Slices
import Derived.Test.YtnidfcmdimehdaaGreatProg
import Derived.KernelRfl
import Derived.Test.YtnidfcmdimehdaaGreatW12
set_option linter.all false
set_option linter.defProp false
set_option maxHeartbeats 8000000
noncomputable section
namespace Go.Gl
open Go.ChangeShapes Go.WideShapes Go.ChangeAt Go.RowKit
def js {w w':World} (h:Bw (fun _=>False) emp w emp w'):Below w.heap.size w w':=
 ⟨h.os,h.tape,h.output,h.size,fun k hk=>h.frame k hk rfl⟩
def rb {w:World} {b o:Nat}:Hh (fun _=>False) emp w b o=w.cell? ⟨b,o,none⟩:=by
 unfold Hh;rw[if_neg (by simp[emp])]
def Nl {α:Type} {Q:Nat->α->Prop}: ∀(len:Nat),(∀i,i<len-> ∃v,Q i v)-> ∃l:List α,l.length=len/\ ∀i v,l[i]? =some v->Q i v
 | 0,_=>⟨[],rfl,fun i v h=>by simp at h⟩
 | k + 1,h=>by
   obtain⟨l,hl,hl2⟩:=Nl k fun i hi=>h i (by omega)
   obtain⟨u,hu⟩:=h k (by omega);refine⟨l++[u],by simp[hl],fun i v hv=>?_⟩;by_cases hi:i<l.length
   .rw[dN hi]at hv
    exact hl2 i v hv
   .rw[List.getElem?_append_right (by omega)]at hv
    have:i - l.length=0:=by
     have:=(Je.1 hv).1;simp at this;omega
    have hik:i=k:=by omega
    subst hik;rw[this]at hv;rw[<-Option.some.inj hv];exact hu
section
variable {H:Type} {enc:TypeId×Value->H} {P:Program} {W:World}
def kG {H:Type} (enc:TypeId×Value->H) (P:Program) (W:World) (n:Nat) (t:TypeId) {α:Type} (ea:α->List V):Prop:=
 ∀(cs:List Value) (d:DataW H) (ps:List MemPlace),DataW.trod enc P W 0 (fun _=>true) true n t cs=some (d,ps)->(∀x∈d.weights P t,x<=reachBytes)-> ∃a:α,cs.length=(ea a).length/\BI (Hh (fun _=>False) emp W) (fun i=>cs[i]?) 0 (ea a)
def US {H:Type} (enc:TypeId×Value->H) (P:Program) (W:World) (t:TypeId) {α:Type} (ea:α->List V):Prop:= ∀n,kG enc P W n t ea
def Lb {t:TypeId} {α:Type} {ea:α->List V}:kG enc P W 0 t ea:=fun cs d ps h=>by simp[DataW.trod]at h
def Ho {n:Nat} {t:TypeId} {α β:Type} {ea:α->List V} {eb:β->List V} (h:kG enc P W n t ea) (g:α->β) (hg: ∀a,ea a=eb (g a)):kG enc P W n t eb:=fun cs d ps h1 h2=>by
 obtain⟨a,h3,h4⟩:=h cs d ps h1 h2;exact⟨g a,by rw[<-hg];exact h3,by rw[<-hg];exact h4⟩
def PE {t:TypeId} (ht:P.underlying t=some (.int .i64)):US enc P W t fun x:Int=>[V.i .i64 x]:=fun n cs d ps h _=>by
 obtain⟨k,rfl,-,hw⟩:=DataW.trod_int ht h;simp only[Lit.wf,A4,CT]at hw;refine⟨k,rfl,⟨_,rfl,?_⟩,trivial⟩;simp only[Ac]
 first
  | exact⟨rfl,hw⟩
  | exact⟨trivial,hw⟩
  | exact hw
def Rt {n:Nat} {t e:TypeId} {sz:Nat} {α:Type} {ea:α->List V} (ht:P.underlying t=some (.slice e)) (hc:P.cellsOf e=sz) (hsz:0<sz) (hb:8<=P.bytesOf e) (he: ∀a,(ea a).length=sz) (h:kG enc P W n e ea) :
    kG enc P W (n+1) t fun l:List α=>[V.l (l.map ea) false]:=by
 intro cs d ps htr hw;rcases DataW.trod_slice ht htr with⟨rfl,hx⟩|⟨a,len,cap,elems,rest,n',hn,rfl,hx,-,hl,hm,hlen,hel,-,-⟩
 .refine⟨[],rfl,⟨_,rfl,?_⟩,trivial⟩
  simp only[List.map_nil,Ac];exact⟨none,0,rfl,IN _,fun h=>(by cases h),Nat.zero_le _,fun _=>rfl,fun h=>absurd rfl h⟩
 .obtain rfl:n'=n:=by omega
  simp only[Prod.mk.injEq]at hx;obtain⟨rfl,-⟩:=hx;simp only[DataW.weights,ht,FR,Dm]at hw;have hwl:=hw _ (.inl rfl)
  have hwe: ∀(l:List (DataW H)) (D:DataW H),D∈l-> ∀x∈D.weights P e,x∈DataW.weightsAll P e l:=by
   intro l
   induction l with
   | nil=>intro D hD;cases hD
   | cons y r ih=>
     intro D hD x hx;simp only[DataW.weightsAll,Dm];rcases FR.1 hD with rfl|hD
     .exact .inl hx
     .exact .inr (ih D hD x hx)
  have hM:len<=As:=by
   simp only[C4,hlen,reachBytes]at hwl;have h8:(len+rest.length)*8<=(len+rest.length)*P.bytesOf e:=Nat.mul_le_mul_left _ hb;unfold As;omega
  have each: ∀i,i<len-> ∃v:α,∃cs',W.cells? 0 (a.add (i*sz)) sz=some cs'/\BI (Hh (fun _=>False) emp W) (fun j=>cs'[j]?) 0 (ea v):=fun i hi=>by
   have hi':=hel i hi;obtain⟨x,hx⟩: ∃x,elems[i]? =some x:=⟨_,Di (by omega)⟩
   rw[hx,Option.bind_eq_some_iff,hc]at hi';obtain⟨cs',h1,h2⟩:=hi';obtain⟨v,-,h4⟩:=h cs' x.1 x.2 h2 fun y hy=>hw y (.inr (.inl (hwe _ x.1 (H8.2 ⟨x,Dn hx,rfl⟩) y hy)))
   exact⟨v,cs',h1,h4⟩
  obtain⟨l,hll,hlc⟩:=Nl len each;refine⟨l,rfl,⟨_,rfl,?_⟩,trivial⟩;simp only[Ac,C4];refine⟨some a,cap,by rw[hll],by omega,fun h=>(by cases h),by omega,fun h=>(by cases h),fun hne=>?_⟩;obtain⟨b,o,spot⟩:=a
  have h0:0<l.length:=by
   rcases l with _|⟨v,r⟩
   .exact absurd rfl hne
   .simp
  have hspot:spot=none:=by
   obtain⟨cs',h1,-⟩:=hlc 0 l[0] (Di h0);obtain⟨-,h3,h4⟩:=World.cells?_some h1;have h5:=h4 0 hsz;rw[Di (by omega)]at h5;have:=World.cell?_spot h5;simpa[Addr.add]using this
  subst hspot
  have hcell: ∀i v,l[i]? =some v-> ∀k u,(ea v)[k]? =some u-> ∃c,W.cell? ⟨b,o+i*sz+k,none⟩=some c/\Ac (Hh (fun _=>False) emp W) u c:=fun i v hv k u hu=>by
   obtain⟨cs',h1,h2⟩:=hlc i v hv;obtain⟨-,h3,h4⟩:=World.cells?_some h1;have hk:k<sz:=by rw[<-he v];exact(Je.1 hu).1
   obtain⟨c,hc',hr⟩:=BR.1 h2 k u hu;have h5:=h4 k hk;simp only[F9]at hc';rw[add_plain,add_plain]at h5;exact⟨c,by rw[<-hc',<-h5],hr⟩
  refine⟨b,o,sz,rfl,A7.2 fun j e hj=>?_⟩;rw[Np]at hj;obtain⟨v,hv,rfl⟩:=Option.map_eq_some_iff.1 hj;refine⟨he v,BR.2 fun k u hu=>?_⟩;obtain⟨c,h1,h2⟩:=hcell j v hv k u hu;exact⟨c,by rw[rb];exact h1,h2⟩
def It {t e:TypeId} {sz:Nat} {α:Type} {ea:α->List V} (ht:P.underlying t=some (.slice e)) (hc:P.cellsOf e=sz) (hsz:0<sz) (hb:8<=P.bytesOf e) (he: ∀a,(ea a).length=sz) (h:US enc P W e ea) :
    US enc P W t fun l:List α=>[V.l (l.map ea) false]
 | 0=>Lb
 | n+1=>Rt ht hc hsz hb he (h n)
def vK {H:Type} (enc:TypeId×Value->H) (P:Program) (W:World) (n:Nat) (fs:List Field) (o:Nat) {α:Type} (ea:α->List V):Prop:=
 ∀ (cs:List Value) (xs:List (DataW H×List MemPlace)),xs.length=fs.length->(∀(i:Nat) (f:Field),fs[i]? =some f->DataW.trod enc P W 0 (fun _=>true) true n (Field.type f) ((cs.drop (Field.offset f)).take (P.cellsOf (Field.type f)))=xs[i]?)->
   (∀x∈DataW.weightsEach P (fs.map fun f:Field=>f.type) (xs.map (·.1)),x<=reachBytes)-> ∃a:α,BI (Hh (fun _=>False) emp W) (fun i=>cs[i]?) o (ea a)
def Hp {n o:Nat}:vK enc P W n [] o fun _:Unit=>([]:List V):=fun _ _ _ _ _=>⟨(),trivial⟩
def BE {n o c:Nat} {f:Field} {fs:List Field} {α β:Type} {ea:α->List V} {eb:β->List V} (hf:f.offset=o) (hc:P.cellsOf f.type=c) (he: ∀a,(ea a).length=c) (h1:kG enc P W n f.type ea) (h2:vK enc P W n fs (o+c) eb) :
    vK enc P W n (f::fs) o fun p:α×β=>ea p.1++eb p.2:=by
 intro cs xs hl hx hw
 match xs,hl with
 | x ::r,hl=>
   have hx0:=hx 0 f rfl;simp only[pW]at hx0;simp only[Eg,DataW.weightsEach,Dm]at hw;obtain⟨a,ha1,ha2⟩:=h1 _ x.1 x.2 hx0 fun y hy=>hw y (.inl hy)
   obtain⟨b,hb⟩:=h2 cs r (by simpa using hl) (fun i g hg=>by
    have:=hx (i+1) g (by simpa using hg)
    simpa using this) fun y hy=>hw y (.inr hy)
   refine⟨(a,b),NX (BR.2 fun k u hu=>?_) (by rw[he];exact hb)⟩;obtain⟨cc,h3,h4⟩:=BR.1 ha2 k u hu;have hk:k<c:=by rw[<-he a];exact(Je.1 hu).1
   refine⟨cc,?_,h4⟩;rw[hf,hc,F9,List.getElem?_take,if_pos hk,ui]at h3;exact h3
def P9 {n:Nat} {t:TypeId} {fs:List Field} {α:Type} {ea:α->List V} (ht:P.underlying t=some (.struct fs.toArray)) (h:vK enc P W n fs 0 ea) (hl: ∀a,(ea a).length=P.cellsOf t):kG enc P W (n+1) t ea:=by
 intro cs d ps htr hw;obtain⟨xs,k,hk,hx,hcl,hxl,hf⟩:=DataW.trod_struct ht htr;obtain rfl:k=n:=by omega
 simp only[Prod.mk.injEq]at hx;obtain⟨rfl,-⟩:=hx;simp only[DataW.weights,ht]at hw;obtain⟨a,ha⟩:=h cs xs (by rw[hxl];simp) (fun i f hfi=>hf i f (by simpa using hfi)) (by simpa using hw);exact⟨a,by rw[hcl,hl],ha⟩
def Fk {t:TypeId} {fs:List Field} {α:Type} {ea:α->List V} (ht:P.underlying t=some (.struct fs.toArray)) (h: ∀n,vK enc P W n fs 0 ea) (hl: ∀a,(ea a).length=P.cellsOf t):US enc P W t ea
 | 0=>Lb
 | n+1=>P9 ht (h n) hl
end
end Go.Gl
namespace Go.Gl
open Go.Proofs
section
variable {H:Type} {enc:TypeId×Value->H} {W:World}
def b8 {n:Nat} (h:Nat.ble 8 n=true):8<=n:=Nat.le_of_ble_eq_true h
def Nw:US enc Tryz.prog W 3 fun x:Int=>[V.i .i64 x]:=PE Tryz.underlying3
def Ov:US enc Tryz.prog W 23 fun l:List Int=>[V.l (iL l) false]:=It Tryz.underlying23 (by kernel_rfl) (by decide) (b8 (by kernel_rfl)) (fun _=>rfl) Nw
def qj:US enc Tryz.prog W 265 fun p:Int×Int=>[eI p.1,eI p.2]:=fun n=>
 Ho (Fk Tryz.underlying265
  (fun n=>BE (c:=1) rfl (by kernel_rfl) (fun _=>rfl) (Nw n) (BE (c:=1) rfl (by kernel_rfl) (fun _=>rfl) (Nw n) Hp)) (fun _=>(show _=2 from rfl).trans (by kernel_rfl)) n) (fun x=>(x.1,x.2.1)) fun _=>rfl
def lk:US enc Tryz.prog W 41 fun l:List (Int×Int)=>[V.l (l.map fun p=>[eI p.1,eI p.2]) false]:=It (sz:=2) Tryz.underlying41 (by kernel_rfl) (by decide) (b8 (by kernel_rfl)) (fun _=>rfl) qj
def wM:US enc Tryz.prog W 43 Qz:=fun n=>
 Ho (Fk Tryz.underlying43
  (fun n=>BE (c:=1) rfl (by kernel_rfl) (fun _=>rfl) (Ov n) (BE (c:=1) rfl (by kernel_rfl) (fun _=>rfl) (Ov n)
   (BE (c:=1) rfl (by kernel_rfl) (fun _=>rfl) (lk n) Hp))) (fun _=>(show _=3 from rfl).trans (by kernel_rfl)) n) (fun x=>⟨x.1,x.2.1,x.2.2.1⟩) fun _=>rfl
def qh:US enc Tryz.prog W 179 NT:=fun n=>
 Ho (Fk Tryz.underlying179
  (fun n=>BE (c:=1) rfl (by kernel_rfl) (fun _=>rfl) (PE Tryz.underlying177 n) (BE (c:=1) rfl (by kernel_rfl) (fun _=>rfl) (Nw n)
   (BE (c:=1) rfl (by kernel_rfl) (fun _=>rfl) (Ov n) Hp))) (fun _=>(show _=3 from rfl).trans (by kernel_rfl)) n) (fun x=>⟨x.1,x.2.1,x.2.2.1⟩) fun _=>rfl
def lh:US enc Tryz.prog W 25 fun l:List Node=>[V.l (l.map NT) false]:=It (sz:=3) Tryz.underlying25 (by kernel_rfl) (by decide) (b8 (by kernel_rfl)) (fun _=>rfl) qh
def qm:US enc Tryz.prog W 22 fun l:List Qk=>[V.l (l.map Qz) false]:=It (sz:=3) Tryz.underlying22 (by kernel_rfl) (by decide) (b8 (by kernel_rfl)) (fun _=>rfl) wM
def M9 (f:Fact):(FX f).length=6:=by rw[Bq];rfl
def ZI: ∀n,kG enc Tryz.prog W n 64 FX/\kG enc Tryz.prog W n 62 fun l:List Fact=>[V.l (facts l) false]
 | 0=>⟨Lb,Lb⟩
 | n + 1 =>by
   obtain⟨h1,h2⟩:=ZI n;refine⟨?_,Rt Tryz.underlying62 (by kernel_rfl) (by decide) (b8 (by kernel_rfl)) M9 h1⟩
   exact Ho (P9 Tryz.underlying64
    (BE (c:=1) rfl (by kernel_rfl) (fun _=>rfl) (PE Tryz.underlying61 n) (BE (c:=1) rfl (by kernel_rfl) (fun _=>rfl) (Nw n)
     (BE (c:=1) rfl (by kernel_rfl) (fun _=>rfl) (Ov n) (BE (c:=1) rfl (by kernel_rfl) (fun _=>rfl) (Nw n)
      (BE (c:=1) rfl (by kernel_rfl) (fun _=>rfl) (Nw n) (BE (c:=1) rfl (by kernel_rfl) (fun _=>rfl) h2 Hp)))))) (fun _=>(show _=6 from rfl).trans (by kernel_rfl)))
    (fun x=>Fact.mk x.1 x.2.1 x.2.2.1 x.2.2.2.1 x.2.2.2.2.1 x.2.2.2.2.2.1) fun x=>by rw[Bq];rfl
def ql:US enc Tryz.prog W 64 FX:=fun n=>(ZI n).1
def qi:US enc Tryz.prog W 79 eT:=fun n=>
 Ho (Fk Tryz.underlying79
  (fun n=>BE (c:=1) rfl (by kernel_rfl) (fun _=>rfl) (PE Tryz.underlying77 n) (BE (c:=1) rfl (by kernel_rfl) (fun _=>rfl) (Nw n)
   (BE (c:=6) rfl (by kernel_rfl) M9 (ql n) (BE (c:=1) rfl (by kernel_rfl) (fun _=>rfl) (Nw n) Hp)))) (fun x=>(show _=9 from by simp only[RG,M9];rfl).trans (by kernel_rfl)) n) (fun x=>⟨x.1,x.2.1,x.2.2.1,x.2.2.2.1⟩) fun x=>by rw[Bq];rfl
def lj:US enc Tryz.prog W 24 fun l:List N6=>[V.l (l.map eT) false]:=It (sz:=9) Tryz.underlying24 (by kernel_rfl) (by decide) (b8 (by kernel_rfl)) (fun _=>rfl) qi
def qg : US enc Tryz.prog W 27 Ba:=fun n=>
 Ho (Fk Tryz.underlying27
  (fun n=>BE (c:=1) rfl (by kernel_rfl) (fun _=>rfl) (qm n)
   (BE (c:=1) rfl (by kernel_rfl) (fun _=>rfl) (Nw n) (BE (c:=1) rfl (by kernel_rfl) (fun _=>rfl) (Ov n)
    (BE (c:=1) rfl (by kernel_rfl) (fun _=>rfl) (lj n)
     (BE (c:=1) rfl (by kernel_rfl) (fun _=>rfl) (lh n)
      (BE (c:=1) rfl (by kernel_rfl) (fun _=>rfl) (Nw n) Hp)))))) (fun _=>(show _=6 from rfl).trans (by kernel_rfl)) n) (fun x=>⟨x.1,x.2.1,x.2.2.1,x.2.2.2.1,x.2.2.2.2.1,x.2.2.2.2.2.1⟩) fun _=>rfl
end
end Go.Gl
namespace Go.Gl
variable {P:Program} {Z Z':AE}
mutual
def E9:V->Prop
 | .i k n=>k.min<=n/\n<=k.max
 | .rp cs=>Hg cs
 | .l es _=>es.length<=As/\Ug es
 | .f _ a b=>Hg a/\Hg b
 | .Ee _ v=>E9 v
 | .a cs=>Hg cs
 | .t vs=>Hg vs
 | _=>True
def Hg:List V->Prop
 | []=>True
 | v::r=>E9 v/\Hg r
def Ug:List (List V)->Prop
 | []=>True
 | e::r=>Hg e/\Ug r
end
mutual
def o6 {H:Nat->Nat->Option Value}: ∀(v:V) (c:Value),Ac H v c->E9 v
 | .b _,_,_| .s _,_,_| .pn,_,_| .p _ _,_,_| .sl _ _ _,_,_| .sv _ _ _ _,_,_| .pe _ _ _ _,_,_| .m _,_,_| .mn,_,_| .Ky,_,_| .DT,_,_| .any,_,_=>by simp only[E9]
 | .i k n,_,h=>by
   simp only[Ac]at h;simp only[E9];exact h.2
 | .rp cs,_,h=>by
   simp only[Ac]at h;obtain⟨b,o,rfl,h⟩:=h;simp only[E9];exact Im cs o h
 | .l es full,_,h=>by
   simp only[Ac]at h;obtain⟨a,cap,h1,h2,h3,h4,h5,h6⟩:=h;simp only[E9];refine⟨h4,?_⟩;cases es with
   | nil=>exact trivial
   | cons e es=>
     obtain⟨b,o,sz,h7,h8⟩:=h6 (by simp);exact fe (e::es) o h8
 | .f fn first cap,_,h=>by
   simp only[Ac]at h;obtain⟨f',c',h1,h2,h3,h4,h5⟩:=h;simp only[E9];exact⟨Im first 0 h3,Im cap 0 h5⟩
 | .Ee t v,_,h=>by
   simp only[Ac]at h;obtain⟨c',h1,h2⟩:=h;simp only[E9];exact o6 v c' h2
 | .a cs,_,h=>by
   simp only[Ac]at h;obtain⟨c',h1,h2,h3⟩:=h;simp only[E9];exact Im cs 0 h3
 | .t cs,_,h=>by
   simp only[Ac]at h;obtain⟨c',h1,h2,h3⟩:=h;simp only[E9];exact Im cs 0 h3
def Im {H:Nat->Nat->Option Value} {g:Nat->Option Value}: ∀(vs:List V) (o:Nat),BI H g o vs->Hg vs
 | [],_,_=>trivial
 | v::vs,o,h=>by
   simp only[BI]at h;obtain⟨⟨c,h1,h2⟩,h3⟩:=h;exact⟨o6 v c h2,Im vs (o+1) h3⟩
def fe {H:Nat->Nat->Option Value} {g:Nat->Option Value} {sz:Nat}: ∀(es:List (List V)) (o:Nat),A9 H g sz o es->Ug es
 | [],_,_=>trivial
 | e::es,o,h=>by
   simp only[A9]at h;obtain⟨h1,h2,h3⟩:=h;exact⟨Im e o h2,fe es (o+sz) h3⟩
end
def Ao.fit {f:FuncId} {args:List V} {Q:R->AE->Prop} (hok:okF P f=true) (h:Hg args->Ao P f args Z Q):Ao P f args Z Q:=
 ⟨hok,fun F w cs hR hv=>(h (Im args 0 hv.2)).2 F w cs hR hv⟩
def Pure.fit {f:FuncId} {args:List V} {v:V} (hok:okF P f=true) (h:Hg args->Pure P f args v):Pure P f args v:=Ao.fit hok h
def BK.fit {f:FuncId} {args:List V} {pre:List At} {Φ:R->List At->Prop} (hok:okF P f=true) (h:Hg args->BK P f args pre Φ):BK P f args pre Φ:=fun Z hs=>Ao.fit hok fun hf=>h hf Z hs
def jS {es:List (List V)}:Ug es↔ ∀e∈es,Hg e:=by
 induction es with
 | nil=>simp[Ug]
 | cons e r ih=>simp[Ug,ih]
def Lq {α:Type} {enc:α->List V} {xs:List α}:Ug (xs.map enc)↔ ∀x∈xs,Hg (enc x):=by
 rw[jS];simp
def Io {es:List (List V)} {f:Bool}:E9 (.l es f)↔es.length<=As/\Ug es:=Iff.rfl
def KF {cs:List V}:E9 (.a cs)↔Hg cs:=Iff.rfl
def Tx {cs:List V}:E9 (.rp cs)↔Hg cs:=Iff.rfl
def Es {v:V} {r:List V}:Hg (v::r)↔E9 v/\Hg r:=Iff.rfl
def drop_cons {α:Type} {xs:List α} {k:Nat} {x:α} (h:xs[k]? =some x):xs.drop k=x::xs.drop (k+1):=by
 obtain⟨hk,rfl⟩:=Je.1 h;exact List.drop_eq_getElem_cons hk
def BS {α:Type} {xs:List α} {k:Nat} (h:k=xs.length):xs.drop k= []:=List.drop_of_length_le (by omega)
end Go.Gl
namespace Go.Gl
variable {P:Program} {Z:AE} {env:Env}
class Of (G:Prop) (G':outParam Prop):Prop where
 h:G'->G
def st {G G':Prop} [i:Of G G'] (h:G'):G:=i.h h
def sq {l:List Nat} {a b:AU} {Q:Ab->Env->AE->Prop} (h: ∀K:Env->AE->Prop,(∀env Z,(pk l env fun E=>W P b Q E Z)->K env Z)->W P a (Ab.andThen K Q) env Z):W P (.seq l a b) Q env Z:=Ml h
class yM (G:Prop) (G':outParam Prop):Prop where
 h:G'->G
def si {G G':Prop} [i:yM G G'] (h:G'):G:=i.h h
instance {ops:List Am} {Q:Ab->Env->AE->Prop}:yM (W P (.Cl ops) Q env Z) (∀(KR:Env->AE->Prop) (KP:Env->V->AE->Prop),(∀env Z,Q .normal env Z->KR env Z)->(∀env v Z,Q (.BV v) env Z->KP env v Z)->WT P ops KR KP env Z):=⟨KO⟩
instance {l:List Nat} {ops:List CS} {Q:Ab->Env->AE->Prop}:yM (W P (.GX l ops) Q env Z) (∀(KR:Env->AE->Prop) (KP:V->AE->Prop),(∀env Z,(pk l env fun E=>Q .normal E Z)->KR env Z)->(∀v Z,(∀Z',Sub Z Z'->Q (.BV v) [] Z')->KP v Z)->WD P ops KR KP env Z):=⟨Hv⟩
instance {c:Bb} {a b:AU} {Q:Ab->Env->AE->Prop}:Of (W P (.cond c a b) Q env Z) (match ev env c with
 | some (.b t)=>(t=true->W P a Q env Z)/\(t=false->W P b Q env Z)
 | _=>False):=⟨JH⟩
instance {id:Nat} {a:AU} {Q:Ab->Env->AE->Prop}:Of (W P (.block id a) Q env Z) (W P a (Ab.inBlock id Q) env Z):=⟨HR⟩
instance {l:List Nat} {a:AU} {Q:Ab->Env->AE->Prop}:Of (W P (.loop l a) Q env Z) (pk l env fun E=>Aa l a (W P a) Q E Z):=⟨JF⟩
instance {id:Nat} {Q:Ab->Env->AE->Prop}:Of (W P (.exit id) Q env Z) (Q (.exit id) env Z):=⟨JG⟩
instance {Q:Ab->Env->AE->Prop}:Of (W P .ret Q env Z) (Q .ret env Z):=⟨Mm⟩
instance {Q:Ab->Env->AE->Prop}:Of (W P .skip Q env Z) (Q .normal env Z):=⟨JE⟩
instance {a:AU} {Q:Ab->Env->AE->Prop}:Of (W P (.scope a) Q env Z) (W P a Q env Z):=⟨HP⟩
instance {l:List Nat} {g:Bb} {ps:List Nat} {a b:AU} {Q:Ab->Env->AE->Prop}:Of (W P (.DV l g ps a b) Q env Z) (match ev env g with
 | some (.f (.func gf) [] cap)=>pk l env fun E=> ∀L,Z L=none->Ao P gf (.f (.yield L) [] []::cap) (Bo Z L (.loop .ready E (BW P ps a b))) (KQ L Q env)
 | _=>False):=⟨HQ⟩
instance {A B:Prop}:Of ((true=true->A)/\(true=false->B)) A:=⟨Mi⟩
instance {A B:Prop}:Of ((false=true->A)/\(false=false->B)) B:=⟨Mj⟩
instance {A B:Prop}:Of ((false=false->A)/\(false=true->B)) A:=⟨JD⟩
instance {A B:Prop}:Of ((true=false->A)/\(true=true->B)) B:=⟨JC⟩
instance {A B:Prop} {b:Bool}:Of ((b=true->A)/\(b= !true->B)) ((b=true->A)/\(b=false->B)):=⟨id⟩
instance {A B:Prop} {b:Bool}:Of ((b=false->A)/\(b= !false->B)) ((b=false->A)/\(b=true->B)):=⟨id⟩
instance {agg:Option Nat} {cs:List V} {K:V->Prop}:Of (AT Z agg (.rp cs) K) (cut agg cs 0 K):=⟨fun h=>h⟩
instance {es:List (List V)} {f:Bool} {K:V->Prop}:Of (Ar (.l es f) K) (K (.i .i64 es.length)):=⟨O1⟩
def kc {K A:Env->AE->Prop} (h:A env Z) (hk: ∀env Z,A env Z->K env Z:=by assumption):K env Z:=hk _ _ h
def kp {K A:Env->V->AE->Prop} {v:V} (h:A env v Z) (hk: ∀env v Z,A env v Z->K env v Z:=by assumption):K env v Z:=hk _ _ _ h
def rk {x:Am} {r:List Am} {A:Prop} (h1:G8 P x env Z) (h2:Dl P r env Z/\A):Dl P (x::r) env Z/\A:=⟨⟨h1,h2.1⟩,h2.2⟩
def dr {A:Prop} (h:A):Dl P [] env Z/\A:=⟨trivial,h⟩
class BP (b v:Bool) (p:outParam Prop):Prop where
 h:b=v->p
def bp {b v:Bool} {p:Prop} [i:BP b v p] (h:b=v):p:=i.h h
instance (priority:=low) {b v:Bool}:BP b v (b=v):=⟨id⟩
instance (priority:=mid) {p:Prop} [Decidable p]:BP (decide p) true p:=⟨of_decide_eq_true⟩
instance (priority:=mid) {p:Prop} [Decidable p]:BP (decide p) false (¬p):=⟨of_decide_eq_false⟩
instance {a b:Int}:BP (decide (a<b)) false (b<=a):=⟨fun h=>Int.not_lt.1 (of_decide_eq_false h)⟩
instance {a b:Int}:BP (decide (a<=b)) false (b<a):=⟨fun h=>Int.not_le.1 (of_decide_eq_false h)⟩
instance {a b:Int}:BP (a==b) true (a=b):=⟨fun h=>by simpa using h⟩
instance {a b:Int}:BP (a==b) false (a≠b):=⟨fun h=>by simpa using h⟩
instance {a b:Int}:BP (a != b) true (a≠b):=⟨fun h=>by simpa using h⟩
instance {a b:Int}:BP (a != b) false (a=b):=⟨fun h=>by simpa using h⟩
instance {b:Bool} {p:Prop} [i:BP b false p]:BP (!b) true p:=⟨fun h=>i.h (by simpa using h)⟩
instance {b:Bool} {p:Prop} [i:BP b true p]:BP (!b) false p:=⟨fun h=>i.h (by simpa using h)⟩
instance {b x v:Bool} {p:Prop} [i:BP b v p]:BP (bif false then x else b) v p:=⟨i.h⟩
instance {b x v:Bool} {p:Prop} [i:BP b v p]:BP (bif true then b else x) v p:=⟨i.h⟩
def fc {α:Type} {enc:α->List V} {xs:List α} {k:Nat} {A B:Prop} (h1: ∀x,xs[k]? =some x->k<xs.length->decide (Bj k<((xs.map enc).length:Nat))=true->A) (h2:k=xs.length->decide (Bj k<((xs.map enc).length:Nat))=false->B) (hk:k<=xs.length:=by assumption) (hm:xs.length<=As:=by first|assumption|omega|simp[As]<;>omega) :
    (decide (Bj k<((xs.map enc).length:Nat))=true->A)/\(decide (Bj k<((xs.map enc).length:Nat))=false->B):=
 ⟨fun h=>(fZ (enc:=enc) (A:=A) (B:=True) hk hm (fun x hx hlt=>h1 x hx hlt h) fun _=>trivial).1 h,fun h=>(fZ (enc:=enc) (A:=True) (B:=B) hk hm (fun _ _ _=>trivial) fun he=>h2 he h).2 h⟩
def ix {α:Type} {enc:α->List V} {xs:List α} {f:Bool} {sz:Nat} {K:V->Prop} {ki:IntKind} {k:Nat} {x:α} (h:K (.rp (enc x))) (hx:xs[k]? =some x:=by assumption) (hm:xs.length<=As:=by first|assumption|omega|simp[As]<;>omega) (hs:(enc x).length=sz:=by first|rfl|simp) :
    AO sz none (.l (xs.map enc) f) (.i ki (Bj k)) K:=vr hx hm hs h
def iq {α:Type} {enc:α->List V} {xs:List α} {f:Bool} {sz:Nat} {K:V->Prop} {ki:IntKind} {j:Int} (h: ∀x,xs[j.toNat]? =some x->K (.rp (enc x))) (h0:0<=j:=by omega) (h1:j<xs.length:=by omega) (hs: ∀x,(enc x).length=sz:=by intro x;first|rfl|simp|(rw[Bq];rfl)) :
    AO sz none (.l (xs.map enc) f) (.i ki j) K:=by
 have hlt:j.toNat<xs.length:=by omega
 exact qO j.toNat (Di hlt) (by omega) (hs _) (h _ (Di hlt))
def sk1 {α:Type} {enc:α->List V} {xs:List α} {f:Bool} {sz:Nat} {ki:IntKind} {k:Nat} {K:V->AE->Prop} (h:K (.l ((xs.take k).map enc) (f&&decide ((k:Int)=((xs.map enc).length:Nat)))) Z) (hl:k<=xs.length:=by first|assumption|omega) (hm:xs.length<=As:=by first|assumption|omega) (hs: ∀x,(enc x).length=sz:=by intro x;first|rfl|simp|(rw[Bq];rfl)) :
    AN Z sz (.l (xs.map enc) f) none (some (.i ki (Bj k))) none K:=by
 rw[Av (by omega)];refine⟨fun e he=>?_,?_⟩
 .obtain⟨x,_,rfl⟩:=H8.1 he
  exact hs x
 .simp only[Nt,C4]
  refine⟨by omega,by omega,by omega,?_⟩;rw[Hc];simpa[List.map_take]using h
def ixF {xs:List Fact} {f:Bool} {K:V->Prop} {ki:IntKind} {k:Nat} {x:Fact} (h:K (.rp (xF x))) (hx:xs[k]? =some x:=by assumption) (hm:xs.length<=As:=by first|assumption|omega):AO 6 none (.l (xs.map FX) f) (.i ki (Bj k)) K:=by
 refine vr hx hm (by rw[Bq];rfl) ?_;rw[Bq];exact h
def Qq {a0:At} {l:List At}:(a0::l)[0]? =some a0:=rfl
def Qp {a0 a1:At} {l:List At}:(a0::a1::l)[1]? =some a1:=rfl
def Qo {a0 a1 a2:At} {l:List At}:(a0::a1::a2::l)[2]? =some a2:=rfl
def Qn {a0 a1 a2 a3:At} {l:List At}:(a0::a1::a2::a3::l)[3]? =some a3:=rfl
def Qm {a0 a1 a2 a3 a4:At} {l:List At}:(a0::a1::a2::a3::a4::l)[4]? =some a4:=rfl
def Ql {a0 a1 a2 a3 a4 a5:At} {l:List At}:(a0::a1::a2::a3::a4::a5::l)[5]? =some a5:=rfl
def ld {l:List At} {i n off:Nat} {agg:Option Nat} {vs:List V} {K:V->Prop} (hk:cut agg vs off K) (h:Sat Z l:=by assumption)
    (hi:l[i]? =some (.box n vs):=by first|exact Qq|exact Qp|exact Qo|exact Qn|exact Qm|exact Ql):AT Z agg (.p n off) K:=ou h i hi hk
def s1 {l:List At} {i n off:Nat} {vs:List V} {x:V} {K:AE->Prop} (hk: ∀Z',Sat Z' (l.set i (.box n (vs.set off x)))->K Z') (h:Sat Z l:=by assumption)
    (hi:l[i]? =some (.box n vs):=by first|exact Qq|exact Qp|exact Qo|exact Qn|exact Qm|exact Ql)
    (h1:B6 x=true:=by first|rfl|exact IW (by assumption) 0 rfl|exact IW (by assumption) 1 rfl|exact IW (by assumption) 2 rfl|exact IW (by assumption) 3 rfl|simp) (ho:off+1<=vs.length:=by exact Nat.le_of_ble_eq_true rfl):AP Z 1 (.p n off) x K:=
 OQ h i hi h1 ho hk
def sn {l:List At} {i n off sz:Nat} {vs vc:List V} {x:V} {K:AE->Prop} (hk: ∀Z',Sat Z' (l.set i (.box n (putAt vs off vc)))->K Z') (h:Sat Z l:=by assumption)
    (hi:l[i]? =some (.box n vs):=by first|exact Qq|exact Qp|exact Qo|exact Qn|exact Qm|exact Ql)
    (hc:cellsOf x=some vc:=by rfl) (hl:vc.length=sz:=by rfl) (h1:vc.all B6=true:=by first|rfl|simp) (ho:off+sz<=vs.length:=by exact Nat.le_of_ble_eq_true rfl):AP Z sz (.p n off) x K:=
 MY h i hi hc hl h1 ho hk
def PI:Ei (fun f:Fact=>FX f) 6:=fun f=>by
 simp only[Bq];refine⟨rfl,fun v hv=>?_⟩;simp only[FR,List.not_mem_nil,or_false]at hv;rcases hv with rfl|rfl|rfl|rfl|rfl|rfl<;>rfl
def OS:Ei (fun l:List Fact=>[V.l (facts l) false]) 1:=fun x=>⟨rfl,fun v hv=>by simp at hv;subst hv;rfl⟩
def af {α:Type} {enc:α->List V} {sz:Nat} {ys:List α} {g:Bool} {K:V->Prop} (hk:K (.l (ys.map enc) false)) (hg:Ei enc sz:=by first|exact Dt|exact HK|exact OR|exact PI|exact OS) {b:Nat} (hl:ys.length<=As/\ys.length*b<=140737488355328:=by first|assumption|omega) :
    AX b Z sz (.l [] true) (.l (ys.map enc) g) K:=rj hg hl hk
def al {l:List At} {o:O} {n:Nat} {K:Prop} {Z':AE} (e:Bo Z n o=Z') (hk:Sat Z' (l++[.obj n o])->K) (hn:Z n=none:=by assumption) (h:Sat Z l:=by assumption):K:=hk (e ▸ qI h hn)
def oi {l:List At} {i:Nat} {v:V} {sz:Nat} {es:List (List V)} {ki:IntKind} {j:Int} {K:V->Prop} (hk:K (Ej v sz j.toNat)) (h:Sat Z l:=by assumption)
    (hi:l[i]? =some (.own v sz es):=by first|exact Qq|exact Qp|exact Qo|exact Qn|exact Qm|exact Ql) (h0:0<=j:=by omega) (h1:j<es.length:=by first|omega|(simp only[C4]at *;omega)):AO sz none v (.i ki j) K:=
 xq h i j.toNat hi (by omega) (by omega) hk
def oc {l:List At} {i:Nat} {v:V} {sz k:Nat} {es:List (List V)} {ki:IntKind} {K:V->Prop} (hk:K (Ej v sz k)) (h:Sat Z l:=by assumption)
    (hi:l[i]? =some (.own v sz es):=by first|exact Qq|exact Qp|exact Qo|exact Qn|exact Qm|exact Ql) (h1:k<es.length:=by first|omega|(simp only[C4]at *;omega)) (hm:k<=As:=by first|omega|(simp only[As];omega)):AO sz none v (.i ki (Bj k)) K:=
 xq h i k hi (Av (by omega)) h1 hk
def ol {α:Type} {enc:α->List V} {xs:List α} {l:List At} {i:Nat} {v:V} {sz k:Nat} {agg:Option Nat} {K:V->Prop} (hk: ∀x,xs[k]? =some x->cut agg (enc x) 0 K) (h:Sat Z l:=by assumption)
    (hi:l[i]? =some (.own v sz (xs.map enc)):=by first|exact Qq|exact Qp|exact Qo|exact Qn|exact Qm|exact Ql) (h1:k<xs.length:=by first|omega|(simp only[C4]at *;omega)):AT Z agg (Ej v sz k) K:=
 Ts h i hi (by rw[Np,Di h1];rfl) (hk _ (Di h1))
def oset {α:Type} {enc:α->List V} {xs:List α} {y:α} {l:List At} {i:Nat} {v x:V} {sz k:Nat} {vc:List V} {K:AE->Prop} (hk: ∀Z',Sat Z' (l.set i (.own v sz ((xs.set k y).map enc)))->K Z') (h:Sat Z l:=by assumption)
    (hi:l[i]? =some (.own v sz (xs.map enc)):=by first|exact Qq|exact Qp|exact Qo|exact Qn|exact Qm|exact Ql) (hc:cellsOf x=some vc:=by rfl) (he:vc=enc y:=by rfl) (hg:Ei enc sz:=by first|exact Dt|exact HK|exact OR|exact PI|exact OS)
    (hv:(CQ v).isSome=true:=by assumption) (h1:k<xs.length:=by first|omega|(simp only[C4]at *;omega)):AP Z sz (Ej v sz k) x K:=by
 subst he;refine jO h i hi (by rw[Np,Di h1];rfl) hc (hg y).1 (DR.2 fun v hv=>(hg y).2 v hv) (hg _).1 hv fun Z' hs=>hk Z' ?_
 rw[List.map_set];exact hs
def H2 {b sz:Nat} {v:V} {e:List V} {f:Bool} {K:V->AE->Prop} (h:AJ b Z sz v (.l [e] f) fun v' Z'=>(CQ v').isSome=true->K v' Z'):AJ b Z sz v (.l [e] f) K:=by
 obtain⟨h1,h2,h3⟩:=h;refine⟨h1,h2,?_⟩;cases v with
 | l es full=>exact⟨h3.1,h3.2.1,fun e=>(by cases e),fun e=>⟨(h3.2.2.2 e).1,fun n cap hn hc=>(h3.2.2.2 e).2 n cap hn hc rfl⟩⟩
 | sl n len cap=>
   simp only at h3 ⊢;split at h3
   .exact⟨h3.1,h3.2.1,h3.2.2.1,h3.2.2.2.1,fun n' cap' hn hc=>h3.2.2.2.2 n' cap' hn hc rfl⟩
   .exact h3.elim
 | _=>exact h3.elim
def aq {l:List At} {i:Nat} {α:Type} {enc:α->List V} {sz:Nat} {xs:List α} {x:α} {v:V} {f:Bool} {e:List V} {K:V->AE->Prop} (hk: ∀v' Z',Sat Z' (l.set i (.own v' sz ((xs++[x]).map enc)))->(CQ v').isSome=true->K v' Z') (h:Sat Z l:=by assumption)
    (hi:l[i]? =some (.own v sz (xs.map enc)):=by first|exact Qq|exact Qp|exact Qo|exact Qn|exact Qm|exact Ql)
    (he:e=enc x:=by rfl) (hg:Ei enc sz:=by first|exact Dt|exact HK|exact OR|exact PI|exact OS)
    {b:Nat} (hl:xs.length<As/\(xs.length+1)*b<=140737488355328:=by first|assumption|omega|(simp only[RG,C4,Kt,List.length_nil,NK,List.length_drop,List.length_replicate,As]at *;omega)):AJ b Z sz v (.l [e] f) K:=
 H2 (Yu h i hi hl hg hk he)
end Go.Gl
namespace Go.Gl
variable {P:Program} {Z:AE} {env:Env}
def iqF {xs:List Fact} {f:Bool} {K:V->Prop} {ki:IntKind} {j:Int} (h: ∀x,xs[j.toNat]? =some x->K (.rp (xF x))) (h0:0<=j:=by omega) (h1:j<xs.length:=by omega):AO 6 none (.l (xs.map FX) f) (.i ki j) K:=by
 refine iq (fun x hx=>?_) h0 h1 (by intro x;rw[Bq];rfl);rw[Bq];exact h x hx
def lo {l:List At} {i:Nat} {v:V} {sz:Nat} {es:List (List V)} {K:V->Prop} (hk:K (.i .i64 es.length)) (h:Sat Z l:=by assumption)
    (hi:l[i]? =some (.own v sz es):=by first|exact Qq|exact Qp|exact Qo|exact Qn|exact Qm|exact Ql) (hm:es.length<=As:=by first|omega|(simp only[C4,List.length_replicate,List.length_set,As]at *;omega)):Ar v K:=vY h i hi hm hk
def slq {α:Type} {enc:α->List V} {xs:List α} {f:Bool} {sz:Nat} {ki:IntKind} {j:Int} {K:V->AE->Prop} (h:K (.l ((xs.take j.toNat).map enc) (f&&decide (j=((xs.map enc).length:Nat)))) Z) (h0:0<=j:=by omega) (h1:j<=xs.length:=by first|omega|(simp only[C4]at *;omega)) (hs: ∀x,(enc x).length=sz:=by intro x;first|rfl|simp|(rw[Bq];rfl)) :
    AN Z sz (.l (xs.map enc) f) none (some (.i ki j)) none K:=by
 refine⟨fun e he=>?_,?_⟩
 .obtain⟨x,_,rfl⟩:=H8.1 he
  exact hs x
 .simp only[Nt,C4]
  refine⟨by omega,by omega,by omega,?_⟩;simpa[List.map_take]using h
def Sat.take {l:List At} (h:Sat Z l) (n:Nat):Sat Z (l.take n):=h.less (List.take_sublist _ _)
def Tv {b:Bool} {Z Z':AE}:FZ Z Z' (.l [] b) (.l [] false):= .l (fun h=>by cases h) .nil
def eQ {b:Bool} {Z Z':AE} {es:List (List V)}:FZ Z Z' (.l es b) (.l es false):= .l (fun h=>by cases h) (FA.refl _ _ _)
mutual
def Sg {Z Z':AE}: ∀vs:List V,Cz Z Z' vs vs
 | []=> .nil
 | v::r=> .cons (.refl v) (Sg r)
end
def Jd {Z Z':AE}: ∀es:List (List V),FA Z Z' es es
 | []=> .nil
 | e::r=> .cons (Sg e) (Jd r)
def os2 {α:Type} {enc:α->List V} {xs:List α} {y:α} {l:List At} {i:Nat} {v x:V} {sz k:Nat} {vc:List V} {K:AE->Prop} (hk: ∀Z',Sat Z' (l.set i (.own v sz ((xs.set k y).map enc)))->K Z') (h:Sat Z l:=by assumption)
    (hi:l[i]? =some (.own v sz (xs.map enc)):=by first|exact Qq|exact Qp|exact Qo|exact Qn|exact Qm|exact Ql) (hc:cellsOf x=some vc:=by rfl) (he:vc=enc y:=by rfl) (hg:Ei enc sz:=by first|exact Dt|exact HK|exact OR|exact PI|exact OS)
    (hv:(CQ v).isSome=true:=by rfl) (h1:k<xs.length:=by first|omega|(simp only[C4]at *;omega)):AP Z sz (Ej v sz k) x K:=oset hk h hi hc he hg hv h1
def BJ {α:Type} (xs:List α) {k:Nat} (hk:k<=xs.length):(∃x,xs[k]? =some x/\k<xs.length)\/k=xs.length:=by
 rcases Nat.lt_or_ge k xs.length with h|h
 .exact .inl ⟨_,Di h,h⟩
 .exact .inr (by omega)
def pc {α:Type} {enc:α->List V} {xs:List α} {k:Nat} {x:α} {A B:Prop} (h1:decide (Bj k<((xs.map enc).length:Nat))=true->A) (hx:xs[k]? =some x:=by assumption) (hm:xs.length<=As:=by first|assumption|omega|simp[As]<;>omega) :
    (decide (Bj k<((xs.map enc).length:Nat))=true->A)/\(decide (Bj k<((xs.map enc).length:Nat))=false->B):=by
 refine⟨h1,fun h=>?_⟩;have hlt:=(Je.1 hx).1;rw[Av (by omega),C4]at h;have:=of_decide_eq_false h;omega
def vJ {α:Type} {enc:α->List V} {xs:List α} {k:Nat} {A B:Prop} (h1:decide (Bj k<((xs.map enc).length:Nat))=false->B) (hx:k=xs.length:=by assumption) (hm:xs.length<=As:=by first|assumption|omega|simp[As]<;>omega) :
    (decide (Bj k<((xs.map enc).length:Nat))=true->A)/\(decide (Bj k<((xs.map enc).length:Nat))=false->B):=by
 refine⟨fun h=>?_,h1⟩;rw[Av (by omega),C4]at h;have:=of_decide_eq_true h;omega
def xp {α:Type} {enc:α->List V} {xs:List α} {f:Bool} {sz:Nat} {K:V->Prop} {ki:IntKind} {j:Int} {x:α} (h:K (.rp (enc x))) (hx:xs[j.toNat]? =some x:=by assumption) (h0:0<=j:=by omega) (hs:(enc x).length=sz:=by first|rfl|simp|(rw[Bq];rfl)) :
    AO sz none (.l (xs.map enc) f) (.i ki j) K:=qO j.toNat hx (by omega) hs h
def vV {xs:List Fact} {f:Bool} {K:V->Prop} {ki:IntKind} {j:Int} {x:Fact} (h:K (.rp (xF x))) (hx:xs[j.toNat]? =some x:=by assumption) (h0:0<=j:=by omega):AO 6 none (.l (xs.map FX) f) (.i ki j) K:=by
 refine xp ?_ hx h0;rw[Bq];exact h
class CB (b:Bool) (v:outParam Bool):Prop where
 h:b=v
instance :CB true true:=⟨rfl⟩
instance :CB false false:=⟨rfl⟩
instance {b:Bool} [i:CB b true]:CB (!b) false:=⟨by rw[i.h];rfl⟩
instance {b:Bool} [i:CB b false]:CB (!b) true:=⟨by rw[i.h];rfl⟩
instance {b x y v:Bool} [i:CB b true] [j:CB x v]:CB (bif b then x else y) v:=⟨by rw[i.h,j.h];rfl⟩
instance {b x y v:Bool} [i:CB b false] [j:CB y v]:CB (bif b then x else y) v:=⟨by rw[i.h,j.h];rfl⟩
instance {a b:Bool} [i:CB a true] [j:CB b true]:CB (a==b) true:=⟨by rw[i.h,j.h];rfl⟩
instance {a b:Bool} [i:CB a true] [j:CB b false]:CB (a==b) false:=⟨by rw[i.h,j.h];rfl⟩
instance {a b:Bool} [i:CB a false] [j:CB b true]:CB (a==b) false:=⟨by rw[i.h,j.h];rfl⟩
instance {a b:Bool} [i:CB a false] [j:CB b false]:CB (a==b) true:=⟨by rw[i.h,j.h];rfl⟩
instance {a b:Bool} [i:CB a true] [j:CB b true]:CB (a != b) false:=⟨by rw[i.h,j.h];rfl⟩
instance {a b:Bool} [i:CB a true] [j:CB b false]:CB (a != b) true:=⟨by rw[i.h,j.h];rfl⟩
instance {a b:Bool} [i:CB a false] [j:CB b true]:CB (a != b) true:=⟨by rw[i.h,j.h];rfl⟩
instance {a b:Bool} [i:CB a false] [j:CB b false]:CB (a != b) false:=⟨by rw[i.h,j.h];rfl⟩
def xr {A B:Prop} {b:Bool} [i:CB b true] (h:A):(b=true->A)/\(b=false->B):=⟨fun _=>h,fun e=>(by rw[i.h]at e;cases e)⟩
def xu {A B:Prop} {b:Bool} [i:CB b false] (h:B):(b=true->A)/\(b=false->B):=⟨fun e=>(by rw[i.h]at e;cases e),fun _=>h⟩
def vo {A B:Prop} {b:Bool} [i:CB b true] (h:B):(b=false->A)/\(b=true->B):=⟨fun e=>(by rw[i.h]at e;cases e),fun _=>h⟩
def vq {A B:Prop} {b:Bool} [i:CB b false] (h:A):(b=false->A)/\(b=true->B):=⟨fun _=>h,fun e=>(by rw[i.h]at e;cases e)⟩
def oi2 {l:List At} {i:Nat} {v:V} {sz:Nat} {es:List (List V)} {ki:IntKind} {j:Int} {K:V->Prop} (hk:K (Ej v sz j.toNat)) (h:Sat Z l:=by assumption)
    (hi:l[i]? =some (.own v sz es):=by first|exact Qq|exact Qp|exact Qo|exact Qn|exact Qm|exact Ql) (h0:0<=j:=by omega) (h1:j<es.length:=by(simp only[C4,List.length_set];omega)):AO sz none v (.i ki j) K:=
 xq h i j.toNat hi (by omega) (by omega) hk
def oc2 {l:List At} {i:Nat} {v:V} {sz k:Nat} {es:List (List V)} {ki:IntKind} {K:V->Prop} (hk:K (Ej v sz k)) (h:Sat Z l:=by assumption)
    (hi:l[i]? =some (.own v sz es):=by first|exact Qq|exact Qp|exact Qo|exact Qn|exact Qm|exact Ql) (h1:k<es.length:=by(simp only[C4,List.length_set];omega)) (hm:k<=As:=by first|omega|(simp only[As];omega)):AO sz none v (.i ki (Bj k)) K:=
 xq h i k hi (Av (by omega)) h1 hk
def olk {α:Type} {enc:α->List V} {xs:List α} {x:α} {l:List At} {i:Nat} {v:V} {sz k:Nat} {agg:Option Nat} {K:V->Prop} (hk:cut agg (enc x) 0 K) (h:Sat Z l:=by assumption)
    (hi:l[i]? =some (.own v sz (xs.map enc)):=by first|exact Qq|exact Qp|exact Qo|exact Qn|exact Qm|exact Ql) (hx:xs[k]? =some x:=by assumption):AT Z agg (Ej v sz k) K:=
 Ts h i hi (by rw[Np,hx];rfl) hk
def vT {xs:List Fact} {x:Fact} {l:List At} {i:Nat} {v:V} {k:Nat} {agg:Option Nat} {K:V->Prop} (hk:cut agg (xF x) 0 K) (h:Sat Z l:=by assumption)
    (hi:l[i]? =some (.own v 6 (facts xs)):=by first|exact Qq|exact Qp|exact Qo|exact Qn|exact Qm|exact Ql) (hx:xs[k]? =some x:=by assumption):AT Z agg (Ej v 6 k) K:=
 Ts h i hi (by rw[Np,hx];exact congrArg some (Bq x)) hk
def ol2 {α:Type} {enc:α->List V} {xs:List α} {l:List At} {i:Nat} {v:V} {sz k:Nat} {agg:Option Nat} {K:V->Prop} (hk: ∀x,xs[k]? =some x->cut agg (enc x) 0 K) (h:Sat Z l:=by assumption)
    (hi:l[i]? =some (.own v sz (xs.map enc)):=by first|exact Qq|exact Qp|exact Qo|exact Qn|exact Qm|exact Ql) (h1:k<xs.length:=by(simp only[C4,List.length_set];omega)):AT Z agg (Ej v sz k) K:=ol hk h hi h1
def wG {v:V} (h:(CQ v).isSome=true): ∃n l c,v= .sl n l c:=by
 cases v<;>first|(cases h;done)|exact⟨_,_,_,rfl⟩
end Go.Gl
