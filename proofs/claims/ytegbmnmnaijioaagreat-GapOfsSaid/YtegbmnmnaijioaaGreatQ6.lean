import Derived.ChangeOld
import Derived.Below
import Derived.Carry
import Derived.ChangeArms
import Derived.Deep.Slices
import Derived.Test.YtegbmnmnaijioaaGreatProg
import Derived.KernelRfl
import Derived.Test.YtegbmnmnaijioaaGreatQ5
set_option linter.all false
set_option linter.defProp false
set_option maxHeartbeats 8000000
noncomputable section
namespace Go.Gl
open Go.ChangeShapes Go.WideShapes Go.ChangeAt Go.RowKit
def mV {w w':World} (h:B8 (fun _=>False) emp w emp w'):Below w.heap.size w w':=
 ⟨h.os,h.tape,h.output,h.size,fun k hk=>h.frame k hk rfl⟩
def uT {w:World} {b o:Nat}:Hh (fun _=>False) emp w b o=w.cell? ⟨b,o,none⟩:=by
 unfold Hh;rw[if_neg (by simp[emp])]
def PA {α:Type} {Q:Nat->α->Prop}: ∀(len:Nat),(∀i,i<len-> ∃v,Q i v)-> ∃l:List α,l.length=len/\ ∀i v,l[i]? =some v->Q i v
 | 0,_=>⟨[],rfl,fun i v h=>by simp at h⟩
 | k + 1,h=>by
   obtain⟨l,hl,hl2⟩:=PA k fun i hi=>h i (by omega)
   obtain⟨u,hu⟩:=h k (by omega);refine⟨l++[u],by simp[hl],fun i v hv=>?_⟩;by_cases hi:i<l.length
   .rw[cQ hi]at hv
    exact hl2 i v hv
   .rw[List.getElem?_append_right (by omega)]at hv
    have:i - l.length=0:=by
     have:=(JC.1 hv).1;simp at this;omega
    have hik:i=k:=by omega
    subst hik;rw[this]at hv;rw[<-Option.some.inj hv];exact hu
section
variable {H:Type} {enc:TypeId×Value->H} {P:Program} {W:World}
def m4 {H:Type} (enc:TypeId×Value->H) (P:Program) (W:World) (n:Nat) (t:TypeId) {α:Type} (ea:α->List V):Prop:=
 ∀(cs:List Value) (d:DataW H) (ps:List MemPlace),DataW.trod enc P W 0 (fun _=>true) true n t cs=some (d,ps)->(∀x∈d.weights P t,x<=reachBytes)-> ∃a:α,cs.length=(ea a).length/\Ba (Hh (fun _=>False) emp W) (fun i=>cs[i]?) 0 (ea a)
def Vo {H:Type} (enc:TypeId×Value->H) (P:Program) (W:World) (t:TypeId) {α:Type} (ea:α->List V):Prop:= ∀n,m4 enc P W n t ea
def Mn {t:TypeId} {α:Type} {ea:α->List V}:m4 enc P W 0 t ea:=fun cs d ps h=>by simp[DataW.trod]at h
def Il {n:Nat} {t:TypeId} {α β:Type} {ea:α->List V} {eb:β->List V} (h:m4 enc P W n t ea) (g:α->β) (hg: ∀a,ea a=eb (g a)):m4 enc P W n t eb:=fun cs d ps h1 h2=>by
 obtain⟨a,h3,h4⟩:=h cs d ps h1 h2;exact⟨g a,by rw[<-hg];exact h3,by rw[<-hg];exact h4⟩
def QZ {t:TypeId} (ht:P.underlying t=some (.int .i64)):Vo enc P W t fun x:Int=>[V.i .i64 x]:=fun n cs d ps h _=>by
 obtain⟨k,rfl,-,hw⟩:=DataW.trod_int ht h;simp only[Lit.wf,A9,Cc]at hw;refine⟨k,rfl,⟨_,rfl,?_⟩,trivial⟩;simp only[Ag]
 first
  | exact⟨rfl,hw⟩
  | exact⟨trivial,hw⟩
  | exact hw
def TM {n:Nat} {t e:TypeId} {sz:Nat} {α:Type} {ea:α->List V} (ht:P.underlying t=some (.slice e)) (hc:P.cellsOf e=sz) (hsz:0<sz) (hb:8<=P.bytesOf e) (he: ∀a,(ea a).length=sz) (h:m4 enc P W n e ea) :
    m4 enc P W (n+1) t fun l:List α=>[V.l (l.map ea) false]:=by
 intro cs d ps htr hw;rcases DataW.trod_slice ht htr with⟨rfl,hx⟩|⟨a,len,cap,elems,rest,n',hn,rfl,hx,-,hl,hm,hlen,hel,-,-⟩
 .refine⟨[],rfl,⟨_,rfl,?_⟩,trivial⟩
  simp only[List.map_nil,Ag];exact⟨none,0,rfl,IW _,fun h=>(by cases h),Nat.zero_le _,fun _=>rfl,fun h=>absurd rfl h⟩
 .obtain rfl:n'=n:=by omega
  simp only[Prod.mk.injEq]at hx;obtain⟨rfl,-⟩:=hx;simp only[DataW.weights,ht,GR,Du]at hw;have hwl:=hw _ (.inl rfl)
  have hwe: ∀(l:List (DataW H)) (D:DataW H),D∈l-> ∀x∈D.weights P e,x∈DataW.weightsAll P e l:=by
   intro l
   induction l with
   | nil=>intro D hD;cases hD
   | cons y r ih=>
     intro D hD x hx;simp only[DataW.weightsAll,Du];rcases GR.1 hD with rfl|hD
     .exact .inl hx
     .exact .inr (ih D hD x hx)
  have hM:len<=AZ:=by
   simp only[B2,hlen,reachBytes]at hwl;have h8:(len+rest.length)*8<=(len+rest.length)*P.bytesOf e:=Nat.mul_le_mul_left _ hb;unfold AZ;omega
  have each: ∀i,i<len-> ∃v:α,∃cs',W.cells? 0 (a.add (i*sz)) sz=some cs'/\Ba (Hh (fun _=>False) emp W) (fun j=>cs'[j]?) 0 (ea v):=fun i hi=>by
   have hi':=hel i hi;obtain⟨x,hx⟩: ∃x,elems[i]? =some x:=⟨_,Cr (by omega)⟩
   rw[hx,Option.bind_eq_some_iff,hc]at hi';obtain⟨cs',h1,h2⟩:=hi';obtain⟨v,-,h4⟩:=h cs' x.1 x.2 h2 fun y hy=>hw y (.inr (.inl (hwe _ x.1 (IX.2 ⟨x,Bo hx,rfl⟩) y hy)))
   exact⟨v,cs',h1,h4⟩
  obtain⟨l,hll,hlc⟩:=PA len each;refine⟨l,rfl,⟨_,rfl,?_⟩,trivial⟩;simp only[Ag,B2];refine⟨some a,cap,by rw[hll],by omega,fun h=>(by cases h),by omega,fun h=>(by cases h),fun hne=>?_⟩;obtain⟨b,o,spot⟩:=a
  have h0:0<l.length:=by
   rcases l with _|⟨v,r⟩
   .exact absurd rfl hne
   .simp
  have hspot:spot=none:=by
   obtain⟨cs',h1,-⟩:=hlc 0 l[0] (Cr h0);obtain⟨-,h3,h4⟩:=World.cells?_some h1;have h5:=h4 0 hsz;rw[Cr (by omega)]at h5;have:=World.cell?_spot h5;simpa[Addr.add]using this
  subst hspot
  have hcell: ∀i v,l[i]? =some v-> ∀k u,(ea v)[k]? =some u-> ∃c,W.cell? ⟨b,o+i*sz+k,none⟩=some c/\Ag (Hh (fun _=>False) emp W) u c:=fun i v hv k u hu=>by
   obtain⟨cs',h1,h2⟩:=hlc i v hv;obtain⟨-,h3,h4⟩:=World.cells?_some h1;have hk:k<sz:=by rw[<-he v];exact(JC.1 hu).1
   obtain⟨c,hc',hr⟩:=Bi.1 h2 k u hu;have h5:=h4 k hk;simp only[G8]at hc';rw[add_plain,add_plain]at h5;exact⟨c,by rw[<-hc',<-h5],hr⟩
  refine⟨b,o,sz,rfl,BH.2 fun j e hj=>?_⟩;rw[Je]at hj;obtain⟨v,hv,rfl⟩:=Option.map_eq_some_iff.1 hj;refine⟨he v,Bi.2 fun k u hu=>?_⟩;obtain⟨c,h1,h2⟩:=hcell j v hv k u hu;exact⟨c,by rw[uT];exact h1,h2⟩
def J2 {t e:TypeId} {sz:Nat} {α:Type} {ea:α->List V} (ht:P.underlying t=some (.slice e)) (hc:P.cellsOf e=sz) (hsz:0<sz) (hb:8<=P.bytesOf e) (he: ∀a,(ea a).length=sz) (h:Vo enc P W e ea) :
    Vo enc P W t fun l:List α=>[V.l (l.map ea) false]
 | 0=>Mn
 | n+1=>TM ht hc hsz hb he (h n)
def zZ {H:Type} (enc:TypeId×Value->H) (P:Program) (W:World) (n:Nat) (fs:List Field) (o:Nat) {α:Type} (ea:α->List V):Prop:=
 ∀ (cs:List Value) (xs:List (DataW H×List MemPlace)),xs.length=fs.length->(∀(i:Nat) (f:Field),fs[i]? =some f->DataW.trod enc P W 0 (fun _=>true) true n (Field.type f) ((cs.drop (Field.offset f)).take (P.cellsOf (Field.type f)))=xs[i]?)->
   (∀x∈DataW.weightsEach P (fs.map fun f:Field=>f.type) (xs.map (·.1)),x<=reachBytes)-> ∃a:α,Ba (Hh (fun _=>False) emp W) (fun i=>cs[i]?) o (ea a)
def Im {n o:Nat}:zZ enc P W n [] o fun _:Unit=>([]:List V):=fun _ _ _ _ _=>⟨(),trivial⟩
def BQ {n o c:Nat} {f:Field} {fs:List Field} {α β:Type} {ea:α->List V} {eb:β->List V} (hf:f.offset=o) (hc:P.cellsOf f.type=c) (he: ∀a,(ea a).length=c) (h1:m4 enc P W n f.type ea) (h2:zZ enc P W n fs (o+c) eb) :
    zZ enc P W n (f::fs) o fun p:α×β=>ea p.1++eb p.2:=by
 intro cs xs hl hx hw
 match xs,hl with
 | x ::r,hl=>
   have hx0:=hx 0 f rfl;simp only[sP]at hx0;simp only[E3,DataW.weightsEach,Du]at hw;obtain⟨a,ha1,ha2⟩:=h1 _ x.1 x.2 hx0 fun y hy=>hw y (.inl hy)
   obtain⟨b,hb⟩:=h2 cs r (by simpa using hl) (fun i g hg=>by
    have:=hx (i+1) g (by simpa using hg)
    simpa using this) fun y hy=>hw y (.inr hy)
   refine⟨(a,b),Ou (Bi.2 fun k u hu=>?_) (by rw[he];exact hb)⟩;obtain⟨cc,h3,h4⟩:=Bi.1 ha2 k u hu;have hk:k<c:=by rw[<-he a];exact(JC.1 hu).1
   refine⟨cc,?_,h4⟩;rw[hf,hc,G8,List.getElem?_take,if_pos hk,y4]at h3;exact h3
def Rc {n:Nat} {t:TypeId} {fs:List Field} {α:Type} {ea:α->List V} (ht:P.underlying t=some (.struct fs.toArray)) (h:zZ enc P W n fs 0 ea) (hl: ∀a,(ea a).length=P.cellsOf t):m4 enc P W (n+1) t ea:=by
 intro cs d ps htr hw;obtain⟨xs,k,hk,hx,hcl,hxl,hf⟩:=DataW.trod_struct ht htr;obtain rfl:k=n:=by omega
 simp only[Prod.mk.injEq]at hx;obtain⟨rfl,-⟩:=hx;simp only[DataW.weights,ht]at hw;obtain⟨a,ha⟩:=h cs xs (by rw[hxl];simp) (fun i f hfi=>hf i f (by simpa using hfi)) (by simpa using hw);exact⟨a,by rw[hcl,hl],ha⟩
def Gb {t:TypeId} {fs:List Field} {α:Type} {ea:α->List V} (ht:P.underlying t=some (.struct fs.toArray)) (h: ∀n,zZ enc P W n fs 0 ea) (hl: ∀a,(ea a).length=P.cellsOf t):Vo enc P W t ea
 | 0=>Mn
 | n+1=>Rc ht (h n) hl
end
end Go.Gl
namespace Go.Gl
open Go.Proofs
section
variable {H:Type} {enc:TypeId×Value->H} {W:World}
def b8 {n:Nat} (h:Nat.ble 8 n=true):8<=n:=Nat.le_of_ble_eq_true h
def PF:Vo enc Tryz.prog W 3 fun x:Int=>[V.i .i64 x]:=QZ Tryz.underlying3
def QH:Vo enc Tryz.prog W 23 fun l:List Int=>[V.l (iL l) false]:=J2 Tryz.underlying23 (by kernel_rfl) (by decide) (b8 (by kernel_rfl)) (fun _=>rfl) PF
def tZ:Vo enc Tryz.prog W 314 fun p:Int×Int=>[eI p.1,eI p.2]:=fun n=>
 Il (Gb Tryz.underlying314
  (fun n=>BQ (c:=1) rfl (by kernel_rfl) (fun _=>rfl) (PF n) (BQ (c:=1) rfl (by kernel_rfl) (fun _=>rfl) (PF n) Im)) (fun _=>(show _=2 from rfl).trans (by kernel_rfl)) n) (fun x=>(x.1,x.2.1)) fun _=>rfl
def oX:Vo enc Tryz.prog W 59 fun l:List (Int×Int)=>[V.l (l.map fun p=>[eI p.1,eI p.2]) false]:=J2 (sz:=2) Tryz.underlying59 (by kernel_rfl) (by decide) (b8 (by kernel_rfl)) (fun _=>rfl) tZ
def AAQ:Vo enc Tryz.prog W 61 Se:=fun n=>
 Il (Gb Tryz.underlying61
  (fun n=>BQ (c:=1) rfl (by kernel_rfl) (fun _=>rfl) (QH n) (BQ (c:=1) rfl (by kernel_rfl) (fun _=>rfl) (QH n)
   (BQ (c:=1) rfl (by kernel_rfl) (fun _=>rfl) (oX n) Im))) (fun _=>(show _=3 from rfl).trans (by kernel_rfl)) n) (fun x=>⟨x.1,x.2.1,x.2.2.1⟩) fun _=>rfl
def tX:Vo enc Tryz.prog W 199 Jw:=fun n=>
 Il (Gb Tryz.underlying199
  (fun n=>BQ (c:=1) rfl (by kernel_rfl) (fun _=>rfl) (QZ Tryz.underlying197 n) (BQ (c:=1) rfl (by kernel_rfl) (fun _=>rfl) (PF n)
   (BQ (c:=1) rfl (by kernel_rfl) (fun _=>rfl) (QH n) Im))) (fun _=>(show _=3 from rfl).trans (by kernel_rfl)) n) (fun x=>⟨x.1,x.2.1,x.2.2.1⟩) fun _=>rfl
def oV:Vo enc Tryz.prog W 25 fun l:List Node=>[V.l (l.map Jw) false]:=J2 (sz:=3) Tryz.underlying25 (by kernel_rfl) (by decide) (b8 (by kernel_rfl)) (fun _=>rfl) tX
def tb:Vo enc Tryz.prog W 22 fun l:List SW=>[V.l (l.map Se) false]:=J2 (sz:=3) Tryz.underlying22 (by kernel_rfl) (by decide) (b8 (by kernel_rfl)) (fun _=>rfl) AAQ
def OS (f:Fact):(FY f).length=6:=by rw[Bg];rfl
def aY: ∀n,m4 enc Tryz.prog W n 44 FY/\m4 enc Tryz.prog W n 42 fun l:List Fact=>[V.l (facts l) false]
 | 0=>⟨Mn,Mn⟩
 | n + 1 =>by
   obtain⟨h1,h2⟩:=aY n;refine⟨?_,TM Tryz.underlying42 (by kernel_rfl) (by decide) (b8 (by kernel_rfl)) OS h1⟩
   exact Il (Rc Tryz.underlying44
    (BQ (c:=1) rfl (by kernel_rfl) (fun _=>rfl) (QZ Tryz.underlying41 n) (BQ (c:=1) rfl (by kernel_rfl) (fun _=>rfl) (PF n)
     (BQ (c:=1) rfl (by kernel_rfl) (fun _=>rfl) (QH n) (BQ (c:=1) rfl (by kernel_rfl) (fun _=>rfl) (PF n)
      (BQ (c:=1) rfl (by kernel_rfl) (fun _=>rfl) (PF n) (BQ (c:=1) rfl (by kernel_rfl) (fun _=>rfl) h2 Im)))))) (fun _=>(show _=6 from rfl).trans (by kernel_rfl)))
    (fun x=>Fact.mk x.1 x.2.1 x.2.2.1 x.2.2.2.1 x.2.2.2.2.1 x.2.2.2.2.2.1) fun x=>by rw[Bg];rfl
def ta:Vo enc Tryz.prog W 44 FY:=fun n=>(aY n).1
def tY:Vo enc Tryz.prog W 81 hZ:=fun n=>
 Il (Gb Tryz.underlying81
  (fun n=>BQ (c:=1) rfl (by kernel_rfl) (fun _=>rfl) (QZ Tryz.underlying79 n) (BQ (c:=1) rfl (by kernel_rfl) (fun _=>rfl) (PF n)
   (BQ (c:=6) rfl (by kernel_rfl) OS (ta n) (BQ (c:=1) rfl (by kernel_rfl) (fun _=>rfl) (PF n) Im)))) (fun x=>(show _=9 from by simp only[NW,OS];rfl).trans (by kernel_rfl)) n) (fun x=>⟨x.1,x.2.1,x.2.2.1,x.2.2.2.1⟩) fun x=>by rw[Bg];rfl
def oW:Vo enc Tryz.prog W 24 fun l:List Ni=>[V.l (l.map hZ) false]:=J2 (sz:=9) Tryz.underlying24 (by kernel_rfl) (by decide) (b8 (by kernel_rfl)) (fun _=>rfl) tY
def tW : Vo enc Tryz.prog W 27 BG:=fun n=>
 Il (Gb Tryz.underlying27
  (fun n=>BQ (c:=1) rfl (by kernel_rfl) (fun _=>rfl) (tb n)
   (BQ (c:=1) rfl (by kernel_rfl) (fun _=>rfl) (PF n) (BQ (c:=1) rfl (by kernel_rfl) (fun _=>rfl) (QH n)
    (BQ (c:=1) rfl (by kernel_rfl) (fun _=>rfl) (oW n)
     (BQ (c:=1) rfl (by kernel_rfl) (fun _=>rfl) (oV n)
      (BQ (c:=1) rfl (by kernel_rfl) (fun _=>rfl) (PF n) Im)))))) (fun _=>(show _=6 from rfl).trans (by kernel_rfl)) n) (fun x=>⟨x.1,x.2.1,x.2.2.1,x.2.2.2.1,x.2.2.2.2.1,x.2.2.2.2.2.1⟩) fun _=>rfl
end
end Go.Gl
namespace Go.Gl
variable {P:Program} {Z Z':AE}
mutual
def FP:V->Prop
 | .i k n=>k.min<=n/\n<=k.max
 | .rp cs=>Ib cs
 | .l es _=>es.length<=AZ/\Vy es
 | .f _ a b=>Ib a/\Ib b
 | .FO _ v=>FP v
 | .a cs=>Ib cs
 | .t vs=>Ib vs
 | _=>True
def Ib:List V->Prop
 | []=>True
 | v::r=>FP v/\Ib r
def Vy:List (List V)->Prop
 | []=>True
 | e::r=>Ib e/\Vy r
end
mutual
def r5 {H:Nat->Nat->Option Value}: ∀(v:V) (c:Value),Ag H v c->FP v
 | .b _,_,_| .s _,_,_| .pn,_,_| .p _ _,_,_| .sl _ _ _,_,_| .sv _ _ _ _,_,_| .pe _ _ _ _,_,_| .m _,_,_| .mn,_,_| .L9,_,_| .Dv,_,_| .any,_,_=>by simp only[FP]
 | .i k n,_,h=>by
   simp only[Ag]at h;simp only[FP];exact h.2
 | .rp cs,_,h=>by
   simp only[Ag]at h;obtain⟨b,o,rfl,h⟩:=h;simp only[FP];exact Jz cs o h
 | .l es full,_,h=>by
   simp only[Ag]at h;obtain⟨a,cap,h1,h2,h3,h4,h5,h6⟩:=h;simp only[FP];refine⟨h4,?_⟩;cases es with
   | nil=>exact trivial
   | cons e es=>
     obtain⟨b,o,sz,h7,h8⟩:=h6 (by simp);exact jD (e::es) o h8
 | .f fn first cap,_,h=>by
   simp only[Ag]at h;obtain⟨f',c',h1,h2,h3,h4,h5⟩:=h;simp only[FP];exact⟨Jz first 0 h3,Jz cap 0 h5⟩
 | .FO t v,_,h=>by
   simp only[Ag]at h;obtain⟨c',h1,h2⟩:=h;simp only[FP];exact r5 v c' h2
 | .a cs,_,h=>by
   simp only[Ag]at h;obtain⟨c',h1,h2,h3⟩:=h;simp only[FP];exact Jz cs 0 h3
 | .t cs,_,h=>by
   simp only[Ag]at h;obtain⟨c',h1,h2,h3⟩:=h;simp only[FP];exact Jz cs 0 h3
def Jz {H:Nat->Nat->Option Value} {g:Nat->Option Value}: ∀(vs:List V) (o:Nat),Ba H g o vs->Ib vs
 | [],_,_=>trivial
 | v::vs,o,h=>by
   simp only[Ba]at h;obtain⟨⟨c,h1,h2⟩,h3⟩:=h;exact⟨r5 v c h2,Jz vs (o+1) h3⟩
def jD {H:Nat->Nat->Option Value} {g:Nat->Option Value} {sz:Nat}: ∀(es:List (List V)) (o:Nat),BJ H g sz o es->Vy es
 | [],_,_=>trivial
 | e::es,o,h=>by
   simp only[BJ]at h;obtain⟨h1,h2,h3⟩:=h;exact⟨Jz e o h2,jD es (o+sz) h3⟩
end
def Au.fit {f:FuncId} {args:List V} {Q:R->AE->Prop} (hok:okF P f=true) (h:Ib args->Au P f args Z Q):Au P f args Z Q:=
 ⟨hok,fun F w cs hR hv=>(h (Jz args 0 hv.2)).2 F w cs hR hv⟩
def Pure.fit {f:FuncId} {args:List V} {v:V} (hok:okF P f=true) (h:Ib args->Pure P f args v):Pure P f args v:=Au.fit hok h
def BT.fit {f:FuncId} {args:List V} {pre:List At} {Φ:R->List At->Prop} (hok:okF P f=true) (h:Ib args->BT P f args pre Φ):BT P f args pre Φ:=fun Z hs=>Au.fit hok fun hf=>h hf Z hs
def lu {es:List (List V)}:Vy es↔ ∀e∈es,Ib e:=by
 induction es with
 | nil=>simp[Vy]
 | cons e r ih=>simp[Vy,ih]
def J5 {α:Type} {enc:α->List V} {xs:List α}:Vy (xs.map enc)↔ ∀x∈xs,Ib (enc x):=by
 rw[lu];simp
def Ha {es:List (List V)} {f:Bool}:FP (.l es f)↔es.length<=AZ/\Vy es:=Iff.rfl
def Hb {cs:List V}:FP (.a cs)↔Ib cs:=Iff.rfl
def VK {cs:List V}:FP (.rp cs)↔Ib cs:=Iff.rfl
def Dh {v:V} {r:List V}:Ib (v::r)↔FP v/\Ib r:=Iff.rfl
def drop_cons {α:Type} {xs:List α} {k:Nat} {x:α} (h:xs[k]? =some x):xs.drop k=x::xs.drop (k+1):=by
 obtain⟨hk,rfl⟩:=JC.1 h;exact List.drop_eq_getElem_cons hk
def Ai {α:Type} {xs:List α} {k:Nat} (h:k=xs.length):xs.drop k= []:=List.drop_of_length_le (by omega)
end Go.Gl
namespace Go.Gl
variable {P:Program} {Z:AE} {env:Env}
class P6 (G:Prop) (G':outParam Prop):Prop where
 h:G'->G
def st {G G':Prop} [i:P6 G G'] (h:G'):G:=i.h h
def sq {l:List Nat} {a b:AV} {Q:Ac->Env->AE->Prop} (h: ∀K:Env->AE->Prop,(∀env Z,(pk l env fun E=>W P b Q E Z)->K env Z)->W P a (Ac.andThen K Q) env Z):W P (.seq l a b) Q env Z:=GH h
class Sti (G:Prop) (G':outParam Prop):Prop where
 h:G'->G
def si {G G':Prop} [i:Sti G G'] (h:G'):G:=i.h h
instance {ops:List Ar} {Q:Ac->Env->AE->Prop}:Sti (W P (.C9 ops) Q env Z) (∀(KR:Env->AE->Prop) (KP:Env->V->AE->Prop),(∀env Z,Q .normal env Z->KR env Z)->(∀env v Z,Q (.Bj v) env Z->KP env v Z)->WT P ops KR KP env Z):=⟨DP⟩
instance {l:List Nat} {ops:List Cq} {Q:Ac->Env->AE->Prop}:Sti (W P (.HU l ops) Q env Z) (∀(KR:Env->AE->Prop) (KP:V->AE->Prop),(∀env Z,(pk l env fun E=>Q .normal E Z)->KR env Z)->(∀v Z,(∀Z',Sub Z Z'->Q (.Bj v) [] Z')->KP v Z)->WD P ops KR KP env Z):=⟨cM⟩
instance {c:Bn} {a b:AV} {Q:Ac->Env->AE->Prop}:P6 (W P (.cond c a b) Q env Z) (match ev env c with
 | some (.b t)=>(t=true->W P a Q env Z)/\(t=false->W P b Q env Z)
 | _=>False):=⟨Iu⟩
instance {id:Nat} {a:AV} {Q:Ac->Env->AE->Prop}:P6 (W P (.block id a) Q env Z) (W P a (Ac.inBlock id Q) env Z):=⟨IG⟩
instance {l:List Nat} {a:AV} {Q:Ac->Env->AE->Prop}:P6 (W P (.loop l a) Q env Z) (pk l env fun E=>Ad l a (W P a) Q E Z):=⟨P1⟩
instance {id:Nat} {Q:Ac->Env->AE->Prop}:P6 (W P (.exit id) Q env Z) (Q (.exit id) env Z):=⟨P2⟩
instance {Q:Ac->Env->AE->Prop}:P6 (W P .ret Q env Z) (Q .ret env Z):=⟨ju⟩
instance {Q:Ac->Env->AE->Prop}:P6 (W P .skip Q env Z) (Q .normal env Z):=⟨KZ⟩
instance {a:AV} {Q:Ac->Env->AE->Prop}:P6 (W P (.scope a) Q env Z) (W P a Q env Z):=⟨mh⟩
instance {l:List Nat} {g:Bn} {ps:List Nat} {a b:AV} {Q:Ac->Env->AE->Prop}:P6 (W P (.D2 l g ps a b) Q env Z) (match ev env g with
 | some (.f (.func gf) [] cap)=>pk l env fun E=> ∀L,Z L=none->Au P gf (.f (.yield L) [] []::cap) (B3 Z L (.loop .ready E (Bk P ps a b))) (Le L Q env)
 | _=>False):=⟨mj⟩
instance {A B:Prop}:P6 ((true=true->A)/\(true=false->B)) A:=⟨je⟩
instance {A B:Prop}:P6 ((false=true->A)/\(false=false->B)) B:=⟨jf⟩
instance {A B:Prop}:P6 ((false=false->A)/\(false=true->B)) A:=⟨qq⟩
instance {A B:Prop}:P6 ((true=false->A)/\(true=true->B)) B:=⟨qp⟩
instance {A B:Prop} {b:Bool}:P6 ((b=true->A)/\(b= !true->B)) ((b=true->A)/\(b=false->B)):=⟨id⟩
instance {A B:Prop} {b:Bool}:P6 ((b=false->A)/\(b= !false->B)) ((b=false->A)/\(b=true->B)):=⟨id⟩
instance {agg:Option Nat} {cs:List V} {K:V->Prop}:P6 (AU Z agg (.rp cs) K) (cut agg cs 0 K):=⟨fun h=>h⟩
instance {es:List (List V)} {f:Bool} {K:V->Prop}:P6 (Ax (.l es f) K) (K (.i .i64 es.length)):=⟨WH⟩
def kc {K A:Env->AE->Prop} (h:A env Z) (hk: ∀env Z,A env Z->K env Z:=by assumption):K env Z:=hk _ _ h
def kp {K A:Env->V->AE->Prop} {v:V} (h:A env v Z) (hk: ∀env v Z,A env v Z->K env v Z:=by assumption):K env v Z:=hk _ _ _ h
def rk {x:Ar} {r:List Ar} {A:Prop} (h1:H4 P x env Z) (h2:ET P r env Z/\A):ET P (x::r) env Z/\A:=⟨⟨h1,h2.1⟩,h2.2⟩
def dr {A:Prop} (h:A):ET P [] env Z/\A:=⟨trivial,h⟩
class BP (b v:Bool) (p:outParam Prop):Prop where
 h:b=v->p
def bp {b v:Bool} {p:Prop} [i:BP b v p] (h:b=v):p:=i.h h
instance (priority:=low) {b v:Bool}:BP b v (b=v):=⟨id⟩
instance (priority:=mid) {p:Prop} [Decidable p]:BP (decide p) true p:=⟨of_decide_eq_true⟩
instance (priority:=mid) {p:Prop} [Decidable p]:BP (decide p) false (¬p):=⟨of_decide_eq_false⟩
instance {a b:Int}:BP (decide (a<b)) false (b<=a):=⟨fun h=>Int.not_lt.1 (of_decide_eq_false h)⟩
instance {a b:Int}:BP (decide (a<=b)) false (b<a):=⟨fun h=>Int.not_le.1 (of_decide_eq_false h)⟩
instance {a b:Int}:BP (a==b) true (a=b):=⟨fun h=>by simpa using h⟩
instance {a b:Int}:BP (a==b) false (a≠b):=⟨fun h=>by simpa using h⟩
instance {a b:Int}:BP (a != b) true (a≠b):=⟨fun h=>by simpa using h⟩
instance {a b:Int}:BP (a != b) false (a=b):=⟨fun h=>by simpa using h⟩
instance {b:Bool} {p:Prop} [i:BP b false p]:BP (!b) true p:=⟨fun h=>i.h (by simpa using h)⟩
instance {b:Bool} {p:Prop} [i:BP b true p]:BP (!b) false p:=⟨fun h=>i.h (by simpa using h)⟩
instance {b x v:Bool} {p:Prop} [i:BP b v p]:BP (bif false then x else b) v p:=⟨i.h⟩
instance {b x v:Bool} {p:Prop} [i:BP b v p]:BP (bif true then b else x) v p:=⟨i.h⟩
def fc {α:Type} {enc:α->List V} {xs:List α} {k:Nat} {A B:Prop} (h1: ∀x,xs[k]? =some x->k<xs.length->decide (A6 k<((xs.map enc).length:Nat))=true->A) (h2:k=xs.length->decide (A6 k<((xs.map enc).length:Nat))=false->B) (hk:k<=xs.length:=by assumption) (hm:xs.length<=AZ:=by first|assumption|omega|simp[AZ]<;>omega) :
    (decide (A6 k<((xs.map enc).length:Nat))=true->A)/\(decide (A6 k<((xs.map enc).length:Nat))=false->B):=
 ⟨fun h=>(Gp (enc:=enc) (A:=A) (B:=True) hk hm (fun x hx hlt=>h1 x hx hlt h) fun _=>trivial).1 h,fun h=>(Gp (enc:=enc) (A:=True) (B:=B) hk hm (fun _ _ _=>trivial) fun he=>h2 he h).2 h⟩
def ix {α:Type} {enc:α->List V} {xs:List α} {f:Bool} {sz:Nat} {K:V->Prop} {ki:IntKind} {k:Nat} {x:α} (h:K (.rp (enc x))) (hx:xs[k]? =some x:=by assumption) (hm:xs.length<=AZ:=by first|assumption|omega|simp[AZ]<;>omega) (hs:(enc x).length=sz:=by first|rfl|simp) :
    AR sz none (.l (xs.map enc) f) (.i ki (A6 k)) K:=Jn hx hm hs h
def iq {α:Type} {enc:α->List V} {xs:List α} {f:Bool} {sz:Nat} {K:V->Prop} {ki:IntKind} {j:Int} (h: ∀x,xs[j.toNat]? =some x->K (.rp (enc x))) (h0:0<=j:=by omega) (h1:j<xs.length:=by omega) (hs: ∀x,(enc x).length=sz:=by intro x;first|rfl|simp|(rw[Bg];rfl)) :
    AR sz none (.l (xs.map enc) f) (.i ki j) K:=by
 have hlt:j.toNat<xs.length:=by omega
 exact V6 j.toNat (Cr hlt) (by omega) (hs _) (h _ (Cr hlt))
def sk1 {α:Type} {enc:α->List V} {xs:List α} {f:Bool} {sz:Nat} {ki:IntKind} {k:Nat} {K:V->AE->Prop} (h:K (.l ((xs.take k).map enc) (f&&decide ((k:Int)=((xs.map enc).length:Nat)))) Z) (hl:k<=xs.length:=by first|assumption|omega) (hm:xs.length<=AZ:=by first|assumption|omega) (hs: ∀x,(enc x).length=sz:=by intro x;first|rfl|simp|(rw[Bg];rfl)) :
    AQ Z sz (.l (xs.map enc) f) none (some (.i ki (A6 k))) none K:=by
 rw[Ae (by omega)];refine⟨fun e he=>?_,?_⟩
 .obtain⟨x,_,rfl⟩:=IX.1 he
  exact hs x
 .simp only[Of,B2]
  refine⟨by omega,by omega,by omega,?_⟩;rw[GB];simpa[List.map_take]using h
def zE {xs:List Fact} {f:Bool} {K:V->Prop} {ki:IntKind} {k:Nat} {x:Fact} (h:K (.rp (xF x))) (hx:xs[k]? =some x:=by assumption) (hm:xs.length<=AZ:=by first|assumption|omega):AR 6 none (.l (xs.map FY) f) (.i ki (A6 k)) K:=by
 refine Jn hx hm (by rw[Bg];rfl) ?_;rw[Bg];exact h
def SV {a0:At} {l:List At}:(a0::l)[0]? =some a0:=rfl
def SU {a0 a1:At} {l:List At}:(a0::a1::l)[1]? =some a1:=rfl
def SS {a0 a1 a2:At} {l:List At}:(a0::a1::a2::l)[2]? =some a2:=rfl
def SQ {a0 a1 a2 a3:At} {l:List At}:(a0::a1::a2::a3::l)[3]? =some a3:=rfl
def SP {a0 a1 a2 a3 a4:At} {l:List At}:(a0::a1::a2::a3::a4::l)[4]? =some a4:=rfl
def SO {a0 a1 a2 a3 a4 a5:At} {l:List At}:(a0::a1::a2::a3::a4::a5::l)[5]? =some a5:=rfl
def ld {l:List At} {i n off:Nat} {agg:Option Nat} {vs:List V} {K:V->Prop} (hk:cut agg vs off K) (h:Sat Z l:=by assumption)
    (hi:l[i]? =some (.box n vs):=by first|exact SV|exact SU|exact SS|exact SQ|exact SP|exact SO):AU Z agg (.p n off) K:=WJ h i hi hk
def s1 {l:List At} {i n off:Nat} {vs:List V} {x:V} {K:AE->Prop} (hk: ∀Z',Sat Z' (l.set i (.box n (vs.set off x)))->K Z') (h:Sat Z l:=by assumption)
    (hi:l[i]? =some (.box n vs):=by first|exact SV|exact SU|exact SS|exact SQ|exact SP|exact SO)
    (h1:CO x=true:=by first|rfl|exact Hr (by assumption) 0 rfl|exact Hr (by assumption) 1 rfl|exact Hr (by assumption) 2 rfl|exact Hr (by assumption) 3 rfl|simp) (ho:off+1<=vs.length:=by exact Nat.le_of_ble_eq_true rfl):AS Z 1 (.p n off) x K:=
 MV h i hi h1 ho hk
def sn {l:List At} {i n off sz:Nat} {vs vc:List V} {x:V} {K:AE->Prop} (hk: ∀Z',Sat Z' (l.set i (.box n (putAt vs off vc)))->K Z') (h:Sat Z l:=by assumption)
    (hi:l[i]? =some (.box n vs):=by first|exact SV|exact SU|exact SS|exact SQ|exact SP|exact SO)
    (hc:cellsOf x=some vc:=by rfl) (hl:vc.length=sz:=by rfl) (h1:vc.all CO=true:=by first|rfl|simp) (ho:off+sz<=vs.length:=by exact Nat.le_of_ble_eq_true rfl):AS Z sz (.p n off) x K:=
 Ih h i hi hc hl h1 ho hk
def Ii:EX (fun f:Fact=>FY f) 6:=fun f=>by
 simp only[Bg];refine⟨rfl,fun v hv=>?_⟩;simp only[GR,List.not_mem_nil,or_false]at hv;rcases hv with rfl|rfl|rfl|rfl|rfl|rfl<;>rfl
def MW:EX (fun l:List Fact=>[V.l (facts l) false]) 1:=fun x=>⟨rfl,fun v hv=>by simp at hv;subst hv;rfl⟩
def af {α:Type} {enc:α->List V} {sz:Nat} {ys:List α} {g:Bool} {K:V->Prop} (hk:K (.l (ys.map enc) false)) (hg:EX enc sz:=by first|exact Bm|exact DK|exact Pr|exact Ii|exact MW) {b:Nat} (hl:ys.length<=AZ/\ys.length*b<=140737488355328:=by first|assumption|omega) :
    AY b Z sz (.l [] true) (.l (ys.map enc) g) K:=iz hg hl hk
def al {l:List At} {o:O} {n:Nat} {K:Prop} {Z':AE} (e:B3 Z n o=Z') (hk:Sat Z' (l++[.obj n o])->K) (hn:Z n=none:=by assumption) (h:Sat Z l:=by assumption):K:=hk (e ▸ gQ h hn)
def oi {l:List At} {i:Nat} {v:V} {sz:Nat} {es:List (List V)} {ki:IntKind} {j:Int} {K:V->Prop} (hk:K (FX v sz j.toNat)) (h:Sat Z l:=by assumption)
    (hi:l[i]? =some (.own v sz es):=by first|exact SV|exact SU|exact SS|exact SQ|exact SP|exact SO) (h0:0<=j:=by omega) (h1:j<es.length:=by first|omega|(simp only[B2]at *;omega)):AR sz none v (.i ki j) K:=
 fw h i j.toNat hi (by omega) (by omega) hk
def oc {l:List At} {i:Nat} {v:V} {sz k:Nat} {es:List (List V)} {ki:IntKind} {K:V->Prop} (hk:K (FX v sz k)) (h:Sat Z l:=by assumption)
    (hi:l[i]? =some (.own v sz es):=by first|exact SV|exact SU|exact SS|exact SQ|exact SP|exact SO) (h1:k<es.length:=by first|omega|(simp only[B2]at *;omega)) (hm:k<=AZ:=by first|omega|(simp only[AZ];omega)):AR sz none v (.i ki (A6 k)) K:=
 fw h i k hi (Ae (by omega)) h1 hk
def ol {α:Type} {enc:α->List V} {xs:List α} {l:List At} {i:Nat} {v:V} {sz k:Nat} {agg:Option Nat} {K:V->Prop} (hk: ∀x,xs[k]? =some x->cut agg (enc x) 0 K) (h:Sat Z l:=by assumption)
    (hi:l[i]? =some (.own v sz (xs.map enc)):=by first|exact SV|exact SU|exact SS|exact SQ|exact SP|exact SO) (h1:k<xs.length:=by first|omega|(simp only[B2]at *;omega)):AU Z agg (FX v sz k) K:=
 Ir h i hi (by rw[Je,Cr h1];rfl) (hk _ (Cr h1))
def oset {α:Type} {enc:α->List V} {xs:List α} {y:α} {l:List At} {i:Nat} {v x:V} {sz k:Nat} {vc:List V} {K:AE->Prop} (hk: ∀Z',Sat Z' (l.set i (.own v sz ((xs.set k y).map enc)))->K Z') (h:Sat Z l:=by assumption)
    (hi:l[i]? =some (.own v sz (xs.map enc)):=by first|exact SV|exact SU|exact SS|exact SQ|exact SP|exact SO) (hc:cellsOf x=some vc:=by rfl) (he:vc=enc y:=by rfl) (hg:EX enc sz:=by first|exact Bm|exact DK|exact Pr|exact Ii|exact MW)
    (hv:(B7 v).isSome=true:=by assumption) (h1:k<xs.length:=by first|omega|(simp only[B2]at *;omega)):AS Z sz (FX v sz k) x K:=by
 subst he;refine M0 h i hi (by rw[Je,Cr h1];rfl) hc (hg y).1 (EB.2 fun v hv=>(hg y).2 v hv) (hg _).1 hv fun Z' hs=>hk Z' ?_
 rw[List.map_set];exact hs
def Gu {b sz:Nat} {v:V} {e:List V} {f:Bool} {K:V->AE->Prop} (h:AK b Z sz v (.l [e] f) fun v' Z'=>(B7 v').isSome=true->K v' Z'):AK b Z sz v (.l [e] f) K:=by
 obtain⟨h1,h2,h3⟩:=h;refine⟨h1,h2,?_⟩;cases v with
 | l es full=>exact⟨h3.1,h3.2.1,fun e=>(by cases e),fun e=>⟨(h3.2.2.2 e).1,fun n cap hn hc=>(h3.2.2.2 e).2 n cap hn hc rfl⟩⟩
 | sl n len cap=>
   simp only at h3 ⊢;split at h3
   .exact⟨h3.1,h3.2.1,h3.2.2.1,h3.2.2.2.1,fun n' cap' hn hc=>h3.2.2.2.2 n' cap' hn hc rfl⟩
   .exact h3.elim
 | _=>exact h3.elim
def aq {l:List At} {i:Nat} {α:Type} {enc:α->List V} {sz:Nat} {xs:List α} {x:α} {v:V} {f:Bool} {e:List V} {K:V->AE->Prop} (hk: ∀v' Z',Sat Z' (l.set i (.own v' sz ((xs++[x]).map enc)))->(B7 v').isSome=true->K v' Z') (h:Sat Z l:=by assumption)
    (hi:l[i]? =some (.own v sz (xs.map enc)):=by first|exact SV|exact SU|exact SS|exact SQ|exact SP|exact SO)
    (he:e=enc x:=by rfl) (hg:EX enc sz:=by first|exact Bm|exact DK|exact Pr|exact Ii|exact MW)
    {b:Nat} (hl:xs.length<AZ/\(xs.length+1)*b<=140737488355328:=by first|assumption|omega|(simp only[NW,B2,Ky,List.length_nil,Jd,sN,List.length_replicate,AZ]at *;omega)):AK b Z sz v (.l [e] f) K:=
 Gu (GN h i hi hl hg hk he)
end Go.Gl
namespace Go.Gl
variable {P:Program} {Z:AE} {env:Env}
def iqF {xs:List Fact} {f:Bool} {K:V->Prop} {ki:IntKind} {j:Int} (h: ∀x,xs[j.toNat]? =some x->K (.rp (xF x))) (h0:0<=j:=by omega) (h1:j<xs.length:=by omega):AR 6 none (.l (xs.map FY) f) (.i ki j) K:=by
 refine iq (fun x hx=>?_) h0 h1 (by intro x;rw[Bg];rfl);rw[Bg];exact h x hx
def lo {l:List At} {i:Nat} {v:V} {sz:Nat} {es:List (List V)} {K:V->Prop} (hk:K (.i .i64 es.length)) (h:Sat Z l:=by assumption)
    (hi:l[i]? =some (.own v sz es):=by first|exact SV|exact SU|exact SS|exact SQ|exact SP|exact SO) (hm:es.length<=AZ:=by first|omega|(simp only[B2,List.length_replicate,List.length_set,AZ]at *;omega)):Ax v K:=z7 h i hi hm hk
def slq {α:Type} {enc:α->List V} {xs:List α} {f:Bool} {sz:Nat} {ki:IntKind} {j:Int} {K:V->AE->Prop} (h:K (.l ((xs.take j.toNat).map enc) (f&&decide (j=((xs.map enc).length:Nat)))) Z) (h0:0<=j:=by omega) (h1:j<=xs.length:=by first|omega|(simp only[B2]at *;omega)) (hs: ∀x,(enc x).length=sz:=by intro x;first|rfl|simp|(rw[Bg];rfl)) :
    AQ Z sz (.l (xs.map enc) f) none (some (.i ki j)) none K:=by
 refine⟨fun e he=>?_,?_⟩
 .obtain⟨x,_,rfl⟩:=IX.1 he
  exact hs x
 .simp only[Of,B2]
  refine⟨by omega,by omega,by omega,?_⟩;simpa[List.map_take]using h
def Sat.take {l:List At} (h:Sat Z l) (n:Nat):Sat Z (l.take n):=h.less (List.take_sublist _ _)
def FE {b:Bool} {Z Z':AE}:Fw Z Z' (.l [] b) (.l [] false):= .l (fun h=>by cases h) .nil
def gy {b:Bool} {Z Z':AE} {es:List (List V)}:Fw Z Z' (.l es b) (.l es false):= .l (fun h=>by cases h) (FR.refl _ _ _)
mutual
def UB {Z Z':AE}: ∀vs:List V,DV Z Z' vs vs
 | []=> .nil
 | v::r=> .cons (.refl v) (UB r)
end
def Ez {Z Z':AE}: ∀es:List (List V),FR Z Z' es es
 | []=> .nil
 | e::r=> .cons (UB e) (Ez r)
def os2 {α:Type} {enc:α->List V} {xs:List α} {y:α} {l:List At} {i:Nat} {v x:V} {sz k:Nat} {vc:List V} {K:AE->Prop} (hk: ∀Z',Sat Z' (l.set i (.own v sz ((xs.set k y).map enc)))->K Z') (h:Sat Z l:=by assumption)
    (hi:l[i]? =some (.own v sz (xs.map enc)):=by first|exact SV|exact SU|exact SS|exact SQ|exact SP|exact SO) (hc:cellsOf x=some vc:=by rfl) (he:vc=enc y:=by rfl) (hg:EX enc sz:=by first|exact Bm|exact DK|exact Pr|exact Ii|exact MW)
    (hv:(B7 v).isSome=true:=by rfl) (h1:k<xs.length:=by first|omega|(simp only[B2]at *;omega)):AS Z sz (FX v sz k) x K:=oset hk h hi hc he hg hv h1
def A7 {α:Type} (xs:List α) {k:Nat} (hk:k<=xs.length):(∃x,xs[k]? =some x/\k<xs.length)\/k=xs.length:=by
 rcases Nat.lt_or_ge k xs.length with h|h
 .exact .inl ⟨_,Cr h,h⟩
 .exact .inr (by omega)
def zG {α:Type} {enc:α->List V} {xs:List α} {k:Nat} {x:α} {A B:Prop} (h1:decide (A6 k<((xs.map enc).length:Nat))=true->A) (hx:xs[k]? =some x:=by assumption) (hm:xs.length<=AZ:=by first|assumption|omega|simp[AZ]<;>omega) :
    (decide (A6 k<((xs.map enc).length:Nat))=true->A)/\(decide (A6 k<((xs.map enc).length:Nat))=false->B):=by
 refine⟨h1,fun h=>?_⟩;have hlt:=(JC.1 hx).1;rw[Ae (by omega),B2]at h;have:=of_decide_eq_false h;omega
def fcn {α:Type} {enc:α->List V} {xs:List α} {k:Nat} {A B:Prop} (h1:decide (A6 k<((xs.map enc).length:Nat))=false->B) (hx:k=xs.length:=by assumption) (hm:xs.length<=AZ:=by first|assumption|omega|simp[AZ]<;>omega) :
    (decide (A6 k<((xs.map enc).length:Nat))=true->A)/\(decide (A6 k<((xs.map enc).length:Nat))=false->B):=by
 refine⟨fun h=>?_,h1⟩;rw[Ae (by omega),B2]at h;have:=of_decide_eq_true h;omega
def iqk {α:Type} {enc:α->List V} {xs:List α} {f:Bool} {sz:Nat} {K:V->Prop} {ki:IntKind} {j:Int} {x:α} (h:K (.rp (enc x))) (hx:xs[j.toNat]? =some x:=by assumption) (h0:0<=j:=by omega) (hs:(enc x).length=sz:=by first|rfl|simp|(rw[Bg];rfl)) :
    AR sz none (.l (xs.map enc) f) (.i ki j) K:=V6 j.toNat hx (by omega) hs h
def sx {xs:List Fact} {f:Bool} {K:V->Prop} {ki:IntKind} {j:Int} {x:Fact} (h:K (.rp (xF x))) (hx:xs[j.toNat]? =some x:=by assumption) (h0:0<=j:=by omega):AR 6 none (.l (xs.map FY) f) (.i ki j) K:=by
 refine iqk ?_ hx h0;rw[Bg];exact h
class CB (b:Bool) (v:outParam Bool):Prop where
 h:b=v
instance :CB true true:=⟨rfl⟩
instance :CB false false:=⟨rfl⟩
instance {b:Bool} [i:CB b true]:CB (!b) false:=⟨by rw[i.h];rfl⟩
instance {b:Bool} [i:CB b false]:CB (!b) true:=⟨by rw[i.h];rfl⟩
instance {b x y v:Bool} [i:CB b true] [j:CB x v]:CB (bif b then x else y) v:=⟨by rw[i.h,j.h];rfl⟩
instance {b x y v:Bool} [i:CB b false] [j:CB y v]:CB (bif b then x else y) v:=⟨by rw[i.h,j.h];rfl⟩
instance {a b:Bool} [i:CB a true] [j:CB b true]:CB (a==b) true:=⟨by rw[i.h,j.h];rfl⟩
instance {a b:Bool} [i:CB a true] [j:CB b false]:CB (a==b) false:=⟨by rw[i.h,j.h];rfl⟩
instance {a b:Bool} [i:CB a false] [j:CB b true]:CB (a==b) false:=⟨by rw[i.h,j.h];rfl⟩
instance {a b:Bool} [i:CB a false] [j:CB b false]:CB (a==b) true:=⟨by rw[i.h,j.h];rfl⟩
instance {a b:Bool} [i:CB a true] [j:CB b true]:CB (a != b) false:=⟨by rw[i.h,j.h];rfl⟩
instance {a b:Bool} [i:CB a true] [j:CB b false]:CB (a != b) true:=⟨by rw[i.h,j.h];rfl⟩
instance {a b:Bool} [i:CB a false] [j:CB b true]:CB (a != b) true:=⟨by rw[i.h,j.h];rfl⟩
instance {a b:Bool} [i:CB a false] [j:CB b false]:CB (a != b) false:=⟨by rw[i.h,j.h];rfl⟩
def cft {A B:Prop} {b:Bool} [i:CB b true] (h:A):(b=true->A)/\(b=false->B):=⟨fun _=>h,fun e=>(by rw[i.h]at e;cases e)⟩
def cff {A B:Prop} {b:Bool} [i:CB b false] (h:B):(b=true->A)/\(b=false->B):=⟨fun e=>(by rw[i.h]at e;cases e),fun _=>h⟩
def AAE {A B:Prop} {b:Bool} [i:CB b true] (h:B):(b=false->A)/\(b=true->B):=⟨fun e=>(by rw[i.h]at e;cases e),fun _=>h⟩
def AAF {A B:Prop} {b:Bool} [i:CB b false] (h:A):(b=false->A)/\(b=true->B):=⟨fun _=>h,fun e=>(by rw[i.h]at e;cases e)⟩
def oi2 {l:List At} {i:Nat} {v:V} {sz:Nat} {es:List (List V)} {ki:IntKind} {j:Int} {K:V->Prop} (hk:K (FX v sz j.toNat)) (h:Sat Z l:=by assumption)
    (hi:l[i]? =some (.own v sz es):=by first|exact SV|exact SU|exact SS|exact SQ|exact SP|exact SO) (h0:0<=j:=by omega) (h1:j<es.length:=by(simp only[B2,List.length_set];omega)):AR sz none v (.i ki j) K:=
 fw h i j.toNat hi (by omega) (by omega) hk
def oc2 {l:List At} {i:Nat} {v:V} {sz k:Nat} {es:List (List V)} {ki:IntKind} {K:V->Prop} (hk:K (FX v sz k)) (h:Sat Z l:=by assumption)
    (hi:l[i]? =some (.own v sz es):=by first|exact SV|exact SU|exact SS|exact SQ|exact SP|exact SO) (h1:k<es.length:=by(simp only[B2,List.length_set];omega)) (hm:k<=AZ:=by first|omega|(simp only[AZ];omega)):AR sz none v (.i ki (A6 k)) K:=
 fw h i k hi (Ae (by omega)) h1 hk
def sS {α:Type} {enc:α->List V} {xs:List α} {x:α} {l:List At} {i:Nat} {v:V} {sz k:Nat} {agg:Option Nat} {K:V->Prop} (hk:cut agg (enc x) 0 K) (h:Sat Z l:=by assumption)
    (hi:l[i]? =some (.own v sz (xs.map enc)):=by first|exact SV|exact SU|exact SS|exact SQ|exact SP|exact SO) (hx:xs[k]? =some x:=by assumption):AU Z agg (FX v sz k) K:=
 Ir h i hi (by rw[Je,hx];rfl) hk
def zw {xs:List Fact} {x:Fact} {l:List At} {i:Nat} {v:V} {k:Nat} {agg:Option Nat} {K:V->Prop} (hk:cut agg (xF x) 0 K) (h:Sat Z l:=by assumption)
    (hi:l[i]? =some (.own v 6 (facts xs)):=by first|exact SV|exact SU|exact SS|exact SQ|exact SP|exact SO) (hx:xs[k]? =some x:=by assumption):AU Z agg (FX v 6 k) K:=
 Ir h i hi (by rw[Je,hx];exact congrArg some (Bg x)) hk
def ol2 {α:Type} {enc:α->List V} {xs:List α} {l:List At} {i:Nat} {v:V} {sz k:Nat} {agg:Option Nat} {K:V->Prop} (hk: ∀x,xs[k]? =some x->cut agg (enc x) 0 K) (h:Sat Z l:=by assumption)
    (hi:l[i]? =some (.own v sz (xs.map enc)):=by first|exact SV|exact SU|exact SS|exact SQ|exact SP|exact SO) (h1:k<xs.length:=by(simp only[B2,List.length_set];omega)):AU Z agg (FX v sz k) K:=ol hk h hi h1
def gg {v:V} (h:(B7 v).isSome=true): ∃n l c,v= .sl n l c:=by
 cases v<;>first|(cases h;done)|exact⟨_,_,_,rfl⟩
def apF {l:List At} {i:Nat} {xs:List Fact} {x:Fact} {v:V} {f:Bool} {e:List V} {K:V->AE->Prop} (hk: ∀v' Z',Sat Z' (l.set i (.own v' 6 (facts (xs++[x]))))->(B7 v').isSome=true->K v' Z') (h:Sat Z l:=by assumption)
    (hi:l[i]? =some (.own v 6 (facts xs)):=by first|exact SV|exact SU|exact SS|exact SQ|exact SP|exact SO)
    (he:e=xF x:=by rfl)
    {b:Nat} (hl:xs.length<AZ/\(xs.length+1)*b<=140737488355328:=by first|assumption|omega|(simp only[NW,B2,Ky,List.length_nil,Jd,sN,List.length_replicate,AZ]at *;omega)):AK b Z 6 v (.l [e] f) K:=
 Gu (GN h i hi hl Ii hk (by rw[he,Bg]))
end Go.Gl
namespace Go.Gl
variable {P:Program} {Z:AE}
abbrev eU (n:Nat):V:= .i .u64 (n:Int)
def H7 {n:Nat} (h:n<18446744073709551616):IntKind.u64.wrap (n:Int)=n:=by
 simp only[IntKind.wrap,IntKind.signed,IntKind.bits];simp;omega
def It {a b:Nat} (ha:a<18446744073709551616) (hb:b<18446744073709551616):bits .or .u64 (a:Int) (b:Int)=((a|||b:Nat):Int):=by
 have h:a|||b<2 ^ 64:=Nat.or_lt_two_pow (n:=64) (by simpa using ha) (by simpa using hb)
 simp only[bits,IntKind.bits]
 have e1:(BitVec.ofInt 64 (a:Int)|||BitVec.ofInt 64 (b:Int)).toNat=a|||b:=by
  simp only[BitVec.ofInt_natCast,BitVec.toNat_or,BitVec.toNat_ofNat];rw[Nat.mod_eq_of_lt (by simpa using ha),Nat.mod_eq_of_lt (by simpa using hb)]
 have e2:=H7 (n:=a|||b) (by simpa using h);rw[<-e1]at e2;rw[<-e1];exact e2
def F7 {a b:Nat} (ha:a<18446744073709551616) (hb:b<18446744073709551616):bits .and .u64 (a:Int) (b:Int)=((a&&&b:Nat):Int):=by
 have h:a&&&b<2 ^ 64:=Nat.and_lt_two_pow (n:=64) a (by simpa using hb);simp only[bits,IntKind.bits]
 have e1:(BitVec.ofInt 64 (a:Int)&&&BitVec.ofInt 64 (b:Int)).toNat=a&&&b:=by
  simp only[BitVec.ofInt_natCast,BitVec.toNat_and,BitVec.toNat_ofNat];rw[Nat.mod_eq_of_lt (by simpa using ha),Nat.mod_eq_of_lt (by simpa using hb)]
 have e2:=H7 (n:=a&&&b) (by simpa using h);rw[<-e1]at e2;rw[<-e1];exact e2
def ME (a b:Nat):Nat:=(BitVec.ofNat 64 a&&& ~~~BitVec.ofNat 64 b).toNat
def VR (a b:Nat):ME a b<18446744073709551616:=by
 have:=(BitVec.ofNat 64 a&&& ~~~BitVec.ofNat 64 b).isLt;simpa[ME]using this
def IU {a b:Nat}:bits .andNot .u64 (a:Int) (b:Int)=((ME a b:Nat):Int):=by
 simp only[bits,IntKind.bits]
 have e1:(BitVec.ofInt 64 (a:Int)&&& ~~~BitVec.ofInt 64 (b:Int)).toNat=ME a b:=by
  simp only[BitVec.ofInt_natCast,ME]
 have e2:=H7 (n:=ME a b) (VR a b);rw[<-e1]at e2;rw[<-e1];exact e2
def RI {a b i:Nat} (hi:i<64):(ME a b).testBit i=(a.testBit i&& !b.testBit i):=by
 rw[ME,BitVec.testBit_toNat,BitVec.getLsbD_and,BitVec.getLsbD_not];rw[BitVec.getLsbD_ofNat,BitVec.getLsbD_ofNat];simp only[hi,decide_true,EA]
def U1 {c:Nat} (h:c<64):IntKind.u64.wrap (1*2 ^ (min c IntKind.u64.bits))=((2 ^ c:Nat):Int):=by
 have hb:IntKind.u64.bits=64:=rfl;rw[hb,Nat.min_eq_left (by omega),Int.one_mul];have:=H7 (n:=2 ^ c) (by have:=Nat.pow_lt_pow_right (show 1<2 by omega) h;simpa using this);rw[<-this];simp
def Ie {c:Nat} (h:c<64):2 ^ c<18446744073709551616:=by
 have:=Nat.pow_lt_pow_right (show 1<2 by omega) h;simpa using this
def U0 {a c:Nat} (h:c<64):(a:Int).fdiv (2 ^ (min c IntKind.u64.bits))=((a >>> c:Nat):Int):=by
 have hb:IntKind.u64.bits=64:=rfl;rw[hb,Nat.min_eq_left (by omega),Nat.shiftRight_eq_div_pow,Int.fdiv_eq_ediv_of_nonneg _ (Int.pow_nonneg (by omega))];simp
def DS {v:V} {Q:R->AE->Prop} (h:Q (.Bj v) Z):Ab Z v Q:=⟨v,Z,fun _ _ h=>h,.refl v,h⟩
def BN {g:FuncId} {fi ca args:List V} {Q:R->AE->Prop} (h:Au P g (fi++args++ca) Z Q):Ao P (.f (.func g) fi ca) args Z Q:=h
def Pure.of {f:FuncId} {args:List V} {v:V} (h:Au P f args emp fun r _=>r= .ret v):Pure P f args v:=by
 refine⟨h.1,fun F w cs hR hv=>Calls.mono (h.2 F w cs hR hv) fun e w' ⟨r,Z',hr,h1,h2,h3⟩=>?_⟩;subst hr;obtain⟨c,rfl,hv'⟩:=h1;have hsub:Sub emp Z':=fun n o ho=>by cases ho
 exact⟨.ret v,emp,⟨rfl,rfl⟩,⟨c,rfl,Fw.rel h2 hsub (.refl v) hv'⟩,h2.drop hsub,⟨h3.frame,h3.size,h3.os,h3.tape,h3.output,fun _ _ _=>rfl⟩⟩
def DG {α S:Type} (P:Program) (x:V) (ea:α->V) (H:S->List At) (stp:α->S->Bool×S) (D:α->S->Prop):Prop:=
 ∀y s,D y s-> ∀Z,Sat Z (H s)->Ao P x [ea y] Z fun r Z'=>r= .ret (.b (stp y s).1)/\Sat Z' (H (stp y s).2)
def DG.use {α S:Type} {x:V} {ea:α->V} {H:S->List At} {stp:α->S->Bool×S} {D:α->S->Prop} (h:DG P x ea H stp D) {y:α} {s:S} (hd:D y s) (hs:Sat Z (H s)) {k kp:V->AE->Prop} (hk: ∀Z',Sat Z' (H (stp y s).2)->k (.b (stp y s).1) Z'):Ao P x [ea y] Z (qk k kp):=
 (h y s hd Z hs).mono fun r Z' ⟨e,h'⟩=>by rw[e];exact hk Z' h'
def DG.useF {α S:Type} {g:FuncId} {fi ca:List V} {ea:α->V} {H:S->List At} {stp:α->S->Bool×S} {D:α->S->Prop} (h:DG P (.f (.func g) fi ca) ea H stp D) {y:α} {s:S} (hd:D y s) {rest:List At} (hs:Sat Z (H s++rest)) {k kp:V->AE->Prop} (hk: ∀Z',Sat Z' (H (stp y s).2++rest)->k (.b (stp y s).1) Z'):Ao P (.f (.func g) fi ca) [ea y] Z (qk k kp):=by
 refine BN ?_;have h1:BT P g (fi++[ea y]++ca) (H s) fun r post=>r= .ret (.b (stp y s).1)/\post=H (stp y s).2:=fun Z hs=>Au.mono (h y s hd Z hs) fun r Z' ⟨e,h2⟩=>⟨_,⟨e,rfl⟩,h2⟩
 refine h1.use hs ?_;rintro r post Z' ⟨rfl,rfl⟩ hs';exact hk Z' hs'
def Br {α S:Type} (stp:α->S->Bool×S):List α->Nat->S->Int×S
 | [],_,s=>(-1,s)
 | y::r,k,s=>if(stp y s).1 then((k:Int),(stp y s).2)else Br stp r (k+1) (stp y s).2
def CQ {α S:Type} (stp:α->S->Bool×S):List α->S->Bool×S
 | [],s=>(true,s)
 | y::r,s=>if(stp y s).1 then CQ stp r (stp y s).2 else(false,(stp y s).2)
def YI {α S:Type} (stp:α->S->Bool×S) (D:α->S->Prop):List α->S->Prop
 | [],_=>True
 | y::r,s=>D y s/\YI stp D r (stp y s).2
def OR {α S:Type} {stp:α->S->Bool×S}: ∀(xs:List α) (k:Nat) (s:S),(Br (fun y s=>(!(stp y s).1,(stp y s).2)) xs k s).2=(CQ stp xs s).2/\(decide ((Br (fun y s=>(!(stp y s).1,(stp y s).2)) xs k s).1≥0)= !(CQ stp xs s).1)
 | [],_,_=>⟨rfl,rfl⟩
 | y::r,k,s=>by
   simp only[Br,CQ];cases h:(stp y s).1
   .simp
   .simpa using OR r (k+1) (stp y s).2
def U4 {α S:Type} {stp:α->S->Bool×S} {D:α->S->Prop}: ∀(xs:List α) (s:S),YI stp D xs s->YI (fun y s=>(!(stp y s).1,(stp y s).2)) D xs s
 | [],_,_=>trivial
 | _::r,_,h=>⟨h.1,U4 r _ h.2⟩
def Ks {α:Type} (f:α->Bool): ∀(xs:List α),CQ (fun y (_:Unit)=>(f y,())) xs ()=(xs.all f,())
 | []=>rfl
 | y::r=>by
   simp only[CQ,KE];cases f y
   .rfl
   .simpa using Ks f r
def HZ {α S:Type} {stp:α->S->Bool×S} {D:α->S->Prop}: ∀ {xs:List α} {s:S},(∀y∈xs,∀s,D y s)->YI stp D xs s
 | [],_,_=>trivial
 | y::r,s,h=>⟨h y (.head _) s,HZ fun z hz=>h z (.tail _ hz)⟩
end Go.Gl
namespace Go.Gl
variable {P:Program} {Z:AE}
def Sat.zR {l:List At} {a:At} (h:Sat Z (l++[a])):Sat Z (a::l):=h.perm (by
 have:=NV (l₁:=l) (l₂:=[a])
 simpa using this)
def Cp {l:List At} (h:Sat Z l) (sz:Nat):Sat Z (.own (.l [] true) sz []::l):=(Dw h sz).zR
def gw {l:List At} (h:Sat Z l) {sz:Nat} {es:List (List V)} (hs: ∀e∈es,e.length=sz):Sat Z (.own (.l es true) sz es::l):=(nY h hs).zR
def alF {l:List At} {o:O} {n:Nat} {K:Prop} {Z':AE} (e:B3 Z n o=Z') (hk:Sat Z' (.obj n o::l)->K) (hn:Z n=none:=by assumption) (h:Sat Z l:=by assumption):K:=hk (e ▸ (gQ h hn).zR)
def Iz {α:Type}: ∀ {l:List α} {j:Nat} {a:α},l[j]? =some a->l.Perm (a::l.eraseIdx j)
 | x::r,0,a,h=>by simp at h;subst h;simp
 | x::r,j+1,a,h=>by
   simp only[y6]at h;simp only[List.eraseIdx_cons_succ];exact((Iz h).cons x).trans (.swap _ _ _)
def Sat.front {l:List At} {j:Nat} {a:At} (h:Sat Z l) (hj:l[j]? =some a):Sat Z (a::l.eraseIdx j):=h.perm (Iz hj)
def Sat.back {l:List At} {j:Nat} {a:At} (h:Sat Z (a::l.eraseIdx j)) (hj:l[j]? =some a):Sat Z l:=h.perm (Iz hj).symm
def BT.rK {f:FuncId} {args:List V} {a:At} {Φ:R->Prop} (h:BT P f args [a] fun r post=>Φ r/\post= [a]) {l:List At} {j:Nat} (hs:Sat Z l) (hj:l[j]? =some a) {Q:R->AE->Prop} (hk: ∀r Z',Φ r->Sat Z' l->Q r Z'):Au P f args Z Q:=by
 refine h.use (rest:=l.eraseIdx j) (hs.front hj) ?_;rintro r post Z' ⟨hr,rfl⟩ hs';exact hk r Z' hr (Sat.back hs' hj)
def s1b {l:List At} {i n off:Nat} {vs:List V} {x:V} {K:AE->Prop} (hk: ∀Z',Sat Z' (l.set i (.box n (vs.set off x)))->K Z') (h:Sat Z l:=by assumption)
    (hi:l[i]? =some (.box n vs):=by first|exact SV|exact SU|exact SS|exact SQ|exact SP|exact SO)
    (h1:CO x=true:=by first|rfl|exact Hr (by assumption) 0 rfl|exact Hr (by assumption) 1 rfl|exact Hr (by assumption) 2 rfl|exact Hr (by assumption) 3 rfl|(simp<;>fail)) (ho:off+1<=vs.length:=by exact Nat.le_of_ble_eq_true rfl):AS Z 1 (.p n off) x K:=
 MV h i hi h1 ho hk
def snb {l:List At} {i n off sz:Nat} {vs vc:List V} {x:V} {K:AE->Prop} (hk: ∀Z',Sat Z' (l.set i (.box n (putAt vs off vc)))->K Z') (h:Sat Z l:=by assumption)
    (hi:l[i]? =some (.box n vs):=by first|exact SV|exact SU|exact SS|exact SQ|exact SP|exact SO)
    (hc:cellsOf x=some vc:=by rfl) (hl:vc.length=sz:=by rfl) (h1:vc.all CO=true:=by first|rfl|(simp<;>fail)|(simp[*]<;>fail)) (ho:off+sz<=vs.length:=by exact Nat.le_of_ble_eq_true rfl):AS Z sz (.p n off) x K:=
 Ih h i hi hc hl h1 ho hk
def zT {sz m n o:Nat} {ki:IntKind} {j:Int} {K:V->Prop} (h:K (.p n (o+j.toNat*sz))) (h0:0<=j:=by omega) (h1:j<m:=by omega):AR sz (some m) (.p n o) (.i ki j) K:=⟨h0,h1,h⟩
def iar {sz m:Nat} {cs:List V} {ki:IntKind} {j:Int} {K:V->Prop} (h:K (.rp (cs.drop (j.toNat*sz)))) (h0:0<=j:=by omega) (h1:j<m:=by omega):AR sz (some m) (.rp cs) (.i ki j) K:=⟨h0,h1,h⟩
def uK {l:List At} (h:Sat Z l) (i:Nat) {v:V} {sz:Nat} {es es':List (List V)} (hi:l[i]? =some (.own v sz es)) (he: ∀Z2,FR Z Z2 es es'): ∃Z2,Sub Z2 Z/\Fw Z Z2 v (.l es' false)/\Sat Z2 (l.eraseIdx i):=by
 rcases h.get hi with⟨rfl,_⟩|⟨n,cap,rfl,hn⟩
 .exact⟨Z,fun _ _ h=>h,.l (fun h=>(by cases h)) (he _),h.less (List.eraseIdx_sublist _ _)⟩
 .refine⟨del Z n,GV Z n,.arr hn (Dc Z n) rfl (he _),?_⟩
  refine⟨fun b hb=>?_,h.2.sublist (List.eraseIdx_sublist _ _)⟩;refine FU (h.1 b (List.mem_of_mem_eraseIdx hb)) fun m hm=>?_
  rw[He];intro e;subst e;exact FN h.2 hi b hb m rfl hm
def nX {l:List At} (h:Sat Z l) {sz:Nat} {z:List V} {n m:Nat} {K:V->AE->Prop} (hnm:n<=m) (hn:m<=1073741824) (hk: ∀v Z',Sat Z' (.own v sz (List.replicate n z)::l)->(∃id,v= .sl id n m)->K v Z') {ki kj:IntKind} :
    AJ Z sz z (.i ki (n:Int)) (.i kj (m:Int)) K:=by
 refine⟨by omega,by omega,by omega,fun id hid=>?_⟩;simp only[GB];refine hk _ _ (h.add (a:= .own (.sl id n m) sz (List.replicate n z)) (fun b hb=>FU hb fun m hm=>?_) (fun b hb m hm hb'=>?_) (.inr ⟨id,m,by simp,by simp[B3]⟩)).zR ⟨id,rfl⟩
 .obtain⟨o,ho⟩:=C0 hb hm
  rw[Cm];intro e;subst e;rw[hid]at ho;cases ho
 .cases hm
  obtain⟨o,ho⟩:=C0 hb hb';rw[hid]at ho;cases ho
def sB {Z:AE} {l:List At} {i:Nat} {v:V} {sz:Nat} {es:List (List V)} (hs:Sat Z l) (hi:l[i]? =some (.own v sz es)) (he: ∀e∈es,e.length=sz) (hm:es.length<=AZ) {K:V->AE->Prop} (hk: ∀Z',Sat Z' (l.eraseIdx i)->K (.l es true) Z'):AQ Z sz v none (some (.i .i64 (es.length:Int))) (some (.i .i64 (es.length:Int))) K:=by
 rcases hs.get hi with⟨rfl,_⟩|⟨n,cap,rfl,hn⟩
 .refine⟨he,?_⟩
  simp only[Of];refine⟨Int.le_refl _,Int.natCast_nonneg _,Int.le_refl _,trivial,?_⟩;have:=hk Z (hs.less (List.eraseIdx_sublist _ _));simpa using this
 .unfold AQ
  simp only[Of];refine⟨Int.le_refl _,Int.natCast_nonneg _,Int.le_refl _,trivial,trivial,trivial,?_⟩;rw[hn];refine⟨rfl,rfl,rfl,.inl (hk _ ?_)⟩;refine⟨fun b hb=>?_,hs.2.sublist (List.eraseIdx_sublist _ _)⟩;refine FU (hs.1 b (List.mem_of_mem_eraseIdx hb)) fun m hm=>?_
  rw[He];intro e;subst e;exact FN hs.2 hi b hb m rfl hm
end Go.Gl
namespace Go.Gl
variable {P:Program} {Z:AE} {env:Env}
structure Hd (G:Prop):Prop where
 h:G
class KI (K:Env->AE->Prop) (A:outParam (Env->AE->Prop)):Prop where
 h: ∀env Z,A env Z->K env Z
class KJ (K:(Env->AE->Prop)×(Env->V->AE->Prop)) (A:outParam (Env->AE->Prop)) (B:outParam (Env->V->AE->Prop)):Prop where
 h: ∀env Z,A env Z->K.1 env Z
 g: ∀env v Z,B env v Z->K.2 env v Z
class KN (K:(Env->AE->Prop)×(V->AE->Prop)) (A:outParam (Env->AE->Prop)) (B:outParam (V->AE->Prop)):Prop where
 h: ∀env Z,A env Z->K.1 env Z
 g: ∀v Z,B v Z->K.2 v Z
instance (priority:=low) {K A:Env->AE->Prop} [i:KI K A]:P6 (K env Z) (A env Z):=⟨i.h _ _⟩
instance {K:(Env->AE->Prop)×(Env->V->AE->Prop)} {A:Env->AE->Prop} {B:Env->V->AE->Prop} [i:KJ K A B]:P6 (K.1 env Z) (A env Z):=⟨i.h _ _⟩
instance {K:(Env->AE->Prop)×(Env->V->AE->Prop)} {A:Env->AE->Prop} {B:Env->V->AE->Prop} {v:V} [i:KJ K A B]:P6 (K.2 env v Z) (B env v Z):=⟨i.g _ _ _⟩
instance {K:(Env->AE->Prop)×(V->AE->Prop)} {A:Env->AE->Prop} {B:V->AE->Prop} [i:KN K A B]:P6 (K.1 env Z) (A env Z):=⟨i.h _ _⟩
instance {K:(Env->AE->Prop)×(V->AE->Prop)} {A:Env->AE->Prop} {B:V->AE->Prop} {v:V} [i:KN K A B]:P6 (K.2 v Z) (B v Z):=⟨i.g _ _⟩
instance {A:Prop}:P6 (ET P [] env Z/\A) A:=⟨dr⟩
class ZK (G:Prop) (α:outParam Type) (β:outParam (α->Prop)) (G':outParam (α->Prop)):Prop where
 h:(∀x,β x->G' x)->G
def zk {G:Prop} {α:Type} {β G':α->Prop} [i:ZK G α β G'] (h: ∀x,β x->G' x):G:=i.h h
instance {l:List Nat} {a b:AV} {Q:Ac->Env->AE->Prop}:ZK (W P (.seq l a b) Q env Z) (Env->AE->Prop) (fun K=>KI K fun env Z=>pk l env fun E=>W P b Q E Z) (fun K=>W P a (Ac.andThen K Q) env Z):=⟨fun h=>sq fun K U=>h K ⟨U⟩⟩
instance {ops:List Ar} {Q:Ac->Env->AE->Prop}:ZK (W P (.C9 ops) Q env Z) ((Env->AE->Prop)×(Env->V->AE->Prop)) (fun K=>KJ K (fun env Z=>Q .normal env Z) fun env v Z=>Q (.Bj v) env Z) (fun K=>WT P ops K.1 K.2 env Z):=⟨fun h=>DP fun A B hA hB=>h (A,B) ⟨hA,hB⟩⟩
instance {l:List Nat} {ops:List Cq} {Q:Ac->Env->AE->Prop}:ZK (W P (.HU l ops) Q env Z) ((Env->AE->Prop)×(V->AE->Prop)) (fun K=>KN K (fun env Z=>pk l env fun E=>Q .normal E Z) fun v Z=> ∀Z',Sub Z Z'->Q (.Bj v) [] Z') (fun K=>WD P ops K.1 K.2 env Z):=⟨fun h=>cM fun A B hA hB=>h (A,B) ⟨hA,hB⟩⟩
def zg {G G':Prop} (h:G') (t:Hd G'->G:=by
 intro h
 (first|refine⟨rfl,?_⟩|refine⟨kZ,?_⟩|fail)
 exact h.h):G:=t ⟨h⟩
def zn {G G':Prop} (h:G') (t:Hd G'->G:=by
 intro h
 (first|refine⟨rfl,?_⟩|refine⟨kZ,?_⟩|refine ld ?_|refine ix ?_|refine zE ?_|refine sk1 ?_|refine oi ?_|refine oc ?_|refine af ?_|fail)
 exact h.h):G:=t ⟨h⟩
def zX {G G':Prop} (h:G') (t:Hd G'->G:=by
 intro h
 (first|refine⟨rfl,?_⟩|refine⟨kZ,?_⟩|refine ix ?_|refine zE ?_|refine sk1 ?_|refine sx ?_|refine iqk ?_|refine lo ?_|refine slq ?_|refine ld ?_|refine oi ?_|refine oc ?_|refine oi2 ?_|refine oc2 ?_|refine zw ?_|refine sS ?_|refine af ?_|refine cft ?_|refine cff ?_|refine AAE ?_|refine AAF ?_|(refine zG (fun hc=>?_);(try rw[hc]);clear hc)|(refine fcn (fun hc=>?_);(try rw[hc]);clear hc)|fail)
 exact h.h):G:=t ⟨h⟩
def zY {G G':Prop} (h:G') (t:Hd G'->G:=by
 intro h
 (first|refine⟨rfl,?_⟩|refine⟨kZ,?_⟩|refine ix ?_|refine zE ?_|refine sk1 ?_|refine zT ?_|refine iar ?_|refine sx ?_|refine iqk ?_|refine lo ?_|refine slq ?_|refine ld ?_|refine oi ?_|refine oc ?_|refine oi2 ?_|refine oc2 ?_|refine zw ?_|refine sS ?_|refine af ?_|refine cft ?_|refine cff ?_|refine AAE ?_|refine AAF ?_|(refine zG (fun hc=>?_);(try rw[hc]);clear hc)|(refine fcn (fun hc=>?_);(try rw[hc]);clear hc)|fail)
 exact h.h):G:=t ⟨h⟩
def zC {G G':Prop} (h:G') (t:Hd G'->G:=by
 intro h
 first|refine c1.use ?_|refine c2.use ?_|refine c3.use ?_|refine c4.use ?_|refine c5.use ?_|refine c6.use ?_|refine c0.use ?_|refine Pure.use (by assumption) ?_|fail
 exact h.h):G:=t ⟨h⟩
def zs {G:Prop} {α:Type} {β G':α->Prop} (h: ∀x,β x->G' x) (t:Hd (∀x,β x->G' x)->G:=by
 intro h
 first|refine os2 fun Z hs=>?_|refine s1b fun Z hs=>?_|refine snb fun Z hs=>?_|refine oset fun Z hs=>?_|fail
 exact h.h Z hs):G:=t ⟨h⟩
def zr {G:Prop} {α:Type} {β G':α->Prop} (h: ∀x,β x->G' x) (t:Hd (∀x,β x->G' x)->G:=by
 intro h
 first|refine os2 fun Z hs=>?_|refine s1 fun Z hs=>?_|refine sn fun Z hs=>?_|refine oset fun Z hs=>?_|fail
 exact h.h Z hs):G:=t ⟨h⟩
def ze {G:Prop} {α:Type} {β G':α->Prop} (h: ∀x,β x->G' x) (t:Hd (∀x,β x->G' x)->G:=by
 intro h
 first|refine iqF fun x hx=>?_|refine iq fun x hx=>?_|refine ol fun x hx=>?_|refine ol2 fun x hx=>?_|fail
 exact h.h x hx):G:=t ⟨h⟩
def zo {G:Nat->Prop} {β:Nat->Prop} {γ G':Nat->AE->Prop} (h: ∀n,β n-> ∀Z,γ n Z->G' n Z) (t:Hd (∀n,β n-> ∀Z,γ n Z->G' n Z)-> ∀n,β n->G n:=by
 intro h nn hnn;generalize hg:B3 _ nn _=Z;refine alF hg fun hs=>?_
 clear hg
 exact h.h nn hnn Z hs): ∀n,β n->G n:=t ⟨h⟩
def zp {G:Nat->Prop} {β:Nat->Prop} {γ G':Nat->AE->Prop} (h: ∀n,β n-> ∀Z,γ n Z->G' n Z) (t:Hd (∀n,β n-> ∀Z,γ n Z->G' n Z)-> ∀n,β n->G n:=by
 intro h nn hnn;generalize hg:B3 _ nn _=Z;refine al hg fun hs=>?_
 clear hg
 exact h.h nn hnn Z hs): ∀n,β n->G n:=t ⟨h⟩
def zb {A B:Prop} {b c d:Bool} {p q A' B':Prop} (h1:p->A') (h2:q->B')
    (t1 : Hd (p->A')->b=c->A:=by
     intro h hc
     (try rw[hc])
     replace hc:=bp hc
     first
      | (refine False.elim ((fun(_:Hd (False->True))=>(?_:False)) h);(try simp(disch:=omega) only[B2,wrap64,Ae]at hc);first|done|omega|fail)
      | ((try simp(disch:=omega) only[B2,wrap64,Ae]at hc);exact h.h hc)
      | fail)
    (t2 : Hd (q->B')->b=d->B:=by
     intro h hc
     (try rw[hc])
     replace hc:=bp hc
     first
      | (refine False.elim ((fun(_:Hd (False->True))=>(?_:False)) h);(try simp(disch:=omega) only[B2,wrap64,Ae]at hc);first|done|omega|fail)
      | ((try simp(disch:=omega) only[B2,wrap64,Ae]at hc);exact h.h hc)
      | fail):(b=c->A)/\(b=d->B):=⟨t1 ⟨h1⟩,t2 ⟨h2⟩⟩
def za {A B:Prop} {b c d:Bool} {p q A' B':Prop} (h1:p->A') (h2:q->B')
    (t1:Hd (p->A')->b=c->A:=by intro h hc;(try rw[hc]);replace hc:=bp hc;exact h.h hc)
    (t2:Hd (q->B')->b=d->B:=by intro h hc;(try rw[hc]);replace hc:=bp hc;exact h.h hc):(b=c->A)/\(b=d->B):=⟨t1 ⟨h1⟩,t2 ⟨h2⟩⟩
def zd {A B:Prop} {b c d:Bool} {p q A' B':Prop} (h1:p->A') (h2:q->B')
    (t1 : Hd (p->A')->b=c->A:=by
     intro h hc
     (try rw[hc])
     replace hc:=bp hc
     first
      | (refine False.elim ((fun(_:Hd (False->True))=>(?_:False)) h);simp(disch:=omega) only[B2,wrap64,Ae]at hc;done)
      | ((try simp(disch:=omega) only[B2,wrap64,Ae]at hc);exact h.h hc)
      | fail)
    (t2 : Hd (q->B')->b=d->B:=by
     intro h hc
     (try rw[hc])
     replace hc:=bp hc
     first
      | (refine False.elim ((fun(_:Hd (False->True))=>(?_:False)) h);simp(disch:=omega) only[B2,wrap64,Ae]at hc;done)
      | ((try simp(disch:=omega) only[B2,wrap64,Ae]at hc);exact h.h hc)
      | fail):(b=c->A)/\(b=d->B):=⟨t1 ⟨h1⟩,t2 ⟨h2⟩⟩
def zh {G G':Prop} (h:G') (t:Hd G'->G:=by
 intro h
 conv=>whnf
 repeat((first|clear hKz Kz|apply st|(apply zk;intro Kz hKz)|refine zg ?_|fail);try(conv=>whnf))
 repeat(first|clear hKz Kz|revert hKz Kz)
 exact h.h):G:=t ⟨h⟩
def zu {G G':Prop} (h:G') (t:Hd G'->G:=by
 intro h
 conv=>whnf
 repeat((first|clear hKz Kz|apply st|(apply zk;intro Kz hKz)|refine zn ?_|fail);try(conv=>whnf))
 repeat(first|clear hKz Kz|revert hKz Kz)
 exact h.h):G:=t ⟨h⟩
def zv {G G':Prop} (h:G') (t:Hd G'->G:=by
 intro h
 conv=>whnf
 repeat((first|clear hKz Kz|apply st|(apply zk;intro Kz hKz)|refine zX ?_|fail);try(conv=>whnf))
 repeat(first|clear hKz Kz|revert hKz Kz)
 exact h.h):G:=t ⟨h⟩
def zz {G G':Prop} (h:G') (t:Hd G'->G:=by
 intro h
 conv=>whnf
 repeat((first|clear hKz Kz|apply st|(apply zk;intro Kz hKz)|refine zY ?_|fail);try(conv=>whnf))
 repeat(first|clear hKz Kz|revert hKz Kz)
 exact h.h):G:=t ⟨h⟩
def zW {G:Prop} (t:G:=by
 conv=>whnf
 repeat'((first|clear U K|apply st|(apply zk;intro K U)|refine zY ?_|refine ze fun x hx=>?_|refine zs fun Z hs=>?_|refine zC ?_|(refine zb (fun hc=>?_) (fun hc=>?_)<;>try exact⟨⟩)|refine zo fun nn hnn Z hs=>?_|fail)<;>try(conv=>whnf))
 all_goals first|exact AF rfl|fail):G:=t
end Go.Gl
namespace Go.Gl
def axI (n:Nat):List Nat->List Nat
 | []=>[n]
 | x::r=>bif Nat.beq n x then x::r else bif Nat.ble n x then n::x::r else x::axI n r
def zL:List Nat->List Nat->List Nat
 | [],l=>l
 | n::r,l=>zL r (axI n l)
def axD (n:Nat):List Nat->List Nat
 | []=>[]
 | x::r=>bif Nat.beq x n then r else x::axD n r
def axS:List Nat->List Nat->List Nat
 | [],l=>l
 | n::r,l=>axS r (axD n l)
def axO (o:Ar) (n:List Nat):List Nat:=zL (looks o) (match o.dst with|some d=>axD d n|none=>n)
def tC:List Ar->List Nat->List Nat
 | [],n=>n
 | o::r,n=>axO o (tC r n)
def axX (i:Nat):List (Nat×List Nat)->List Nat
 | []=>[]
 | (j,l)::r=>bif Nat.beq i j then l else axX i r
def YG (rs:List Nat):AV->List (Nat×List Nat)->List Nat->List Nat
 | .skip,_,n=>n
 | .ret,_,_=>rs
 | .exit i,X,_=>axX i X
 | .C9 ops,_,n=>tC ops n
 | .HU _ ops,_,n=>tC (ops.map (·.o)) n
 | .seq _ a b,X,n=>YG rs a X (YG rs b X n)
 | .cond c a b,X,n=>zL (rd c) (zL (YG rs a X n) (YG rs b X n))
 | .block i a,X,n=>YG rs a ((i,n)::X) n
 | .scope a,X,n=>YG rs a X n
 | .D2 _ g ps a b,_,n=>zL (rd g) (zL n (axS ps (YG [] a [] (YG [] b [] []))))
 | .loop _ a,X,_=>YG rs a X []
def cW (rs:List Nat):AV->List (Nat×List Nat)->List Nat->AV
 | .skip,_,_=> .skip
 | .ret,_,_=> .ret
 | .exit i,_,_=> .exit i
 | .C9 ops,_,_=> .C9 ops
 | .HU _ ops,_,n=> .HU n ops
 | .seq _ a b,X,n=> .seq (YG rs b X n) (cW rs a X (YG rs b X n)) (cW rs b X n)
 | .cond c a b,X,n=> .cond c (cW rs a X n) (cW rs b X n)
 | .block i a,X,n=> .block i (cW rs a ((i,n)::X) n)
 | .scope a,X,n=> .scope (cW rs a X n)
 | .D2 _ g ps a b,_,_=> .D2 (axS ps (YG [] a [] (YG [] b [] []))) g ps (cW [] a [] (YG [] b [] [])) (cW [] b [] [])
 | .loop _ a,X,_=> .loop (YG rs a X []) (cW rs a X (YG rs a X []))
variable {P:Program}
def CtrX (P:Program) (k n:Nat) (ac:AV) (rs:List Nat):Prop:= ∀ ⦃args:List V⦄,args.length<=n-> ∀ ⦃Z:AE⦄ ⦃Q:R->AE->Prop⦄,W P ac (gZ rs Q) (BA 0 args) Z->Au P k args Z Q
def ABR (P:Program) (k n:Nat) (ac:AV) (rs:List RS):Prop:= ∀ ⦃args:List V⦄,args.length<=n-> ∀ ⦃Z:AE⦄ ⦃Q:R->AE->Prop⦄,W P ac (V8 rs Q) (BA 0 args) Z->Au P k args Z Q
def zM:RS->Nat
 | .t n=>n
 | .c n _=>n
def cX {k n:Nat} {fn:Func} {ac:AV} {rs:List Nat} (pu fz:List Nat) (hf:P.funcs[k]? =some fn)
    (hn:fn.ntmps=n:=by conv=>lhs;reduce)
    (hr:Gr fn.results.toList=some rs:=by conv=>lhs;reduce)
    (hc:cW rs ((fn.body.bind (res P fn.ntmps pu fz)).getD .skip) [] rs=ac:=by conv=>lhs;reduce;try simp only[Int.reduceOfNat,Int.reduceNegSucc])
    (hb:fn.body.bind (res P fn.ntmps pu fz)=some (erase ac):=by kernel_rfl) (hok:okF P k=true:=by kernel_rfl):CtrX P k n ac rs:=
 fun _ ha _ _ h=>Lt hf hok hb hr (hn ▸ ha) (nE h)
def Ss {k n:Nat} {fn:Func} {ac:AV} {rs:List RS} (pu fz:List Nat) (hf:P.funcs[k]? =some fn)
    (hn:fn.ntmps=n:=by conv=>lhs;reduce)
    (hr:NZ P fn.results.toList=some rs:=by conv=>lhs;reduce)
    (hc:cW (rs.map zM) ((fn.body.bind (res P fn.ntmps pu fz)).getD .skip) [] (rs.map zM)=ac:=by conv=>lhs;reduce;try simp only[Int.reduceOfNat,Int.reduceNegSucc])
    (hb:fn.body.bind (res P fn.ntmps pu fz)=some (erase ac):=by kernel_rfl) (hok:okF P k=true:=by kernel_rfl):ABR P k n ac rs:=
 fun _ ha _ _ h=>E2 hf hok hb hr (hn ▸ ha) (nE h)
end Go.Gl
namespace Go.Gl
open Go.Proofs
set_option maxRecDepth 100000
def AAC:=cX [] [1] Tryz.func5
def ABJ:=cX [] [] Tryz.func22
def aB:=cX [] [3,4,5] Tryz.func23
def Z9:=cX [] [3] Tryz.func24
def ABI:=cX [] [2,3] Tryz.func27
def ABH:=cX [] [2] Tryz.func28
def ABG:=cX [] [1] Tryz.func29
def ABF:=cX [] [] Tryz.func34
def ABE:=cX [] [1] Tryz.func36
def ABD:=cX [] [] Tryz.func40
def sA:=cX [] [] Tryz.func49
set_option maxRecDepth 100000
def ABC:=Ss [] [1] Tryz.func53
def iA:=Ss [] [3] Tryz.func59
def r9:=cX [] [2] Tryz.func62
def ABB:=cX [] [2] Tryz.func64
def ABA:=Ss [] [1] Tryz.func68
def AA9:=Ss [] [2,3] Tryz.func70
def AA8:=cX [] [2] Tryz.func72
def AA7:=cX [] [2,3] Tryz.func74
def AA6:=cX [] [3] Tryz.func77
def AA5:=cX [] [4] Tryz.func78
def AA4:=cX [] [] Tryz.func79
def AA3:=cX [] [3] Tryz.func80
def AA2:=cX [] [2,3] Tryz.func86
def AA1:=cX [] [2] Tryz.func87
def AA0:=cX [] [2] Tryz.func88
def AAz:=cX [] [2] Tryz.func89
def r8:=Ss [] [1] Tryz.func92
def AAy:=cX [] [] Tryz.func95
def AAx:=cX [] [] Tryz.func96
def AAw:=cX [] [1] Tryz.func97
set_option maxRecDepth 100000
def yj:=cX [] [2] Tryz.func101
def yi:=cX [] [] Tryz.func102
def yh:=Ss [] [2] Tryz.func103
def yg:=cX [] [1] Tryz.func105
def jZ:=cX [] [1,16] Tryz.func114
def jY:=cX [] [] Tryz.func117
def yf:=cX [] [2] Tryz.func118
def ye:=cX [] [1,19] Tryz.func122
def yd:=Ss [] [] Tryz.func124
def yc:=cX [] [2,3] Tryz.func125
def yb:=cX [] [2,3] Tryz.func126
abbrev jr:AV:=(.C9 [⟨(some 4),.alloc [(.b false)],none⟩])
def rV:List Ar:=[⟨(some 5),.fk (.func 191) [] [(.t 4)],none⟩]
abbrev jo:AV:=(.seq [4] (.C9 [⟨(some 6),.mv (.t 0),none⟩,
 ⟨(some 7),.mv (.t 1),none⟩,
 ⟨(some 8),.call 128 [(.t 6),(.t 7)],none⟩,
 ⟨(some 9),.call 192 [(.t 8)],none⟩])
 (.seq [4] (.C9 [⟨none,.store 1 (.t 4) (.c (.b true)),none⟩])
 .ret))
def tT:Tryz.f127.body.bind (LV Tryz.prog Tryz.f127.ntmps [] [])=some (erase jr,rV,(.t 5),erase jo):=by kernel_rfl
def ya {args:List V} (hn:args.length<=10) {Z:AE} {Q:R->AE->Prop} (h:W Tryz.prog (.seq [0,1,4] jr (.C9 rV)) (Cb (gX Tryz.prog (.t 5) [0,1,4] jo [.c 4 none] Q)) (BA 0 args) Z):Au Tryz.prog 127 args Z Q:=
 I6 Tryz.func127 (by kernel_rfl) tT (by kernel_rfl) hn (sI h)
def yZ:=cX [] [11] Tryz.func128
def Yr:=Ss [] [2] Tryz.func131
def yY:=cX [] [1] Tryz.func132
def yX:=Ss [] [2] Tryz.func133
def yW:=cX [] [] Tryz.func134
def jX:=cX [] [3] Tryz.func135
def yV:=cX [] [2] Tryz.func136
def yU:=cX [] [1] Tryz.func138
def yT:=cX [] [2,3] Tryz.func139
def yS:=cX [] [] Tryz.func141
def yR:=Ss [] [] Tryz.func142
def yQ:=cX [] [] Tryz.func144
def yP:=cX [] [2,3] Tryz.func145
set_option maxRecDepth 100000
def yO:=cX [] [2,3] Tryz.func146
def yN:=cX [] [1] Tryz.func148
def yM:=cX [] [2,3] Tryz.func149
def yL:=cX [] [1] Tryz.func150
def yK:=Ss [] [1] Tryz.func151
def yJ:=cX [] [1] Tryz.func155
def yI:=cX [] [1] Tryz.func156
def jW:=cX [] [6] Tryz.func157
def yH:=cX [] [] Tryz.func158
def yG:=cX [] [] Tryz.func159
def yF:=cX [] [] Tryz.func160
def Us:=cX [] [2] Tryz.func161
def yE:=cX [] [] Tryz.func170
def yD:=cX [] [] Tryz.func171
def yC:=cX [] [1] Tryz.func174
def yB:=cX [] [2] Tryz.func175
def yA:=cX [] [1] Tryz.func180
def x9:=cX [] [] Tryz.func182
def x8:=cX [] [] Tryz.func183
def jV:=cX [] [2] Tryz.func184
def x7:=cX [] [] Tryz.func185
def x6:=cX [] [] Tryz.func186
def x5:=cX [] [4,5,6] Tryz.func187
def x4:=cX [] [5] Tryz.func188
def x3:=cX [] [] Tryz.func189
def xz:=cX [] [] Tryz.func190
def rU:List Ar:=[⟨(some 5),.fh 260 (.a []) true (.t 4),none⟩,
    ⟨(some 3),.mv (.t 5),none⟩,
    ⟨(some 6),.extract 0 (.t 3),none⟩,
    ⟨(some 7),.extract 1 (.t 3),none⟩,
    ⟨(some 1),.alloc [],none⟩,
    ⟨none,.store 0 (.t 1) (.t 6),none⟩,
    ⟨(some 2),.mv (.t 7),none⟩]
abbrev jn:AV:=(.seq [0,8] (.C9 [⟨(some 8),.mv (.t 2),none⟩])
 (.cond (.t 8)
 (.C9 [⟨none,.store 1 (.t 0) (.c (.b false)),none⟩])
 .skip))
def tS:Tryz.f191.body.bind (resRec Tryz.prog Tryz.f191.ntmps [] [])=some (4,rU,erase jn):=by kernel_rfl
def bq {args:List V} (hn:args.length<=9) {m:Option V} {Z:AE} {Q:AE->Prop} (h:W Tryz.prog (.seq [0,2] (.C9 rU) jn) (PR Q) (put (some 4) (m.getD .Dv) (BA 0 args)) Z):Hv Tryz.prog 191 args m Z Q:=
 Kp Tryz.func191 (by kernel_rfl) tS rfl hn (nE h)
def xy:=cX [] [] Tryz.func192
def xx:=cX [] [3] Tryz.func193
set_option maxRecDepth 100000
def xw:=cX [] [3] Tryz.func194
def xv:=cX [] [3] Tryz.func195
def xu:=cX [] [3] Tryz.func196
def xr:=Ss [] [] Tryz.func199
def jU:=cX [] [] Tryz.func200
def Yq:=cX [] [] Tryz.func201
def xq:=Ss [] [3] Tryz.func202
def xp:=cX [] [3] Tryz.func203
def xn:=cX [] [3,4,5] Tryz.func204
def xm:=cX [] [1] Tryz.func205
def xl:=cX [] [3] Tryz.func206
def xk:=cX [] [4,5] Tryz.func207
def Yp:=cX [] [7] Tryz.func208
def xj:=cX [] [4,5,7] Tryz.func209
def xi:=cX [] [] Tryz.func210
def Ur:=cX [] [] Tryz.func211
def xh:=cX [] [] Tryz.func212
def xg:=Ss [] [] Tryz.func214
def xf:=cX [] [3] Tryz.func215
def jT:=cX [] [3,4] Tryz.func216
def xe:=cX [] [4,5] Tryz.func217
def xd:=cX [] [] Tryz.func218
def xc:=cX [] [2] Tryz.func219
def xb:=cX [] [2] Tryz.func220
def xa:=cX [] [1] Tryz.func221
def xZ:=cX [] [1] Tryz.func222
def xY:=cX [] [1] Tryz.func223
def xX:=Ss [] [1] Tryz.func224
def xW:=cX [] [2,3] Tryz.func227
def xV:=cX [] [4,5] Tryz.func229
def xU:=cX [] [] Tryz.func232
def xT:=cX [] [] Tryz.func233
def xS:=cX [] [3] Tryz.func234
def xR:=cX [] [] Tryz.func235
def xQ:=cX [] [2,3] Tryz.func236
def xP:=cX [] [3,4] Tryz.func237
def xO:=cX [] [] Tryz.func239
def Yo:=cX [] [4] Tryz.func240
set_option maxRecDepth 100000
def jS:=cX [] [] Tryz.func242
def xN:=cX [] [] Tryz.func243
def xM:=cX [] [] Tryz.func245
def jR:=cX [] [3] Tryz.func246
def xL:=cX [] [] Tryz.func247
def xK:=cX [] [3] Tryz.func248
def xJ:=cX [] [2] Tryz.func249
def xI:=cX [] [4,5,6,7] Tryz.func250
def xH:=cX [] [] Tryz.func258
def xG:=cX [] [3] Tryz.func259
def xE:=cX [] [] Tryz.func260
def xD:=cX [] [1] Tryz.func261
def xC:=cX [] [3] Tryz.func262
def xB:=cX [] [] Tryz.func263
def xA:=cX [] [] Tryz.func264
def w9:=cX [] [] Tryz.func265
def w8:=cX [] [2] Tryz.func266
def jQ:=cX [] [3] Tryz.func267
def w7:=cX [] [] Tryz.func268
def wz:=cX [] [3] Tryz.func269
def wy:=cX [] [4] Tryz.func270
def jP:=cX [] [2] Tryz.func272
def wx:=cX [] [] Tryz.func273
def wu:=cX [] [3] Tryz.func274
def wq:=cX [] [] Tryz.func275
def wm:=cX [] [] Tryz.func276
def wk:=cX [] [2,3] Tryz.func277
def wj:=cX [] [] Tryz.func278
def wi:=cX [] [] Tryz.func279
abbrev jq:AV:=(.C9 [⟨(some 2),.alloc [(.b false)],none⟩])
def rT:List Ar:=[⟨(some 3),.fk (.func 322) [] [(.t 2)],none⟩]
abbrev jm:AV:=(.seq [2] (.C9 [⟨(some 4),.mv (.t 0),none⟩,
 ⟨(some 5),.Jy (.t 4) [],none⟩])
 (.seq [2] (.C9 [⟨none,.store 1 (.t 2) (.c (.b true)),none⟩])
 .ret))
def tR:Tryz.f280.body.bind (LV Tryz.prog Tryz.f280.ntmps [] [])=some (erase jq,rT,(.t 3),erase jm):=by kernel_rfl
def wh {args:List V} (hn:args.length<=6) {Z:AE} {Q:R->AE->Prop} (h:W Tryz.prog (.seq [0,2] jq (.C9 rT)) (Cb (gX Tryz.prog (.t 3) [0,2] jm [.c 2 none] Q)) (BA 0 args) Z):Au Tryz.prog 280 args Z Q:=
 I6 Tryz.func280 (by kernel_rfl) tR (by kernel_rfl) hn (sI h)
def wg:=cX [] [] Tryz.func281
def we:=cX [] [1] Tryz.func282
def jO:=cX [] [] Tryz.func283
def wc:=cX [] [7] Tryz.func284
def wb:=cX [] [3,4,5] Tryz.func285
def wa:=cX [] [3,4] Tryz.func286
def wZ:=cX [] [] Tryz.func287
def wY:=cX [] [1] Tryz.func288
def wX:=cX [] [] Tryz.func289
set_option maxRecDepth 100000
def wW:=cX [] [1] Tryz.func290
def wV:=cX [] [] Tryz.func291
def wU:=cX [] [] Tryz.func293
def wT:=Ss [] [2,3] Tryz.func295
def wS:=cX [] [] Tryz.func296
def wR:=cX [] [3,5] Tryz.func297
def wQ:=cX [] [3] Tryz.func298
def jM:=cX [] [2] Tryz.func299
def wP:=cX [] [2] Tryz.func300
def jK:=cX [] [] Tryz.func301
def wO:=cX [] [2] Tryz.func302
def wN:=cX [] [] Tryz.func303
def wM:=cX [] [] Tryz.func304
def wL:=cX [] [] Tryz.func305
def wK:=cX [] [4] Tryz.func306
def wJ:=cX [] [] Tryz.func310
def wI:=cX [] [] Tryz.func311
def wH:=cX [] [] Tryz.func312
def wG:=cX [] [] Tryz.func313
def wF:=cX [] [] Tryz.func314
def wE:=cX [] [] Tryz.func315
def wD:=cX [] [2,3] Tryz.func316
def wB:=cX [] [] Tryz.func317
def wA:=cX [] [] Tryz.func318
def vw:=cX [] [] Tryz.func319
def vt:=cX [] [] Tryz.func320
def vr:=cX [] [2] Tryz.func321
def rS:List Ar:=[⟨(some 1),.mv (.t 4),none⟩]
abbrev jl:AV:=(.seq [0,1,6] (.C9 [⟨(some 5),.mv (.t 1),none⟩,
 ⟨(some 6),.fm 2 true (.t 5),none⟩])
 (.cond (.t 6)
 (.seq [0] (.seq [0,1,3] (.C9 [⟨(some 8),.mv (.t 1),none⟩,
  ⟨(some 9),.fh 377 (.a []) true (.t 8),none⟩,
  ⟨(some 7),.mv (.t 9),none⟩,
  ⟨(some 10),.extract 0 (.t 7),none⟩,
  ⟨(some 11),.extract 1 (.t 7),none⟩,
  ⟨(some 2),.alloc [],none⟩,
  ⟨none,.store 0 (.t 2) (.t 10),none⟩,
  ⟨(some 3),.mv (.t 11),none⟩])
 (.seq [0,1,13] (.C9 [⟨(some 12),.mv (.t 3),none⟩,
  ⟨(some 13),.not (.t 12),none⟩])
 (.cond (.t 13)
 (.C9 [⟨(some 14),.mv (.t 1),none⟩,
  ⟨none,.panic (.t 14),none⟩])
 .skip)))
 (.C9 [⟨none,.store 1 (.t 0) (.c (.b false)),none⟩]))
 .skip))
def tQ:Tryz.f322.body.bind (resRec Tryz.prog Tryz.f322.ntmps [] [])=some (4,rS,erase jl):=by kernel_rfl
def bo {args:List V} (hn:args.length<=15) {m:Option V} {Z:AE} {Q:AE->Prop} (h:W Tryz.prog (.seq [0,1] (.C9 rS) jl) (PR Q) (put (some 4) (m.getD .Dv) (BA 0 args)) Z):Hv Tryz.prog 322 args m Z Q:=
 Kp Tryz.func322 (by kernel_rfl) tQ rfl hn (nE h)
def vq:=cX [] [] Tryz.func323
def vo:=cX [] [] Tryz.func324
def vj:=cX [] [2] Tryz.func325
def vg:=cX [] [] Tryz.func326
def ve:=cX [] [4] Tryz.func327
def jJ:=cX [] [6] Tryz.func328
def vd:=cX [] [] Tryz.func329
def vZ:=cX [] [] Tryz.func330
def vY:=cX [] [] Tryz.func331
def vX:=cX [] [0] Tryz.func332
def vW:=cX [] [2] Tryz.func333
def vV:=cX [] [3] Tryz.func334
def vU:=cX [] [] Tryz.func335
def vT:=cX [] [] Tryz.func336
set_option maxRecDepth 100000
def vS:=cX [] [3,4,5] Tryz.func338
def vR:=cX [] [] Tryz.func339
def vQ:=cX [] [] Tryz.func349
def vP:=cX [] [] Tryz.func350
def Ny:=cX [] [1] Tryz.func351
def vO:=cX [] [] Tryz.func352
def vN:=cX [] [] Tryz.func353
def vM:=cX [] [] Tryz.func354
def vL:=cX [] [] Tryz.func355
def vK:=cX [] [] Tryz.func356
def vJ:=cX [] [1] Tryz.func357
def vI:=cX [] [1] Tryz.func358
def vH:=cX [] [2] Tryz.func359
def vG:=cX [] [1] Tryz.func365
def vF:=Ss [] [] Tryz.func366
def vE:=Ss [] [3] Tryz.func367
def vD:=cX [] [] Tryz.func368
def vC:=cX [] [1] Tryz.func369
def vB:=Ss [] [1] Tryz.func370
def vA:=cX [] [1] Tryz.func371
def u9:=cX [] [1] Tryz.func372
def uz:=Ss [] [2] Tryz.func373
def uy:=cX [] [1] Tryz.func374
def ux:=cX [] [] Tryz.func376
def uw:=cX [] [0] Tryz.func377
def uv:=cX [] [] Tryz.func378
def uu:=cX [] [] Tryz.func379
def jH:=cX [] [] Tryz.func380
def ur:=cX [] [] Tryz.func381
def uq:=cX [] [] Tryz.func382
def uo:=cX [] [4,5] Tryz.func399
def um:=cX [] [3,4,5] Tryz.func400
@[reducible] noncomputable def zP:=Tryz.prog
end Go.Gl
namespace Go.Gl
open Go.Proofs
attribute [local irreducible] Au Am Ab AR AK AY AQ AS AJ AX AN AP Ao Az Sat AU Ax Ad W
def A3 (p:Prog):List (List Int):=p.AM.map (·.parents)
def tA (p:Prog):Prop:=p.AM.length<=AZ/\ ∀c∈p.AM,c.parents.length<=AZ/\c.AG.length<=AZ/\c.inits.length<=AZ
def bK (p:Prog) (hp:tA p) (hk0:p.AM.length<=1000):Pure zP 122 [.a (BG p)] (.l (EK (A3 p)) false):=by
 refine ye kZ ?_;refine zh ?_;(repeat clear U K);repeat intro K U
 refine Bw p.AM.length (fun k v=>[(3,v),(4,eI (A6 k))]) (fun k v=>[.own v 1 (EK ((p.AM.take k).map (·.parents)))]) (fun _ _=>True) (.l [] true) rfl trivial (Dw Sat.nil 1) ?_;rintro k v Z hk - hs;refine zh ?_;(repeat clear U K);repeat intro K U
 refine Gp hk hp.1 (fun c hc hlt=>?_) fun hk=>?_
 .have hcm:=hp.2 c (Bo hc)
  refine zh ?_;(repeat clear U K);repeat intro K U
  refine Jn hc hp.1 rfl ?_;refine zh ?_;(repeat clear U K);repeat intro K U
  refine iz Bm (by have:=hcm.1;have hM:=Mx;omega) ?_
  conv=>whnf
  refine GN hs 0 (x:=c.parents) rfl (by have hM:=Mx;simp only[B2,Jd];omega) DK fun v' Z' hs'=>?_
  refine zh ?_;(repeat clear U K);repeat intro K U
  refine⟨hlt,v',rfl,trivial,?_⟩;rw[AO hc,SN];exact hs'
 .refine zh ?_;(repeat clear U K);repeat intro K U
  exact Ea hs 0 rfl (by rw[Aq hk];rfl)
def BR (i:Nat):List SW->List Int
 | []=>[]
 | c::r=>List.replicate c.AG.length ((i:Int)+3)++BR (i+1) r
def AL (p:Prog):AH:=⟨A3 p,BR 0 p.AM⟩
def JU (i:Nat) (a b:List SW):BR i (a++b)=BR i a++BR (i+a.length) b:=by
 induction a generalizing i with
 | nil=>simp[BR]
 | cons c r ih=>
   simp only[List.cons_append,BR,ih,PD,Ky];rw[show i+1+r.length=i+(r.length+1) by omega]
def Bq (cs:List SW):Nat:=(cs.map (·.AG.length)).sum
def Cj (i:Nat) (cs:List SW):(BR i cs).length=Bq cs:=by
 induction cs generalizing i with
 | nil=>rfl
 | cons c r ih=>simp[BR,ih,Bq]
def Ro {cs:List SW} {k:Nat} {c:SW} (h:cs[k]? =some c):Bq (cs.take k)+c.AG.length<=Bq cs:=by
 induction cs generalizing k with
 | nil=>cases h
 | cons d r ih=>
   cases k with
   | zero=>simp at h;subst h;simp[Bq]
   | succ k=>simp at h;have:=ih h;simp only[Bq,List.take_succ_cons,E3,List.sum_cons]at *;omega
def PY (p:Prog) (hp:tA p) (hk0:p.AM.length<=1000) (hm:Bq p.AM<=AZ):Pure zP 53 [.a (BG p)] (.a (A0 (AL p))):=by
 refine ABC kZ ?_
 conv=>whnf
 repeat((first|clear U K|(apply zk;intro K U)|fail);conv=>whnf)
 intro n hn;have hs:=gQ (l:=[]) (Z:=emp) Sat.nil hn (o:= .cs [.l [] true,.l [] true]);refine zh ?_;(repeat clear U K);repeat intro K U
 refine(bK p hp hk0).use ?_
 conv=>whnf
 intro m hm;have hs:=gQ hs hm (o:= .cs [.l [] true,.l [] true])
 conv=>whnf
 refine Ih hs 1 rfl rfl rfl rfl (by decide) fun Z hs=>?_
 refine zh ?_;(repeat clear U K);repeat intro K U
 refine Bw p.AM.length (fun k _=>[(4,eI (A6 k))]) (fun k v=>[.box n [.l [] true,.l [] true],.box m [.l (EK (A3 p)) false,v],.own v 1 (iL (BR 0 (p.AM.take k)))]) (fun _ _=>True) (.l [] true) rfl trivial (Dw hs 1) ?_;rintro k v Z hk - hs;refine zh ?_;(repeat clear U K);repeat intro K U
 refine Gp hk hp.1 (fun c hc hlt=>?_) fun hk=>?_
 .have hcm:=hp.2 c (Bo hc)
  have htk:=Ro hc;refine zh ?_;(repeat clear U K);repeat intro K U
  refine Bw c.AG.length (fun j _=>[(5,eI (A6 j))]) (fun j v=>[.box n [.l [] true,.l [] true],.box m [.l (EK (A3 p)) false,v],.own v 1 (iL (BR 0 (p.AM.take k)++List.replicate j ((k:Int)+3)))]) (fun _ _=>True) v rfl trivial (by simpa using hs) ?_;rintro j v Z hj - hs;refine zh ?_;(repeat clear U K);repeat intro K U
  refine Jn hc hp.1 rfl ?_;refine zh ?_;(repeat clear U K);repeat intro K U
  refine Gp hj hcm.2.1 (fun s hsl hjlt=>?_) fun hj=>?_
  .refine zh ?_;(repeat clear U K);repeat intro K U
   refine WJ hs 1 rfl ?_;refine zh ?_;(repeat clear U K);repeat intro K U
   have he:IntKind.i64.wrap (A6 k+3)=(k:Int)+3:=by
    have:=hp.1;rw[Ae (by omega),wrap64 (by omega) (by simp only[AZ]at *;omega)]
   refine GN hs 2 (x:=IntKind.i64.wrap (A6 k+3)) rfl (by have hM:=Mx;simp only[NW,Cj,List.length_replicate];omega) Bm fun v' Z' hs'=>?_
   conv=>whnf
   refine MV hs' 1 rfl (Hr hs' 2 rfl) kZ fun Z2 hs2=>?_
   refine zh ?_;(repeat clear U K);repeat intro K U
   refine⟨hjlt,v',rfl,trivial,?_⟩;rw[List.replicate_succ',<-PD];rw[he]at hs2;exact hs2
  .refine zh ?_;(repeat clear U K);repeat intro K U
   refine⟨hlt,v,rfl,trivial,?_⟩;rw[AO hc,JU];have:(p.AM.take k).length=k:=by simp;omega
   rw[this];simpa[BR,hj]using hs
 .refine zh ?_;(repeat clear U K);repeat intro K U
  refine WJ hs 1 rfl ?_;refine zh ?_;(repeat clear U K);repeat intro K U
  refine Ih hs 0 rfl rfl rfl (by simp[Hr hs 2 rfl]) kZ fun Z2 hs2=>?_
  refine zh ?_;(repeat clear U K);repeat intro K U
  refine WJ hs2 0 rfl ?_;refine zh ?_;(repeat clear U K);repeat intro K U
  refine A8 (.a (.cons (.refl _) (.cons ?_ .nil)));have:=hs2.GC 2 rfl;rw[Aq hk]at this;exact this
def iw (xs:List Int) (f:Bool) (x:Int) (hx:xs.length<=AZ):Pure zP 296 [.l (iL xs) f,.i .i64 x] (.b (xs.contains x)):=by
 refine wS kZ ?_;refine zh ?_;(repeat clear U K);repeat intro K U
 refine Bw xs.length (fun k (_:Unit)=>[(5,eI (A6 k))]) (fun _ _=>[]) (fun k _=>x∉xs.take k) () rfl (by simp) Sat.nil ?_;rintro k - Z hk hn -;refine zh ?_;(repeat clear U K);repeat intro K U
 refine Gp hk hx (fun y hy hlt=>?_) fun hk=>?_
 .refine zh ?_;(repeat clear U K);repeat intro K U
  refine Jn hy hx rfl ?_;refine zh ?_;(repeat clear U K);repeat intro K U
  refine bU (fun he=>?_) (fun he=>?_)
  .refine zh ?_;(repeat clear U K);repeat intro K U
   refine AF ?_;have:x∈xs:=he ▸ Bo hy;simp[this]
  .refine zh ?_;(repeat clear U K);repeat intro K U
   refine⟨hlt,(),rfl,?_,Sat.nil⟩;rw[AO hy];simp only[Du,KF,not_or];exact⟨hn,fun e=>he e.symm⟩
 .refine zh ?_;(repeat clear U K);repeat intro K U
  refine AF ?_;rw[Aq hk]at hn;simp[hn]
def RQ (xs:List Int) (f:Bool) (x:Int) (hx:xs.length<=AZ):Pure zP 355 [.l (iL xs) f,.i .i64 x] (.l (iL (xs.filter (· != x))) false):=by
 refine vL kZ ?_;refine zh ?_;(repeat clear U K);repeat intro K U
 refine Bw xs.length (fun k v=>[(5,v),(6,eI (A6 k))]) (fun k v=>[.own v 1 (iL ((xs.take k).filter (· != x)))]) (fun _ _=>True) (.l [] true) rfl trivial (Dw Sat.nil 1) ?_;rintro k v Z hk - hs;refine zh ?_;(repeat clear U K);repeat intro K U
 refine Gp hk hx (fun y hy hlt=>?_) fun hk=>?_
 .refine zh ?_;(repeat clear U K);repeat intro K U
  refine Jn hy hx rfl ?_;refine zh ?_;(repeat clear U K);repeat intro K U
  refine qF (fun he=>?_) (fun he=>?_)
  .conv=>whnf
   repeat((first|clear U K|(apply zk;intro K U)|fail);conv=>whnf)
   refine Jn hy hx rfl ?_;refine zh ?_;(repeat clear U K);repeat intro K U
   refine GN hs 0 (x:=y) rfl (by have:=Oc (· != x) (xs.take k);simp only[Jd]at this;have hM:=Mx;omega) Bm fun v' Z' hs'=>?_
   refine zh ?_;(repeat clear U K);repeat intro K U
   refine⟨hlt,v',rfl,trivial,?_⟩;rw[AO hy,List.filter_append];simpa[he]using hs'
  .refine zh ?_;(repeat clear U K);repeat intro K U
   refine⟨hlt,v,rfl,trivial,?_⟩;rw[AO hy,List.filter_append];simpa[he]using hs
 .refine zh ?_;(repeat clear U K);repeat intro K U
  exact Ea hs 0 rfl (by rw[Aq hk])
def free (ls:List (List Int)) (x:Int):Bool:=ls.all fun l=> !(l.drop 1).contains x
def qB (ls:List (List Int)) (f:Bool) (x:Int) (hl:ls.length<=AZ) (hls: ∀l∈ls,l.length<=AZ):Pure zP 356 [.l (EK ls) f,.i .i64 x] (.b (free ls x)):=by
 refine vK kZ ?_;refine zh ?_;(repeat clear U K);repeat intro K U
 refine Bw ls.length (fun k (_:Unit)=>[(5,eI (A6 k))]) (fun _ _=>[]) (fun k _=> ∀l∈ls.take k,x∉l.drop 1) () rfl (by simp) Sat.nil ?_;rintro k - Z hk hn -;refine zh ?_;(repeat clear U K);repeat intro K U
 refine Gp hk hl (fun y hy hlt=>?_) fun hk=>?_
 .have hb:=hls _ (Bo hy)
  have next:(x∉y.drop 1)-> ∀l∈ls.take (k+1),x∉l.drop 1:=fun hc l hm=>by
   rw[AO hy]at hm;rcases Du.1 hm with hm|hm
   .exact hn l hm
   .rw[KF.1 hm];exact hc
  refine zh ?_;(repeat clear U K);repeat intro K U
  refine Jn hy hl rfl ?_;refine zh ?_;(repeat clear U K);repeat intro K U
  refine⟨fun h=>?_,fun h=>?_⟩<;>(try rw[h])
  .have hp:=of_decide_eq_true h
   simp only[B2]at hp;refine zh ?_;(repeat clear U K);repeat intro K U
   refine Jn hy hl rfl ?_;refine zh ?_;(repeat clear U K);repeat intro K U
   refine Wq 1 rfl (by omega) (fun _=>rfl) ?_;refine zh ?_;(repeat clear U K);repeat intro K U
   refine(iw _ _ _ (by rw[sN];omega)).use ?_;refine zh ?_;(repeat clear U K);repeat intro K U
   refine⟨fun hc=>?_,fun hc=>?_⟩
   .refine zh ?_;(repeat clear U K);repeat intro K U
    refine AF ?_
    have:free ls x=false:=by
     simp only[free,List.all_eq_false];exact⟨y,Bo hy,by simpa using hc⟩
    rw[this]
   .refine zh ?_;(repeat clear U K);repeat intro K U
    exact⟨hlt,(),rfl,next (by simpa using hc),Sat.nil⟩
  .have hp: ¬_:=of_decide_eq_false h
   simp only[B2]at hp;refine zh ?_;(repeat clear U K);repeat intro K U
   refine⟨hlt,(),rfl,next ?_,Sat.nil⟩;rw[List.drop_eq_nil_of_le (by omega)];simp
 .refine zh ?_;(repeat clear U K);repeat intro K U
  rw[Aq hk]at hn;refine AF ?_;have:free ls x=true:=by simpa[free]using hn
  rw[this]
def A4 (ls:List (List Int)) (c:Int):List Int:=if c<3 then []else ls.getD (c - 3).toNat []
def ZI (ls:List (List Int)) (f:Bool) (c:Int) (hc:c<3+ls.length) (hm:ls.length<=AZ):Pure zP 354 [.l (EK ls) f,.i .i64 c] (.l (iL (A4 ls c)) false):=by
 refine vM kZ ?_;refine zh ?_;(repeat clear U K);repeat intro K U
 refine fork (fun h=>?_) (fun h=>?_)
 .refine zh ?_;(repeat clear U K);repeat intro K U
  refine A8 (.l (fun h=>(by cases h)) ?_);rw[A4,if_pos h];exact .nil
 .refine zh ?_;(repeat clear U K);repeat intro K U
  simp only[AZ]at hm;have hlt:(c - 3).toNat<ls.length:=by omega
  refine V6 (c - 3).toNat (Cr hlt) (by rw[wrap64 (by omega) (by omega)];omega) rfl ?_;refine zh ?_;(repeat clear U K);repeat intro K U
  refine AF ?_;rw[A4,if_neg h,C4,Cr hlt];rfl
def Eb (ls os:List (List Int)) (c:Int):Option (List (List Int)):=
 if(A4 ls c).any fun p=>(os.getD p.toNat []).isEmpty then none else some ((A4 ls c).map (fun p=>(os.getD p.toNat []).filter (· != 0))++[A4 ls c])
def AAT (o:Option (List (List Int))):V:=match o with|some l=> .t [.l (EK l) false,.b true]|none=> .t [.l [] false,.b false]
def lS (ls os:List (List Int)) (f:Bool) (w:V) (c:Int) (hc:c<3+ls.length) (hm:ls.length<=AZ) (hos: ∀o∈os,o.length<=AZ) (hpl:(A4 ls c).length<1000000)
    (hp: ∀p∈A4 ls c,0<=p/\p.toNat<os.length):BT zP 331 [.l (EK ls) f,w,.i .i64 c] [.own w 1 (EK os)] fun r post=>r= .ret (AAT (Eb ls os c))/\post= [.own w 1 (EK os)]:=by
 have hM:=Mx;intro Z hs;refine vY kZ ?_
 conv=>whnf
 repeat((first|clear U K|apply st|(apply zk;intro K U)|fail);conv=>whnf)
 refine(ZI _ _ _ hc hm).use ?_;refine zh ?_;(repeat clear U K);repeat intro K U
 refine Bw (A4 ls c).length (fun k v=>[(8,v),(10,eI (A6 k))]) (fun k v=>[.own w 1 (EK os),.own v 1 (EK (((A4 ls c).take k).map fun p=>(os.getD p.toNat []).filter (· != 0)))]) (fun k _=> ∀p∈(A4 ls c).take k,(os.getD p.toNat []).isEmpty=false)
  (.l [] true) rfl (by simp) (Dw hs 1) ?_
 rintro k v Z hk hne hs;refine zh ?_;(repeat clear U K);repeat intro K U
 refine Gp hk (by omega) (fun p hpk hlt=>?_) fun hk=>?_
 .obtain ⟨hp0,hp1⟩:=hp _ (Bo hpk)
  have hq:=Cr hp1
  have hgd:os.getD p.toNat []=os[p.toNat]:=by
   rw[C4,hq];rfl
  have hqm:(EK os)[p.toNat]? =some [.l (iL os[p.toNat]) false]:=by rw[Je,hq];rfl
  refine zh ?_;(repeat clear U K);repeat intro K U
  refine Jn hpk (by omega) rfl ?_;refine zh ?_;(repeat clear U K);repeat intro K U
  refine fw hs 0 p.toNat rfl (by omega) (by simpa using hp1) ?_
  conv=>whnf
  refine Ir hs 0 rfl hqm ?_;refine zh ?_;(repeat clear U K);repeat intro K U
  refine bU (fun he=>?_) (fun he=>?_)
  .refine zh ?_;(repeat clear U K);repeat intro K U
   have hn:Eb ls os c=none:=by
    simp only[Eb];rw[if_pos];rw[IY];refine⟨p,Bo hpk,?_⟩;rw[hgd];have:(os[p.toNat]).length=0:=by simpa using he
    simp[YE.1 this]
   rw[hn];exact As (l':=[.own w 1 (EK os)]) hs (by simp) (.t (.cons (.l (fun h=>(by cases h)) .nil) (.cons (.refl _) .nil))) fun Z' hs'=>⟨_,⟨rfl,rfl⟩,hs'⟩
  .refine zh ?_;(repeat clear U K);repeat intro K U
   refine Jn hpk (by omega) rfl ?_;refine zh ?_;(repeat clear U K);repeat intro K U
   refine fw hs 0 p.toNat rfl (by omega) (by simpa using hp1) ?_
   conv=>whnf
   refine Ir hs 0 rfl hqm ?_
   conv=>whnf
   refine(RQ _ _ _ (hos _ (List.getElem_mem hp1))).use ?_
   conv=>whnf
   refine GN hs 1 (x:=os[p.toNat].filter (· != 0)) rfl (by have hM:=Mx;simp;omega) DK fun v' Z' hs'=>?_
   refine zh ?_;(repeat clear U K);repeat intro K U
   refine⟨hlt,v',rfl,fun q hm=>?_,?_⟩
   .rw [AO hpk]at hm
    rcases Du.1 hm with hm|hm
    .exact hne q hm
    .rw[KF.1 hm,hgd]
     have:(os[p.toNat]).length≠0:=by
      intro e;exact he (by simp[e])
     cases hq:os[p.toNat]with
     | nil=>rw[hq]at this;exact absurd rfl this
     | cons _ _=>rfl
   .rw[AO hpk,SN,List.map_singleton,hgd]
    exact hs'
 .rw[Aq hk]at hne hs
  refine zh ?_;(repeat clear U K);repeat intro K U
  refine GN hs 1 (x:=A4 ls c) rfl (by have hM:=Mx;simp;omega) DK fun v' Z' hs'=>?_
  refine zh ?_;(repeat clear U K);repeat intro K U
  have hn:Eb ls os c=some ((A4 ls c).map (fun p=>(os.getD p.toNat []).filter (· != 0))++[A4 ls c]):=by
   simp only[Eb];rw[if_neg];rw[IY];rintro⟨p,h1,h2⟩;rw[hne p h1]at h2;cases h2
  rw[hn];obtain⟨Z2,h1,h2,h3⟩:=HC hs' 1 rfl;exact HN h1 (.t (.cons h2 (.cons (.refl _) .nil))) ⟨_,⟨rfl,rfl⟩,h3⟩
end Go.Gl
