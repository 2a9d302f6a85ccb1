import Derived.ChangeOld
import Derived.Below
import Derived.Carry
import Derived.ChangeArms
import Derived.Deep.Slices
import Derived.Test.YtegbmnmnaijioaaGreatProg
import Derived.KernelRfl
import Derived.Test.YtegbmnmnaijioaaGreatL5
set_option linter.all false
set_option linter.defProp false
noncomputable section
namespace Go.Gl
open Go.ChangeShapes Go.WideShapes Go.ChangeAt Go.RowKit
def iy {w w':World} (h:B2 (fun _=>False) emp w emp w'):Below w.heap.size w w':=
 ⟨h.os,h.tape,h.output,h.size,fun k hk=>h.frame k hk rfl⟩
def ql {w:World} {b o:Nat}:Hh (fun _=>False) emp w b o=w.cell? ⟨b,o,none⟩:=by
 unfold Hh;rw[if_neg (by simp[emp])]
def NQ {α:Type} {Q:Nat->α->Prop}: ∀(len:Nat),(∀i,i<len-> ∃v,Q i v)-> ∃l:List α,l.length=len/\ ∀i v,l[i]? =some v->Q i v
 | 0,_=>⟨[],rfl,fun i v h=>by simp at h⟩
 | k + 1,h=>by
   obtain⟨l,hl,hl2⟩:=NQ k fun i hi=>h i (by omega)
   obtain⟨u,hu⟩:=h k (by omega);refine⟨l++[u],by simp[hl],fun i v hv=>?_⟩;by_cases hi:i<l.length
   .rw[jO hi]at hv
    exact hl2 i v hv
   .rw[List.getElem?_append_right (by omega)]at hv
    have:i - l.length=0:=by
     have:=(JX.1 hv).1;simp at this;omega
    have hik:i=k:=by omega
    subst hik;rw[this]at hv;rw[<-Option.some.inj hv];exact hu
section
variable {H:Type} {enc:TypeId×Value->H} {P:Program} {W:World}
def jS {H:Type} (enc:TypeId×Value->H) (P:Program) (W:World) (n:Nat) (t:TypeId) {α:Type} (ea:α->List V):Prop:=
 ∀(cs:List Value) (d:DataW H) (ps:List MemPlace),DataW.trod enc P W 0 (fun _=>true) true n t cs=some (d,ps)->(∀x∈d.weights P t,x<=reachBytes)-> ∃a:α,cs.length=(ea a).length/\BO (Hh (fun _=>False) emp W) (fun i=>cs[i]?) 0 (ea a)
def Wa {H:Type} (enc:TypeId×Value->H) (P:Program) (W:World) (t:TypeId) {α:Type} (ea:α->List V):Prop:= ∀n,jS enc P W n t ea
def LL {t:TypeId} {α:Type} {ea:α->List V}:jS enc P W 0 t ea:=fun cs d ps h=>by simp[DataW.trod]at h
def I4 {n:Nat} {t:TypeId} {α β:Type} {ea:α->List V} {eb:β->List V} (h:jS enc P W n t ea) (g:α->β) (hg: ∀a,ea a=eb (g a)):jS enc P W n t eb:=fun cs d ps h1 h2=>by
 obtain⟨a,h3,h4⟩:=h cs d ps h1 h2;exact⟨g a,by rw[<-hg];exact h3,by rw[<-hg];exact h4⟩
def SN {t:TypeId} (ht:P.underlying t=some (.int .i64)):Wa enc P W t fun x:Int=>[V.i .i64 x]:=fun n cs d ps h _=>by
 obtain⟨k,rfl,-,hw⟩:=DataW.trod_int ht h;simp only[Lit.wf,A8,Cm]at hw;refine⟨k,rfl,⟨_,rfl,?_⟩,trivial⟩;simp only[Ag]
 first
  | exact⟨rfl,hw⟩
  | exact⟨trivial,hw⟩
  | exact hw
def Qz {n:Nat} {t e:TypeId} {sz:Nat} {α:Type} {ea:α->List V} (ht:P.underlying t=some (.slice e)) (hc:P.cellsOf e=sz) (hsz:0<sz) (hb:8<=P.bytesOf e) (he: ∀a,(ea a).length=sz) (h:jS enc P W n e ea) :
    jS enc P W (n+1) t fun l:List α=>[V.l (l.map ea) false]:=by
 intro cs d ps htr hw;rcases DataW.trod_slice ht htr with⟨rfl,hx⟩|⟨a,len,cap,elems,rest,n',hn,rfl,hx,-,hl,hm,hlen,hel,-,-⟩
 .refine⟨[],rfl,⟨_,rfl,?_⟩,trivial⟩
  simp only[List.map_nil,Ag];exact⟨none,0,rfl,IN _,fun h=>(by cases h),Nat.zero_le _,fun _=>rfl,fun h=>absurd rfl h⟩
 .obtain rfl:n'=n:=by omega
  simp only[Prod.mk.injEq]at hx;obtain⟨rfl,-⟩:=hx;simp only[DataW.weights,ht,Fq,Dr]at hw;have hwl:=hw _ (.inl rfl)
  have hwe: ∀(l:List (DataW H)) (D:DataW H),D∈l-> ∀x∈D.weights P e,x∈DataW.weightsAll P e l:=by
   intro l
   induction l with
   | nil=>intro D hD;cases hD
   | cons y r ih=>
     intro D hD x hx;simp only[DataW.weightsAll,Dr];rcases Fq.1 hD with rfl|hD
     .exact .inl hx
     .exact .inr (ih D hD x hx)
  have hM:len<=Ay:=by
   simp only[Bu,hlen,reachBytes]at hwl;have h8:(len+rest.length)*8<=(len+rest.length)*P.bytesOf e:=Nat.mul_le_mul_left _ hb;unfold Ay;omega
  have each: ∀i,i<len-> ∃v:α,∃cs',W.cells? 0 (a.add (i*sz)) sz=some cs'/\BO (Hh (fun _=>False) emp W) (fun j=>cs'[j]?) 0 (ea v):=fun i hi=>by
   have hi':=hel i hi;obtain⟨x,hx⟩: ∃x,elems[i]? =some x:=⟨_,ES (by omega)⟩
   rw[hx,Option.bind_eq_some_iff,hc]at hi';obtain⟨cs',h1,h2⟩:=hi';obtain⟨v,-,h4⟩:=h cs' x.1 x.2 h2 fun y hy=>hw y (.inr (.inl (hwe _ x.1 (Iz.2 ⟨x,Dm hx,rfl⟩) y hy)))
   exact⟨v,cs',h1,h4⟩
  obtain⟨l,hll,hlc⟩:=NQ len each;refine⟨l,rfl,⟨_,rfl,?_⟩,trivial⟩;simp only[Ag,Bu];refine⟨some a,cap,by rw[hll],by omega,fun h=>(by cases h),by omega,fun h=>(by cases h),fun hne=>?_⟩;obtain⟨b,o,spot⟩:=a
  have h0:0<l.length:=by
   rcases l with _|⟨v,r⟩
   .exact absurd rfl hne
   .simp
  have hspot:spot=none:=by
   obtain⟨cs',h1,-⟩:=hlc 0 l[0] (ES h0);obtain⟨-,h3,h4⟩:=World.cells?_some h1;have h5:=h4 0 hsz;rw[ES (by omega)]at h5;have:=World.cell?_spot h5;simpa[Addr.add]using this
  subst hspot
  have hcell: ∀i v,l[i]? =some v-> ∀k u,(ea v)[k]? =some u-> ∃c,W.cell? ⟨b,o+i*sz+k,none⟩=some c/\Ag (Hh (fun _=>False) emp W) u c:=fun i v hv k u hu=>by
   obtain⟨cs',h1,h2⟩:=hlc i v hv;obtain⟨-,h3,h4⟩:=World.cells?_some h1;have hk:k<sz:=by rw[<-he v];exact(JX.1 hu).1
   obtain⟨c,hc',hr⟩:=BV.1 h2 k u hu;have h5:=h4 k hk;simp only[GM]at hc';rw[add_plain,add_plain]at h5;exact⟨c,by rw[<-hc',<-h5],hr⟩
  refine⟨b,o,sz,rfl,A9.2 fun j e hj=>?_⟩;rw[P8]at hj;obtain⟨v,hv,rfl⟩:=Option.map_eq_some_iff.1 hj;refine⟨he v,BV.2 fun k u hu=>?_⟩;obtain⟨c,h1,h2⟩:=hcell j v hv k u hu;exact⟨c,by rw[ql];exact h1,h2⟩
def Im {t e:TypeId} {sz:Nat} {α:Type} {ea:α->List V} (ht:P.underlying t=some (.slice e)) (hc:P.cellsOf e=sz) (hsz:0<sz) (hb:8<=P.bytesOf e) (he: ∀a,(ea a).length=sz) (h:Wa enc P W e ea) :
    Wa enc P W t fun l:List α=>[V.l (l.map ea) false]
 | 0=>LL
 | n+1=>Qz ht hc hsz hb he (h n)
def uj {H:Type} (enc:TypeId×Value->H) (P:Program) (W:World) (n:Nat) (fs:List Field) (o:Nat) {α:Type} (ea:α->List V):Prop:=
 ∀ (cs:List Value) (xs:List (DataW H×List MemPlace)),xs.length=fs.length->(∀(i:Nat) (f:Field),fs[i]? =some f->DataW.trod enc P W 0 (fun _=>true) true n (Field.type f) ((cs.drop (Field.offset f)).take (P.cellsOf (Field.type f)))=xs[i]?)->
   (∀x∈DataW.weightsEach P (fs.map fun f:Field=>f.type) (xs.map (·.1)),x<=reachBytes)-> ∃a:α,BO (Hh (fun _=>False) emp W) (fun i=>cs[i]?) o (ea a)
def I5 {n o:Nat}:uj enc P W n [] o fun _:Unit=>([]:List V):=fun _ _ _ _ _=>⟨(),trivial⟩
def BW {n o c:Nat} {f:Field} {fs:List Field} {α β:Type} {ea:α->List V} {eb:β->List V} (hf:f.offset=o) (hc:P.cellsOf f.type=c) (he: ∀a,(ea a).length=c) (h1:jS enc P W n f.type ea) (h2:uj enc P W n fs (o+c) eb) :
    uj enc P W n (f::fs) o fun p:α×β=>ea p.1++eb p.2:=by
 intro cs xs hl hx hw
 match xs,hl with
 | x ::r,hl=>
   have hx0:=hx 0 f rfl;simp only[oU]at hx0;simp only[E4,DataW.weightsEach,Dr]at hw;obtain⟨a,ha1,ha2⟩:=h1 _ x.1 x.2 hx0 fun y hy=>hw y (.inl hy)
   obtain⟨b,hb⟩:=h2 cs r (by simpa using hl) (fun i g hg=>by
    have:=hx (i+1) g (by simpa using hg)
    simpa using this) fun y hy=>hw y (.inr hy)
   refine⟨(a,b),NC (BV.2 fun k u hu=>?_) (by rw[he];exact hb)⟩;obtain⟨cc,h3,h4⟩:=BV.1 ha2 k u hu;have hk:k<c:=by rw[<-he a];exact(JX.1 hu).1
   refine⟨cc,?_,h4⟩;rw[hf,hc,GM,List.getElem?_take,if_pos hk,uM]at h3;exact h3
def PW {n:Nat} {t:TypeId} {fs:List Field} {α:Type} {ea:α->List V} (ht:P.underlying t=some (.struct fs.toArray)) (h:uj enc P W n fs 0 ea) (hl: ∀a,(ea a).length=P.cellsOf t):jS enc P W (n+1) t ea:=by
 intro cs d ps htr hw;obtain⟨xs,k,hk,hx,hcl,hxl,hf⟩:=DataW.trod_struct ht htr;obtain rfl:k=n:=by omega
 simp only[Prod.mk.injEq]at hx;obtain⟨rfl,-⟩:=hx;simp only[DataW.weights,ht]at hw;obtain⟨a,ha⟩:=h cs xs (by rw[hxl];simp) (fun i f hfi=>hf i f (by simpa using hfi)) (by simpa using hw);exact⟨a,by rw[hcl,hl],ha⟩
def HW {t:TypeId} {fs:List Field} {α:Type} {ea:α->List V} (ht:P.underlying t=some (.struct fs.toArray)) (h: ∀n,uj enc P W n fs 0 ea) (hl: ∀a,(ea a).length=P.cellsOf t):Wa enc P W t ea
 | 0=>LL
 | n+1=>PW ht (h n) hl
end
end Go.Gl
namespace Go.Gl
open Go.Proofs
section
variable {H:Type} {enc:TypeId×Value->H} {W:World}
def b8 {n:Nat} (h:Nat.ble 8 n=true):8<=n:=Nat.le_of_ble_eq_true h
def OC:Wa enc Tryz.prog W 3 fun x:Int=>[V.i .i64 x]:=SN Tryz.underlying3
def UP:Wa enc Tryz.prog W 23 fun l:List Int=>[V.l (iL l) false]:=Im Tryz.underlying23 (by kernel_rfl) (by decide) (b8 (by kernel_rfl)) (fun _=>rfl) OC
def pt:Wa enc Tryz.prog W 314 fun p:Int×Int=>[eI p.1,eI p.2]:=fun n=>
 I4 (HW Tryz.underlying314
  (fun n=>BW (c:=1) rfl (by kernel_rfl) (fun _=>rfl) (OC n) (BW (c:=1) rfl (by kernel_rfl) (fun _=>rfl) (OC n) I5)) (fun _=>(show _=2 from rfl).trans (by kernel_rfl)) n) (fun x=>(x.1,x.2.1)) fun _=>rfl
def ko:Wa enc Tryz.prog W 59 fun l:List (Int×Int)=>[V.l (l.map fun p=>[eI p.1,eI p.2]) false]:=Im (sz:=2) Tryz.underlying59 (by kernel_rfl) (by decide) (b8 (by kernel_rfl)) (fun _=>rfl) pt
def vN:Wa enc Tryz.prog W 61 UC:=fun n=>
 I4 (HW Tryz.underlying61
  (fun n=>BW (c:=1) rfl (by kernel_rfl) (fun _=>rfl) (UP n) (BW (c:=1) rfl (by kernel_rfl) (fun _=>rfl) (UP n)
   (BW (c:=1) rfl (by kernel_rfl) (fun _=>rfl) (ko n) I5))) (fun _=>(show _=3 from rfl).trans (by kernel_rfl)) n) (fun x=>⟨x.1,x.2.1,x.2.2.1⟩) fun _=>rfl
def po:Wa enc Tryz.prog W 199 M8:=fun n=>
 I4 (HW Tryz.underlying199
  (fun n=>BW (c:=1) rfl (by kernel_rfl) (fun _=>rfl) (SN Tryz.underlying197 n) (BW (c:=1) rfl (by kernel_rfl) (fun _=>rfl) (OC n)
   (BW (c:=1) rfl (by kernel_rfl) (fun _=>rfl) (UP n) I5))) (fun _=>(show _=3 from rfl).trans (by kernel_rfl)) n) (fun x=>⟨x.1,x.2.1,x.2.2.1⟩) fun _=>rfl
def kY:Wa enc Tryz.prog W 25 fun l:List Node=>[V.l (l.map M8) false]:=Im (sz:=3) Tryz.underlying25 (by kernel_rfl) (by decide) (b8 (by kernel_rfl)) (fun _=>rfl) po
def pw:Wa enc Tryz.prog W 22 fun l:List QA=>[V.l (l.map UC) false]:=Im (sz:=3) Tryz.underlying22 (by kernel_rfl) (by decide) (b8 (by kernel_rfl)) (fun _=>rfl) vN
def Mo (f:Fact):(F0 f).length=6:=by rw[CT];rfl
def Yr: ∀n,jS enc Tryz.prog W n 44 F0/\jS enc Tryz.prog W n 42 fun l:List Fact=>[V.l (facts l) false]
 | 0=>⟨LL,LL⟩
 | n + 1 =>by
   obtain⟨h1,h2⟩:=Yr n;refine⟨?_,Qz Tryz.underlying42 (by kernel_rfl) (by decide) (b8 (by kernel_rfl)) Mo h1⟩
   exact I4 (PW Tryz.underlying44
    (BW (c:=1) rfl (by kernel_rfl) (fun _=>rfl) (SN Tryz.underlying41 n) (BW (c:=1) rfl (by kernel_rfl) (fun _=>rfl) (OC n)
     (BW (c:=1) rfl (by kernel_rfl) (fun _=>rfl) (UP n) (BW (c:=1) rfl (by kernel_rfl) (fun _=>rfl) (OC n)
      (BW (c:=1) rfl (by kernel_rfl) (fun _=>rfl) (OC n) (BW (c:=1) rfl (by kernel_rfl) (fun _=>rfl) h2 I5)))))) (fun _=>(show _=6 from rfl).trans (by kernel_rfl)))
    (fun x=>Fact.mk x.1 x.2.1 x.2.2.1 x.2.2.2.1 x.2.2.2.2.1 x.2.2.2.2.2.1) fun x=>by rw[CT];rfl
def pv:Wa enc Tryz.prog W 44 F0:=fun n=>(Yr n).1
def pq:Wa enc Tryz.prog W 81 dk:=fun n=>
 I4 (HW Tryz.underlying81
  (fun n=>BW (c:=1) rfl (by kernel_rfl) (fun _=>rfl) (SN Tryz.underlying79 n) (BW (c:=1) rfl (by kernel_rfl) (fun _=>rfl) (OC n)
   (BW (c:=6) rfl (by kernel_rfl) Mo (pv n) (BW (c:=1) rfl (by kernel_rfl) (fun _=>rfl) (OC n) I5)))) (fun x=>(show _=9 from by simp only[R0,Mo];rfl).trans (by kernel_rfl)) n) (fun x=>⟨x.1,x.2.1,x.2.2.1,x.2.2.2.1⟩) fun x=>by rw[CT];rfl
def ke:Wa enc Tryz.prog W 24 fun l:List Ng=>[V.l (l.map dk) false]:=Im (sz:=9) Tryz.underlying24 (by kernel_rfl) (by decide) (b8 (by kernel_rfl)) (fun _=>rfl) pq
def pj : Wa enc Tryz.prog W 27 Ba:=fun n=>
 I4 (HW Tryz.underlying27
  (fun n=>BW (c:=1) rfl (by kernel_rfl) (fun _=>rfl) (pw n)
   (BW (c:=1) rfl (by kernel_rfl) (fun _=>rfl) (OC n) (BW (c:=1) rfl (by kernel_rfl) (fun _=>rfl) (UP n)
    (BW (c:=1) rfl (by kernel_rfl) (fun _=>rfl) (ke n)
     (BW (c:=1) rfl (by kernel_rfl) (fun _=>rfl) (kY n)
      (BW (c:=1) rfl (by kernel_rfl) (fun _=>rfl) (OC n) I5)))))) (fun _=>(show _=6 from rfl).trans (by kernel_rfl)) n) (fun x=>⟨x.1,x.2.1,x.2.2.1,x.2.2.2.1,x.2.2.2.2.1,x.2.2.2.2.2.1⟩) fun _=>rfl
end
end Go.Gl
namespace Go.Gl
def axI (n:Nat):List Nat->List Nat
 | []=>[n]
 | x::r=>bif Nat.beq n x then x::r else bif Nat.ble n x then n::x::r else x::axI n r
def uZ:List Nat->List Nat->List Nat
 | [],l=>l
 | n::r,l=>uZ r (axI n l)
def xI (n:Nat):List Nat->List Nat
 | []=>[]
 | x::r=>bif Nat.beq x n then r else x::xI n r
def xH:List Nat->List Nat->List Nat
 | [],l=>l
 | n::r,l=>xH r (xI n l)
def axO (o:Aq) (n:List Nat):List Nat:=uZ (looks o) (match o.dst with|some d=>xI d n|none=>n)
def pN:List Aq->List Nat->List Nat
 | [],n=>n
 | o::r,n=>axO o (pN r n)
def axX (i:Nat):List (Nat×List Nat)->List Nat
 | []=>[]
 | (j,l)::r=>bif Nat.beq i j then l else axX i r
def WZ (rs:List Nat):AX->List (Nat×List Nat)->List Nat->List Nat
 | .skip,_,n=>n
 | .ret,_,_=>rs
 | .exit i,X,_=>axX i X
 | .Cs ops,_,n=>pN ops n
 | .G2 _ ops,_,n=>pN (ops.map (·.o)) n
 | .seq _ a b,X,n=>WZ rs a X (WZ rs b X n)
 | .cond c a b,X,n=>uZ (rd c) (uZ (WZ rs a X n) (WZ rs b X n))
 | .block i a,X,n=>WZ rs a ((i,n)::X) n
 | .scope a,X,n=>WZ rs a X n
 | .Da _ g ps a b,_,n=>uZ (rd g) (uZ n (xH ps (WZ [] a [] (WZ [] b [] []))))
 | .loop _ a,X,_=>WZ rs a X []
def Zt (rs:List Nat):AX->List (Nat×List Nat)->List Nat->AX
 | .skip,_,_=> .skip
 | .ret,_,_=> .ret
 | .exit i,_,_=> .exit i
 | .Cs ops,_,_=> .Cs ops
 | .G2 _ ops,_,n=> .G2 n ops
 | .seq _ a b,X,n=> .seq (WZ rs b X n) (Zt rs a X (WZ rs b X n)) (Zt rs b X n)
 | .cond c a b,X,n=> .cond c (Zt rs a X n) (Zt rs b X n)
 | .block i a,X,n=> .block i (Zt rs a ((i,n)::X) n)
 | .scope a,X,n=> .scope (Zt rs a X n)
 | .Da _ g ps a b,_,_=> .Da (xH ps (WZ [] a [] (WZ [] b [] []))) g ps (Zt [] a [] (WZ [] b [] [])) (Zt [] b [] [])
 | .loop _ a,X,_=> .loop (WZ rs a X []) (Zt rs a X (WZ rs a X []))
variable {P:Program}
def CtrX (P:Program) (k n:Nat) (ac:AX) (rs:List Nat):Prop:= ∀ ⦃args:List V⦄,args.length<=n-> ∀ ⦃σ:AH⦄ ⦃Q:R->AH->Prop⦄,W P ac (dR rs Q) (A3 0 args) σ->As P k args σ Q
def wS (P:Program) (k n:Nat) (ac:AX) (rs:List RS):Prop:= ∀ ⦃args:List V⦄,args.length<=n-> ∀ ⦃σ:AH⦄ ⦃Q:R->AH->Prop⦄,W P ac (UI rs Q) (A3 0 args) σ->As P k args σ Q
def ua:RS->Nat
 | .t n=>n
 | .c n _=>n
def cX {k n:Nat} {fn:Func} {ac:AX} {rs:List Nat} (pu fz:List Nat) (hf:P.funcs[k]? =some fn)
    (hn:fn.ntmps=n:=by conv=>lhs;reduce)
    (hr:F7 fn.results.toList=some rs:=by conv=>lhs;reduce)
    (hc:Zt rs ((fn.body.bind (res P fn.ntmps pu fz)).getD .skip) [] rs=ac:=by conv=>lhs;reduce;try simp only[Int.reduceOfNat,Int.reduceNegSucc])
    (hb:fn.body.bind (res P fn.ntmps pu fz)=some (erase ac):=by kernel_rfl) (hok:okF P k=true:=by kernel_rfl):CtrX P k n ac rs:=
 fun _ ha _ _ h=>KT hf hok hb hr (hn ▸ ha) (jc h)
def YI {k n:Nat} {fn:Func} {ac:AX} {rs:List RS} (pu fz:List Nat) (hf:P.funcs[k]? =some fn)
    (hn:fn.ntmps=n:=by conv=>lhs;reduce)
    (hr:L4 P fn.results.toList=some rs:=by conv=>lhs;reduce)
    (hc:Zt (rs.map ua) ((fn.body.bind (res P fn.ntmps pu fz)).getD .skip) [] (rs.map ua)=ac:=by conv=>lhs;reduce;try simp only[Int.reduceOfNat,Int.reduceNegSucc])
    (hb:fn.body.bind (res P fn.ntmps pu fz)=some (erase ac):=by kernel_rfl) (hok:okF P k=true:=by kernel_rfl):wS P k n ac rs:=
 fun _ ha _ _ h=>ER hf hok hb hr (hn ▸ ha) (jc h)
end Go.Gl
namespace Go.Gl
open Go.Proofs
set_option maxRecDepth 100000
set_option maxHeartbeats 4000000
def YX:=cX [] [2] Tryz.func10
def dt:=cX [] [2] Tryz.func18
def dq:=cX [] [2] Tryz.func19
def wK:=cX [] [] Tryz.func34
def dn:=cX [] [2] Tryz.func41
def wJ:=cX [] [1] Tryz.func43
def wI:=cX [] [] Tryz.func44
def oF:=cX [] [] Tryz.func49
set_option maxRecDepth 100000
set_option maxHeartbeats 4000000
def dm:=YI [] [3] Tryz.func59
def oE:=cX [] [2] Tryz.func62
def wH:=cX [] [1] Tryz.func71
def wG:=cX [] [2] Tryz.func72
def wF:=cX [] [1] Tryz.func73
def wE:=cX [] [2,3] Tryz.func74
def oD:=YI [] [1] Tryz.func92
def wD:=cX [] [] Tryz.func95
def wB:=cX [] [] Tryz.func96
set_option maxRecDepth 100000
set_option maxHeartbeats 4000000
def tt:=cX [] [2] Tryz.func101
def ts:=cX [] [] Tryz.func102
def tr:=YI [] [2] Tryz.func108
def tq:=cX [] [] Tryz.func110
def fW:=cX [] [1,16] Tryz.func114
def fV:=cX [] [] Tryz.func117
def tp:=cX [] [2] Tryz.func118
def tn:=YI [] [] Tryz.func124
def tl:=cX [] [2,3] Tryz.func125
def tk:=cX [] [2,3] Tryz.func126
abbrev fq:AX:=(.Cs [⟨(some 4),.alloc [(.b false)],none⟩])
def ng:List Aq:=[⟨(some 5),.cV (.func 191) [] [(.t 4)],none⟩]
abbrev fo:AX:=(.seq [4] (.Cs [⟨(some 6),.mv (.t 0),none⟩,
 ⟨(some 7),.mv (.t 1),none⟩,
 ⟨(some 8),.call 128 [(.t 6),(.t 7)],none⟩,
 ⟨(some 9),.call 192 [(.t 8)],none⟩])
 (.seq [4] (.Cs [⟨none,.store 1 (.t 4) (.c (.b true)),none⟩])
 .ret))
def pf:Tryz.f127.body.bind (J1 Tryz.prog Tryz.f127.ntmps [] [])=some (erase fq,ng,(.t 5),erase fo):=by kernel_rfl
def tj {args:List V} (hn:args.length<=10) {σ:AH} {Q:R->AH->Prop} (h:W Tryz.prog (.seq [0,1,4] fq (.Cs ng)) (CK (dQ Tryz.prog (.t 5) [0,1,4] fo [.c 4 none] Q)) (A3 0 args) σ):As Tryz.prog 127 args σ Q:=
 Hw Tryz.func127 (by kernel_rfl) pf (by kernel_rfl) hn (oO h)
def ti:=cX [] [11] Tryz.func128
def XJ:=YI [] [2] Tryz.func131
def th:=cX [] [1] Tryz.func132
def tg:=YI [] [2] Tryz.func133
def tf:=cX [] [] Tryz.func134
def te:=cX [] [1] Tryz.func138
def td:=cX [] [2,3] Tryz.func139
def tc:=cX [] [] Tryz.func140
def tb:=cX [] [] Tryz.func141
def ta:=YI [] [] Tryz.func142
def XI:=cX [] [2,3] Tryz.func143
def tZ:=cX [] [] Tryz.func144
def tY:=cX [] [2,3] Tryz.func145
set_option maxRecDepth 100000
set_option maxHeartbeats 4000000
def tX:=cX [] [2,3] Tryz.func146
def tW:=cX [] [1] Tryz.func150
def tV:=YI [] [1] Tryz.func151
def tU:=cX [] [] Tryz.func159
def tT:=cX [] [] Tryz.func160
def tS:=cX [] [] Tryz.func170
def tR:=cX [] [] Tryz.func171
def tQ:=cX [] [1] Tryz.func174
def tP:=cX [] [2] Tryz.func175
def tN:=cX [] [1] Tryz.func180
def tM:=cX [] [] Tryz.func182
def tL:=cX [] [] Tryz.func183
def fU:=cX [] [2] Tryz.func184
def tK:=cX [] [] Tryz.func185
def tJ:=cX [] [] Tryz.func186
def tI:=cX [] [4,5,6] Tryz.func187
def tH:=cX [] [5] Tryz.func188
def tG:=cX [] [] Tryz.func189
def tF:=cX [] [] Tryz.func190
def nf:List Aq:=[⟨(some 5),.cT 260 (.a []) true (.t 4),none⟩,
    ⟨(some 3),.mv (.t 5),none⟩,
    ⟨(some 6),.extract 0 (.t 3),none⟩,
    ⟨(some 7),.extract 1 (.t 3),none⟩,
    ⟨(some 1),.alloc [],none⟩,
    ⟨none,.store 0 (.t 1) (.t 6),none⟩,
    ⟨(some 2),.mv (.t 7),none⟩]
abbrev fm:AX:=(.seq [0,8] (.Cs [⟨(some 8),.mv (.t 2),none⟩])
 (.cond (.t 8)
 (.Cs [⟨none,.store 1 (.t 0) (.c (.b false)),none⟩])
 .skip))
def pd:Tryz.f191.body.bind (resRec Tryz.prog Tryz.f191.ntmps [] [])=some (4,nf,erase fm):=by kernel_rfl
def ZT {args:List V} (hn:args.length<=9) {m:Option V} {σ:AH} {Q:AH->Prop} (h:W Tryz.prog (.seq [0,2] (.Cs nf) fm) (Ni Q) (put (some 4) (m.getD .DW) (A3 0 args)) σ):G5 Tryz.prog 191 args m σ Q:=
 JQ Tryz.func191 (by kernel_rfl) pd rfl hn (jc h)
def tE:=cX [] [] Tryz.func192
def tD:=cX [] [3] Tryz.func193
set_option maxRecDepth 100000
set_option maxHeartbeats 4000000
def tC:=cX [] [3] Tryz.func194
def tB:=cX [] [3] Tryz.func195
def tA:=cX [] [3] Tryz.func196
def s9:=YI [] [] Tryz.func199
def fT:=cX [] [] Tryz.func200
def XH:=cX [] [] Tryz.func201
def s8:=cX [] [1] Tryz.func205
def s7:=cX [] [3] Tryz.func206
def s6:=cX [] [4,5] Tryz.func207
def XG:=cX [] [7] Tryz.func208
def s5:=cX [] [4,5,7] Tryz.func209
def sy:=cX [] [] Tryz.func210
def Sj:=cX [] [] Tryz.func211
def sx:=cX [] [] Tryz.func212
def sw:=YI [] [] Tryz.func214
def su:=cX [] [3] Tryz.func215
def fS:=cX [] [3,4] Tryz.func216
def ss:=cX [] [4,5] Tryz.func217
def sr:=cX [] [] Tryz.func218
def sm:=cX [] [1] Tryz.func222
def sj:=cX [] [1] Tryz.func223
def sh:=YI [] [1] Tryz.func224
def sg:=cX [] [2,3] Tryz.func227
def sf:=cX [] [4,5] Tryz.func229
def se:=cX [] [] Tryz.func239
set_option maxRecDepth 100000
set_option maxHeartbeats 4000000
def fR:=cX [] [] Tryz.func242
def sd:=cX [] [] Tryz.func243
def sc:=cX [] [] Tryz.func245
def fQ:=cX [] [3] Tryz.func246
def sb:=cX [] [] Tryz.func247
def sa:=cX [] [3] Tryz.func248
def sZ:=cX [] [2] Tryz.func249
def sY:=cX [] [4,5,6,7] Tryz.func250
def sX:=cX [] [] Tryz.func258
def sW:=cX [] [3] Tryz.func259
def sV:=cX [] [] Tryz.func260
def sU:=cX [] [1] Tryz.func261
def sT:=cX [] [3] Tryz.func262
def sS:=cX [] [] Tryz.func263
def sR:=cX [] [] Tryz.func264
def sQ:=cX [] [] Tryz.func265
def sP:=cX [] [2] Tryz.func266
def fP:=cX [] [3] Tryz.func267
def sO:=cX [] [] Tryz.func268
def sN:=cX [] [3] Tryz.func269
def sM:=cX [] [4] Tryz.func270
def fO:=cX [] [2] Tryz.func272
def sL:=cX [] [] Tryz.func273
def sK:=cX [] [] Tryz.func278
def sJ:=cX [] [] Tryz.func279
abbrev fp:AX:=(.Cs [⟨(some 2),.alloc [(.b false)],none⟩])
def nc:List Aq:=[⟨(some 3),.cV (.func 322) [] [(.t 2)],none⟩]
abbrev fl:AX:=(.seq [2] (.Cs [⟨(some 4),.mv (.t 0),none⟩,
 ⟨(some 5),.Ie (.t 4) [],none⟩])
 (.seq [2] (.Cs [⟨none,.store 1 (.t 2) (.c (.b true)),none⟩])
 .ret))
def pc:Tryz.f280.body.bind (J1 Tryz.prog Tryz.f280.ntmps [] [])=some (erase fp,nc,(.t 3),erase fl):=by kernel_rfl
def sI {args:List V} (hn:args.length<=6) {σ:AH} {Q:R->AH->Prop} (h:W Tryz.prog (.seq [0,2] fp (.Cs nc)) (CK (dQ Tryz.prog (.t 3) [0,2] fl [.c 2 none] Q)) (A3 0 args) σ):As Tryz.prog 280 args σ Q:=
 Hw Tryz.func280 (by kernel_rfl) pc (by kernel_rfl) hn (oO h)
def sH:=cX [] [] Tryz.func281
def sG:=cX [] [1] Tryz.func282
def fN:=cX [] [] Tryz.func283
def sF:=cX [] [7] Tryz.func284
def sE:=cX [] [3,4,5] Tryz.func285
def sD:=cX [] [3,4] Tryz.func286
def sC:=cX [] [] Tryz.func287
def sB:=cX [] [1] Tryz.func288
def sA:=cX [] [] Tryz.func289
set_option maxRecDepth 100000
set_option maxHeartbeats 4000000
def r9:=cX [] [1] Tryz.func290
def r8:=cX [] [] Tryz.func291
def r7:=cX [] [] Tryz.func293
def r6:=YI [] [2,3] Tryz.func295
def fM:=cX [] [] Tryz.func301
def r5:=cX [] [2] Tryz.func302
def rz:=cX [] [] Tryz.func303
def ry:=cX [] [] Tryz.func304
def ru:=cX [] [] Tryz.func305
def rq:=cX [] [4] Tryz.func306
def rn:=cX [] [] Tryz.func310
def rm:=cX [] [] Tryz.func311
def rl:=cX [] [] Tryz.func312
def rj:=cX [] [] Tryz.func313
def ri:=cX [] [] Tryz.func314
def rh:=cX [] [] Tryz.func315
def rf:=cX [] [2,3] Tryz.func316
def rb:=cX [] [] Tryz.func317
def na:List Aq:=[⟨(some 1),.mv (.t 4),none⟩]
abbrev fk:AX:=(.seq [0,1,6] (.Cs [⟨(some 5),.mv (.t 1),none⟩,
 ⟨(some 6),.cZ 2 true (.t 5),none⟩])
 (.cond (.t 6)
 (.seq [0] (.seq [0,1,3] (.Cs [⟨(some 8),.mv (.t 1),none⟩,
  ⟨(some 9),.cT 377 (.a []) true (.t 8),none⟩,
  ⟨(some 7),.mv (.t 9),none⟩,
  ⟨(some 10),.extract 0 (.t 7),none⟩,
  ⟨(some 11),.extract 1 (.t 7),none⟩,
  ⟨(some 2),.alloc [],none⟩,
  ⟨none,.store 0 (.t 2) (.t 10),none⟩,
  ⟨(some 3),.mv (.t 11),none⟩])
 (.seq [0,1,13] (.Cs [⟨(some 12),.mv (.t 3),none⟩,
  ⟨(some 13),.not (.t 12),none⟩])
 (.cond (.t 13)
 (.Cs [⟨(some 14),.mv (.t 1),none⟩,
  ⟨none,.panic (.t 14),none⟩])
 .skip)))
 (.Cs [⟨none,.store 1 (.t 0) (.c (.b false)),none⟩]))
 .skip))
def pb:Tryz.f322.body.bind (resRec Tryz.prog Tryz.f322.ntmps [] [])=some (4,na,erase fk):=by kernel_rfl
def ZS {args:List V} (hn:args.length<=15) {m:Option V} {σ:AH} {Q:AH->Prop} (h:W Tryz.prog (.seq [0,1] (.Cs na) fk) (Ni Q) (put (some 4) (m.getD .DW) (A3 0 args)) σ):G5 Tryz.prog 322 args m σ Q:=
 JQ Tryz.func322 (by kernel_rfl) pb rfl hn (jc h)
def ra:=cX [] [] Tryz.func323
def rZ:=cX [] [] Tryz.func324
def rY:=cX [] [2] Tryz.func325
def rX:=cX [] [] Tryz.func326
def rW:=cX [] [4] Tryz.func327
def fL:=cX [] [6] Tryz.func328
def rV:=cX [] [] Tryz.func329
def rU:=cX [] [] Tryz.func330
def rT:=cX [] [] Tryz.func336
set_option maxRecDepth 100000
set_option maxHeartbeats 4000000
def rS:=cX [] [3,4,5] Tryz.func338
def rR:=cX [] [] Tryz.func339
def rQ:=cX [] [] Tryz.func349
def rP:=cX [] [] Tryz.func350
def rO:=cX [] [] Tryz.func352
def rN:=cX [] [] Tryz.func353
def rM:=YI [] [] Tryz.func366
def rL:=YI [] [3] Tryz.func367
def rK:=cX [] [] Tryz.func368
def rJ:=cX [] [] Tryz.func376
def rI:=cX [] [0] Tryz.func377
def rH:=cX [] [] Tryz.func379
def fK:=cX [] [] Tryz.func380
def rG:=cX [] [] Tryz.func381
def rF:=cX [] [] Tryz.func382
def rE:=cX [] [4,5] Tryz.func399
def rD:=cX [] [3,4,5] Tryz.func400
end Go.Gl
namespace Go.Gl
open Go.Proofs
attribute [local irreducible] As Am Ac AQ AM Ab AP AR AL Aa AN AO Ao Ax Sat AW Au Ad W
def BG (p:Prog):List (List Int):=p.AZ.map (·.parents)
def xY (p:Prog):Prop:=p.AZ.length<=Ay/\ ∀c∈p.AZ,c.parents.length<=Ay/\c.AI.length<=Ay/\c.inits.length<=Ay
def BR (i:Nat):List QA->List Int
 | []=>[]
 | c::r=>List.replicate c.AI.length ((i:Int)+3)++BR (i+1) r
def AT (p:Prog):AJ:=⟨BG p,BR 0 p.AZ⟩
def Nk (i:Nat) (a b:List QA):BR i (a++b)=BR i a++BR (i+a.length) b:=by
 induction a generalizing i with
 | nil=>simp[BR]
 | cons c r ih=>
   simp only[List.cons_append,BR,ih,P7,Lz];rw[show i+1+r.length=i+(r.length+1) by omega]
def CX (cs:List QA):Nat:=(cs.map (·.AI.length)).sum
def DH (i:Nat) (cs:List QA):(BR i cs).length=CX cs:=by
 induction cs generalizing i with
 | nil=>rfl
 | cons c r ih=>simp[BR,ih,CX]
def Xn {cs:List QA} {k:Nat} {c:QA} (h:cs[k]? =some c):CX (cs.take k)+c.AI.length<=CX cs:=by
 induction cs generalizing k with
 | nil=>cases h
 | cons d r ih=>
   cases k with
   | zero=>simp at h;subst h;simp[CX]
   | succ k=>simp at h;have:=ih h;simp only[CX,List.take_succ_cons,E4,List.sum_cons]at *;omega
def free (ls:List (List Int)) (x:Int):Bool:=ls.all fun l=> !(l.drop 1).contains x
def BY (ls:List (List Int)) (c:Int):List Int:=if c<3 then []else ls.getD (c - 3).toNat []
def K2 (ls os:List (List Int)) (c:Int):Option (List (List Int)):=
 if(BY ls c).any fun p=>(os.getD p.toNat []).isEmpty then none else some ((BY ls c).map (fun p=>(os.getD p.toNat []).filter (· != 0))++[BY ls c])
def pick (ls:List (List Int)):Option Int:=(ls.find? fun l=>match l with| []=>false|x::_=>free ls x).bind List.head?
def total (ls:List (List Int)):Nat:=(ls.map List.length).sum
def DM:Nat->List (List Int)->List Int->List Int×Bool
 | 0,ls,out=>(out,ls.all List.isEmpty)
 | n+1,ls,out=>match pick ls with
   | none=>(out,ls.all List.isEmpty)
   | some x=>DM n (ls.map fun l=>l.filter (· != x)) (out++[x])
def DS (ls:List (List Int)):List Int×Bool:=DM (total ls) ls []
def KD {ls:List (List Int)} {x:Int} (h:pick ls=some x):total (ls.map fun l=>l.filter (· != x))<total ls:=by
 unfold pick at h;rw[Option.bind_eq_some_iff]at h;obtain⟨l,h1,h2⟩:=h;have hm:=List.mem_of_find?_eq_some h1;clear h1;cases l with
 | nil=>cases h2
 | cons y r=>
   simp only[List.head?_cons,II]at h2;subst h2
   have hle: ∀ls:List (List Int),total (ls.map fun l=>l.filter (· != y))<=total ls:=fun ls=>by
    induction ls with
    | nil=>simp[total]
    | cons a bs ih=>
      have:=Wb (· != y) a;simp only[total,E4,List.sum_cons]at *;omega
   induction ls with
   | nil=>cases hm
   | cons a bs ih=>
     rcases Fq.1 hm with rfl|hm
     .have h1:=hle bs
      have h2:=Wb (· != y) r;simp only[total,E4,List.sum_cons]at *;have:((y::r).filter (· != y)).length<=r.length:=by simpa using h2
      simp only[Lz];omega
     .have h1:=ih hm
      have h2:=Wb (· != y) a;simp only[total,E4,List.sum_cons]at *;omega
def Wj (ls:List (List Int)):Prop:=ls.length<=1000000/\ ∀l∈ls,l.length<=Ay/\ ∀x∈l,0<=x
def Wj.filter {ls:List (List Int)} (h:Wj ls) (x:Int):Wj (ls.map fun l=>l.filter (· != x)):=by
 refine⟨by rw[Bu];exact h.1,fun l hl=>?_⟩;obtain⟨l',hl',rfl⟩:=Iz.1 hl;obtain⟨h1,h2⟩:=h.2 l' hl';exact⟨Nat.le_trans (Wb _ _) h1,fun y hy=>h2 y (Jc.1 hy).1⟩
def V7 : ∀ (n:Nat) (ls:List (List Int)) (out:List Int),total ls<=n->DM n ls out=DM (total ls) ls out:=by
 intro n
 induction n using Nat.strongRecOn with
 | _ n ih=>
   intro ls out hn;by_cases he:total ls=n
   .rw[he]
   .cases n with
    | zero=>omega
    | succ n=>
      cases hp:pick ls with
      | none=>
        cases ht:total ls with
        | zero=>simp[DM,hp]
        | succ m=>simp[DM,hp]
      | some x=>
        have h1:=KD hp;cases ht:total ls with
        | zero=>omega
        | succ m=>
          simp only[DM,hp];rw[ih n (by omega) _ _ (by omega),ih m (by omega) _ _ (by omega)]
def V6 {ls:List (List Int)} {x:Int} {out:List Int} (hp:pick ls=some x):DM (total ls) ls out=DM (total (ls.map fun l=>l.filter (· != x))) (ls.map fun l=>l.filter (· != x)) (out++[x]):=by
 have h1:=KD hp;cases ht:total ls with
 | zero=>omega
 | succ m=>
   simp only[DM,hp];exact V7 m _ _ (by omega)
def Xl {ls:List (List Int)} {out:List Int} (hp:pick ls=none):DM (total ls) ls out=(out,ls.all List.isEmpty):=by
 cases ht:total ls with
 | zero=>rfl
 | succ m=>simp only[DM,hp]
def UT (ls:List (List Int)) (l:List Int):Bool:=match l with| []=>false|x::_=>free ls x
def Hn (g os:List (List Int)) (c:Int):List Int:=
 match K2 g os c with
 | none=>[]
 | some l=>if(DS l).2 then [c]++(DS l).1++[0]else []
def CR (g:List (List Int)):Nat->List (List Int)
 | 0=>[[0]]
 | k+1=>CR g k++[Hn g (CR g k) ((k:Int)+1)]
def Dc (g:List (List Int)):List (List Int):=CR g (2+g.length)
def Kr (g:List (List Int)):Prop:=g.length<=16/\ ∀(i:Nat) (l:List Int),g[i]? =some l->l.length<=3/\l.Nodup/\ ∀c∈l,(3:Int)<=c/\c<3+(i:Int)
def Fm (g:List (List Int)): ∀k,(CR g k).length=k+1
 | 0=>rfl
 | k+1=>by simp[CR,Fm g k]
def KN: ∀(n:Nat) (ls:List (List Int)) (out:List Int),(DM n ls out).1.length<=out.length+n
 | 0,ls,out=>by simp[DM]
 | n + 1,ls,out=>by
   simp only[DM];split
   .simp
   .rename_i x _
    have:=KN n (ls.map fun l=>l.filter (· != x)) (out++[x]);simp only[R0,List.length_singleton]at this;refine Nat.le_trans this ?_;omega
def V4 {ls:List (List Int)} (h: ∀l∈ls,∀x∈l,(0:Int)<=x) {x:Int} (hp:pick ls=some x):0<=x:=by
 unfold pick at hp;rw[Option.bind_eq_some_iff]at hp;obtain⟨l,h1,h2⟩:=hp;have hm:=List.mem_of_find?_eq_some h1;cases l with
 | nil=>cases h2
 | cons y r=>cases h2;exact h _ hm _ (.head _)
def Jq: ∀(n:Nat) (ls:List (List Int)) (out:List Int),(∀l∈ls,∀x∈l,(0:Int)<=x)->(∀x∈out,(0:Int)<=x)-> ∀x∈(DM n ls out).1,(0:Int)<=x
 | 0,ls,out,_,h2=>h2
 | n + 1,ls,out,h1,h2=>by
   simp only[DM];split
   .exact h2
   .rename_i y hy
    refine Jq n _ _ (fun l hl x hx=>?_) fun x hx=>?_
    .obtain⟨l',hl',rfl⟩:=Iz.1 hl
     exact h1 _ hl' _ (Jc.1 hx).1
    .rcases Dr.1 hx with hx|hx
     .exact h2 x hx
     .rw[My.1 hx];exact V4 h1 hy
def FD {g:List (List Int)} (hg:Kr g) {c p:Int} (hp:p∈BY g c):3<=p/\p<c:=by
 unfold BY at hp;split at hp
 .cases hp
 .rename_i hc
  rw[Ds]at hp;cases hq:g[(c - 3).toNat]? with
  | none=>rw[hq]at hp;cases hp
  | some l=>
    rw[hq]at hp;obtain⟨_,_,h⟩:=hg.2 _ _ hq;have:=h p hp;omega
def Gv {g:List (List Int)} (hg:Kr g) (c:Int):(BY g c).length<=3:=by
 unfold BY;split
 .simp
 .rw[Ds]
  cases hq:g[(c - 3).toNat]? with
  | none=>simp
  | some l=>exact(hg.2 _ _ hq).1
def NJ {g os:List (List Int)} {c:Int} {ls:List (List Int)} (h:K2 g os c=some ls):ls=(BY g c).map (fun p=>(os.getD p.toNat []).filter (· != 0))++[BY g c]:=by
 unfold K2 at h;split at h
 .cases h
 .exact(Option.some.inj h).symm
def VO {os:List (List Int)} {B:Nat} (h: ∀o∈os,o.length<=B) (n:Nat):(os.getD n []).length<=B:=by
 rw[Ds];cases hq:os[n]? with
 | none=>simp
 | some l=>exact h _ (Dm hq)
def VN {os:List (List Int)} {Q:Int->Prop} (h: ∀o∈os,∀x∈o,Q x) (n:Nat): ∀x∈os.getD n [],Q x:=by
 rw[Ds];cases hq:os[n]? with
 | none=>simp
 | some l=>exact h _ (Dm hq)
def QR {g os:List (List Int)} {c:Int} {ls:List (List Int)} (h:K2 g os c=some ls) {B:Nat} (Z: ∀o∈os,o.length<=B):total ls<=(BY g c).length*(B+1):=by
 rw[NJ h];simp only[total,YF,uN,List.sum_append,E4,List.map_nil,List.sum_cons,List.sum_nil,Nat.add_zero]
 have: ∀ps:List Int,(ps.map (List.length∘fun p=>(os.getD p.toNat []).filter (· != 0))).sum<=ps.length*B:=fun ps=>by
  induction ps with
  | nil=>simp
  | cons p r ih=>
    simp only[E4,List.sum_cons,Function.comp,Lz,Nat.succ_mul];have h1:=Wb (· != 0) (os.getD p.toNat []);have h2:=VO Z p.toNat;simp only[Function.comp_def]at *;omega
 have:=this (BY g c);rw[Nat.mul_add,Nat.mul_one];simp only[Function.comp_def]at *;omega
def V5 {g os:List (List Int)} {c:Int} {B:Nat} (Z: ∀o∈os,o.length<=B):(Hn g os c).length<=(BY g c).length*(B+1)+2:=by
 unfold Hn;split
 .simp
 .rename_i ls h
  have h1:=QR h Z;have h2:=KN (total ls) ls [];simp only[List.length_nil,GM]at h2;split
  .simp only[R0,List.length_singleton,DS]
   omega
  .simp
def P6 {g os:List (List Int)} {c:Int} (hg:Kr g) (hc:0<=c) (h: ∀o∈os,∀x∈o,(0:Int)<=x): ∀x∈Hn g os c,0<=x:=by
 unfold Hn;split
 .simp
 .rename_i ls hl
  split
  .intro x hx
   have hls: ∀l∈ls,∀x∈l,(0:Int)<=x:=by
    rw[NJ hl];intro l hl x hx;rcases Dr.1 hl with hl|hl
    .obtain⟨p,_,rfl⟩:=Iz.1 hl
     exact VN h p.toNat x (Jc.1 hx).1
    .rw[My.1 hl]at hx
     have:=FD hg hx;omega
   simp only[Dr,My]at hx;rcases hx with(rfl|hx)|rfl
   .exact hc
   .exact Jq _ _ _ hls (by simp) x hx
   .exact Int.le_refl _
  .simp
def Nf (k:Nat):Nat:=5*3 ^ (k - 3) - 3
def px (n:Nat):1<=3 ^ n:=Nat.one_le_pow _ _ (by omega)
def Ln {g : List (List Int)} (hg:Kr g): ∀(k:Nat),∀o∈CR g k,o.length<=Nf k/\ ∀x∈o,(0:Int)<=x
 | 0,o,ho=>by
   simp only[CR,My]at ho;subst ho;simp[Nf]
 | k + 1,o,ho=>by
   have ih:=Ln hg k
   have hmono:Nf k<=Nf (k+1):=by
    unfold Nf;have:3 ^ (k - 3)<=3 ^ (k+1 - 3):=Nat.pow_le_pow_right (by omega) (by omega);omega
   simp only[CR,Dr,My]at ho;rcases ho with ho|rfl
   .exact⟨Nat.le_trans (ih o ho).1 hmono,(ih o ho).2⟩
   .refine⟨?_,P6 hg (by omega) fun o ho=>(ih o ho).2⟩
    have h1:=V5 (g:=g) (c:=(k:Int)+1) fun o ho=>(ih o ho).1
    by_cases hk:k<3
    .have:BY g ((k:Int)+1)= []:=by
      apply List.eq_nil_iff_forall_not_mem.2;intro p hp;have:=FD hg hp;omega
     rw[this]at h1
     have:Nf (k+1)=2:=by
      have:k+1 - 3=0:=by omega
      simp[Nf,this]
     simpa[this]using h1
    .have h2:=Gv hg ((k:Int)+1)
     have h3:(BY g ((k:Int)+1)).length*(Nf k+1)<=3*(Nf k+1):=YG _ h2;have:k+1 - 3=(k - 3)+1:=by omega
     unfold Nf at *;rw[this,Nat.pow_succ];have:=px (k - 3);omega
def mq {k:Nat} (h:k<=18):Nf k<=71744535:=by
 unfold Nf;have:3 ^ (k - 3)<=3 ^ 15:=Nat.pow_le_pow_right (by omega) (by omega);have e:(3:Nat) ^ 15=14348907:=by decide
 omega
def Em {g:List (List Int)}: ∀ {k j:Nat},j<=k->(CR g k)[j]? =(CR g j)[j]?
 | 0,j,h=>by(obtain rfl:j=0:=by omega);rfl
 | k+1,j,h=>by
   by_cases e:j=k+1
   .subst e;rfl
   .rw[<-Em (k:=k) (by omega),CR,jO (by rw[Fm];omega)]
end Go.Gl
namespace Go.Gl
def par (ps:List (List Int)) (c:Nat):List Int:=if c<3 then []else ps.getD (c - 3) []
def ordered (ps:List (List Int)):Prop:= ∀c p,p∈par ps c->3<=p/\p<(c:Int)
def cq (ps:List (List Int)):Nat->Nat->Nat->Bool
 | 0,c,b=>c==b
 | f+1,c,b=>c==b||(par ps c).any fun p=>cq ps f p.toNat b
def GI (ps:List (List Int)) (c b:Nat):Bool:=cq ps c c b
def KC {ps:List (List Int)} (ho:ordered ps): ∀(f c b:Nat),c<=f->cq ps f c b=GI ps c b
 | 0,c,b,h=>by(obtain rfl:c=0:=by omega);rfl
 | f + 1,c,b,h=>by
   cases c with
   | zero=>
     have:par ps 0= []:=rfl;simp[GI,cq,this]
   | succ c=>
     simp only[GI,cq];congr 1
     have key: ∀l:List Int,(∀p∈l,p∈par ps (c+1))->(l.any fun p=>cq ps f p.toNat b)=l.any fun p=>cq ps c p.toNat b:=by
      intro l hl
      induction l with
      | nil=>rfl
      | cons p r ih=>
        have hp:=ho (c+1) p (hl p (.head _));simp only[QB];rw[ih fun q hq=>hl q (.tail _ hq),KC ho f p.toNat b (by omega),KC ho c p.toNat b (by omega)]
     exact key _ fun p hp=>hp
def D4 {ps:List (List Int)} (ho:ordered ps) (c b:Nat):GI ps c b=(c==b||(par ps c).any fun p=>GI ps p.toNat b):=by
 cases c with
 | zero=>simp[GI,cq,par]
 | succ c=>
   simp only[GI,cq];congr 1
   have key: ∀l:List Int,(∀p∈l,p∈par ps (c+1))->(l.any fun p=>cq ps c p.toNat b)=l.any fun p=>cq ps p.toNat p.toNat b:=by
    intro l hl
    induction l with
    | nil=>rfl
    | cons p r ih=>
      have hp:=ho (c+1) p (hl p (.head _));simp only[QB];rw[ih fun q hq=>hl q (.tail _ hq),KC ho c p.toNat b (by omega)];rfl
   exact key _ fun p hp=>hp
def Dy {ps:List (List Int)} (ho:ordered ps) (c:Nat):GI ps c c=true:=by rw[D4 ho];simp
def eF {ps:List (List Int)} (ho:ordered ps): ∀(c b:Nat),GI ps c b=true->b<=c:=by
 intro c
 induction c using Nat.strongRecOn with
 | _ c ih=>
   intro b h;rw[D4 ho]at h;simp only[EJ,Cr,He]at h;rcases h with rfl|⟨p,hp,h⟩
   .omega
   .have:=ho c p hp
    have:=ih p.toNat (by omega) b h;omega
def HR {ps:List (List Int)} (ho:ordered ps): ∀(a b c:Nat),GI ps a b=true->GI ps b c=true->GI ps a c=true:=by
 intro a
 induction a using Nat.strongRecOn with
 | _ a ih=>
   intro b c h k;rw[D4 ho]at h ⊢;simp only[EJ,Cr,He]at h ⊢;rcases h with rfl|⟨p,hp,h⟩
   .rw[D4 ho]at k
    simpa using k
   .have:=ho a p hp
    exact .inr ⟨p,hp,ih p.toNat (by omega) b c h k⟩
def OO (bs:List Bool) (i:Nat):List Int->List Bool
 | []=>bs
 | p::r=>OO (bs.set p.toNat (bs.getD p.toNat false||bs.getD i false)) i r
def Q8 (i:Nat): ∀(l:List Int) (bs:List Bool),(OO bs i l).length=bs.length
 | [],bs=>rfl
 | p::r,bs=>by simp only[OO];rw[Q8 i r];simp
def Ke (ps:List (List Int)) (n c:Nat):Nat->List Bool
 | 0=>(List.replicate n false).set c true
 | k+1=>OO (Ke ps n c k) (c - k) (par ps (c - k))
def Sv (ps:List (List Int)) (n c:Nat): ∀k,(Ke ps n c k).length=n
 | 0=>by simp[Ke]
 | k+1=>by simp only[Ke];rw[Q8,Sv ps n c k]
def Ek {bs:List Bool} {j:Nat} {x:Bool} (hj:j<bs.length) (b:Nat):(bs.set j x).getD b false=if b=j then x else bs.getD b false:=by
 simp only[Ds,List.getElem?_set];by_cases h:j=b
 .subst h;simp[hj]
 .rw[if_neg h,if_neg (fun e=>h e.symm)]
def Mi {i:Nat}: ∀(l:List Int) (bs:List Bool),(∀p∈l,0<=p/\p.toNat<bs.length/\p.toNat<i)-> ∀b,(OO bs i l).getD b false=(bs.getD b false||(bs.getD i false&&l.contains (b:Int)))
 | [],bs,_,b=>by simp[OO]
 | p ::r,bs,h,b=>by
   obtain⟨h1,h2,h3⟩:=h p (.head _);simp only[OO];have hi:i≠p.toNat:=by omega
   rw[Mi r _ (fun q hq=>by have:=h q (.tail _ hq);simpa using this),Ek h2,Ek h2,if_neg hi];by_cases hb:b=p.toNat
   .subst hb
    have:((p.toNat:Nat):Int)=p:=by omega
    simp only[if_true,this,List.contains_cons,beq_self_eq_true,Bool.true_or,Bool.and_true];cases bs.getD p.toNat false<;>cases bs.getD i false<;>simp
   .rw[if_neg hb]
    have:((b:Int)==p)=false:=by simp;omega
    simp only[List.contains_cons,this,Bool.false_or]
def Ut {ps:List (List Int)} (ho:ordered ps) {n c:Nat} (hc:c<n): ∀k,k<=c - 2->(∀b,(Ke ps n c k).getD b false=true->GI ps c b=true)/\(Ke ps n c k).getD c false=true/\
    (∀j p,c - k<j->(Ke ps n c k).getD j false=true->p∈par ps j->(Ke ps n c k).getD p.toNat false=true)
 | 0,_=>by
   have hg: ∀b,(Ke ps n c 0).getD b false=decide (b=c):=fun b=>by
    simp only[Ke];rw[Ek (by simpa using hc)];by_cases h:b=c
    .simp[h]
    .rw[if_neg h]
     simp[h,Ds,List.getElem?_replicate];split<;>rfl
   refine⟨fun b hb=>?_,by rw[hg];simp,fun j p hj hb hp=>?_⟩
   .rw[hg]at hb
    simp only[Cm]at hb;subst hb;exact Dy ho _
   .rw[hg]at hb
    simp only[Cm]at hb;omega
 | k + 1,hk=>by
   obtain⟨h1,h2,h3⟩:=Ut ho hc k (by omega)
   have hpar: ∀p∈par ps (c - k),0<=p/\p.toNat<(Ke ps n c k).length/\p.toNat<c - k:=fun p hp=>by
    have:=ho _ p hp;rw[Sv];omega
   have hg: ∀b,(Ke ps n c (k+1)).getD b false=((Ke ps n c k).getD b false||((Ke ps n c k).getD (c - k) false&&(par ps (c - k)).contains (b:Int))):=fun b=>by
    simp only[Ke];exact Mi _ _ hpar b
   refine⟨fun b hb=>?_,by rw[hg,h2];rfl,fun j p hj hb hp=>?_⟩
   .rw[hg]at hb
    simp only[EJ,A8,List.contains_iff_mem]at hb;rcases hb with hb|⟨hb,hm⟩
    .exact h1 b hb
    .refine HR ho c (c - k) b (h1 _ hb) ?_
     rw[D4 ho];simp only[EJ,He];exact .inr ⟨b,hm,by simpa using Dy ho b⟩
   .have hjp:=ho j p hp
    have hb':(Ke ps n c k).getD j false=true:=by
     rw[hg]at hb;simp only[EJ,A8,List.contains_iff_mem]at hb;rcases hb with hb|⟨_,hm⟩
     .exact hb
     .have:=ho _ _ hm
      omega
    rw[hg];by_cases e:j=c - k
    .subst e
     rw[hb'];have:((p.toNat:Nat):Int)=p:=by omega
     simp only[this,D2,EJ,List.contains_iff_mem];exact .inr hp
    .rw[h3 j p (by omega) hb' hp]
     rfl
def kB {ps:List (List Int)} (ho:ordered ps) {n c:Nat} (hc:c<n) (b:Nat):(Ke ps n c (c - 2)).getD b false=GI ps c b:=by
 obtain⟨h1,h2,h3⟩:=Ut ho hc (c - 2) (IN _)
 have key: ∀a,(Ke ps n c (c - 2)).getD a false=true-> ∀b,GI ps a b=true->(Ke ps n c (c - 2)).getD b false=true:=by
  intro a
  induction a using Nat.strongRecOn with
  | _ a ih=>
    intro ha b hb;rw[D4 ho]at hb;simp only[EJ,Cr,He]at hb;rcases hb with rfl|⟨p,hp,hb⟩
    .exact ha
    .have:=ho a p hp
     exact ih p.toNat (by omega) (h3 a p (by omega) ha hp) b hb
 cases hb:GI ps c b with
 | true=>exact key c h2 b hb
 | false=>
   cases hq:(Ke ps n c (c - 2)).getD b false with
   | false=>rfl
   | true=>rw[h1 b hq]at hb;cases hb
end Go.Gl
namespace Go.Gl
open Go.Proofs
attribute [local irreducible] As Am Ac AQ AM Ab AP AR AL Aa AN AO Ao Ax Sat AW Au Ad W
end Go.Gl
namespace Go.Gl
variable {P:Program} {σ σ':AH}
mutual
def FE:V->Prop
 | .i k n=>k.min<=n/\n<=k.max
 | .rp cs=>Hi cs
 | .l es _=>es.length<=Ay/\T9 es
 | .f _ a b=>Hi a/\Hi b
 | .Eo _ v=>FE v
 | .a cs=>Hi cs
 | .t vs=>Hi vs
 | _=>True
def Hi:List V->Prop
 | []=>True
 | v::r=>FE v/\Hi r
def T9:List (List V)->Prop
 | []=>True
 | e::r=>Hi e/\T9 r
end
mutual
def oC {H:Nat->Nat->Option Value}: ∀(v:V) (c:Value),Ag H v c->FE v
 | .b _,_,_| .s _,_,_| .pn,_,_| .p _ _,_,_| .sl _ _ _,_,_| .sv _ _ _ _,_,_| .pe _ _ _ _,_,_| .m _,_,_| .mn,_,_| .Kj,_,_| .DW,_,_| .any,_,_=>by simp only[FE]
 | .i k n,_,h=>by
   simp only[Ag]at h;simp only[FE];exact h.2
 | .rp cs,_,h=>by
   simp only[Ag]at h;obtain⟨b,o,rfl,h⟩:=h;simp only[FE];exact Ih cs o h
 | .l es full,_,h=>by
   simp only[Ag]at h;obtain⟨a,cap,h1,h2,h3,h4,h5,h6⟩:=h;simp only[FE];refine⟨h4,?_⟩;cases es with
   | nil=>exact trivial
   | cons e es=>
     obtain⟨b,o,sz,h7,h8⟩:=h6 (by simp);exact fF (e::es) o h8
 | .f fn first cap,_,h=>by
   simp only[Ag]at h;obtain⟨f',c',h1,h2,h3,h4,h5⟩:=h;simp only[FE];exact⟨Ih first 0 h3,Ih cap 0 h5⟩
 | .Eo t v,_,h=>by
   simp only[Ag]at h;obtain⟨c',h1,h2⟩:=h;simp only[FE];exact oC v c' h2
 | .a cs,_,h=>by
   simp only[Ag]at h;obtain⟨c',h1,h2,h3⟩:=h;simp only[FE];exact Ih cs 0 h3
 | .t cs,_,h=>by
   simp only[Ag]at h;obtain⟨c',h1,h2,h3⟩:=h;simp only[FE];exact Ih cs 0 h3
def Ih {H:Nat->Nat->Option Value} {g:Nat->Option Value}: ∀(vs:List V) (o:Nat),BO H g o vs->Hi vs
 | [],_,_=>trivial
 | v::vs,o,h=>by
   simp only[BO]at h;obtain⟨⟨c,h1,h2⟩,h3⟩:=h;exact⟨oC v c h2,Ih vs (o+1) h3⟩
def fF {H:Nat->Nat->Option Value} {g:Nat->Option Value} {sz:Nat}: ∀(es:List (List V)) (o:Nat),BC H g sz o es->T9 es
 | [],_,_=>trivial
 | e::es,o,h=>by
   simp only[BC]at h;obtain⟨h1,h2,h3⟩:=h;exact⟨Ih e o h2,fF es (o+sz) h3⟩
end
def As.fit {f:FuncId} {args:List V} {Q:R->AH->Prop} (hok:okF P f=true) (h:Hi args->As P f args σ Q):As P f args σ Q:=
 ⟨hok,fun Λ w cs G hv=>(h (Ih args 0 hv.2)).2 Λ w cs G hv⟩
def Pure.fit {f:FuncId} {args:List V} {v:V} (hok:okF P f=true) (h:Hi args->Pure P f args v):Pure P f args v:=As.fit hok h
def BK.fit {f:FuncId} {args:List V} {pre:List At} {Φ:R->List At->Prop} (hok:okF P f=true) (h:Hi args->BK P f args pre Φ):BK P f args pre Φ:=fun σ hs=>As.fit hok fun hf=>h hf σ hs
def iR {es:List (List V)}:T9 es↔ ∀e∈es,Hi e:=by
 induction es with
 | nil=>simp[T9]
 | cons e r ih=>simp[T9,ih]
def LZ {α:Type} {enc:α->List V} {xs:List α}:T9 (xs.map enc)↔ ∀x∈xs,Hi (enc x):=by
 rw[iR];simp
def Ii {es:List (List V)} {f:Bool}:FE (.l es f)↔es.length<=Ay/\T9 es:=Iff.rfl
def J6 {cs:List V}:FE (.a cs)↔Hi cs:=Iff.rfl
def TL {cs:List V}:FE (.rp cs)↔Hi cs:=Iff.rfl
def Ew {v:V} {r:List V}:Hi (v::r)↔FE v/\Hi r:=Iff.rfl
def drop_cons {α:Type} {xs:List α} {k:Nat} {x:α} (h:xs[k]? =some x):xs.drop k=x::xs.drop (k+1):=by
 obtain⟨hk,rfl⟩:=JX.1 h;exact List.drop_eq_getElem_cons hk
def BX {α:Type} {xs:List α} {k:Nat} (h:k=xs.length):xs.drop k= []:=List.drop_of_length_le (by omega)
end Go.Gl
namespace Go.Gl
variable {P:Program} {σ:AH} {env:Env}
class Tv (AD:Prop) (G':outParam Prop):Prop where
 h:G'->AD
def st {AD G':Prop} [i:Tv AD G'] (h:G'):AD:=i.h h
def sq {l:List Nat} {a b:AX} {Q:Ah->Env->AH->Prop} (h: ∀K:Env->AH->Prop,(∀env σ,(pk l env fun E=>W P b Q E σ)->K env σ)->W P a (Ah.andThen K Q) env σ):W P (.seq l a b) Q env σ:=Sm h
class xJ (AD:Prop) (G':outParam Prop):Prop where
 h:G'->AD
def si {AD G':Prop} [i:xJ AD G'] (h:G'):AD:=i.h h
instance {ops:List Aq} {Q:Ah->Env->AH->Prop}:xJ (W P (.Cs ops) Q env σ) (∀(I:Env->AH->Prop) (C:Env->V->AH->Prop),(∀env σ,Q .normal env σ->I env σ)->(∀env v σ,Q (.BZ v) env σ->C env v σ)->WT P ops I C env σ):=⟨Sp⟩
instance {l:List Nat} {ops:List CZ} {Q:Ah->Env->AH->Prop}:xJ (W P (.G2 l ops) Q env σ) (∀(I:Env->AH->Prop) (C:V->AH->Prop),(∀env σ,(pk l env fun E=>Q .normal E σ)->I env σ)->(∀v σ,(∀σ',Sub σ σ'->Q (.BZ v) [] σ')->C v σ)->WD P ops I C env σ):=⟨nG⟩
instance {c:Bg} {a b:AX} {Q:Ah->Env->AH->Prop}:Tv (W P (.cond c a b) Q env σ) (match ev env c with
 | some (.b t)=>(t=true->W P a Q env σ)/\(t=false->W P b Q env σ)
 | _=>False):=⟨Zj⟩
instance {id:Nat} {a:AX} {Q:Ah->Env->AH->Prop}:Tv (W P (.block id a) Q env σ) (W P a (Ah.inBlock id Q) env σ):=⟨jJ⟩
instance {l:List Nat} {a:AX} {Q:Ah->Env->AH->Prop}:Tv (W P (.loop l a) Q env σ) (pk l env fun E=>Ad l a (W P a) Q E σ):=⟨nD⟩
instance {id:Nat} {Q:Ah->Env->AH->Prop}:Tv (W P (.exit id) Q env σ) (Q (.exit id) env σ):=⟨nE⟩
instance {Q:Ah->Env->AH->Prop}:Tv (W P .ret Q env σ) (Q .ret env σ):=⟨XQ⟩
instance {Q:Ah->Env->AH->Prop}:Tv (W P .skip Q env σ) (Q .normal env σ):=⟨Zi⟩
instance {a:AX} {Q:Ah->Env->AH->Prop}:Tv (W P (.scope a) Q env σ) (W P a Q env σ):=⟨jG⟩
instance {l:List Nat} {g:Bg} {ps:List Nat} {a b:AX} {Q:Ah->Env->AH->Prop}:Tv (W P (.Da l g ps a b) Q env σ) (match ev env g with
 | some (.f (.func gf) [] cap)=>pk l env fun E=> ∀L,σ L=none->As P gf (.f (.yield L) [] []::cap) (A6 σ L (.loop .ready E (Bb P ps a b))) (Ij L Q env)
 | _=>False):=⟨jH⟩
instance {A B:Prop}:Tv ((true=true->A)/\(true=false->B)) A:=⟨uC⟩
instance {A B:Prop}:Tv ((false=true->A)/\(false=false->B)) B:=⟨uD⟩
instance {A B:Prop}:Tv ((false=false->A)/\(false=true->B)) A:=⟨m4⟩
instance {A B:Prop}:Tv ((true=false->A)/\(true=true->B)) B:=⟨mz⟩
instance {A B:Prop} {b:Bool}:Tv ((b=true->A)/\(b= !true->B)) ((b=true->A)/\(b=false->B)):=⟨id⟩
instance {A B:Prop} {b:Bool}:Tv ((b=false->A)/\(b= !false->B)) ((b=false->A)/\(b=true->B)):=⟨id⟩
instance {agg:Option Nat} {cs:List V} {K:V->Prop}:Tv (AW σ agg (.rp cs) K) (cut agg cs 0 K):=⟨fun h=>h⟩
instance {es:List (List V)} {f:Bool} {K:V->Prop}:Tv (Au (.l es f) K) (K (.i .i64 es.length)):=⟨nq⟩
def kc {K A:Env->AH->Prop} (h:A env σ) (hk: ∀env σ,A env σ->K env σ:=by assumption):K env σ:=hk _ _ h
def kp {K A:Env->V->AH->Prop} {v:V} (h:A env v σ) (hk: ∀env v σ,A env v σ->K env v σ:=by assumption):K env v σ:=hk _ _ _ h
def rk {x:Aq} {r:List Aq} {A:Prop} (h1:HF P x env σ) (h2:ED P r env σ/\A):ED P (x::r) env σ/\A:=⟨⟨h1,h2.1⟩,h2.2⟩
def dr {A:Prop} (h:A):ED P [] env σ/\A:=⟨trivial,h⟩
class BP (b v:Bool) (p:outParam Prop):Prop where
 h:b=v->p
def bp {b v:Bool} {p:Prop} [i:BP b v p] (h:b=v):p:=i.h h
instance (priority:=low) {b v:Bool}:BP b v (b=v):=⟨id⟩
instance (priority:=mid) {p:Prop} [Decidable p]:BP (decide p) true p:=⟨of_decide_eq_true⟩
instance (priority:=mid) {p:Prop} [Decidable p]:BP (decide p) false (¬p):=⟨of_decide_eq_false⟩
instance {a b:Int}:BP (decide (a<b)) false (b<=a):=⟨fun h=>Int.not_lt.1 (of_decide_eq_false h)⟩
instance {a b:Int}:BP (decide (a<=b)) false (b<a):=⟨fun h=>Int.not_le.1 (of_decide_eq_false h)⟩
instance {a b:Int}:BP (a==b) true (a=b):=⟨fun h=>by simpa using h⟩
instance {a b:Int}:BP (a==b) false (a≠b):=⟨fun h=>by simpa using h⟩
instance {a b:Int}:BP (a != b) true (a≠b):=⟨fun h=>by simpa using h⟩
instance {a b:Int}:BP (a != b) false (a=b):=⟨fun h=>by simpa using h⟩
instance {b:Bool} {p:Prop} [i:BP b false p]:BP (!b) true p:=⟨fun h=>i.h (by simpa using h)⟩
instance {b:Bool} {p:Prop} [i:BP b true p]:BP (!b) false p:=⟨fun h=>i.h (by simpa using h)⟩
instance {b x v:Bool} {p:Prop} [i:BP b v p]:BP (bif false then x else b) v p:=⟨i.h⟩
instance {b x v:Bool} {p:Prop} [i:BP b v p]:BP (bif true then b else x) v p:=⟨i.h⟩
def fc {α:Type} {enc:α->List V} {xs:List α} {k:Nat} {A B:Prop} (h1: ∀x,xs[k]? =some x->k<xs.length->decide (Bq k<((xs.map enc).length:Nat))=true->A) (h2:k=xs.length->decide (Bq k<((xs.map enc).length:Nat))=false->B) (hk:k<=xs.length:=by assumption) (hm:xs.length<=Ay:=by first|assumption|omega|simp[Ay]<;>omega) :
    (decide (Bq k<((xs.map enc).length:Nat))=true->A)/\(decide (Bq k<((xs.map enc).length:Nat))=false->B):=
 ⟨fun h=>(fD (enc:=enc) (A:=A) (B:=True) hk hm (fun x hx hlt=>h1 x hx hlt h) fun _=>trivial).1 h,fun h=>(fD (enc:=enc) (A:=True) (B:=B) hk hm (fun _ _ _=>trivial) fun he=>h2 he h).2 h⟩
def ix {α:Type} {enc:α->List V} {xs:List α} {f:Bool} {sz:Nat} {K:V->Prop} {ki:IntKind} {k:Nat} {x:α} (h:K (.rp (enc x))) (hx:xs[k]? =some x:=by assumption) (hm:xs.length<=Ay:=by first|assumption|omega|simp[Ay]<;>omega) (hs:(enc x).length=sz:=by first|rfl|simp) :
    AQ sz none (.l (xs.map enc) f) (.i ki (Bq k)) K:=vC hx hm hs h
def iq {α:Type} {enc:α->List V} {xs:List α} {f:Bool} {sz:Nat} {K:V->Prop} {ki:IntKind} {j:Int} (h: ∀x,xs[j.toNat]? =some x->K (.rp (enc x))) (h0:0<=j:=by omega) (h1:j<xs.length:=by omega) (hs: ∀x,(enc x).length=sz:=by intro x;first|rfl|simp|(rw[CT];rfl)) :
    AQ sz none (.l (xs.map enc) f) (.i ki j) K:=by
 have hlt:j.toNat<xs.length:=by omega
 exact pO j.toNat (ES hlt) (by omega) (hs _) (h _ (ES hlt))
def sk1 {α:Type} {enc:α->List V} {xs:List α} {f:Bool} {sz:Nat} {ki:IntKind} {k:Nat} {K:V->AH->Prop} (h:K (.l ((xs.take k).map enc) (f&&decide ((k:Int)=((xs.map enc).length:Nat)))) σ) (hl:k<=xs.length:=by first|assumption|omega) (hm:xs.length<=Ay:=by first|assumption|omega) (hs: ∀x,(enc x).length=sz:=by intro x;first|rfl|simp|(rw[CT];rfl)) :
    AP σ sz (.l (xs.map enc) f) none (some (.i ki (Bq k))) none K:=by
 rw[AV (by omega)];refine⟨fun e he=>?_,?_⟩
 .obtain⟨x,_,rfl⟩:=Iz.1 he
  exact hs x
 .simp only[Nr,Bu]
  refine⟨by omega,by omega,by omega,?_⟩;rw[Hd];simpa[List.map_take]using h
def xB {xs:List Fact} {f:Bool} {K:V->Prop} {ki:IntKind} {k:Nat} {x:Fact} (h:K (.rp (xF x))) (hx:xs[k]? =some x:=by assumption) (hm:xs.length<=Ay:=by first|assumption|omega):AQ 6 none (.l (xs.map F0) f) (.i ki (Bq k)) K:=by
 refine vC hx hm (by rw[CT];rfl) ?_;rw[CT];exact h
def Tt {a0:At} {l:List At}:(a0::l)[0]? =some a0:=rfl
def Ts {a0 a1:At} {l:List At}:(a0::a1::l)[1]? =some a1:=rfl
def Tq {a0 a1 a2:At} {l:List At}:(a0::a1::a2::l)[2]? =some a2:=rfl
def Tp {a0 a1 a2 a3:At} {l:List At}:(a0::a1::a2::a3::l)[3]? =some a3:=rfl
def To {a0 a1 a2 a3 a4:At} {l:List At}:(a0::a1::a2::a3::a4::l)[4]? =some a4:=rfl
def Tn {a0 a1 a2 a3 a4 a5:At} {l:List At}:(a0::a1::a2::a3::a4::a5::l)[5]? =some a5:=rfl
def ld {l:List At} {i n off:Nat} {agg:Option Nat} {vs:List V} {K:V->Prop} (hk:cut agg vs off K) (h:Sat σ l:=by assumption)
    (hi:l[i]? =some (.box n vs):=by first|exact Tt|exact Ts|exact Tq|exact Tp|exact To|exact Tn):AW σ agg (.p n off) K:=nu h i hi hk
def s1 {l:List At} {i n off:Nat} {vs:List V} {x:V} {K:AH->Prop} (hk: ∀σ',Sat σ' (l.set i (.box n (vs.set off x)))->K σ') (h:Sat σ l:=by assumption)
    (hi:l[i]? =some (.box n vs):=by first|exact Tt|exact Ts|exact Tq|exact Tp|exact To|exact Tn)
    (h1:CA x=true:=by first|rfl|exact IS (by assumption) 0 rfl|exact IS (by assumption) 1 rfl|exact IS (by assumption) 2 rfl|exact IS (by assumption) 3 rfl|simp) (ho:off+1<=vs.length:=by exact Nat.le_of_ble_eq_true rfl):AR σ 1 (.p n off) x K:=
 N3 h i hi h1 ho hk
def sn {l:List At} {i n off sz:Nat} {vs vc:List V} {x:V} {K:AH->Prop} (hk: ∀σ',Sat σ' (l.set i (.box n (putAt vs off vc)))->K σ') (h:Sat σ l:=by assumption)
    (hi:l[i]? =some (.box n vs):=by first|exact Tt|exact Ts|exact Tq|exact Tp|exact To|exact Tn)
    (hc:cellsOf x=some vc:=by rfl) (hl:vc.length=sz:=by rfl) (h1:vc.all CA=true:=by first|rfl|simp) (ho:off+sz<=vs.length:=by exact Nat.le_of_ble_eq_true rfl):AR σ sz (.p n off) x K:=
 MH h i hi hc hl h1 ho hk
def Sb:FI (fun f:Fact=>F0 f) 6:=fun f=>by
 simp only[CT];refine⟨rfl,fun v hv=>?_⟩;simp only[Fq,List.not_mem_nil,or_false]at hv;rcases hv with rfl|rfl|rfl|rfl|rfl|rfl<;>rfl
def TG:FI (fun l:List Fact=>[V.l (facts l) false]) 1:=fun x=>⟨rfl,fun v hv=>by simp at hv;subst hv;rfl⟩
def af {α:Type} {enc:α->List V} {sz:Nat} {ys:List α} {g:Bool} {K:V->Prop} (hk:K (.l (ys.map enc) false)) (hg:FI enc sz:=by first|exact Eg|exact Ir|exact TF|exact Sb|exact TG) {b:Nat} (hl:ys.length<=Ay/\ys.length*b<=140737488355328:=by first|assumption|omega) :
    Ab b σ sz (.l [] true) (.l (ys.map enc) g) K:=qp hg hl hk
def al {l:List At} {o:O} {n:Nat} {K:Prop} {σ':AH} (e:A6 σ n o=σ') (hk:Sat σ' (l++[.obj n o])->K) (hn:σ n=none:=by assumption) (h:Sat σ l:=by assumption):K:=hk (e ▸ pG h hn)
def oi {l:List At} {i:Nat} {v:V} {sz:Nat} {es:List (List V)} {ki:IntKind} {j:Int} {K:V->Prop} (hk:K (GQ v sz j.toNat)) (h:Sat σ l:=by assumption)
    (hi:l[i]? =some (.own v sz es):=by first|exact Tt|exact Ts|exact Tq|exact Tp|exact To|exact Tn) (h0:0<=j:=by omega) (h1:j<es.length:=by first|omega|(simp only[Bu]at *;omega)):AQ sz none v (.i ki j) K:=
 xC h i j.toNat hi (by omega) (by omega) hk
def oc {l:List At} {i:Nat} {v:V} {sz k:Nat} {es:List (List V)} {ki:IntKind} {K:V->Prop} (hk:K (GQ v sz k)) (h:Sat σ l:=by assumption)
    (hi:l[i]? =some (.own v sz es):=by first|exact Tt|exact Ts|exact Tq|exact Tp|exact To|exact Tn) (h1:k<es.length:=by first|omega|(simp only[Bu]at *;omega)) (hm:k<=Ay:=by first|omega|(simp only[Ay];omega)):AQ sz none v (.i ki (Bq k)) K:=
 xC h i k hi (AV (by omega)) h1 hk
def ol {α:Type} {enc:α->List V} {xs:List α} {l:List At} {i:Nat} {v:V} {sz k:Nat} {agg:Option Nat} {K:V->Prop} (hk: ∀x,xs[k]? =some x->cut agg (enc x) 0 K) (h:Sat σ l:=by assumption)
    (hi:l[i]? =some (.own v sz (xs.map enc)):=by first|exact Tt|exact Ts|exact Tq|exact Tp|exact To|exact Tn) (h1:k<xs.length:=by first|omega|(simp only[Bu]at *;omega)):AW σ agg (GQ v sz k) K:=
 ZA h i hi (by rw[P8,ES h1];rfl) (hk _ (ES h1))
def oset {α:Type} {enc:α->List V} {xs:List α} {y:α} {l:List At} {i:Nat} {v x:V} {sz k:Nat} {vc:List V} {K:AH->Prop} (hk: ∀σ',Sat σ' (l.set i (.own v sz ((xs.set k y).map enc)))->K σ') (h:Sat σ l:=by assumption)
    (hi:l[i]? =some (.own v sz (xs.map enc)):=by first|exact Tt|exact Ts|exact Tq|exact Tp|exact To|exact Tn) (hc:cellsOf x=some vc:=by rfl) (he:vc=enc y:=by rfl) (hg:FI enc sz:=by first|exact Eg|exact Ir|exact TF|exact Sb|exact TG)
    (hv:(Cg v).isSome=true:=by assumption) (h1:k<xs.length:=by first|omega|(simp only[Bu]at *;omega)):AR σ sz (GQ v sz k) x K:=by
 subst he;refine iN h i hi (by rw[P8,ES h1];rfl) hc (hg y).1 (Dh.2 fun v hv=>(hg y).2 v hv) (hg _).1 hv fun σ' hs=>hk σ' ?_
 rw[List.map_set];exact hs
def Hu {b sz:Nat} {v:V} {e:List V} {f:Bool} {K:V->AH->Prop} (h:AM b σ sz v (.l [e] f) fun v' σ'=>(Cg v').isSome=true->K v' σ'):AM b σ sz v (.l [e] f) K:=by
 obtain⟨h1,h2,h3⟩:=h;refine⟨h1,h2,?_⟩;cases v with
 | l es full=>exact⟨h3.1,h3.2.1,fun e=>(by cases e),fun e=>⟨(h3.2.2.2 e).1,fun n cap hn hc=>(h3.2.2.2 e).2 n cap hn hc rfl⟩⟩
 | sl n len cap=>
   simp only at h3 ⊢;split at h3
   .exact⟨h3.1,h3.2.1,h3.2.2.1,h3.2.2.2.1,fun n' cap' hn hc=>h3.2.2.2.2 n' cap' hn hc rfl⟩
   .exact h3.elim
 | _=>exact h3.elim
def aq {l:List At} {i:Nat} {α:Type} {enc:α->List V} {sz:Nat} {xs:List α} {x:α} {v:V} {f:Bool} {e:List V} {K:V->AH->Prop} (hk: ∀v' σ',Sat σ' (l.set i (.own v' sz ((xs++[x]).map enc)))->(Cg v').isSome=true->K v' σ') (h:Sat σ l:=by assumption)
    (hi:l[i]? =some (.own v sz (xs.map enc)):=by first|exact Tt|exact Ts|exact Tq|exact Tp|exact To|exact Tn)
    (he:e=enc x:=by rfl) (hg:FI enc sz:=by first|exact Eg|exact Ir|exact TF|exact Sb|exact TG)
    {b:Nat} (hl:xs.length<Ay/\(xs.length+1)*b<=140737488355328:=by first|assumption|omega|(simp only[R0,Bu,Lz,List.length_nil,NT,List.length_drop,List.length_replicate,Ay]at *;omega)):AM b σ sz v (.l [e] f) K:=
 Hu (YU h i hi hl hg hk he)
end Go.Gl
namespace Go.Gl
open Go.Proofs
attribute [local irreducible] As Am Ac AQ AM Ab AP AR AL Aa AN AO Ao Ax Sat AW Au Ad W
def di {xs:List Int} {g:Bool} (h:FE (.l (iL xs) g)):xs.length<=Ay:=by
 simp only[Ii,Bu]at h;exact h.1
def oB {f:Fact} (h:FE (.a (xF f))):f.kids.length<=Ay/\f.path.length<=Ay/\ ∀k∈f.kids,FE (.a (xF k)):=by
 simp only[J6,Ew,Ii,LZ,Bu]at h;exact⟨h.2.2.2.2.2.1.1,h.2.2.1.1,fun k hk=>by have:=h.2.2.2.2.2.1.2 k hk;rw[CT]at this;exact this⟩
def Wq (w:AJ) (c:Int):Bool:=decide (0<=c)&&decide (c<3+w.parents.length)
def OL (w:AJ) (s:Int):Bool:=decide (0<=s)&&decide (s<w.owner.length)
def IY (w:AJ) (p:List Int):Bool:=p.all (OL w)&&decide (p.length<=2)
def Cq (f:Fact):Bool:=f.op==2||f.op==3||f.op==4
def D6:List (Int->Int)->Int->Int->Int
 | [],n,_=>n
 | k::r,n,most=>if n<=most then D6 r (n+k (most - n)) most else n
def Cw (f:Fact):Int->Int:=f.G4 fun _ l most=>D6 l 1 most
def Mg (f:Fact) (most:Int):Cw f most=D6 (f.kids.map Cw) 1 most:=by
 rw[Cw,Fact.DT];rfl
def Pd {most:Int}: ∀(l:List (Int->Int)) (n:Int),(∀g∈l,∀m,0<=m->1<=g m/\g m<=m+1)->1<=n->n<=most+1->1<=D6 l n most/\D6 l n most<=most+1
 | [],n,_,h1,h2=>⟨h1,h2⟩
 | g ::r,n,h,h1,h2=>by
   rw[D6];split
   .have:=h g (List.mem_cons_self ..) (most - n) (by omega)
    exact Pd r _ (fun g hg=>h g (List.mem_cons_of_mem _ hg)) (by omega) (by omega)
   .exact⟨h1,h2⟩
def Pb (f:Fact): ∀m,0<=m->1<=Cw f m/\Cw f m<=m+1:=by
 induction f using Fact.ind with
 | h f ih=>
   intro m hm;rw[Mg];refine Pd _ _ (fun g hg=>?_) (by omega) (by omega);obtain⟨k,hk,rfl⟩:=Iz.1 hg;exact ih k hk
def QC (f:Fact):Nat:=f.G4 fun _ l=>1+l.sum
def Om (f:Fact):QC f=1+(f.kids.map QC).sum:=Fact.DT _ f
def Pc {most:Int}: ∀(l:List Fact) (n:Int),(∀k∈l,∀m,0<=m->Cw k m<=m->Cw k m=QC k)->0<=n->D6 (l.map Cw) n most<=most->D6 (l.map Cw) n most=n+(l.map QC).sum
 | [],n,_,_,_=>by simp[D6]
 | k :: r, n,h,h0,h1=>by
   simp only[E4,D6]at *;split at h1
   .rename_i hc
    rw[if_pos hc];have hb:=Pb k (most - n) (by omega)
    have hge: ∀(l:List Fact) (a:Int),a<=D6 (l.map Cw) a most:=fun l=>by
     induction l with
     | nil=>intro a;exact Int.le_refl _
     | cons y l ih=>
       intro a;simp only[E4,D6];split
       .have:=Pb y (most - a) (by omega)
        have:=ih (a+Cw y (most - a));omega
       .exact Int.le_refl _
    have h2:=hge r (n+Cw k (most - n));have h3:=h k (List.mem_cons_self ..) (most - n) (by omega) (by omega);have h4:=Pc r (n+Cw k (most - n)) (fun k' hk'=>h k' (List.mem_cons_of_mem _ hk')) (by omega) h1;simp only[List.sum_cons];omega
   .rename_i hc
    omega
def Pa (f:Fact): ∀m,0<=m->Cw f m<=m->Cw f m=QC f:=by
 induction f using Fact.ind with
 | h f ih=>
   intro m h0 h1;rw[Mg]at *;rw[Pc f.kids 1 ih (by omega) h1,Om];omega
def T1 (a b:Int):Int:=if a<b then b else a
def Gn (f:Fact):Int:=f.G4 fun _ l=>l.foldl T1 0+1
def Rj (f:Fact):Gn f=(f.kids.map Gn).foldl T1 0+1:=Fact.DT _ f
def PQ {α:Type} {xs:List α} {k:Nat} {x:α} {β:Type} (g:α->β) (h:β->β->β) (a:β) (hx:xs[k]? =some x):((xs.take (k+1)).map g).foldl h a=h (((xs.take k).map g).foldl h a) (g x):=by
 rw[Ar hx,YF,List.foldl_append];rfl
def Ig (f:Fact):Int:=f.G4 fun f l=>l.foldl T1 (if Cq f then f.arg+1 else 0)
def Qp (f:Fact):Ig f=(f.kids.map Ig).foldl T1 (if Cq f then f.arg+1 else 0):=Fact.DT _ f
def Ug (f:Fact):Bool:=f.G4 fun f l=>decide (0<=f.arg)&&decide (f.arg<3)&&l.all id
def Vj (f:Fact):Ug f=(decide (0<=f.arg)&&decide (f.arg<3)&&(f.kids.map Ug).all id):=Fact.DT _ f
def Cy (op:Int):Nat:=if op=5 then 1 else if op=6\/op=7 then 2 else 0
def Zp (w:AJ) (f:Fact):Bool:=
 if f.op=2 then f.n==0&&Wq w f.cls else if f.op=3\/f.op=4 then f.cls==0&&(decide (-1000000000<=f.n)&&decide (f.n<=1000000000))else f.op==1||f.op==5||f.op==6||f.op==7
def Dx (w:AJ) (f:Fact):Bool:=
 Zp w f&&(f.kids.length==Cy f.op&&(decide (0<=f.arg)&&(decide (f.arg<3)&&(IY w f.path&&(Cq f||(f.arg==0&&(f.path.length==0&&(f.cls==0&&f.n==0))))))))
def BT (w:AJ) (f:Fact):Bool:=f.G4 fun f l=>Dx w f&&l.all id
def CS (w:AJ) (f:Fact):BT w f=(Dx w f&&f.kids.all (BT w)):=by rw[BT,Fact.DT,List.all_map];rfl
def Wt (n:Int):Bool:=decide (-1000000000<=n)&&decide (n<=1000000000)
def ON (k:Int):Bool:=k==1||k==4
def OW {p:Prog} (h:FE (.a (Ba p))):p.AZ.length<=Ay/\p.EV.length<=Ay/\p.methods.length<=Ay/\p.nodes.length<=Ay:=by
 simp only[Ba,J6,Ew,Ii,Bu]at h;exact⟨h.1.1,h.2.2.1.1,h.2.2.2.1.1,h.2.2.2.2.1.1⟩
def OT (p:Prog) (x:Node):Int:=
 if x.op=1\/x.op=2\/x.op=3\/x.op=6\/x.op=18 then 0 else
 if x.op=4\/x.op=8\/x.op=17 then 1 else
 if x.op=7\/x.op=9\/x.op=11\/x.op=12\/x.op=13\/x.op=14\/x.op=15\/x.op=16 then 2 else
 if x.op=10 then 3 else
 if x.op=5/\0<=x.n/\x.n<p.EV.length then p.EV.getD x.n.toNat 0 else -1
def SB (p:Prog) (x:Node) (size:Int):Bool:=
 if x.op=1 then Wt x.n else if x.op=3 then decide (0<=x.n)&&decide (x.n<size)else if x.op=4\/x.op=7 then decide (0<=x.n)&&decide (x.n<p.AI)else
 if x.op=5 then decide (0<=x.n)&&decide (x.n<p.EV.length)else if x.op=6\/x.op=8 then decide (3<=x.n)&&decide (x.n<3+p.AZ.length)else x.n==0
def UG (ps:List (List Int)) (a b:Int):Bool:=a==b||(b==0||(decide (3<=a)&&GI ps a.toNat b.toNat))
structure Ju (w:AJ):Prop where
 len:w.parents.length<=60
 ord:ordered w.parents
 own: ∀c∈w.owner,(3:Int)<=c/\c<3+w.parents.length
 olen:w.owner.length<=40
def Bh (w:AJ) (s:Int):Int:=w.owner.getD s.toNat 0
def hasB (w:AJ) (c s:Int):Bool:=decide (3<=c)&&UG w.parents c (Bh w s)
def EM (w:AJ) (f:Fact):Bool:=decide (Cw f 24<=24)&&(decide (Gn f<=12)&&BT w f)
def xE (i:Nat) (pre:List Int) (c:Int):Bool:=decide (3<=c)&&(decide (c<3+i)&& !pre.contains c)
def Z6 (i:Nat):List Int->List Int->Bool
 | _,[]=>true
 | pre,c::r=>xE i pre c&&Z6 i (pre++[c]) r
def OM:Nat->List (List Int)->Bool
 | _,[]=>true
 | i,l::r=>decide (l.length<=3)&&(Z6 i [] l&&OM (i+1) r)
def FJ (g:List (List Int)):Bool:=decide (g.length<=16)&&OM 0 g
def fE {ls:List (List Int)} {g:Bool} (h:FE (.l (JY ls) g)):ls.length<=Ay/\ ∀l∈ls,l.length<=Ay:=by
 simp only[Ii,Bu,LZ,Ew]at h;exact⟨h.1,fun l hl=>(h.2 l hl).1.1⟩
def R9:Int->List Int->Bool
 | _,[]=>true
 | n,s::r=>s==n&&R9 (n+1) r
def FV:Int->List QA->Bool
 | _,[]=>true
 | n,c::r=>decide (c.AI.length<=4)&&(decide (c.parents.length<=3)&&(R9 n c.AI&&FV (n+c.AI.length) r))
def MG (w:AJ) (c n:Int):List (Int×Int)->List (Int×Int)->Bool
 | _,[]=>true
 | pre,x::r=>decide (0<=x.1)&&(decide (x.1<n)&&(hasB w c x.1&&(Wt x.2&&(pre.all (fun y=>y.1 != x.1)&&MG w c n (pre++[x]) r))))
def uw (g:List (List Int)) (c:Int):Bool:= !((Dc g).getD c.toNat []).isEmpty
def OX (w:AJ) (n:Int):Nat->List QA->Bool
 | _,[]=>true
 | i,c::r=>uw w.parents ((i:Int)+3)&&(MG w ((i:Int)+3) n [] c.inits&&OX w n (i+1) r)
def CL (p:Prog):Bool:=decide (p.AZ.length<=10)&&(FV 0 p.AZ&&((CX p.AZ:Int)==p.AI&&(FJ (BG p)&&OX (AT p) (CX p.AZ) 0 p.AZ)))
def v8 {c:QA} (h:Hi (UC c)):c.parents.length<=Ay/\c.AI.length<=Ay/\c.inits.length<=Ay:=by
 simp only[UC,Ew,Ii,Bu]at h;exact⟨h.1.1,h.2.1.1,h.2.2.1.1⟩
def UU {p:Prog} (h:FE (.a (Ba p))):xY p:=by
 refine⟨(OW h).1,fun c hc=>?_⟩;simp only[Ba,J6,Ew,Ii,LZ]at h;exact v8 (h.1.2 c hc)
def HT: ∀(cs:List QA) (n:Int),FV n cs=true->CX cs<=4*cs.length/\ ∀c∈cs,c.parents.length<=3/\c.AI.length<=4
 | [],_,_=>⟨IN _,fun _ h=>by cases h⟩
 | c::r,n,h=>by
   simp only[FV,A8,Cm]at h;have⟨h1,h2⟩:=HT r _ h.2.2.2;refine⟨by simp only[CX,E4,List.sum_cons,Lz]at *;omega,fun d hd=>?_⟩;rcases Fq.1 hd with rfl|hd
   .exact⟨h.2.1,h.1⟩
   .exact h2 d hd
def Rg {i:Nat}: ∀(r pre:List Int),Z6 i pre r=true->pre.Nodup->(pre++r).Nodup/\ ∀c∈r,(3:Int)<=c/\c<3+(i:Int)
 | [],pre,_,h=>⟨by simpa using h,fun _ h=>by cases h⟩
 | c::r,pre,h,hn=>by
   simp only[Z6,xE,A8,Cm,Bool.not_eq_true']at h;have hc:c∉pre:=by simpa using h.1.2.2
   obtain⟨h1,h2⟩:=Rg r (pre++[c]) h.2 (List.nodup_append.2 ⟨hn,by simp,fun a ha b hb=>by simp at hb;subst hb;exact fun e=>hc (e ▸ ha)⟩);refine⟨by simpa using h1,fun d hd=>?_⟩;rcases Fq.1 hd with rfl|hd
   .exact⟨h.1.1,h.1.2.1⟩
   .exact h2 d hd
def PV: ∀(g:List (List Int)) (k:Nat),OM k g=true-> ∀(i:Nat) (l:List Int),g[i]? =some l->l.length<=3/\l.Nodup/\ ∀c∈l,(3:Int)<=c/\c<3+((k+i:Nat):Int)
 | [],_,_,_,_,h=>by cases h
 | l ::r,k,h,i,l',hi=>by
   simp only[OM,A8,Cm]at h;cases i with
   | zero=>
     simp at hi;subst hi;obtain⟨h1,h2⟩:=Rg l [] h.2.1 .nil;exact⟨h.1,by simpa using h1,by simpa using h2⟩
   | succ i=>
     simp at hi;have:=PV r (k+1) h.2.2 i l' hi;rw[show k+(i+1)=k+1+i by omega];exact this
def EH {g:List (List Int)} (h:FJ g=true):Kr g:=by
 simp only[FJ,A8,Cm]at h;refine⟨h.1,fun i l hi=>?_⟩;have:=PV g 0 h.2 i l hi;simpa using this
def JN {g:List (List Int)} (h:Kr g):ordered g:=by
 intro c p hp;unfold par at hp;split at hp
 .cases hp
 .rename_i h3
  rw[Ds]at hp;cases hq:g[c - 3]? with
  | none=>rw[hq]at hp;cases hp
  | some l=>
    rw[hq]at hp;have:=(h.2 _ _ hq).2.2 p hp;omega
def Fl {i:Nat} {cs:List QA} {c:Int} (h:c∈BR i cs):(3:Int)+i<=c/\c<3+i+cs.length:=by
 induction cs generalizing i with
 | nil=>cases h
 | cons d r ih=>
   simp only[BR,Dr,List.mem_replicate]at h;simp only[Lz];rcases h with⟨_,rfl⟩|h
   .omega
   .have:=ih h;omega
def XS {p:Prog} (h1:p.AZ.length<=10) (h2:FV 0 p.AZ=true) (h3:FJ (BG p)=true):Ju (AT p):=by
 have hl:(AT p).parents.length=p.AZ.length:=by simp[AT,BG]
 refine⟨by omega,JN (EH h3),fun c hc=>?_,?_⟩
 .have:=Fl hc
  rw[hl];omega
 .have:=(HT _ _ h2).1
  simp only[AT,DH];omega
def Jj (f:Int->Int->List Int->Option (List Int)) (op size:Int):Nat->List Int->List Int->Option (List Int)
 | _,[],s=>some s
 | i,k::r,s=>match f k (if op=9/\i=1 then size+1 else size) s with
   | none=>none
   | some s'=>Jj f op size (i+1) r s'
def F3 (p:Prog) (next:Bool) (size:Int) (x:Node):Bool:=((x.kids.length:Int)==OT p x)&&(SB p x size&&(x.op != 18||next))
def C8 (p:Prog) (next:Bool):Nat->Int->Int->List Int->Option (List Int)
 | 0,_,_,_=>none
 | d+1,n,size,s=>
   if n<0\/(p.nodes.length:Int)<=n\/0<=s.getD n.toNat 0 then none else
   match p.nodes[n.toNat]? with
   | none=>none
   | some x=>if F3 p next size x then Jj (C8 p next d) x.op size 0 x.kids (s.set n.toNat size)else none
def qy {p:Prog} (h:FE (.a (Ba p))) {x:Node} (hx:x∈p.nodes):x.kids.length<=Ay:=by
 simp only[Ba,J6,Ew,Ii,LZ]at h
 have h2:Hi (M8 x):=by
  first|exact h.2.2.2.2.1.2 x hx|exact h.2.2.2.2.2.1.2 x hx|exact h.2.2.2.1.2 x hx|exact h.2.2.1.2 x hx|exact h.2.1.2 x hx
 simp only[M8,Ew,Ii,Bu]at h2
 first|exact h2.2.2.1.1|exact h2.2.2.1|exact h2.1
end Go.Gl
namespace Go.Gl
variable {P:Program} {σ:AH} {env:Env}
def lo {l:List At} {i:Nat} {v:V} {sz:Nat} {es:List (List V)} {K:V->Prop} (hk:K (.i .i64 es.length)) (h:Sat σ l:=by assumption)
    (hi:l[i]? =some (.own v sz es):=by first|exact Tt|exact Ts|exact Tq|exact Tp|exact To|exact Tn) (hm:es.length<=Ay:=by first|omega|(simp only[Bu,List.length_replicate,List.length_set,Ay]at *;omega)):Au v K:=u6 h i hi hm hk
def Sat.take {l:List At} (h:Sat σ l) (n:Nat):Sat σ (l.take n):=h.less (List.take_sublist _ _)
def TI {b:Bool} {σ σ':AH}:Ff σ σ' (.l [] b) (.l [] false):= .l (fun h=>by cases h) .nil
def dh {b:Bool} {σ σ':AH} {es:List (List V)}:Ff σ σ' (.l es b) (.l es false):= .l (fun h=>by cases h) (FF.refl _ _ _)
mutual
def Rz {σ σ':AH}: ∀vs:List V,C7 σ σ' vs vs
 | []=> .nil
 | v::r=> .cons (.refl v) (Rz r)
end
def JW {σ σ':AH}: ∀es:List (List V),FF σ σ' es es
 | []=> .nil
 | e::r=> .cons (Rz e) (JW r)
def BM {α:Type} (xs:List α) {k:Nat} (hk:k<=xs.length):(∃x,xs[k]? =some x/\k<xs.length)\/k=xs.length:=by
 rcases Nat.lt_or_ge k xs.length with h|h
 .exact .inl ⟨_,ES h,h⟩
 .exact .inr (by omega)
def DV {α:Type} {enc:α->List V} {xs:List α} {k:Nat} {x:α} {A B:Prop} (h1:decide (Bq k<((xs.map enc).length:Nat))=true->A) (hx:xs[k]? =some x:=by assumption) (hm:xs.length<=Ay:=by first|assumption|omega|simp[Ay]<;>omega) :
    (decide (Bq k<((xs.map enc).length:Nat))=true->A)/\(decide (Bq k<((xs.map enc).length:Nat))=false->B):=by
 refine⟨h1,fun h=>?_⟩;have hlt:=(JX.1 hx).1;rw[AV (by omega),Bu]at h;have:=of_decide_eq_false h;omega
def EZ {α:Type} {enc:α->List V} {xs:List α} {k:Nat} {A B:Prop} (h1:decide (Bq k<((xs.map enc).length:Nat))=false->B) (hx:k=xs.length:=by assumption) (hm:xs.length<=Ay:=by first|assumption|omega|simp[Ay]<;>omega) :
    (decide (Bq k<((xs.map enc).length:Nat))=true->A)/\(decide (Bq k<((xs.map enc).length:Nat))=false->B):=by
 refine⟨fun h=>?_,h1⟩;rw[AV (by omega),Bu]at h;have:=of_decide_eq_true h;omega
def Kf {α:Type} {enc:α->List V} {xs:List α} {f:Bool} {sz:Nat} {K:V->Prop} {ki:IntKind} {j:Int} {x:α} (h:K (.rp (enc x))) (hx:xs[j.toNat]? =some x:=by assumption) (h0:0<=j:=by omega) (hs:(enc x).length=sz:=by first|rfl|simp|(rw[CT];rfl)) :
    AQ sz none (.l (xs.map enc) f) (.i ki j) K:=pO j.toNat hx (by omega) hs h
def Kh {xs:List Fact} {f:Bool} {K:V->Prop} {ki:IntKind} {j:Int} {x:Fact} (h:K (.rp (xF x))) (hx:xs[j.toNat]? =some x:=by assumption) (h0:0<=j:=by omega):AQ 6 none (.l (xs.map F0) f) (.i ki j) K:=by
 refine Kf ?_ hx h0;rw[CT];exact h
class CB (b:Bool) (v:outParam Bool):Prop where
 h:b=v
instance :CB true true:=⟨rfl⟩
instance :CB false false:=⟨rfl⟩
instance {b:Bool} [i:CB b true]:CB (!b) false:=⟨by rw[i.h];rfl⟩
instance {b:Bool} [i:CB b false]:CB (!b) true:=⟨by rw[i.h];rfl⟩
instance {b x y v:Bool} [i:CB b true] [j:CB x v]:CB (bif b then x else y) v:=⟨by rw[i.h,j.h];rfl⟩
instance {b x y v:Bool} [i:CB b false] [j:CB y v]:CB (bif b then x else y) v:=⟨by rw[i.h,j.h];rfl⟩
instance {a b:Bool} [i:CB a true] [j:CB b true]:CB (a==b) true:=⟨by rw[i.h,j.h];rfl⟩
instance {a b:Bool} [i:CB a true] [j:CB b false]:CB (a==b) false:=⟨by rw[i.h,j.h];rfl⟩
instance {a b:Bool} [i:CB a false] [j:CB b true]:CB (a==b) false:=⟨by rw[i.h,j.h];rfl⟩
instance {a b:Bool} [i:CB a false] [j:CB b false]:CB (a==b) true:=⟨by rw[i.h,j.h];rfl⟩
instance {a b:Bool} [i:CB a true] [j:CB b true]:CB (a != b) false:=⟨by rw[i.h,j.h];rfl⟩
instance {a b:Bool} [i:CB a true] [j:CB b false]:CB (a != b) true:=⟨by rw[i.h,j.h];rfl⟩
instance {a b:Bool} [i:CB a false] [j:CB b true]:CB (a != b) true:=⟨by rw[i.h,j.h];rfl⟩
instance {a b:Bool} [i:CB a false] [j:CB b false]:CB (a != b) false:=⟨by rw[i.h,j.h];rfl⟩
def FX {A B:Prop} {b:Bool} [i:CB b true] (h:A):(b=true->A)/\(b=false->B):=⟨fun _=>h,fun e=>(by rw[i.h]at e;cases e)⟩
def Es {A B:Prop} {b:Bool} [i:CB b false] (h:B):(b=true->A)/\(b=false->B):=⟨fun e=>(by rw[i.h]at e;cases e),fun _=>h⟩
def Wr {A B:Prop} {b:Bool} [i:CB b true] (h:B):(b=false->A)/\(b=true->B):=⟨fun e=>(by rw[i.h]at e;cases e),fun _=>h⟩
def Ws {A B:Prop} {b:Bool} [i:CB b false] (h:A):(b=false->A)/\(b=true->B):=⟨fun _=>h,fun e=>(by rw[i.h]at e;cases e)⟩
def oi2 {l:List At} {i:Nat} {v:V} {sz:Nat} {es:List (List V)} {ki:IntKind} {j:Int} {K:V->Prop} (hk:K (GQ v sz j.toNat)) (h:Sat σ l:=by assumption)
    (hi:l[i]? =some (.own v sz es):=by first|exact Tt|exact Ts|exact Tq|exact Tp|exact To|exact Tn) (h0:0<=j:=by omega) (h1:j<es.length:=by(simp only[Bu,List.length_set];omega)):AQ sz none v (.i ki j) K:=
 xC h i j.toNat hi (by omega) (by omega) hk
def uS {α:Type} {enc:α->List V} {xs:List α} {x:α} {l:List At} {i:Nat} {v:V} {sz k:Nat} {agg:Option Nat} {K:V->Prop} (hk:cut agg (enc x) 0 K) (h:Sat σ l:=by assumption)
    (hi:l[i]? =some (.own v sz (xs.map enc)):=by first|exact Tt|exact Ts|exact Tq|exact Tp|exact To|exact Tn) (hx:xs[k]? =some x:=by assumption):AW σ agg (GQ v sz k) K:=
 ZA h i hi (by rw[P8,hx];rfl) hk
def vK {v:V} (h:(Cg v).isSome=true): ∃n l c,v= .sl n l c:=by
 cases v<;>first|(cases h;done)|exact⟨_,_,_,rfl⟩
end Go.Gl
namespace Go.Gl
open Go.Proofs
attribute [local irreducible] As Am Ac AQ AM Ab AP AR AL Aa AN AO Ao Ax Sat AW Au Ad W
def Xk {w:AJ} (f:Fact):BT w f=true->Ug f=true:=by
 induction f using Fact.ind with
 | h f ih=>
   intro h;rw[CS]at h;simp only[Dx,A8,Dh,Cm]at h;rw[Vj];simp only[A8,Cm,List.all_map,Dh,Function.comp_apply,id];exact⟨⟨h.1.2.2.1,h.1.2.2.2.1⟩,fun k hk=>ih k hk (h.2 k hk)⟩
def Wd (p:Prog) (m:Ng):Bool:=decide (1<=m.kind)&&(decide (m.kind<=4)&&(decide (0<=m.gen)&&(decide (m.gen<(p.EV.length:Int))&&(EM (AT p) m.fact&&decide (Ig m.fact<=p.EV.getD m.gen.toNat 0)))))
def runM (p:Prog):List Ng->List Int->Option (List Int)
 | [],s=>some s
 | m::r,s=>if Wd p m then match C8 p (ON m.kind) 12 m.node (p.EV.getD m.gen.toNat 0) s with
   | none=>none
   | some s'=>runM p r s' else none
def Fb (p:Prog):Bool:=CL p&&(decide (p.EV.length<=8)&&(decide (p.methods.length<=16)&&(decide (1<=p.nodes.length)&&(decide (p.nodes.length<=120)&&p.EV.all fun g=>decide (1<=g)&&decide (g<=3)))))
def Bf (p:Prog):Option (List Int):=if Fb p then match runM p p.methods (List.replicate p.nodes.length (-1))with
 | none=>none
 | some s=>match C8 p false 12 p.main 0 s with
   | none=>none
   | some s=>if s.all fun n=>decide (0<=n)then some s else none else none
def OP (p:Prog):Option (List Int)->Option (List Int)
 | none=>none
 | some s=>match C8 p false 12 p.main 0 s with
   | none=>none
   | some s=>if s.all fun n=>decide (0<=n)then some s else none
def lM {p:Prog} (h:Fb p=true):Bf p=OP p (runM p p.methods (List.replicate p.nodes.length (-1))):=by
 unfold Bf;rw[if_pos h];rfl
def JH {p:Prog} {k:Nat} {x:Ng} {s:List Int} (hx:p.methods[k]? =some x) (hn:Bf p=OP p (runM p (p.methods.drop k) s)) (hok:Wd p x=false):Bf p=none:=by
 rw[hn,drop_cons hx,runM,if_neg (by simp[hok])];rfl
def aW {p:Prog} {k:Nat} {x:Ng} {s:List Int} (hx:p.methods[k]? =some x) (hn:Bf p=OP p (runM p (p.methods.drop k) s)) (hok:Wd p x=true) (hw:C8 p (ON x.kind) 12 x.node (p.EV.getD x.gen.toNat 0) s=none):Bf p=none:=by
 rw[hn,drop_cons hx,runM,if_pos hok,hw];rfl
def kQ {p:Prog} {k:Nat} {x:Ng} {s s':List Int} (hx:p.methods[k]? =some x) (hn:Bf p=OP p (runM p (p.methods.drop k) s)) (hok:Wd p x=true) (hw:C8 p (ON x.kind) 12 x.node (p.EV.getD x.gen.toNat 0) s=some s'):Bf p=OP p (runM p (p.methods.drop (k+1)) s'):=by
 rw[hn,drop_cons hx,runM,if_pos hok,hw]
def bO {p:Prog} (h:Fb p=true) {k:Nat} {x:Int} (hx:p.EV[k]? =some x):1<=x/\x<=3:=by
 simp only[Fb,A8,Dh,Cm]at h;exact h.2.2.2.2.2 x (Dm hx)
def Wx:List (Fact->Bool)->List Fact->Bool
 | h::r,k::s=>h k&&Wx r s
 | _,_=>true
def nX (f:Fact) (l:List (Fact->Bool)) (g:Fact):Bool:=f.op==g.op&&(f.arg==g.arg&&(f.cls==g.cls&&(f.n==g.n&&(f.path==g.path&&(f.kids.length==g.kids.length&&Wx l g.kids)))))
def G6 (f:Fact):Fact->Bool:=f.G4 nX
def U2 (f g:Fact):G6 f g=(f.op==g.op&&(f.arg==g.arg&&(f.cls==g.cls&&(f.n==g.n&&(f.path==g.path&&(f.kids.length==g.kids.length&&Wx (f.kids.map G6) g.kids)))))):=congrFun (Fact.DT nX f) g
def Vl {xs ys:List Fact} (h: ∀x∈xs,∀y,G6 x y=true↔x=y) (hl:xs.length=ys.length):Wx (xs.map G6) ys=true↔xs=ys:=by
 induction xs generalizing ys with
 | nil=>cases ys with
   | nil=>simp[Wx]
   | cons _ _=>simp at hl
 | cons x r ih=>cases ys with
   | nil=>simp at hl
   | cons y s=>
     simp only[E4,Wx,A8,List.cons.injEq];rw[h x (.head _) y,ih (fun x hx=>h x (.tail _ hx)) (by simpa using hl)]
def Mb (f g:Fact):G6 f g=true↔f=g:=by
 induction f using Fact.ind generalizing g with
 | h f ih=>
   rw[U2];cases f with
   | mk o a p c n k=>cases g with
     | mk o' a' p' c' n' k'=>
       simp only[Fact.op,Fact.arg,Fact.cls,Fact.n,Fact.path,Fact.kids,A8,Cr,Fact.mk.injEq]at *;constructor
       .rintro⟨rfl,rfl,rfl,rfl,rfl,hl,h⟩
        exact⟨rfl,rfl,rfl,rfl,rfl,(Vl (fun x hx y=>ih x hx y) hl).1 h⟩
       .rintro⟨rfl,rfl,rfl,rfl,rfl,rfl⟩
        exact⟨rfl,rfl,rfl,rfl,rfl,rfl,(Vl (fun x hx y=>ih x hx y) rfl).2 rfl⟩
def Ea (f:Fact):Fact:= .mk 5 0 [] 0 0 [f]
def QK (f g:Fact):Fact:= .mk 6 0 [] 0 0 [f,g]
def np (l:Fact):Prop:=l.op=5->l.kids≠[]
def Ai (l:Fact):Fact×Bool:=if l.op=5 then(l.kids.headD default,true)else(l,false)
def Be (path pre:List Int):Bool:=decide (pre.length<=path.length)&&path.take pre.length==pre
def Jd (a:Int) (p:List Int) (l:Fact):Bool:=(Ai l).1.arg==a&&(Ai l).1.path==p
def Ec (ls:List Fact) (a:Int) (p:List Int):Bool:=ls.all fun l=>(Ai l).2|| !((Ai l).1.arg==a&&Be (Ai l).1.path p)
def Bd (n:Nat):List Int:=(List.range n).map Int.ofNat
def V0 (n:Nat):Bd (n+1)=Bd n++[(n:Int)]:=by simp[Bd,List.range_succ]
def PX (n:Nat):(Bd n).length=n:=by simp[Bd]
def nI (a:Int) (p:List Int) (s:Int) (l:Fact):Bool:=(Ai l).1.arg==a&&Be (Ai l).1.path (p++[s])
def Cb (n:Nat) (ls:List Fact) (a:Int) (p:List Int):List Int:=(Bd n).filter fun s=>ls.any (nI a p s)
def GP (n:Nat) (ls:List Fact) (a:Int) (p:List Int):Bool:=(Cb n ls a p).all fun s=>Ec ls a (p++[s])
def W4 (ls:List Fact):Prop:= ∀l∈ls,-1000000000<=(Ai l).1.n/\(Ai l).1.n<=1000000000
def UM (x:Fact×Bool) (t:Int×Int×List Int):Option (Int×Int×List Int):=
 if x.1.op=2 then if decide (x.1.cls > 1) != x.2 then none else some t
 else if x.1.op=3 then(if x.2 then some (if x.1.n > t.1 then x.1.n else t.1,t.2.1,t.2.2)else some (t.1,if x.1.n - 1<t.2.1 then x.1.n - 1 else t.2.1,t.2.2))
 else if x.2 then some (t.1,t.2.1,t.2.2++[x.1.n])else some (if x.1.n > t.1 then x.1.n else t.1,if x.1.n<t.2.1 then x.1.n else t.2.1,t.2.2)
def foldI:List Fact->Int×Int×List Int->Option (Int×Int×List Int)
 | [],t=>some t
 | x::r,t=>(UM (Ai x) t).bind (foldI r)
def c8 (no:List Int):Nat->Int->Option Int
 | 0,_=>none
 | k+1,n=>if no.all (· != n)then some n else c8 no k (n+1)
def UN (t:Int×Int×List Int):Option Int:=c8 t.2.2 (t.2.1+1 - t.1).toNat t.1
def t0:Int×Int×List Int:=(-1000000000,1000000000,[])
def NZ (ls:List Fact) (a:Int) (p:List Int):Option Int:=(foldI (ls.filter (Jd a p)) t0).bind UN
def QX (x:Fact×Bool):Bool:=((x.1.op==2&&(x.1.cls==0||x.1.cls==2))==x.2)
def Ia (n:Nat) (ls:List Fact) (a:Int) (p:List Int):Bool:=(ls.filter (Jd a p)).all (fun l=> !QX (Ai l))&&GP n ls a p
abbrev BB:=List Bool×List Bool
def M1 (x:Fact×Bool) (t:BB):Option BB:=
 if x.1.op≠2\/x.1.cls=1\/x.1.cls=2 then(if x.2 then some t else none)else
 if x.2 then some (t.1,t.2.set x.1.cls.toNat true)else some (t.1.set x.1.cls.toNat true,t.2)
def Jm:List Fact->BB->Option BB
 | [],t=>some t
 | x::r,t=>(M1 (Ai x) t).bind (Jm r)
def UL (w:AJ) (ls:List Fact) (a:Int) (p:List Int) (can:Int->Bool) (s:Int) (t:BB):Option BB:=
 if !Ec ls a (p++[s])&& !can s then none else some (if Ec ls a (p++[s])then t.1 else t.1.set (Bh w s).toNat true,if can s then t.2 else t.2.set (Bh w s).toNat true)
def Jl (w:AJ) (ls:List Fact) (a:Int) (p:List Int) (can:Int->Bool):List Int->BB->Option BB
 | [],t=>some t
 | s::r,t=>(UL w ls a p can s t).bind (Jl w ls a p can r)
def JR (ps:List (List Int)) (c:Nat) (bs:List Bool):List Bool:=if bs.getD c false then(par ps c).foldl (fun b q=>b.set q.toNat true) bs else bs
def Ch (ps:List (List Int)) (n:Nat):Nat->List Bool->List Bool
 | 0,bs=>bs
 | k+1,bs=>JR ps (n - 1 - k) (Ch ps n k bs)
def Jr: ∀(l:List Int) (bs:List Bool),(l.foldl (fun b q=>b.set q.toNat true) bs).length=bs.length
 | [],_=>rfl
 | q::r,bs=>by rw[List.foldl_cons,Jr r,List.length_set]
def E3 (ps:List (List Int)) (n:Nat): ∀(k:Nat) (bs:List Bool),(Ch ps n k bs).length=bs.length
 | 0,_=>rfl
 | k+1,bs=>by
   rw[Ch,JR];split
   .rw[Jr,E3 ps n k bs]
   .exact E3 ps n k bs
def dK (w:AJ) (t:BB):Option (List Bool):=
 if t.2.getD 0 false then none else
 if(List.range (3+w.parents.length)).any (fun c=>(Ch w.parents (3+w.parents.length) w.parents.length (t.1.set 0 false)).getD c false&&t.2.getD c false)then none else some (Ch w.parents (3+w.parents.length) w.parents.length (t.1.set 0 false))
def tO (w:AJ):BB:=(List.replicate (3+w.parents.length) false,List.replicate (3+w.parents.length) false)
def Ty (w:AJ) (ls:List Fact) (a:Int) (p:List Int) (can:Int->Bool):Option (List Bool):=
 ((Jm (ls.filter (Jd a p)) (tO w)).bind (Jl w ls a p can (Cb w.owner.length ls a p))).bind (dK w)
def HS {n:Nat} {ls:List Fact} {a:Int} {p:List Int} {s:Int} (h:s∈Cb n ls a p):0<=s/\s<n:=by
 have:=(Jc.1 h).1;simp only[Bd,Iz,List.mem_range]at this;obtain⟨m,hm,rfl⟩:=this;exact⟨Int.natCast_nonneg m,by simpa using hm⟩
def wL (w:AJ) (ls:List Fact):Prop:= ∀l∈ls,(Ai l).1.op=2->0<=(Ai l).1.cls/\(Ai l).1.cls<3+w.parents.length
end Go.Gl
