import Derived.Test.YtnidfcmdimehdaaGreatV14
import Derived.Test.YtnidfcmdimehdaaGreatV20
import Derived.Test.YtnidfcmdimehdaaGreatV24
import Derived.Test.YtnidfcmdimehdaaGreatV28
set_option linter.all false
set_option linter.defProp false
set_option maxHeartbeats 8000000
noncomputable section
namespace Go.Gl
open Go.Proofs
inductive F3 where
 | int (n:Int)
 | HY
 | obj (C:Nat->Bool) (kid:Int->F3)
def Ex (w:AG):F3->Prop
 | .int n=> -1000000000<=n/\n<=1000000000
 | .HY=>True
 | .obj C kid=>(∀c,3<=c->C c=true-> ∀q∈par w.parents c,C q.toNat=true)/\ ∀s,Ex w (kid s)
def Dk (t:F3) (f:Fact):Bool:=match t with
 | .int n=>if f.op=2 then !decide (f.cls > 1)else if f.op=3 then decide (n<f.n)else decide (n=f.n)
 | .HY=>f.op==2&&(f.cls==0||f.cls==2)
 | .obj C _=>f.op==2&&(f.cls==0||(decide (3<=f.cls)&&C f.cls.toNat))
def JN (w:AG):F3->List Int->Fact->Bool
 | t,[],f=>Dk t f
 | .obj C kid,s::r,f=>C (Bh w s).toNat&&JN w (kid s) r f
 | _,_::_,_=>false
structure Df (w:AG) (l:Fact):Prop where
 op:(Ah l).1.op=2\/(Ah l).1.op=3\/(Ah l).1.op=4
 cls:(Ah l).1.op=2->0<=(Ah l).1.cls/\(Ah l).1.cls<3+w.parents.length
 arg:0<=(Ah l).1.arg/\(Ah l).1.arg<3
 path: ∀s∈(Ah l).1.path,(0:Int)<=s/\s<w.owner.length
 short:(Ah l).1.path.length<=2
def G5 {w:AG} {l:Fact} (h:Dq w l):Df w l:=by
 obtain⟨-,hn,hl⟩:=H4 h;have hlo:=FZ hl;have q:=Ml (w:=w) (l:=[l]) (fun x hx=>by rw[Lu.1 hx];exact h);rw[CA,A4]at hn;have hn:=hn.1;simp only[DB,A4,Cp]at hn;obtain⟨ho,-,ha1,ha2,hp,-⟩:=hn;simp only[Ez,A4,Dj,Ho,Cp]at hp;exact⟨hlo,q.2.1 l (.head _),⟨ha1,ha2⟩,fun s hs=>hp.1 s hs,hp.2⟩
def rV (t:Int×Int×List Int) (m:Int):Prop:=t.1<=m/\m<=t.2.1/\m∉t.2.2
def cO {w:AG} {l:Fact} (hl:Df w l) (t:Int×Int×List Int) (m:Int):(∃t',Vf (Ah l) t=some t'/\rV t' m)↔rV t m/\Dk (.int m) (Ah l).1= !(Ah l).2:=by
 have h1:=hl.op;generalize Ah l=x at *;obtain⟨f,b⟩:=x;obtain⟨lo,hi,no⟩:=t;simp only[Vf,rV,Dk]at *;rcases h1 with h|h|h
 .rw[if_pos h,if_pos h]
  by_cases hc:f.cls > 1<;>cases b<;>simp[hc]
 .have h2: ¬f.op=2:=by omega
  rw[if_neg h2,if_pos h,if_neg h2,if_pos h];cases b
  .simp only[NN,if_false,Iy,exists_eq_left',Bool.not_false,Cp]
   split<;>constructor<;>rintro⟨h3,h4⟩
   .exact⟨⟨h3,by omega,h4.2⟩,by omega⟩
   .exact⟨h3.1,by omega,h3.2.2⟩
   .exact⟨⟨h3,h4⟩,by omega⟩
   .exact h3
  .simp only[if_true,Iy,exists_eq_left',Bool.not_true,decide_eq_false_iff_not]
   split<;>constructor<;>rintro⟨h3,h4⟩
   .exact⟨⟨by omega,h4⟩,by omega⟩
   .exact⟨by omega,h3.2⟩
   .exact⟨⟨h3,h4⟩,by omega⟩
   .exact h3
 .have h2: ¬f.op=2:=by omega
  have h3: ¬f.op=3:=by omega
  rw[if_neg h2,if_neg h3,if_neg h2,if_neg h3];cases b
  .simp only[NN,if_false,Iy,exists_eq_left',Bool.not_false,Cp]
   constructor
   .rintro⟨h3,h4,h5⟩
    split at h3<;>split at h4<;>exact⟨⟨by omega,by omega,h5⟩,by omega⟩
   .rintro⟨⟨h3,h4,h5⟩,rfl⟩
    refine⟨?_,?_,h5⟩
    .split<;>omega
    .split<;>omega
  .simp only[if_true,Iy,exists_eq_left',Bool.not_true,decide_eq_false_iff_not,Ds,Lu,not_or]
   constructor
   .rintro⟨h3,h4,h5,h6⟩
    exact⟨⟨h3,h4,h5⟩,h6⟩
   .rintro⟨⟨h3,h4,h5⟩,h6⟩
    exact⟨h3,h4,h5,h6⟩
def Ka {w:AG} (m:Int): ∀(os:List Fact) (t:Int×Int×List Int),(∀l∈os,Df w l)->((∃t',foldI os t=some t'/\rV t' m)↔rV t m/\ ∀l∈os,Dk (.int m) (Ah l).1= !(Ah l).2)
 | [],t,_=>by simp[foldI]
 | x ::r,t,h=>by
   have h1:=cO (h x (.head _)) t m;constructor
   .rintro⟨t',h2,h3⟩
    rw[foldI,Option.bind_eq_some_iff]at h2;obtain⟨u,h4,h5⟩:=h2;obtain⟨h6,h7⟩:=(Ka m r u fun l hl=>h l (.tail _ hl)).1 ⟨t',h5,h3⟩;obtain⟨h8,h9⟩:=h1.1 ⟨u,h4,h6⟩;refine⟨h8,fun l hl=>?_⟩;rcases Fg.1 hl with rfl|hl
    .exact h9
    .exact h7 l hl
   .rintro⟨h2,h3⟩
    obtain⟨u,h4,h5⟩:=h1.2 ⟨h2,h3 x (.head _)⟩;obtain⟨t',h6,h7⟩:=(Ka m r u fun l hl=>h l (.tail _ hl)).2 ⟨h5,fun l hl=>h3 l (.tail _ hl)⟩;exact⟨t',by rw[foldI,h4];exact h6,h7⟩
def SW (t:Int×Int×List Int):(Vg t).isSome=true↔ ∃m,rV t m:=by
 obtain⟨lo,hi,no⟩:=t;rw[Vg,N1];constructor
 .rintro⟨j,h1,h2⟩
  exact⟨lo+j,by simp only[rV]at *;omega,by simp only[]at *;omega,h2⟩
 .rintro⟨m,h1,h2,h3⟩
  dsimp only at h1 h2 h3 ⊢;exact⟨(m - lo).toNat,by omega,by rw[show lo+((m - lo).toNat:Int)=m by omega];exact h3⟩
def EW {a:Int} {p:List Int} {l:Fact}:Kp a p l=true↔(Ah l).1.arg=a/\(Ah l).1.path=p:=by
 rw[Kp,A4,C1,C1]
def ke {w:AG} {ls:List Fact} (hl: ∀l∈ls,Df w l) (a:Int) (p:List Int):(O5 ls a p).isSome=true↔ ∃m,(-1000000000<=m/\m<=1000000000)/\ ∀l∈ls,(Ah l).1.arg=a->(Ah l).1.path=p->Dk (.int m) (Ah l).1= !(Ah l).2:=by
 have hL: ∀l∈ls.filter (Kp a p),Df w l:=fun l h=>hl l (Kj.1 h).1
 rw[O5];constructor
 .intro h
  cases hf:foldI (ls.filter (Kp a p)) t0 with
  | none=>rw[hf]at h;cases h
  | some t=>
    rw[hf]at h;obtain⟨m,hm⟩:=(SW t).1 h;obtain⟨h1,h2⟩:=(Ka m _ t0 hL).1 ⟨t,hf,hm⟩;exact⟨m,⟨h1.1,h1.2.1⟩,fun l h3 h4 h5=>h2 l (Kj.2 ⟨h3,EW.2 ⟨h4,h5⟩⟩)⟩
 .rintro⟨m,h1,h2⟩
  obtain⟨t,h3,h4⟩:=(Ka m (ls.filter (Kp a p)) t0 hL).2 ⟨⟨h1.1,h1.2,by simp[t0]⟩,fun l h=>by
   obtain⟨h5,h6⟩:=Kj.1 h
   exact h2 l h5 (EW.1 h6).1 (EW.1 h6).2⟩
  rw[h3];exact(SW t).2 ⟨m,h4⟩
def EV {ls:List Fact} {a:Int} {p:List Int}:E2 ls a p=true↔ ∀l∈ls,(Ah l).1.arg=a-> ∀q,(Ah l).1.path=p++q->(Ah l).2=true:=by
 rw[E2,Dj];constructor
 .intro h l hl ha q hq
  have:=h l hl;rw[EP]at this;rcases this with h1|h1
  .exact h1
  .rw[ha,hq]at h1
   have h2:Bj (p++q) p=true:=B1.2 ⟨q,rfl⟩;simp[h2]at h1
 .intro h l hl
  rw[EP];by_cases h1:(Ah l).1.arg=a/\Bj (Ah l).1.path p=true
  .obtain⟨q,hq⟩:=B1.1 h1.2
   exact .inl (h l hl h1.1 q hq)
  .right
   simp only[Bool.not_eq_true',Bool.and_eq_false_iff,beq_eq_false_iff_ne];rcases Classical.em ((Ah l).1.arg=a)with e|e
   .exact .inr (by simpa[e]using h1)
   .exact .inl e
def KO {w:AG} {ls:List Fact} (hl: ∀l∈ls,Df w l) {a:Int} {p:List Int} {s:Int}:s∈Cr w.owner.length ls a p↔ ∃l∈ls,(Ah l).1.arg=a/\ ∃q,(Ah l).1.path=p++s::q:=by
 rw[Cr,Kj,Gx,C8];constructor
 .rintro⟨-,l,h1,h2⟩
  rw[qF,A4,C1]at h2;obtain⟨q,hq⟩:=B1.1 h2.2;exact⟨l,h1,h2.1,q,by rw[hq];simp⟩
 .rintro⟨l,h1,h2,q,hq⟩
  refine⟨(hl l h1).path s (by rw[hq];simp),l,h1,?_⟩;rw[qF,A4,C1];exact⟨h2,B1.2 ⟨q,by rw[hq];simp⟩⟩
def Ww {w:AG} {ls:List Fact} (hl: ∀l∈ls,Df w l) {a:Int} {p:List Int}:G0 w.owner.length ls a p=true↔ ∀l∈ls,(Ah l).1.arg=a-> ∀s q,(Ah l).1.path=p++s::q->(Ah l).2=true:=by
 rw[G0,Dj];constructor
 .intro h l h1 h2 s q hq
  exact EV.1 (h s ((KO hl).2 ⟨l,h1,h2,q,hq⟩)) l h1 h2 q (by rw[hq];simp)
 .intro h s _
  exact EV.2 fun l h1 h2 q hq=>h l h1 h2 s q (by rw[hq];simp)
def Jf {w:AG} (hw:He w) {s:Int} (h:0<=s/\s<(w.owner.length:Int)):3<=Bh w s/\Bh w s<3+w.parents.length:=by
 have hs:s.toNat<w.owner.length:=by omega
 have:Bh w s=w.owner[s.toNat]:=by rw[Bh,DK,Dp hs];rfl
 rw[this];exact hw.own _ (List.getElem_mem hs)
def qK (t:BB) (C:Nat->Bool):Prop:=(∀c,t.1.getD c false=true->c=0\/C c=true)/\ ∀c,t.2.getD c false=true->c≠0/\C c=false
def TY (t t':BB):Prop:=t.1.length=t'.1.length/\t.2.length=t'.2.length/\(∀c,t.1.getD c false=true->t'.1.getD c false=true)/\ ∀c,t.2.getD c false=true->t'.2.getD c false=true
def TY.mO {t:BB}:TY t t:=⟨rfl,rfl,fun _ h=>h,fun _ h=>h⟩
def TY.trans {t u v:BB} (h:TY t u) (k:TY u v):TY t v:=⟨h.1.trans k.1,h.2.1.trans k.2.1,fun c hc=>k.2.2.1 c (h.2.2.1 c hc),fun c hc=>k.2.2.2 c (h.2.2.2 c hc)⟩
def Mb {l:List Bool} {c b:Nat} (h:(l.set c true).getD b false=true):l.getD b false=true\/b=c:=by
 by_cases e:b=c
 .exact .inr e
 .rw[DK,List.getElem?_set_ne (fun h=>e h.symm),<-DK]at h
  exact .inl h
def Md {l:List Bool} {c b:Nat} (h:l.getD b false=true):(l.set c true).getD b false=true:=by
 by_cases e:c<l.length
 .rw[E9 e]
  split
  .rfl
  .exact h
 .rw[List.set_eq_of_length_le (by omega)];exact h
def Mc {l:List Bool} {c:Nat} (h:c<l.length):(l.set c true).getD c false=true:=by
 rw[E9 h,if_pos rfl]
def TY.set1 {t:BB} (c:Nat):TY t (t.1.set c true,t.2):=⟨by simp,rfl,fun _ h=>Md h,fun _ h=>h⟩
def TY.set2 {t:BB} (c:Nat):TY t (t.1,t.2.set c true):=⟨rfl,by simp,fun _ h=>h,fun _ h=>Md h⟩
def YC (t:BB) (f:Fact) (b:Bool):Prop:=if f.op≠2\/f.cls=1\/f.cls=2 then b=true else if b then t.2.getD f.cls.toNat false=true else t.1.getD f.cls.toNat false=true
def TK {t t':BB} (h:TY t t') {f:Fact} {b:Bool} (k:YC t f b):YC t' f b:=by
 unfold YC at *;split
 .rename_i h1;rw[if_pos h1]at k;exact k
 .rename_i h1;rw[if_neg h1]at k
  split
  .rename_i h2;rw[if_pos h2]at k;exact h.2.2.2 _ k
  .rename_i h2;rw[if_neg h2]at k;exact h.2.2.1 _ k
def jd {w:AG} {l:Fact} (hl:Df w l) {t t':BB} (hn:t.1.length=3+w.parents.length/\t.2.length=3+w.parents.length) (h:OV (Ah l) t=some t'):TY t t'/\YC t' (Ah l).1 (Ah l).2:=by
 have hc:=hl.cls;generalize Ah l=x at *;obtain⟨f,b⟩:=x;simp only[OV,YC]at *;split at h
 .rename_i h1
  rw[if_pos h1];cases b
  .cases h
  .obtain rfl:=Option.some.inj h
   exact⟨TY.mO,rfl⟩
 .rename_i h1
  rw[if_neg h1]
  have h2:f.op=2:=by
   rcases Classical.em (f.op=2)with e|e
   .exact e
   .exact absurd (Or.inl e) h1
  have:=hc h2;cases b
  .obtain rfl:=Option.some.inj h
   exact⟨.set1 _,by rw[if_neg (by decide)];exact Mc (by omega)⟩
  .obtain rfl:=Option.some.inj h
   exact⟨.set2 _,by rw[if_pos rfl];exact Mc (by omega)⟩
def cL {w:AG} {l:Fact} (hl:Df w l) {t:BB} {C:Nat->Bool} {kid:Int->F3} (hi:qK t C) (h:Dk (.obj C kid) (Ah l).1= !(Ah l).2): ∃t',OV (Ah l) t=some t'/\qK t' C:=by
 have hc:=hl.cls;generalize Ah l=x at *;obtain⟨f,b⟩:=x;simp only[OV,Dk]at *;by_cases h1:f.op≠2\/f.cls=1\/f.cls=2
 .rw[if_pos h1]
  have h2:(f.op==2&&(f.cls==0||(decide (3<=f.cls)&&C f.cls.toNat)))=false:=by
   rcases h1 with h1|h1|h1
   .simp[h1]
   .simp[h1]
   .simp[h1]
  rw[h2]at h;cases b
  .cases h
  .exact⟨t,rfl,hi⟩
 .rw [if_neg h1]
  have h2:f.op=2:=by
   rcases Classical.em (f.op=2)with e|e
   .exact e
   .exact absurd (Or.inl e) h1
  have hr:=hc h2;have h3:f.cls≠1/\f.cls≠2:=⟨fun e=>h1 (.inr (.inl e)),fun e=>h1 (.inr (.inr e))⟩
  have h4:(f.op==2&&(f.cls==0||(decide (3<=f.cls)&&C f.cls.toNat)))=(decide (f.cls=0)||C f.cls.toNat):=by
   rw[h2];rcases Classical.em (f.cls=0)with e|e
   .simp[e]
   .have:3<=f.cls:=by omega
    simp[e,this]
  rw[h4]at h;cases b
  .refine⟨_,rfl,fun c hh=>?_,hi.2⟩
   rcases Mb hh with hh|rfl
   .exact hi.1 c hh
   .simp only[Bool.not_false,EP,Cp]at h
    rcases h with h|h
    .exact .inl (by omega)
    .exact .inr h
  .refine⟨_,rfl,hi.1,fun c hh=>?_⟩
   rcases Mb hh with hh|rfl
   .exact hi.2 c hh
   .simp only[Bool.not_true,Bool.or_eq_false_iff,decide_eq_false_iff_not]at h
    exact⟨by omega,h.2⟩
def Qa {w:AG}: ∀(os:List Fact) {t t':BB},(∀l∈os,Df w l)->(t.1.length=3+w.parents.length/\t.2.length=3+w.parents.length)->K0 os t=some t'->TY t t'/\ ∀l∈os,YC t' (Ah l).1 (Ah l).2
 | [],t,t',_,_,h=>by
   obtain rfl:=Option.some.inj h;exact⟨TY.mO,fun l hl=>by cases hl⟩
 | x::r,t,t',hl,hn,h=>by
   rw[K0,Option.bind_eq_some_iff]at h;obtain⟨u,h1,h2⟩:=h;obtain⟨h3,h4⟩:=jd (hl x (.head _)) hn h1;obtain⟨h5,h6⟩:=Qa r (fun l h=>hl l (.tail _ h)) ⟨by rw[<-h3.1];exact hn.1,by rw[<-h3.2.1];exact hn.2⟩ h2;refine⟨h3.trans h5,fun l h=>?_⟩;rcases Fg.1 h with rfl|h
   .exact TK h5 h4
   .exact h6 l h
def S4 {w:AG} {C:Nat->Bool} {kid:Int->F3}: ∀(os:List Fact) {t:BB},(∀l∈os,Df w l)->qK t C->(∀l∈os,Dk (.obj C kid) (Ah l).1= !(Ah l).2)-> ∃t',K0 os t=some t'/\qK t' C
 | [],t,_,hi,_=>⟨t,rfl,hi⟩
 | x::r,t,hl,hi,h=>by
   obtain⟨u,h1,h2⟩:=cL (hl x (.head _)) hi (h x (.head _));obtain⟨t',h3,h4⟩:=S4 r (fun l h=>hl l (.tail _ h)) h2 fun l hh=>h l (.tail _ hh)
   exact⟨t',by rw[K0,h1];exact h3,h4⟩
def sI (w:AG) (ls:List Fact) (a:Int) (p:List Int) (can:Int->Bool) (s:Int) (t:BB):Prop:=
 (E2 ls a (p++[s])=false->t.1.getD (Bh w s).toNat false=true/\can s=true)/\(can s=false->t.2.getD (Bh w s).toNat false=true)
def QZ {w:AG} (hw:He w) {ls:List Fact} {a:Int} {p:List Int} {can:Int->Bool}: ∀(sl:List Int) {t t':BB},(∀s∈sl,0<=s/\s<(w.owner.length:Int))->(t.1.length=3+w.parents.length/\t.2.length=3+w.parents.length)->Ky w ls a p can sl t=some t'->TY t t'/\ ∀s∈sl,sI w ls a p can s t'
 | [],t,t',_,_,h=>by
   obtain rfl:=Option.some.inj h;exact⟨TY.mO,fun l hl=>by cases hl⟩
 | s ::r,t,t',hs,hn,h=>by
   rw[Ky,Option.bind_eq_some_iff]at h;obtain⟨u,h1,h2⟩:=h;have ho:=Jf hw (hs s (.head _))
   have h3:TY t u/\sI w ls a p can s u:=by
    rw[Ve]at h1;split at h1
    .cases h1
    .rename_i hne
     obtain rfl:=Option.some.inj h1;simp only[sI];cases hb:E2 ls a (p++[s])<;>cases hc:can s
     .simp[hb,hc]at hne
     .exact⟨⟨by simp,rfl,fun c h=>Md h,fun c h=>h⟩,fun _=>⟨Mc (by omega),rfl⟩,fun h=>(by cases h)⟩
     .exact⟨⟨rfl,by simp,fun c h=>h,fun c h=>Md h⟩,fun h=>(by cases h),fun _=>Mc (by omega)⟩
     .exact⟨TY.mO,fun h=>(by cases h),fun h=>(by cases h)⟩
   obtain⟨h5,h6⟩:=QZ hw r (fun l h=>hs l (.tail _ h)) ⟨by rw[<-h3.1.1];exact hn.1,by rw[<-h3.1.2.1];exact hn.2⟩ h2;refine⟨h3.1.trans h5,fun l h=>?_⟩;rcases Fg.1 h with rfl|h
   .exact⟨fun hb=>⟨h5.2.2.1 _ (h3.2.1 hb).1,(h3.2.1 hb).2⟩,fun hc=>h5.2.2.2 _ (h3.2.2 hc)⟩
   .exact h6 l h
def S3 {w : AG} (hw:He w) {ls:List Fact} {a:Int} {p:List Int} {can:Int->Bool} {C:Nat->Bool}: ∀(sl:List Int) {t:BB},(∀s∈sl,0<=s/\s<(w.owner.length:Int))->qK t C->
    (∀s∈sl,(E2 ls a (p++[s])=false->C (Bh w s).toNat=true)/\(C (Bh w s).toNat=true->can s=true))-> ∃t',Ky w ls a p can sl t=some t'/\qK t' C
 | [],t,_,hi,_=>⟨t,rfl,hi⟩
 | s :: r, t,hs,hi,h=>by
   have ho:=Jf hw (hs s (.head _));obtain⟨k1,k2⟩:=h s (.head _)
   have h1 : ∃u,Ve w ls a p can s t=some u/\qK u C:=by
    rw[Ve];cases hb:E2 ls a (p++[s])
    .rw[k2 (k1 hb)]
     refine⟨_,rfl,fun c hh=>?_,hi.2⟩;rcases Mb hh with hh|rfl
     .exact hi.1 c hh
     .exact .inr (k1 hb)
    .cases hc:can s
     .refine⟨_,rfl,hi.1,fun c hh=>?_⟩
      rcases Mb hh with hh|rfl
      .exact hi.2 c hh
      .refine⟨by omega,?_⟩
       rw[<-Bool.not_eq_true];intro e;rw[k2 e]at hc;cases hc
     .exact⟨_,rfl,hi⟩
   obtain⟨u,h2,h3⟩:=h1;obtain⟨t',h4,h5⟩:=S3 hw r (fun l h=>hs l (.tail _ h)) h3 fun l hh=>h l (.tail _ hh)
   exact⟨t',by rw[Ky,h2];exact h4,h5⟩
def nZ {w:AG} {C:Nat->Bool}:qK (tO w) C:=by
 have: ∀c,(List.replicate (3+w.parents.length) false).getD c false=false:=fun c=>by
  rw[DK];cases h:(List.replicate (3+w.parents.length) false)[c]? with
  | none=>rfl
  | some b=>rw[List.eq_of_mem_replicate (Cm h)];rfl
 exact⟨fun c h=>absurd ((this c).symm.trans h) (by decide),fun c h=>absurd ((this c).symm.trans h) (by decide)⟩
def TG {g:List (List Int)} (ho:ordered g) {C:Nat->Bool} (hC: ∀c,3<=c->C c=true-> ∀q∈par g c,C q.toNat=true): ∀d b:Nat,3<=d->C d=true->GA g d b=true->C b=true:=by
 intro d
 induction d using Nat.strongRecOn with
 | _ d ih=>
   intro b h3 hd h;rw[D0 ho]at h;simp only[EP,C1,Gx]at h;rcases h with rfl|⟨p,hp,h⟩
   .exact hd
   .have:=ho d p hp
    exact ih p.toNat (by omega) b (by omega) (hC d h3 hd p hp) h
def kE {w : AG} (hw : He w) {ls:List Fact} (hl: ∀l∈ls,Df w l) {a:Int} {p:List Int} {can:Int->Bool} {T:Int->F3->Prop} (hcan: ∀s,s∈Cr w.owner.length ls a p->(can s=true↔ ∃t,Ex w t/\T s t))
    (hT: ∀s t,T s t↔ ∀l∈ls,(Ah l).1.arg=a-> ∀q,(Ah l).1.path=p++s::q->JN w t q (Ah l).1= !(Ah l).2) :
    (VI w ls a p can).isSome=true↔ ∃C kid,Ex w (.obj C kid)/\ ∀l∈ls,(Ah l).1.arg=a-> ∀q,(Ah l).1.path=p++q->JN w (.obj C kid) q (Ah l).1= !(Ah l).2:=by
 have hL: ∀l∈ls.filter (Kp a p),Df w l:=fun l h=>hl l (Kj.1 h).1
 have hS: ∀s∈Cr w.owner.length ls a p,0<=s/\s<(w.owner.length:Int):=fun s h=>IC h
 have hn0:(tO w).1.length=3+w.parents.length/\(tO w).2.length=3+w.parents.length:=by simp[tO]
 constructor
 .intro h
  rw[VI]at h;cases h1:K0 (ls.filter (Kp a p)) (tO w)with
  | none=>rw[h1]at h;cases h
  | some t=>
    rw[h1,Option.bind_some]at h;obtain⟨g1,g2⟩:=Qa _ hL hn0 h1;have hn1:t.1.length=3+w.parents.length/\t.2.length=3+w.parents.length:=⟨by rw[<-g1.1];exact hn0.1,by rw[<-g1.2.1];exact hn0.2⟩
    cases h2:Ky w ls a p can (Cr w.owner.length ls a p) t with
    | none=>rw[h2]at h;cases h
    | some u=>
      rw[h2,Option.bind_some,fh]at h;obtain⟨g3,g4⟩:=QZ hw _ hS hn1 h2;have hn2:u.1.length=3+w.parents.length/\u.2.length=3+w.parents.length:=⟨by rw[<-g3.1];exact hn1.1,by rw[<-g3.2.1];exact hn1.2⟩
      split at h
      .cases h
      .rename_i h0
       split at h
       .cases h
       .rename_i h3
        clear h;have hSl:(u.1.set 0 false).length=3+w.parents.length:=by simpa using hn2.1
        generalize hSd:C0 w.parents (3+w.parents.length) w.parents.length (u.1.set 0 false)=S at *
        have hin: ∀c,3<=c->u.1.getD c false=true->S.getD c false=true:=fun c hc h=>by
         rw[<-hSd];refine Jx hw.ord hSl _ _ ?_;rw[DK,List.getElem?_set_ne (by omega),<-DK];exact h
        have hdis: ∀c,S.getD c false=true->u.2.getD c false=true->False:=fun c k1 k2=>by
         have hc:c<3+w.parents.length:=by
          rcases Nat.lt_or_ge c (3+w.parents.length)with h|h
          .exact h
          .rw[DK,List.getElem?_eq_none (by omega)]at k2
           cases k2
         refine h3 (Gx.2 ⟨c,List.mem_range.2 hc,?_⟩);rw[k1,k2];rfl
        have hkid: ∀s,∃t,Ex w t/\((∃t,Ex w t/\T s t)->T s t):=fun s=>by
         rcases Classical.em (∃t,Ex w t/\T s t)with⟨t,k1,k2⟩|k
         .exact⟨t,k1,fun _=>k2⟩
         .exact⟨.HY,trivial,fun h=>absurd h k⟩
        refine⟨fun c=>S.getD c false,fun s=>Classical.choose (hkid s),⟨fun c hc h q hq=>?_,fun s=>(Classical.choose_spec (hkid s)).1⟩,fun l h1 h2 q hq=>?_⟩
        .change S.getD c false=true at h
         change S.getD q.toNat false=true
         have hcl:c<3+w.parents.length:=by
          rcases Nat.lt_or_ge c (3+w.parents.length)with h'|h'
          .exact h'
          .rw[DK,List.getElem?_eq_none (by rw[<-hSd,FW];omega)]at h
           cases h
         rw[<-hSd]at h ⊢;exact HW hw.ord hSl _ c (by omega) (by omega) h q hq
        .cases q with
         | nil =>
           have k:=g2 l (Kj.2 ⟨h1,EW.2 ⟨h2,by simpa using hq⟩⟩);have k:=TK g3 k;have hc:=(hl l h1).cls;generalize Ah l=x at *;obtain⟨f,b⟩:=x;simp only[JN,Dk,YC]at *;by_cases e1:f.op≠2\/f.cls=1\/f.cls=2
           .rw[if_pos e1]at k
            subst k;rcases e1 with e1|e1|e1
            .simp[e1]
            .simp[e1]
            .simp[e1]
           .rw [if_neg e1]at k
            have e2:f.op=2:=by
             rcases Classical.em (f.op=2)with e|e
             .exact e
             .exact absurd (Or.inl e) e1
            have hr:=hc e2;have e3:f.cls≠1/\f.cls≠2:=⟨fun e=>e1 (.inr (.inl e)),fun e=>e1 (.inr (.inr e))⟩
            rw[e2];rcases Classical.em (f.cls=0)with e|e
            .rw[e]at k ⊢
             cases b
             .rfl
             .exfalso;exact h0 k
            .have e4:(f.cls==0)=false:=by simpa using e
             have e5:decide (3<=f.cls)=true:=decide_eq_true (by omega);rw[e4,e5];cases b
             .rw[if_neg (by decide)]at k
              rw[hin _ (by omega) k];rfl
             .rw[if_pos rfl]at k
              have:S.getD f.cls.toNat false=false:=by
               rw[<-Bool.not_eq_true];exact fun e=>hdis _ e k
              rw[this];rfl
         | cons s q=>
           have hs:s∈Cr w.owner.length ls a p:=(KO hl).2 ⟨l,h1,h2,q,hq⟩;have hso:=Jf hw (hS s hs);obtain⟨k1,k2⟩:=g4 s hs;simp only[JN];cases hm:S.getD (Bh w s).toNat false
           .rw[Bool.false_and]
            cases hb:E2 ls a (p++[s])
            .have:=hin _ (by omega) (k1 hb).1
             rw[hm]at this;cases this
            .rw[EV.1 hb l h1 h2 q (by rw[hq];simp)];rfl
           .rw[Du]
            cases hc:can s
            .exact absurd (k2 hc) fun e=>hdis _ hm e
            .exact(hT s _).1 ((Classical.choose_spec (hkid s)).2 ((hcan s hs).1 hc)) l h1 h2 q hq
 .rintro ⟨C,kid,⟨hC,U⟩,h⟩
  obtain⟨t,h1,h2⟩:=S4 (C:=C) (kid:=kid) (ls.filter (Kp a p)) (t:=tO w) hL nZ fun l k=>by
   obtain⟨k1,k2⟩:=Kj.1 k;obtain⟨k3,k4⟩:=EW.1 k2;exact h l k1 k3 [] (by simpa using k4)
  obtain ⟨u,h3,h4⟩:=S3 hw (C:=C) (can:=can) (ls:=ls) (a:=a) (p:=p) (Cr w.owner.length ls a p) (t:=t) hS h2 fun s hs=>by
   constructor
   .intro hb
    cases e:C (Bh w s).toNat
    .rw[EV.2 fun l k1 k2 q hq=>by
      have:=h l k1 k2 (s::q) (by rw[hq];simp);simp only[JN,e,Bool.false_and]at this
      simpa using this.symm]at hb
     cases hb
    .rfl
   .intro e
    refine(hcan s hs).2 ⟨kid s,U s,(hT s _).2 fun l k1 k2 q hq=>?_⟩;have:=h l k1 k2 (s::q) hq;simpa only[JN,e,Du]using this
  rw[VI,h1,Option.bind_some,h3,Option.bind_some,fh]
  have h0:u.2.getD 0 false=false:=by
   rw[<-Bool.not_eq_true];exact fun e=>(h4.2 0 e).1 rfl
  rw[h0,if_neg (by decide),if_neg]
  .rfl
  .rw [Gx]
   rintro⟨c,-,hc⟩;rw[A4]at hc;have q1:=(Qa _ hL hn0 h1).1;have q2:=(QZ hw _ hS ⟨by rw[<-q1.1];exact hn0.1,by rw[<-q1.2.1];exact hn0.2⟩ h3).1;have hlen:(u.1.set 0 false).length=3+w.parents.length:=by rw[List.length_set,<-q2.1,<-q1.1];exact hn0.1
   obtain⟨d,k1,k2⟩:=GJ hw.ord hlen _ _ hc.1
   have hd0:d≠0:=by
    rintro rfl;rw[DK,List.getElem?_set_self (by rw[List.length_set]at hlen;omega)]at k1;cases k1
   rw[DK,List.getElem?_set_ne (fun e=>hd0 e.symm),<-DK]at k1;have hCd:C d=true:=(h4.1 d k1).resolve_left hd0
   have hCc:C c=true:=by
    rcases Nat.lt_or_ge d 3 with hd|hd
    .rw[D0 hw.ord,show par w.parents d= [] from if_pos hd]at k2
     simp only[List.any_nil,Bool.or_false,C1]at k2;subst k2;exact hCd
    .exact TG hw.ord hC d c hd hCd k2
   have:=(h4.2 c hc.2).2;rw[hCc]at this;cases this
def TT (w:AG) (ls:List Fact) (a:Int) (p:List Int) (t:F3):Prop:= ∀l∈ls,(Ah l).1.arg=a-> ∀q,(Ah l).1.path=p++q->JN w t q (Ah l).1= !(Ah l).2
def KT {w:AG} {ls:List Fact} (hl: ∀l∈ls,Df w l) {a:Int} {p:List Int}:JZ w.owner.length ls a p=true↔TT w ls a p .HY:=by
 rw[JZ,A4,Dj,Ww hl];constructor
 .rintro⟨h1,h2⟩ l k1 k2 q hq
  cases q with
  | nil=>
    have:=h1 l (Kj.2 ⟨k1,EW.2 ⟨k2,by simpa using hq⟩⟩);simp only[JN,Dk,SA]at *
    revert this
    cases((Ah l).1.op==2&&((Ah l).1.cls==0||(Ah l).1.cls==2))<;>cases(Ah l).2<;>decide
  | cons s q=>simp[JN,h2 l k1 k2 s q hq]
 .intro h
  refine⟨fun l k=>?_,fun l k1 k2 s q hq=>?_⟩
  .obtain⟨k1,k2⟩:=Kj.1 k
   obtain⟨k3,k4⟩:=EW.1 k2;have:=h l k1 k3 [] (by simpa using k4);simp only[JN,Dk,SA]at *
   revert this
   cases((Ah l).1.op==2&&((Ah l).1.cls==0||(Ah l).1.cls==2))<;>cases(Ah l).2<;>decide
  .have:=h l k1 k2 (s::q) hq
   simpa[JN]using this.symm
def Mp {w:AG} {ls:List Fact} (hl: ∀l∈ls,Df w l) {a:Int} {p:List Int}:((O5 ls a p).isSome&&G0 w.owner.length ls a p)=true↔ ∃m,Ex w (.int m)/\TT w ls a p (.int m):=by
 rw[A4,Ww hl,ke hl];constructor
 .rintro⟨⟨m,h1,h2⟩,h3⟩
  refine⟨m,h1,fun l k1 k2 q hq=>?_⟩;cases q with
  | nil=>exact h2 l k1 k2 (by simpa using hq)
  | cons s q=>simp[JN,h3 l k1 k2 s q hq]
 .rintro⟨m,h1,h2⟩
  refine⟨⟨m,h1,fun l k1 k2 k3=>h2 l k1 k2 [] (by simpa using k3)⟩,fun l k1 k2 s q hq=>?_⟩;have:=h2 l k1 k2 (s::q) hq;simpa[JN]using this.symm
def bJ {w:AG} (hw:He w) {ls:List Fact} (hl: ∀l∈ls,Df w l) {a:Int} {p:List Int} {can:Int->Bool} (hcan: ∀s,s∈Cr w.owner.length ls a p->(can s=true↔ ∃t,Ex w t/\TT w ls a (p++[s]) t)) :
    (((O5 ls a p).isSome&&G0 w.owner.length ls a p)||(JZ w.owner.length ls a p||(VI w ls a p can).isSome))=true↔ ∃t,Ex w t/\TT w ls a p t:=by
 rw[EP,EP,Mp hl,KT hl,kE hw hl (T:=fun s t=>TT w ls a (p++[s]) t) hcan fun s t=>by simp only[TT,Ph,List.singleton_append]];constructor
 .rintro(⟨m,h1,h2⟩|h|⟨C,kid,h1,h2⟩)
  .exact⟨_,h1,h2⟩
  .exact⟨.HY,trivial,h⟩
  .exact⟨_,h1,h2⟩
 .rintro⟨t,h1,h2⟩
  cases t with
  | int m=>exact .inl ⟨m,h1,h2⟩
  | HY=>exact .inr (.inl h2)
  | obj C kid=>exact .inr (.inr ⟨C,kid,h1,h2⟩)
def Jt {w:AG} (hw:He w) {ls:List Fact} (hl: ∀l∈ls,Df w l) (a:Int): ∀(d:Nat) (p:List Int),p.length+d=2->(Tm w ls a d p=true↔ ∃t,Ex w t/\TT w ls a p t)
 | 0,p,hp=>by
   rw[Tm];refine bJ hw hl fun s hs=>?_
   rw[N3 (m:=2) (fun l h=>(hl l h).short) (by omega)]at hs;cases hs
 | d+1,p,hp=>by
   rw[Tm];exact bJ hw hl fun s hs=>Jt hw hl a d (p++[s]) (by simp;omega)
def Fh (w:AG) (M:Int->F3) (l:Fact):Prop:=JN w (M (Ah l).1.arg) (Ah l).1.path (Ah l).1= !(Ah l).2
def MZ {w:AG} (hw:He w) {ls:List Fact} (hl: ∀l∈ls,Df w l):EG w ls=true↔ ∃M:Int->F3,(∀a,Ex w (M a))/\ ∀l∈ls,Fh w M l:=by
 rw[EG,Dj];constructor
 .intro h
  have hk: ∀a:Int,∃t,Ex w t/\(0<=a/\a<3->TT w ls a [] t):=fun a=>by
   rcases Classical.em (0<=a/\a<3)with e|e
   .obtain⟨t,h1,h2⟩:=(Jt hw hl a 2 [] rfl).1 (h a (C8.2 e))
    exact⟨t,h1,fun _=>h2⟩
   .exact⟨.HY,trivial,fun k=>absurd k e⟩
  exact⟨fun a=>Classical.choose (hk a),fun a=>(Classical.choose_spec (hk a)).1,fun l k=>(Classical.choose_spec (hk (Ah l).1.arg)).2 (hl l k).arg l k rfl _ rfl⟩
 .rintro⟨M,h1,h2⟩ a _
  refine(Jt hw hl a 2 [] rfl).2 ⟨M a,h1 a,fun l k1 k2 q hq=>?_⟩;have:=h2 l k1;rw[Fh,k2]at this;rw[List.nil_append]at hq;rw[<-hq];exact this
def VE (w:AG) (M:Int->F3) (f:Fact) (l:List Bool):Bool:=
 if f.op=1 then true else if f.op=5 then !l.getD 0 false else if f.op=6 then l.getD 0 false&&l.getD 1 false else if f.op=7 then l.getD 0 false||l.getD 1 false else JN w (M f.arg) f.path f
def O1 (w:AG) (M:Int->F3) (f:Fact):Bool:=f.Hm (VE w M)
def LM (w:AG) (M:Int->F3) (f:Fact):O1 w M f=VE w M f (f.kids.map (O1 w M)):=Fact.Dn (VE w M) f
def Mo (a:List Fact) (Q:Fact->Prop): ∀b:List Fact,(∀x∈Cz a b,Q x)↔(∀x∈a,Q x)/\ ∀x∈b,Q x:=by
 intro b
 induction b generalizing a with
 | nil=>simp[Cz]
 | cons y r ih=>
   rw[Cz,ih];split
   .rename_i h
    obtain⟨z,h1,h2⟩:=Gx.1 h;have:=(N5 y z).1 h2;subst this;simp only[List.forall_mem_cons];constructor
    .rintro⟨h3,h4⟩;exact⟨h3,h3 _ h1,h4⟩
    .rintro⟨h3,_,h4⟩;exact⟨h3,h4⟩
   .simp only[List.forall_mem_append,List.forall_mem_cons,List.forall_mem_nil]
    constructor
    .rintro⟨⟨h1,h2,_⟩,h3⟩;exact⟨h1,h2,h3⟩
    .rintro⟨h1,h2,h3⟩;exact⟨⟨h1,h2,fun _ h=>by cases h⟩,h3⟩
def Ep {w : AG} {M:Int->F3} (f:Fact):A6 w f=true-> ∀c,(∃l∈Bb f c,∀x∈l,Fh w M x)↔O1 w M f= !c:=by
 induction f using Fact.ind with
 | h f ih=>
   intro h c;have har:=B5 f h;have h':=h;rw[CA,A4,Dj]at h';rw[FR,HR,LM,VE];by_cases h1:f.op=1
   .rw[if_pos h1,if_pos h1]
    cases c<;>simp
   rw[if_neg h1,if_neg h1];by_cases h5:f.op=5
   .obtain⟨a,ha,hb⟩:=Fe har h5
    rw[if_pos h5,if_pos h5,ha];have:=ih a (by rw[ha];exact .head _) (h'.2 a (by rw[ha];exact .head _)) (!c);simp only[EZ,List.map_nil,List.getD_cons_zero];rw[this];cases O1 w M a<;>cases c<;>decide
   rw[if_neg h5,if_neg h5];by_cases h6:f.op=6\/f.op=7
   .obtain⟨a,b,ha,hb1,hb2⟩:=Fc har h6
    rw[if_pos h6,ha];have i1:=ih a (by rw[ha];exact .head _) (h'.2 a (by rw[ha];exact .head _)) c;have j1:=ih b (by rw[ha];exact .tail _ (.head _)) (h'.2 b (by rw[ha];exact .tail _ (.head _))) c;simp only[EZ,List.map_nil,List.getD_cons_zero,List.getD_cons_succ]
    have happ:(∃l∈Bb a c++Bb b c,∀x∈l,Fh w M x)↔O1 w M a= !c\/O1 w M b= !c:=by
     rw[<-i1,<-j1];constructor
     .rintro⟨l,hl,hx⟩
      rcases Ds.1 hl with hl|hl
      .exact .inl ⟨l,hl,hx⟩
      .exact .inr ⟨l,hl,hx⟩
     .rintro(⟨l,hl,hx⟩|⟨l,hl,hx⟩)
      .exact⟨l,OT _ hl,hx⟩
      .exact⟨l,NO _ hl,hx⟩
    have hprod:(∃l∈Fj (Bb a c) (Bb b c),∀x∈l,Fh w M x)↔O1 w M a= !c/\O1 w M b= !c:=by
     rw[<-i1,<-j1];simp only[Fj,List.mem_flatMap,Hc];constructor
     .rintro⟨l,⟨y,hy,z,hz,rfl⟩,hx⟩
      rw[Mo]at hx;exact⟨⟨y,hy,hx.1⟩,z,hz,hx.2⟩
     .rintro⟨⟨y,hy,h1⟩,z,hz,h2⟩
      exact⟨_,⟨y,hy,z,hz,rfl⟩,(Mo y _ z).2 ⟨h1,h2⟩⟩
    rcases h6 with h6|h6
    .rw[if_pos h6,h6]
     cases c
     .rw[if_neg (by decide),hprod]
      simp
     .rw[if_pos (by decide),happ]
      simp only[Bool.not_true,Bool.and_eq_false_iff]
    .rw[if_neg (by omega: ¬f.op=6),if_pos h6,h6]
     cases c
     .rw[if_pos (by decide),happ]
      simp
     .rw[if_neg (by decide),hprod]
      simp only[Bool.not_true,Bool.or_eq_false_iff]
   .rw[if_neg h6,if_neg (fun e=>h6 (.inl e)),if_neg (fun e=>h6 (.inr e))]
    have e1:Fh w M f↔JN w (M f.arg) f.path f=true:=by rw[Fh,Ah,if_neg h5];exact Iff.rfl
    have e2:Fh w M (Ey f)↔JN w (M f.arg) f.path f=false:=by
     rw[Fh,show Ah (Ey f)=(f,true) from rfl];exact Iff.rfl
    cases c
    .simp[e1]
    .simp[e2]
def jw {w:AG} (hw:He w) {f:Fact} (hn:A6 w f=true):X5 w f=true↔ ∃M:Int->F3,(∀a,Ex w (M a))/\O1 w M f=true:=by
 rw[X5,Gx];constructor
 .rintro⟨l,h1,h2⟩
  obtain⟨M,h3,h4⟩:=(MZ hw fun x hx=>G5 (EA f hn false l h1 x hx)).1 h2;exact⟨M,h3,(Ep f hn false).1 ⟨l,h1,h4⟩⟩
 .rintro⟨M,h1,h2⟩
  obtain⟨l,h3,h4⟩:=(Ep f hn false).2 h2;exact⟨l,h3,(MZ hw fun x hx=>G5 (EA f hn false l h3 x hx)).2 ⟨M,h1,h4⟩⟩
def Jq {w:AG} (hw:He w) {a b:Fact} (ha:A6 w a=true) (hb:A6 w b=true):Rw w a b=true↔ ∀M:Int->F3,(∀x,Ex w (M x))->O1 w M a=true->O1 w M b=true:=by
 have he: ∀M,O1 w M (R0 a (Ey b))=(O1 w M a&& !O1 w M b):=fun M=>by
  rw[LM];simp only[VE,R0,Fact.op,Fact.kids,EZ,List.map_nil,List.getD_cons_zero,List.getD_cons_succ];rw[LM w M (Ey b)];simp[VE,Ey,Fact.op,Fact.kids]
 rw[Rw,Bool.not_eq_true',<-Bool.not_eq_true,jw hw (Wd ha hb)];constructor
 .intro h M h1 h2
  rw[<-Bool.not_eq_false];exact fun h3=>h ⟨M,h1,by rw[he,h2,h3];rfl⟩
 .rintro h ⟨M,h1,h2⟩
  rw[he,A4]at h2;rw[h M h1 h2.1]at h2;simp at h2
def imp_trans {w:AG} (hw:He w) {a b c:Fact} (ha:A6 w a=true) (hb:A6 w b=true) (hc:A6 w c=true) (h1:Rw w a b=true) (h2:Rw w b c=true):Rw w a c=true:=
 (Jq hw ha hc).2 fun M hM h=>(Jq hw hb hc).1 h2 M hM ((Jq hw ha hb).1 h1 M hM h)
end Go.Gl
namespace Go.Gl
open Go.Proofs
attribute [local irreducible] Av An Af AQ AL Ac AP AS AK Ab AN AO As A3 Sat AV A0 Ag W
end Go.Gl
namespace Go.Gl
open Go.Proofs
def RF {p:Prog} (hok:Cg p) {i j k:Int} (hi:Ba p i=true) (hj:Ba p j=true) (hk:Ba p k=true) (h1:JJ p i j=true) (h2:JJ p j k=true):JJ p i k=true:=
 imp_trans hok.l5 (hok.facts _ (Cm (Cu hi))).1 (hok.facts _ (Cm (Cu hj))).1 (hok.facts _ (Cm (Cu hk))).1 h1 h2
def ZU {p:Prog} {i j:Int}:Ap p i j=true↔JJ p i j=true/\JJ p j i=false:=by
 rw[Ap,A4,Bool.not_eq_true']
def Re {p:Prog} (i:Int):Ap p i i=false:=by
 rw[Ap];cases JJ p i i<;>rfl
def U5 {p:Prog} (hok:Cg p) {i j k:Int} (hi:Ba p i=true) (hj:Ba p j=true) (hk:Ba p k=true) (h1:Ap p i j=true) (h2:Ap p j k=true):Ap p i k=true:=by
 rw[ZU]at *;refine⟨RF hok hi hj hk h1.1 h2.1,?_⟩;rw[<-Bool.not_eq_true];intro e;have:=RF hok hk hi hj e h1.1;rw[h2.2]at this;cases this
end Go.Gl
namespace Go.Gl
open Go.Proofs
attribute [local irreducible] Av An Af AQ AL Ac AP AS AK Ab AN AO As A3 Sat AV A0 Ag W
def mz (p:Prog) (L:Nat) (m:Int) (hok:Cg p) (hgw:Cq (AI p)) (hfm: ∀x∈p.methods,DL (AI p) x.fact=true) (hm:Ba p m=true) :
    DG zP (.f (.func 266) [] [.rp [TU p L],.rp [eI m]]) eI (fun M=>[.map L (LB p M)]) (fun y M=>(Ap p y m,cF p M y m)) (fun y _=>Ba p y=true):=by
 intro y M hy Z hs;refine BH ?_;show Av zP 266 ([]++[eI y]++[.rp [TU p L],.rp [eI m]]) Z _;refine uf kZ ?_;refine zz ?_;(repeat clear U K);repeat intro K U
 refine(XD p L y m hok hgw hfm hy hm M).use (rest:=[]) (by simpa using hs) ?_;clear hs;rintro r post Z ⟨rfl,rfl⟩ hs;refine zz ?_;(repeat clear U K);repeat intro K U
 exact Ay hs (List.sublist_append_left _ _) (.refl _) fun Z' hs'=>⟨rfl,hs'⟩
def S7 {S:Type} {stp:Int->S->Bool×S} {q:Int->Bool}: ∀(xs:List Int) (k:Nat) (s:S),(∀y∈xs,∀s,(stp y s).1=q y)->(Bp stp xs k s).1=match(List.range xs.length).find? fun i=>q (xs.getD i 0)with|some i=>((k+i:Nat):Int)|none=> -1
 | [],_,_,_=>rfl
 | y ::r,k,s,h=>by
   rw[Bp,h y (.head _)];have ih:=S7 r (k+1) (stp y s).2 fun z hz=>h z (.tail _ hz)
   rw[NM,List.range_succ_eq_map,List.find?_cons,List.getD_cons_zero];cases hq:q y
   .rw[if_neg (by decide),ih]
    simp only[List.find?_map,Function.comp_def,Nat.succ_eq_add_one,List.getD_cons_succ];cases(List.range r.length).find? fun i=>q (r.getD i 0)with
    | none=>rfl
    | some i=>simp only[eY];congr 1;omega
   .rw[if_pos rfl];simp
def x3 (p:Prog) (l:List Int) (m:Int) (M:List (Int×Int)):List (Int×Int):=(Bp (fun y M=>(Ap p y m,cF p M y m)) l 0 M).2
def Zw (p:Prog) (L nb:Nat) (l:List Int) (f:Bool) (hok:Cg p) (hgw:Cq (AI p)) (hfm: ∀x∈p.methods,DL (AI p) x.fact=true) (hl: ∀x∈l,Ba p x=true) :
    DG zP (.f (.func 265) [] [.p nb 0,.rp [TU p L]]) eI (fun M=>[.box nb [.l (iL l) f],.map L (LB p M)]) (fun m M=>(!(decide ((Bp (fun y M=>(Ap p y m,cF p M y m)) l 0 M).1≥0)),x3 p l m M)) (fun m _=>Ba p m=true):=by
 intro m M hm Z hs;refine BH ?_;show Av zP 265 ([]++[eI m]++[.p nb 0,.rp [TU p L]]) Z _;refine ug kZ ?_;refine zz ?_;(repeat clear U K);repeat intro K U
 refine(Gn 266 [] [.rp [TU p L],.rp [eI m]] (fun M=>[.map L (LB p M)]) _ _ (mz p L m hok hgw hfm hm) l f M (HN fun y hy _=>hl y hy)).use (rest:=[_]) (hs.perm (.swap _ _ _)) ?_;clear hs;rintro r post Z ⟨rfl,rfl⟩ hs;refine zz ?_;(repeat clear U K);repeat intro K U
 exact Ay (hs.perm (.swap _ _ _)) (List.Sublist.refl _) (.refl _) fun Z' hs'=>⟨rfl,hs'⟩
def gw {p:Prog} (hok:Cg p): ∀(l:List Int),l≠[]->(∀x∈l,Ba p x=true)-> ∃x∈l,∀y∈l,Ap p y x=false
 | [],h,_=>absurd rfl h
 | x ::r,_,h=>by
   by_cases hr:r= []
   .subst hr
    exact⟨x,.head _,fun y hy=>by rw[Lu.1 hy];exact Re x⟩
   obtain⟨z,hz,hz2⟩:=gw hok r hr fun y hy=>h y (.tail _ hy)
   cases hxz:Ap p x z
   .refine⟨z,.tail _ hz,fun y hy=>?_⟩
    rcases Fg.1 hy with rfl|hy
    .exact hxz
    .exact hz2 y hy
   .refine⟨x,.head _,fun y hy=>?_⟩
    rcases Fg.1 hy with rfl|hy
    .exact Re y
    .rw[<-Bool.not_eq_true]
     intro e;have:=U5 hok (h y (.tail _ hy)) (h x (.head _)) (h z (.tail _ hz)) e hxz;rw[hz2 y hy]at this;cases this
def Sm {p:Prog} (hok:Cg p) {l:List Int} (hl:l≠[]) (h: ∀x∈l,Ba p x=true): ∃i,Te (Ap p) l=some i:=by
 obtain⟨x,hx,hx2⟩:=gw hok l hl h;obtain⟨i,hi⟩:=List.getElem?_of_mem hx;cases hm:Te (Ap p) l with
 | some i=>exact⟨i,rfl⟩
 | none=>
   rw[Te,List.find?_range_eq_none]at hm;have h1:=hm i (JM.1 hi).1
   have h2:VL (Ap p) l i l.length=true:=by
    rw[VL,Dj];intro k hk;rw[Fa hi,hx2 _ (GM (List.mem_range.1 hk))];rfl
   rw[h2]at h1;cases h1
end Go.Gl
namespace Go.Gl
variable {P:Program} {Z:AE}
def xV {L:Nat} {args:List V} {Q:R->AE->Prop} (h:Nd P L args Z Q):As P (.f (.yield L) [] []) args Z Q:=h
def XO {L:Nat} {E:Env} {ps:List Nat} {a b:AT} {args:List V} {l:List At} (hl:args.length=ps.length) (hs:Sat Z (.obj L (.loop .ready E (Bg P ps a b))::l)) {Q:R->AE->Prop}
    (h: ∀Z,Sat Z l->W P a (CU (W P b fun ex env' Z'=>Z' L=none->QG L E (Bg P ps a b) Q ex env' Z')) (Eh ps args E) Z):Nd P L args Z Q:=
 Ll (hs.get (i:=0) rfl) hl (h _ hs.del)
end Go.Gl
