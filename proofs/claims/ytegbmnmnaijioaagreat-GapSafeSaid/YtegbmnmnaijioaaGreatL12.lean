import Derived.Test.YtegbmnmnaijioaaGreatL7
import Derived.Test.YtegbmnmnaijioaaGreatL10
import Derived.Test.YtegbmnmnaijioaaGreatL11
set_option linter.all false
set_option linter.defProp false
noncomputable section
namespace Go.Gl
open Go.Proofs
inductive H2 where
 | int (n:Int)
 | I0
 | obj (AF:Nat->Bool) (kid:Int->H2)
def FR (w:AJ):H2->Prop
 | .int n=> -1000000000<=n/\n<=1000000000
 | .I0=>True
 | .obj AF kid=>(∀c,3<=c->AF c=true-> ∀q∈par w.parents c,AF q.toNat=true)/\ ∀s,FR w (kid s)
def Dw (t:H2) (f:Fact):Bool:=match t with
 | .int n=>if f.op=2 then !decide (f.cls > 1)else if f.op=3 then decide (n<f.n)else decide (n=f.n)
 | .I0=>f.op==2&&(f.cls==0||f.cls==2)
 | .obj AF _=>f.op==2&&(f.cls==0||(decide (3<=f.cls)&&AF f.cls.toNat))
def L0 (w:AJ):H2->List Int->Fact->Bool
 | t,[],f=>Dw t f
 | .obj AF kid,s::r,f=>AF (Bh w s).toNat&&L0 w (kid s) r f
 | _,_::_,_=>false
structure DL (w:AJ) (l:Fact):Prop where
 op:(Ai l).1.op=2\/(Ai l).1.op=3\/(Ai l).1.op=4
 cls:(Ai l).1.op=2->0<=(Ai l).1.cls/\(Ai l).1.cls<3+w.parents.length
 arg:0<=(Ai l).1.arg/\(Ai l).1.arg<3
 path: ∀s∈(Ai l).1.path,(0:Int)<=s/\s<w.owner.length
 short:(Ai l).1.path.length<=2
def E6 {w:AJ} {l:Fact} (h:C1 w l):DL w l:=by
 obtain⟨-,hn,hl⟩:=HM h;have hlo:=E8 hl;have q:=LR (w:=w) (l:=[l]) (fun x hx=>by rw[My.1 hx];exact h);rw[CS,A8]at hn;have hn:=hn.1;simp only[Dx,A8,Cm]at hn;obtain⟨ho,-,ha1,ha2,hp,-⟩:=hn;simp only[IY,A8,Dh,OL,Cm]at hp;exact⟨hlo,q.2.1 l (.head _),⟨ha1,ha2⟩,fun s hs=>hp.1 s hs,hp.2⟩
def oe (t:Int×Int×List Int) (m:Int):Prop:=t.1<=m/\m<=t.2.1/\m∉t.2.2
def aP {w:AJ} {l:Fact} (hl:DL w l) (t:Int×Int×List Int) (m:Int):(∃t',UM (Ai l) t=some t'/\oe t' m)↔oe t m/\Dw (.int m) (Ai l).1= !(Ai l).2:=by
 have h1:=hl.op;generalize Ai l=x at *;obtain⟨f,b⟩:=x;obtain⟨lo,hi,no⟩:=t;simp only[UM,oe,Dw]at *;rcases h1 with h|h|h
 .rw[if_pos h,if_pos h]
  by_cases hc:f.cls > 1<;>cases b<;>simp[hc]
 .have h2: ¬f.op=2:=by omega
  rw[if_neg h2,if_pos h,if_neg h2,if_pos h];cases b
  .simp only[Kc,if_false,II,exists_eq_left',Bool.not_false,Cm]
   split<;>constructor<;>rintro⟨h3,h4⟩
   .exact⟨⟨h3,by omega,h4.2⟩,by omega⟩
   .exact⟨h3.1,by omega,h3.2.2⟩
   .exact⟨⟨h3,h4⟩,by omega⟩
   .exact h3
  .simp only[if_true,II,exists_eq_left',Bool.not_true,decide_eq_false_iff_not]
   split<;>constructor<;>rintro⟨h3,h4⟩
   .exact⟨⟨by omega,h4⟩,by omega⟩
   .exact⟨by omega,h3.2⟩
   .exact⟨⟨h3,h4⟩,by omega⟩
   .exact h3
 .have h2: ¬f.op=2:=by omega
  have h3: ¬f.op=3:=by omega
  rw[if_neg h2,if_neg h3,if_neg h2,if_neg h3];cases b
  .simp only[Kc,if_false,II,exists_eq_left',Bool.not_false,Cm]
   constructor
   .rintro⟨h3,h4,h5⟩
    split at h3<;>split at h4<;>exact⟨⟨by omega,by omega,h5⟩,by omega⟩
   .rintro⟨⟨h3,h4,h5⟩,rfl⟩
    refine⟨?_,?_,h5⟩
    .split<;>omega
    .split<;>omega
  .simp only[if_true,II,exists_eq_left',Bool.not_true,decide_eq_false_iff_not,Dr,My,not_or]
   constructor
   .rintro⟨h3,h4,h5,h6⟩
    exact⟨⟨h3,h4,h5⟩,h6⟩
   .rintro⟨⟨h3,h4,h5⟩,h6⟩
    exact⟨h3,h4,h5,h6⟩
def JP {w:AJ} (m:Int): ∀(os:List Fact) (t:Int×Int×List Int),(∀l∈os,DL w l)->((∃t',foldI os t=some t'/\oe t' m)↔oe t m/\ ∀l∈os,Dw (.int m) (Ai l).1= !(Ai l).2)
 | [],t,_=>by simp[foldI]
 | x ::r,t,h=>by
   have h1:=aP (h x (.head _)) t m;constructor
   .rintro⟨t',h2,h3⟩
    rw[foldI,Option.bind_eq_some_iff]at h2;obtain⟨u,h4,h5⟩:=h2;obtain⟨h6,h7⟩:=(JP m r u fun l hl=>h l (.tail _ hl)).1 ⟨t',h5,h3⟩;obtain⟨h8,h9⟩:=h1.1 ⟨u,h4,h6⟩;refine⟨h8,fun l hl=>?_⟩;rcases Fq.1 hl with rfl|hl
    .exact h9
    .exact h7 l hl
   .rintro⟨h2,h3⟩
    obtain⟨u,h4,h5⟩:=h1.2 ⟨h2,h3 x (.head _)⟩;obtain⟨t',h6,h7⟩:=(JP m r u fun l hl=>h l (.tail _ hl)).2 ⟨h5,fun l hl=>h3 l (.tail _ hl)⟩;exact⟨t',by rw[foldI,h4];exact h6,h7⟩
def Qo (t:Int×Int×List Int):(UN t).isSome=true↔ ∃m,oe t m:=by
 obtain⟨lo,hi,no⟩:=t;rw[UN,MZ];constructor
 .rintro⟨j,h1,h2⟩
  exact⟨lo+j,by simp only[oe]at *;omega,by simp only[]at *;omega,h2⟩
 .rintro⟨m,h1,h2,h3⟩
  dsimp only at h1 h2 h3 ⊢;exact⟨(m - lo).toNat,by omega,by rw[show lo+((m - lo).toNat:Int)=m by omega];exact h3⟩
def D1 {a:Int} {p:List Int} {l:Fact}:Jd a p l=true↔(Ai l).1.arg=a/\(Ai l).1.path=p:=by
 rw[Jd,A8,Cr,Cr]
def iI {w:AJ} {ls:List Fact} (hl: ∀l∈ls,DL w l) (a:Int) (p:List Int):(NZ ls a p).isSome=true↔ ∃m,(-1000000000<=m/\m<=1000000000)/\ ∀l∈ls,(Ai l).1.arg=a->(Ai l).1.path=p->Dw (.int m) (Ai l).1= !(Ai l).2:=by
 have hL: ∀l∈ls.filter (Jd a p),DL w l:=fun l h=>hl l (Jc.1 h).1
 rw[NZ];constructor
 .intro h
  cases hf:foldI (ls.filter (Jd a p)) t0 with
  | none=>rw[hf]at h;cases h
  | some t=>
    rw[hf]at h;obtain⟨m,hm⟩:=(Qo t).1 h;obtain⟨h1,h2⟩:=(JP m _ t0 hL).1 ⟨t,hf,hm⟩;exact⟨m,⟨h1.1,h1.2.1⟩,fun l h3 h4 h5=>h2 l (Jc.2 ⟨h3,D1.2 ⟨h4,h5⟩⟩)⟩
 .rintro⟨m,h1,h2⟩
  obtain⟨t,h3,h4⟩:=(JP m (ls.filter (Jd a p)) t0 hL).2 ⟨⟨h1.1,h1.2,by simp[t0]⟩,fun l h=>by
   obtain⟨h5,h6⟩:=Jc.1 h
   exact h2 l h5 (D1.1 h6).1 (D1.1 h6).2⟩
  rw[h3];exact(Qo t).2 ⟨m,h4⟩
def D0 {ls:List Fact} {a:Int} {p:List Int}:Ec ls a p=true↔ ∀l∈ls,(Ai l).1.arg=a-> ∀q,(Ai l).1.path=p++q->(Ai l).2=true:=by
 rw[Ec,Dh];constructor
 .intro h l hl ha q hq
  have:=h l hl;rw[EJ]at this;rcases this with h1|h1
  .exact h1
  .rw[ha,hq]at h1
   have h2:Be (p++q) p=true:=Bw.2 ⟨q,rfl⟩;simp[h2]at h1
 .intro h l hl
  rw[EJ];by_cases h1:(Ai l).1.arg=a/\Be (Ai l).1.path p=true
  .obtain⟨q,hq⟩:=Bw.1 h1.2
   exact .inl (h l hl h1.1 q hq)
  .right
   simp only[Bool.not_eq_true',Bool.and_eq_false_iff,beq_eq_false_iff_ne];rcases Classical.em ((Ai l).1.arg=a)with e|e
   .exact .inr (by simpa[e]using h1)
   .exact .inl e
def JG {w:AJ} {ls:List Fact} (hl: ∀l∈ls,DL w l) {a:Int} {p:List Int} {s:Int}:s∈Cb w.owner.length ls a p↔ ∃l∈ls,(Ai l).1.arg=a/\ ∃q,(Ai l).1.path=p++s::q:=by
 rw[Cb,Jc,He,Cp];constructor
 .rintro⟨-,l,h1,h2⟩
  rw[nI,A8,Cr]at h2;obtain⟨q,hq⟩:=Bw.1 h2.2;exact⟨l,h1,h2.1,q,by rw[hq];simp⟩
 .rintro⟨l,h1,h2,q,hq⟩
  refine⟨(hl l h1).path s (by rw[hq];simp),l,h1,?_⟩;rw[nI,A8,Cr];exact⟨h2,Bw.2 ⟨q,by rw[hq];simp⟩⟩
def VX {w:AJ} {ls:List Fact} (hl: ∀l∈ls,DL w l) {a:Int} {p:List Int}:GP w.owner.length ls a p=true↔ ∀l∈ls,(Ai l).1.arg=a-> ∀s q,(Ai l).1.path=p++s::q->(Ai l).2=true:=by
 rw[GP,Dh];constructor
 .intro h l h1 h2 s q hq
  exact D0.1 (h s ((JG hl).2 ⟨l,h1,h2,q,hq⟩)) l h1 h2 q (by rw[hq];simp)
 .intro h s _
  exact D0.2 fun l h1 h2 q hq=>h l h1 h2 s q (by rw[hq];simp)
def J2 {w:AJ} (hw:Ju w) {s:Int} (h:0<=s/\s<(w.owner.length:Int)):3<=Bh w s/\Bh w s<3+w.parents.length:=by
 have hs:s.toNat<w.owner.length:=by omega
 have:Bh w s=w.owner[s.toNat]:=by rw[Bh,Ds,ES hs];rfl
 rw[this];exact hw.own _ (List.getElem_mem hs)
def nQ (t:BB) (AF:Nat->Bool):Prop:=(∀c,t.1.getD c false=true->c=0\/AF c=true)/\ ∀c,t.2.getD c false=true->c≠0/\AF c=false
def R5 (t t':BB):Prop:=t.1.length=t'.1.length/\t.2.length=t'.2.length/\(∀c,t.1.getD c false=true->t'.1.getD c false=true)/\ ∀c,t.2.getD c false=true->t'.2.getD c false=true
def R5.jh {t:BB}:R5 t t:=⟨rfl,rfl,fun _ h=>h,fun _ h=>h⟩
def R5.trans {t u v:BB} (h:R5 t u) (k:R5 u v):R5 t v:=⟨h.1.trans k.1,h.2.1.trans k.2.1,fun c hc=>k.2.2.1 c (h.2.2.1 c hc),fun c hc=>k.2.2.2 c (h.2.2.2 c hc)⟩
def LI {l:List Bool} {c b:Nat} (h:(l.set c true).getD b false=true):l.getD b false=true\/b=c:=by
 by_cases e:b=c
 .exact .inr e
 .rw[Ds,List.getElem?_set_ne (fun h=>e h.symm),<-Ds]at h
  exact .inl h
def LK {l:List Bool} {c b:Nat} (h:l.getD b false=true):(l.set c true).getD b false=true:=by
 by_cases e:c<l.length
 .rw[Ek e]
  split
  .rfl
  .exact h
 .rw[List.set_eq_of_length_le (by omega)];exact h
def LJ {l:List Bool} {c:Nat} (h:c<l.length):(l.set c true).getD c false=true:=by
 rw[Ek h,if_pos rfl]
def R5.xR {t:BB} (c:Nat):R5 t (t.1.set c true,t.2):=⟨by simp,rfl,fun _ h=>LK h,fun _ h=>h⟩
def R5.xQ {t:BB} (c:Nat):R5 t (t.1,t.2.set c true):=⟨rfl,by simp,fun _ h=>h,fun _ h=>LK h⟩
def Wv (t:BB) (f:Fact) (b:Bool):Prop:=if f.op≠2\/f.cls=1\/f.cls=2 then b=true else if b then t.2.getD f.cls.toNat false=true else t.1.getD f.cls.toNat false=true
def Rq {t t':BB} (h:R5 t t') {f:Fact} {b:Bool} (k:Wv t f b):Wv t' f b:=by
 unfold Wv at *;split
 .rename_i h1;rw[if_pos h1]at k;exact k
 .rename_i h1;rw[if_neg h1]at k
  split
  .rename_i h2;rw[if_pos h2]at k;exact h.2.2.2 _ k
  .rename_i h2;rw[if_neg h2]at k;exact h.2.2.1 _ k
def gO {w:AJ} {l:Fact} (hl:DL w l) {t t':BB} (hn:t.1.length=3+w.parents.length/\t.2.length=3+w.parents.length) (h:M1 (Ai l) t=some t'):R5 t t'/\Wv t' (Ai l).1 (Ai l).2:=by
 have hc:=hl.cls;generalize Ai l=x at *;obtain⟨f,b⟩:=x;simp only[M1,Wv]at *;split at h
 .rename_i h1
  rw[if_pos h1];cases b
  .cases h
  .obtain rfl:=Option.some.inj h
   exact⟨R5.jh,rfl⟩
 .rename_i h1
  rw[if_neg h1]
  have h2:f.op=2:=by
   rcases Classical.em (f.op=2)with e|e
   .exact e
   .exact absurd (Or.inl e) h1
  have:=hc h2;cases b
  .obtain rfl:=Option.some.inj h
   exact⟨.xR _,by rw[if_neg (by decide)];exact LJ (by omega)⟩
  .obtain rfl:=Option.some.inj h
   exact⟨.xQ _,by rw[if_pos rfl];exact LJ (by omega)⟩
def aM {w:AJ} {l:Fact} (hl:DL w l) {t:BB} {AF:Nat->Bool} {kid:Int->H2} (hi:nQ t AF) (h:Dw (.obj AF kid) (Ai l).1= !(Ai l).2): ∃t',M1 (Ai l) t=some t'/\nQ t' AF:=by
 have hc:=hl.cls;generalize Ai l=x at *;obtain⟨f,b⟩:=x;simp only[M1,Dw]at *;by_cases h1:f.op≠2\/f.cls=1\/f.cls=2
 .rw[if_pos h1]
  have h2:(f.op==2&&(f.cls==0||(decide (3<=f.cls)&&AF f.cls.toNat)))=false:=by
   rcases h1 with h1|h1|h1
   .simp[h1]
   .simp[h1]
   .simp[h1]
  rw[h2]at h;cases b
  .cases h
  .exact⟨t,rfl,hi⟩
 .rw [if_neg h1]
  have h2:f.op=2:=by
   rcases Classical.em (f.op=2)with e|e
   .exact e
   .exact absurd (Or.inl e) h1
  have hr:=hc h2;have h3:f.cls≠1/\f.cls≠2:=⟨fun e=>h1 (.inr (.inl e)),fun e=>h1 (.inr (.inr e))⟩
  have h4:(f.op==2&&(f.cls==0||(decide (3<=f.cls)&&AF f.cls.toNat)))=(decide (f.cls=0)||AF f.cls.toNat):=by
   rw[h2];rcases Classical.em (f.cls=0)with e|e
   .simp[e]
   .have:3<=f.cls:=by omega
    simp[e,this]
  rw[h4]at h;cases b
  .refine⟨_,rfl,fun c hh=>?_,hi.2⟩
   rcases LI hh with hh|rfl
   .exact hi.1 c hh
   .simp only[Bool.not_false,EJ,Cm]at h
    rcases h with h|h
    .exact .inl (by omega)
    .exact .inr h
  .refine⟨_,rfl,hi.1,fun c hh=>?_⟩
   rcases LI hh with hh|rfl
   .exact hi.2 c hh
   .simp only[Bool.not_true,Bool.or_eq_false_iff,decide_eq_false_iff_not]at h
    exact⟨by omega,h.2⟩
def PB {w:AJ}: ∀(os:List Fact) {t t':BB},(∀l∈os,DL w l)->(t.1.length=3+w.parents.length/\t.2.length=3+w.parents.length)->Jm os t=some t'->R5 t t'/\ ∀l∈os,Wv t' (Ai l).1 (Ai l).2
 | [],t,t',_,_,h=>by
   obtain rfl:=Option.some.inj h;exact⟨R5.jh,fun l hl=>by cases hl⟩
 | x::r,t,t',hl,hn,h=>by
   rw[Jm,Option.bind_eq_some_iff]at h;obtain⟨u,h1,h2⟩:=h;obtain⟨h3,h4⟩:=gO (hl x (.head _)) hn h1;obtain⟨h5,h6⟩:=PB r (fun l h=>hl l (.tail _ h)) ⟨by rw[<-h3.1];exact hn.1,by rw[<-h3.2.1];exact hn.2⟩ h2;refine⟨h3.trans h5,fun l h=>?_⟩;rcases Fq.1 h with rfl|h
   .exact Rq h5 h4
   .exact h6 l h
def RU {w:AJ} {AF:Nat->Bool} {kid:Int->H2}: ∀(os:List Fact) {t:BB},(∀l∈os,DL w l)->nQ t AF->(∀l∈os,Dw (.obj AF kid) (Ai l).1= !(Ai l).2)-> ∃t',Jm os t=some t'/\nQ t' AF
 | [],t,_,hi,_=>⟨t,rfl,hi⟩
 | x::r,t,hl,hi,h=>by
   obtain⟨u,h1,h2⟩:=aM (hl x (.head _)) hi (h x (.head _));obtain⟨t',h3,h4⟩:=RU r (fun l h=>hl l (.tail _ h)) h2 fun l hh=>h l (.tail _ hh)
   exact⟨t',by rw[Jm,h1];exact h3,h4⟩
def pQ (w:AJ) (ls:List Fact) (a:Int) (p:List Int) (can:Int->Bool) (s:Int) (t:BB):Prop:=
 (Ec ls a (p++[s])=false->t.1.getD (Bh w s).toNat false=true/\can s=true)/\(can s=false->t.2.getD (Bh w s).toNat false=true)
def PA {w:AJ} (hw:Ju w) {ls:List Fact} {a:Int} {p:List Int} {can:Int->Bool}: ∀(sl:List Int) {t t':BB},(∀s∈sl,0<=s/\s<(w.owner.length:Int))->(t.1.length=3+w.parents.length/\t.2.length=3+w.parents.length)->Jl w ls a p can sl t=some t'->R5 t t'/\ ∀s∈sl,pQ w ls a p can s t'
 | [],t,t',_,_,h=>by
   obtain rfl:=Option.some.inj h;exact⟨R5.jh,fun l hl=>by cases hl⟩
 | s ::r,t,t',hs,hn,h=>by
   rw[Jl,Option.bind_eq_some_iff]at h;obtain⟨u,h1,h2⟩:=h;have ho:=J2 hw (hs s (.head _))
   have h3:R5 t u/\pQ w ls a p can s u:=by
    rw[UL]at h1;split at h1
    .cases h1
    .rename_i hne
     obtain rfl:=Option.some.inj h1;simp only[pQ];cases hb:Ec ls a (p++[s])<;>cases hc:can s
     .simp[hb,hc]at hne
     .exact⟨⟨by simp,rfl,fun c h=>LK h,fun c h=>h⟩,fun _=>⟨LJ (by omega),rfl⟩,fun h=>(by cases h)⟩
     .exact⟨⟨rfl,by simp,fun c h=>h,fun c h=>LK h⟩,fun h=>(by cases h),fun _=>LJ (by omega)⟩
     .exact⟨R5.jh,fun h=>(by cases h),fun h=>(by cases h)⟩
   obtain⟨h5,h6⟩:=PA hw r (fun l h=>hs l (.tail _ h)) ⟨by rw[<-h3.1.1];exact hn.1,by rw[<-h3.1.2.1];exact hn.2⟩ h2;refine⟨h3.1.trans h5,fun l h=>?_⟩;rcases Fq.1 h with rfl|h
   .exact⟨fun hb=>⟨h5.2.2.1 _ (h3.2.1 hb).1,(h3.2.1 hb).2⟩,fun hc=>h5.2.2.2 _ (h3.2.2 hc)⟩
   .exact h6 l h
def RT {w : AJ} (hw:Ju w) {ls:List Fact} {a:Int} {p:List Int} {can:Int->Bool} {AF:Nat->Bool}: ∀(sl:List Int) {t:BB},(∀s∈sl,0<=s/\s<(w.owner.length:Int))->nQ t AF->
    (∀s∈sl,(Ec ls a (p++[s])=false->AF (Bh w s).toNat=true)/\(AF (Bh w s).toNat=true->can s=true))-> ∃t',Jl w ls a p can sl t=some t'/\nQ t' AF
 | [],t,_,hi,_=>⟨t,rfl,hi⟩
 | s :: r, t,hs,hi,h=>by
   have ho:=J2 hw (hs s (.head _));obtain⟨k1,k2⟩:=h s (.head _)
   have h1 : ∃u,UL w ls a p can s t=some u/\nQ u AF:=by
    rw[UL];cases hb:Ec ls a (p++[s])
    .rw[k2 (k1 hb)]
     refine⟨_,rfl,fun c hh=>?_,hi.2⟩;rcases LI hh with hh|rfl
     .exact hi.1 c hh
     .exact .inr (k1 hb)
    .cases hc:can s
     .refine⟨_,rfl,hi.1,fun c hh=>?_⟩
      rcases LI hh with hh|rfl
      .exact hi.2 c hh
      .refine⟨by omega,?_⟩
       rw[<-Bool.not_eq_true];intro e;rw[k2 e]at hc;cases hc
     .exact⟨_,rfl,hi⟩
   obtain⟨u,h2,h3⟩:=h1;obtain⟨t',h4,h5⟩:=RT hw r (fun l h=>hs l (.tail _ h)) h3 fun l hh=>h l (.tail _ hh)
   exact⟨t',by rw[Jl,h2];exact h4,h5⟩
def kx {w:AJ} {AF:Nat->Bool}:nQ (tO w) AF:=by
 have: ∀c,(List.replicate (3+w.parents.length) false).getD c false=false:=fun c=>by
  rw[Ds];cases h:(List.replicate (3+w.parents.length) false)[c]? with
  | none=>rfl
  | some b=>rw[List.eq_of_mem_replicate (Dm h)];rfl
 exact⟨fun c h=>absurd ((this c).symm.trans h) (by decide),fun c h=>absurd ((this c).symm.trans h) (by decide)⟩
def Rk {g:List (List Int)} (ho:ordered g) {AF:Nat->Bool} (hC: ∀c,3<=c->AF c=true-> ∀q∈par g c,AF q.toNat=true): ∀d b:Nat,3<=d->AF d=true->GI g d b=true->AF b=true:=by
 intro d
 induction d using Nat.strongRecOn with
 | _ d ih=>
   intro b h3 hd h;rw[D4 ho]at h;simp only[EJ,Cr,He]at h;rcases h with rfl|⟨p,hp,h⟩
   .exact hd
   .have:=ho d p hp
    exact ih p.toNat (by omega) b (by omega) (hC d h3 hd p hp) h
def gw {w : AJ} (hw : Ju w) {ls:List Fact} (hl: ∀l∈ls,DL w l) {a:Int} {p:List Int} {can:Int->Bool} {T:Int->H2->Prop} (hcan: ∀s,s∈Cb w.owner.length ls a p->(can s=true↔ ∃t,FR w t/\T s t))
    (hT: ∀s t,T s t↔ ∀l∈ls,(Ai l).1.arg=a-> ∀q,(Ai l).1.path=p++s::q->L0 w t q (Ai l).1= !(Ai l).2) :
    (Ty w ls a p can).isSome=true↔ ∃AF kid,FR w (.obj AF kid)/\ ∀l∈ls,(Ai l).1.arg=a-> ∀q,(Ai l).1.path=p++q->L0 w (.obj AF kid) q (Ai l).1= !(Ai l).2:=by
 have hL: ∀l∈ls.filter (Jd a p),DL w l:=fun l h=>hl l (Jc.1 h).1
 have hS: ∀s∈Cb w.owner.length ls a p,0<=s/\s<(w.owner.length:Int):=fun s h=>HS h
 have hn0:(tO w).1.length=3+w.parents.length/\(tO w).2.length=3+w.parents.length:=by simp[tO]
 constructor
 .intro h
  rw[Ty]at h;cases h1:Jm (ls.filter (Jd a p)) (tO w)with
  | none=>rw[h1]at h;cases h
  | some t=>
    rw[h1,Option.bind_some]at h;obtain⟨g1,g2⟩:=PB _ hL hn0 h1;have hn1:t.1.length=3+w.parents.length/\t.2.length=3+w.parents.length:=⟨by rw[<-g1.1];exact hn0.1,by rw[<-g1.2.1];exact hn0.2⟩
    cases h2:Jl w ls a p can (Cb w.owner.length ls a p) t with
    | none=>rw[h2]at h;cases h
    | some u=>
      rw[h2,Option.bind_some,dK]at h;obtain⟨g3,g4⟩:=PA hw _ hS hn1 h2;have hn2:u.1.length=3+w.parents.length/\u.2.length=3+w.parents.length:=⟨by rw[<-g3.1];exact hn1.1,by rw[<-g3.2.1];exact hn1.2⟩
      split at h
      .cases h
      .rename_i h0
       split at h
       .cases h
       .rename_i h3
        clear h;have hSl:(u.1.set 0 false).length=3+w.parents.length:=by simpa using hn2.1
        generalize hSd:Ch w.parents (3+w.parents.length) w.parents.length (u.1.set 0 false)=S at *
        have hin: ∀c,3<=c->u.1.getD c false=true->S.getD c false=true:=fun c hc h=>by
         rw[<-hSd];refine Iw hw.ord hSl _ _ ?_;rw[Ds,List.getElem?_set_ne (by omega),<-Ds];exact h
        have hdis: ∀c,S.getD c false=true->u.2.getD c false=true->False:=fun c k1 k2=>by
         have hc:c<3+w.parents.length:=by
          rcases Nat.lt_or_ge c (3+w.parents.length)with h|h
          .exact h
          .rw[Ds,List.getElem?_eq_none (by omega)]at k2
           cases k2
         refine h3 (He.2 ⟨c,List.mem_range.2 hc,?_⟩);rw[k1,k2];rfl
        have hkid: ∀s,∃t,FR w t/\((∃t,FR w t/\T s t)->T s t):=fun s=>by
         rcases Classical.em (∃t,FR w t/\T s t)with⟨t,k1,k2⟩|k
         .exact⟨t,k1,fun _=>k2⟩
         .exact⟨.I0,trivial,fun h=>absurd h k⟩
        refine⟨fun c=>S.getD c false,fun s=>Classical.choose (hkid s),⟨fun c hc h q hq=>?_,fun s=>(Classical.choose_spec (hkid s)).1⟩,fun l h1 h2 q hq=>?_⟩
        .change S.getD c false=true at h
         change S.getD q.toNat false=true
         have hcl:c<3+w.parents.length:=by
          rcases Nat.lt_or_ge c (3+w.parents.length)with h'|h'
          .exact h'
          .rw[Ds,List.getElem?_eq_none (by rw[<-hSd,E3];omega)]at h
           cases h
         rw[<-hSd]at h ⊢;exact Gx hw.ord hSl _ c (by omega) (by omega) h q hq
        .cases q with
         | nil =>
           have k:=g2 l (Jc.2 ⟨h1,D1.2 ⟨h2,by simpa using hq⟩⟩);have k:=Rq g3 k;have hc:=(hl l h1).cls;generalize Ai l=x at *;obtain⟨f,b⟩:=x;simp only[L0,Dw,Wv]at *;by_cases e1:f.op≠2\/f.cls=1\/f.cls=2
           .rw[if_pos e1]at k
            subst k;rcases e1 with e1|e1|e1
            .simp[e1]
            .simp[e1]
            .simp[e1]
           .rw [if_neg e1]at k
            have e2:f.op=2:=by
             rcases Classical.em (f.op=2)with e|e
             .exact e
             .exact absurd (Or.inl e) e1
            have hr:=hc e2;have e3:f.cls≠1/\f.cls≠2:=⟨fun e=>e1 (.inr (.inl e)),fun e=>e1 (.inr (.inr e))⟩
            rw[e2];rcases Classical.em (f.cls=0)with e|e
            .rw[e]at k ⊢
             cases b
             .rfl
             .exfalso;exact h0 k
            .have e4:(f.cls==0)=false:=by simpa using e
             have e5:decide (3<=f.cls)=true:=decide_eq_true (by omega);rw[e4,e5];cases b
             .rw[if_neg (by decide)]at k
              rw[hin _ (by omega) k];rfl
             .rw[if_pos rfl]at k
              have:S.getD f.cls.toNat false=false:=by
               rw[<-Bool.not_eq_true];exact fun e=>hdis _ e k
              rw[this];rfl
         | cons s q=>
           have hs:s∈Cb w.owner.length ls a p:=(JG hl).2 ⟨l,h1,h2,q,hq⟩;have hso:=J2 hw (hS s hs);obtain⟨k1,k2⟩:=g4 s hs;simp only[L0];cases hm:S.getD (Bh w s).toNat false
           .rw[Bool.false_and]
            cases hb:Ec ls a (p++[s])
            .have:=hin _ (by omega) (k1 hb).1
             rw[hm]at this;cases this
            .rw[D0.1 hb l h1 h2 q (by rw[hq];simp)];rfl
           .rw[D2]
            cases hc:can s
            .exact absurd (k2 hc) fun e=>hdis _ hm e
            .exact(hT s _).1 ((Classical.choose_spec (hkid s)).2 ((hcan s hs).1 hc)) l h1 h2 q hq
 .rintro ⟨AF,kid,⟨hC,U⟩,h⟩
  obtain⟨t,h1,h2⟩:=RU (AF:=AF) (kid:=kid) (ls.filter (Jd a p)) (t:=tO w) hL kx fun l k=>by
   obtain⟨k1,k2⟩:=Jc.1 k;obtain⟨k3,k4⟩:=D1.1 k2;exact h l k1 k3 [] (by simpa using k4)
  obtain ⟨u,h3,h4⟩:=RT hw (AF:=AF) (can:=can) (ls:=ls) (a:=a) (p:=p) (Cb w.owner.length ls a p) (t:=t) hS h2 fun s hs=>by
   constructor
   .intro hb
    cases e:AF (Bh w s).toNat
    .rw[D0.2 fun l k1 k2 q hq=>by
      have:=h l k1 k2 (s::q) (by rw[hq];simp);simp only[L0,e,Bool.false_and]at this
      simpa using this.symm]at hb
     cases hb
    .rfl
   .intro e
    refine(hcan s hs).2 ⟨kid s,U s,(hT s _).2 fun l k1 k2 q hq=>?_⟩;have:=h l k1 k2 (s::q) hq;simpa only[L0,e,D2]using this
  rw[Ty,h1,Option.bind_some,h3,Option.bind_some,dK]
  have h0:u.2.getD 0 false=false:=by
   rw[<-Bool.not_eq_true];exact fun e=>(h4.2 0 e).1 rfl
  rw[h0,if_neg (by decide),if_neg]
  .rfl
  .rw [He]
   rintro⟨c,-,hc⟩;rw[A8]at hc;have q1:=(PB _ hL hn0 h1).1;have q2:=(PA hw _ hS ⟨by rw[<-q1.1];exact hn0.1,by rw[<-q1.2.1];exact hn0.2⟩ h3).1;have hlen:(u.1.set 0 false).length=3+w.parents.length:=by rw[List.length_set,<-q2.1,<-q1.1];exact hn0.1
   obtain⟨d,k1,k2⟩:=Fp hw.ord hlen _ _ hc.1
   have hd0:d≠0:=by
    rintro rfl;rw[Ds,List.getElem?_set_self (by rw[List.length_set]at hlen;omega)]at k1;cases k1
   rw[Ds,List.getElem?_set_ne (fun e=>hd0 e.symm),<-Ds]at k1;have hCd:AF d=true:=(h4.1 d k1).resolve_left hd0
   have hCc:AF c=true:=by
    rcases Nat.lt_or_ge d 3 with hd|hd
    .rw[D4 hw.ord,show par w.parents d= [] from if_pos hd]at k2
     simp only[List.any_nil,Bool.or_false,Cr]at k2;subst k2;exact hCd
    .exact Rk hw.ord hC d c hd hCd k2
   have:=(h4.2 c hc.2).2;rw[hCc]at this;cases this
def TT (w:AJ) (ls:List Fact) (a:Int) (p:List Int) (t:H2):Prop:= ∀l∈ls,(Ai l).1.arg=a-> ∀q,(Ai l).1.path=p++q->L0 w t q (Ai l).1= !(Ai l).2
def JJ {w:AJ} {ls:List Fact} (hl: ∀l∈ls,DL w l) {a:Int} {p:List Int}:Ia w.owner.length ls a p=true↔TT w ls a p .I0:=by
 rw[Ia,A8,Dh,VX hl];constructor
 .rintro⟨h1,h2⟩ l k1 k2 q hq
  cases q with
  | nil=>
    have:=h1 l (Jc.2 ⟨k1,D1.2 ⟨k2,by simpa using hq⟩⟩);simp only[L0,Dw,QX]at *
    revert this
    cases((Ai l).1.op==2&&((Ai l).1.cls==0||(Ai l).1.cls==2))<;>cases(Ai l).2<;>decide
  | cons s q=>simp[L0,h2 l k1 k2 s q hq]
 .intro h
  refine⟨fun l k=>?_,fun l k1 k2 s q hq=>?_⟩
  .obtain⟨k1,k2⟩:=Jc.1 k
   obtain⟨k3,k4⟩:=D1.1 k2;have:=h l k1 k3 [] (by simpa using k4);simp only[L0,Dw,QX]at *
   revert this
   cases((Ai l).1.op==2&&((Ai l).1.cls==0||(Ai l).1.cls==2))<;>cases(Ai l).2<;>decide
  .have:=h l k1 k2 (s::q) hq
   simpa[L0]using this.symm
def LW {w:AJ} {ls:List Fact} (hl: ∀l∈ls,DL w l) {a:Int} {p:List Int}:((NZ ls a p).isSome&&GP w.owner.length ls a p)=true↔ ∃m,FR w (.int m)/\TT w ls a p (.int m):=by
 rw[A8,VX hl,iI hl];constructor
 .rintro⟨⟨m,h1,h2⟩,h3⟩
  refine⟨m,h1,fun l k1 k2 q hq=>?_⟩;cases q with
  | nil=>exact h2 l k1 k2 (by simpa using hq)
  | cons s q=>simp[L0,h3 l k1 k2 s q hq]
 .rintro⟨m,h1,h2⟩
  refine⟨⟨m,h1,fun l k1 k2 k3=>h2 l k1 k2 [] (by simpa using k3)⟩,fun l k1 k2 s q hq=>?_⟩;have:=h2 l k1 k2 (s::q) hq;simpa[L0]using this.symm
def ZW {w:AJ} (hw:Ju w) {ls:List Fact} (hl: ∀l∈ls,DL w l) {a:Int} {p:List Int} {can:Int->Bool} (hcan: ∀s,s∈Cb w.owner.length ls a p->(can s=true↔ ∃t,FR w t/\TT w ls a (p++[s]) t)) :
    (((NZ ls a p).isSome&&GP w.owner.length ls a p)||(Ia w.owner.length ls a p||(Ty w ls a p can).isSome))=true↔ ∃t,FR w t/\TT w ls a p t:=by
 rw[EJ,EJ,LW hl,JJ hl,gw hw hl (T:=fun s t=>TT w ls a (p++[s]) t) hcan fun s t=>by simp only[TT,P7,List.singleton_append]];constructor
 .rintro(⟨m,h1,h2⟩|h|⟨AF,kid,h1,h2⟩)
  .exact⟨_,h1,h2⟩
  .exact⟨.I0,trivial,h⟩
  .exact⟨_,h1,h2⟩
 .rintro⟨t,h1,h2⟩
  cases t with
  | int m=>exact .inl ⟨m,h1,h2⟩
  | I0=>exact .inr (.inl h2)
  | obj AF kid=>exact .inr (.inr ⟨AF,kid,h1,h2⟩)
def It {w:AJ} (hw:Ju w) {ls:List Fact} (hl: ∀l∈ls,DL w l) (a:Int): ∀(d:Nat) (p:List Int),p.length+d=2->(SI w ls a d p=true↔ ∃t,FR w t/\TT w ls a p t)
 | 0,p,hp=>by
   rw[SI];refine ZW hw hl fun s hs=>?_
   rw[Ma (m:=2) (fun l h=>(hl l h).short) (by omega)]at hs;cases hs
 | d+1,p,hp=>by
   rw[SI];exact ZW hw hl fun s hs=>It hw hl a d (p++[s]) (by simp;omega)
def EU (w:AJ) (M:Int->H2) (l:Fact):Prop:=L0 w (M (Ai l).1.arg) (Ai l).1.path (Ai l).1= !(Ai l).2
def LG {w:AJ} (hw:Ju w) {ls:List Fact} (hl: ∀l∈ls,DL w l):Fg w ls=true↔ ∃M:Int->H2,(∀a,FR w (M a))/\ ∀l∈ls,EU w M l:=by
 rw[Fg,Dh];constructor
 .intro h
  have hk: ∀a:Int,∃t,FR w t/\(0<=a/\a<3->TT w ls a [] t):=fun a=>by
   rcases Classical.em (0<=a/\a<3)with e|e
   .obtain⟨t,h1,h2⟩:=(It hw hl a 2 [] rfl).1 (h a (Cp.2 e))
    exact⟨t,h1,fun _=>h2⟩
   .exact⟨.I0,trivial,fun k=>absurd k e⟩
  exact⟨fun a=>Classical.choose (hk a),fun a=>(Classical.choose_spec (hk a)).1,fun l k=>(Classical.choose_spec (hk (Ai l).1.arg)).2 (hl l k).arg l k rfl _ rfl⟩
 .rintro⟨M,h1,h2⟩ a _
  refine(It hw hl a 2 [] rfl).2 ⟨M a,h1 a,fun l k1 k2 q hq=>?_⟩;have:=h2 l k1;rw[EU,k2]at this;rw[List.nil_append]at hq;rw[<-hq];exact this
def uW (w:AJ) (M:Int->H2) (f:Fact) (l:List Bool):Bool:=
 if f.op=1 then true else if f.op=5 then !l.getD 0 false else if f.op=6 then l.getD 0 false&&l.getD 1 false else if f.op=7 then l.getD 0 false||l.getD 1 false else L0 w (M f.arg) f.path f
def R4 (w:AJ) (M:Int->H2) (f:Fact):Bool:=f.G4 (uW w M)
def XF (w:AJ) (M:Int->H2) (f:Fact):R4 w M f=uW w M f (f.kids.map (R4 w M)):=Fact.DT (uW w M) f
def LV (a:List Fact) (Q:Fact->Prop): ∀b:List Fact,(∀x∈Cf a b,Q x)↔(∀x∈a,Q x)/\ ∀x∈b,Q x:=by
 intro b
 induction b generalizing a with
 | nil=>simp[Cf]
 | cons y r ih=>
   rw[Cf,ih];split
   .rename_i h
    obtain⟨z,h1,h2⟩:=He.1 h;have:=(Mb y z).1 h2;subst this;simp only[List.forall_mem_cons];constructor
    .rintro⟨h3,h4⟩;exact⟨h3,h3 _ h1,h4⟩
    .rintro⟨h3,_,h4⟩;exact⟨h3,h4⟩
   .simp only[List.forall_mem_append,List.forall_mem_cons,List.forall_mem_nil]
    constructor
    .rintro⟨⟨h1,h2,_⟩,h3⟩;exact⟨h1,h2,h3⟩
    .rintro⟨h1,h2,h3⟩;exact⟨⟨h1,h2,fun _ h=>by cases h⟩,h3⟩
def EP {w : AJ} {M:Int->H2} (f:Fact):BT w f=true-> ∀c,(∃l∈BS f c,∀x∈l,EU w M x)↔R4 w M f= !c:=by
 induction f using Fact.ind with
 | h f ih=>
   intro h c;have har:=By f h;have h':=h;rw[CS,A8,Dh]at h';rw[Ey,Gr,XF,uW];by_cases h1:f.op=1
   .rw[if_pos h1,if_pos h1]
    cases c<;>simp
   rw[if_neg h1,if_neg h1];by_cases h5:f.op=5
   .obtain⟨a,ha,hb⟩:=FC har h5
    rw[if_pos h5,if_pos h5,ha];have:=ih a (by rw[ha];exact .head _) (h'.2 a (by rw[ha];exact .head _)) (!c);simp only[E4,List.map_nil,List.getD_cons_zero];rw[this];cases R4 w M a<;>cases c<;>decide
   rw[if_neg h5,if_neg h5];by_cases h6:f.op=6\/f.op=7
   .obtain⟨a,b,ha,hb1,hb2⟩:=FB har h6
    rw[if_pos h6,ha];have i1:=ih a (by rw[ha];exact .head _) (h'.2 a (by rw[ha];exact .head _)) c;have j1:=ih b (by rw[ha];exact .tail _ (.head _)) (h'.2 b (by rw[ha];exact .tail _ (.head _))) c;simp only[E4,List.map_nil,List.getD_cons_zero,List.getD_cons_succ]
    have happ:(∃l∈BS a c++BS b c,∀x∈l,EU w M x)↔R4 w M a= !c\/R4 w M b= !c:=by
     rw[<-i1,<-j1];constructor
     .rintro⟨l,hl,hx⟩
      rcases Dr.1 hl with hl|hl
      .exact .inl ⟨l,hl,hx⟩
      .exact .inr ⟨l,hl,hx⟩
     .rintro(⟨l,hl,hx⟩|⟨l,hl,hx⟩)
      .exact⟨l,NU _ hl,hx⟩
      .exact⟨l,M0 _ hl,hx⟩
    have hprod:(∃l∈FG (BS a c) (BS b c),∀x∈l,EU w M x)↔R4 w M a= !c/\R4 w M b= !c:=by
     rw[<-i1,<-j1];simp only[FG,List.mem_flatMap,Iz];constructor
     .rintro⟨l,⟨y,hy,z,hz,rfl⟩,hx⟩
      rw[LV]at hx;exact⟨⟨y,hy,hx.1⟩,z,hz,hx.2⟩
     .rintro⟨⟨y,hy,h1⟩,z,hz,h2⟩
      exact⟨_,⟨y,hy,z,hz,rfl⟩,(LV y _ z).2 ⟨h1,h2⟩⟩
    rcases h6 with h6|h6
    .rw[if_pos h6,h6]
     cases c
     .rw[if_neg (by decide),hprod]
      simp
     .rw[if_pos (by decide),happ]
      simp only[Bool.not_true,Bool.and_eq_false_iff]
    .rw[if_neg (by omega: ¬f.op=6),if_pos h6,h6]
     cases c
     .rw[if_pos (by decide),happ]
      simp
     .rw[if_neg (by decide),hprod]
      simp only[Bool.not_true,Bool.or_eq_false_iff]
   .rw[if_neg h6,if_neg (fun e=>h6 (.inl e)),if_neg (fun e=>h6 (.inr e))]
    have e1:EU w M f↔L0 w (M f.arg) f.path f=true:=by rw[EU,Ai,if_neg h5];exact Iff.rfl
    have e2:EU w M (Ea f)↔L0 w (M f.arg) f.path f=false:=by
     rw[EU,show Ai (Ea f)=(f,true) from rfl];exact Iff.rfl
    cases c
    .simp[e1]
    .simp[e2]
def gk {w:AJ} (hw:Ju w) {f:Fact} (hn:BT w f=true):Wi w f=true↔ ∃M:Int->H2,(∀a,FR w (M a))/\R4 w M f=true:=by
 rw[Wi,He];constructor
 .rintro⟨l,h1,h2⟩
  obtain⟨M,h3,h4⟩:=(LG hw fun x hx=>E6 (Df f hn false l h1 x hx)).1 h2;exact⟨M,h3,(EP f hn false).1 ⟨l,h1,h4⟩⟩
 .rintro⟨M,h1,h2⟩
  obtain⟨l,h3,h4⟩:=(EP f hn false).2 h2;exact⟨l,h3,(LG hw fun x hx=>E6 (Df f hn false l h3 x hx)).2 ⟨M,h1,h4⟩⟩
def O6 {w:AJ} (hw:Ju w) {a b:Fact} (ha:BT w a=true) (hb:BT w b=true):T6 w a b=true↔ ∀M:Int->H2,(∀x,FR w (M x))->R4 w M a=true->R4 w M b=true:=by
 have he: ∀M,R4 w M (QK a (Ea b))=(R4 w M a&& !R4 w M b):=fun M=>by
  rw[XF];simp only[uW,QK,Fact.op,Fact.kids,E4,List.map_nil,List.getD_cons_zero,List.getD_cons_succ];rw[XF w M (Ea b)];simp[uW,Ea,Fact.op,Fact.kids]
 rw[T6,Bool.not_eq_true',<-Bool.not_eq_true,gk hw (VD ha hb)];constructor
 .intro h M h1 h2
  rw[<-Bool.not_eq_false];exact fun h3=>h ⟨M,h1,by rw[he,h2,h3];rfl⟩
 .rintro h ⟨M,h1,h2⟩
  rw[he,A8]at h2;rw[h M h1 h2.1]at h2;simp at h2
def imp_trans {w:AJ} (hw:Ju w) {a b c:Fact} (ha:BT w a=true) (hb:BT w b=true) (hc:BT w c=true) (h1:T6 w a b=true) (h2:T6 w b c=true):T6 w a c=true:=
 (O6 hw ha hc).2 fun M hM h=>(O6 hw hb hc).1 h2 M hM ((O6 hw ha hb).1 h1 M hM h)
def SL (l:List Int) (s:Int):List Int:=if l.contains s then l else l++[s]
def jU (k:Kn) (s:Int):Kn:={k with AI:=SL k.AI s}
def HC (a:Int) (p:List Int) (k:Kn) (l:Fact):Kn:=
 if(Ai l).1.arg=a/\Be (Ai l).1.path p=true then
  (if(Ai l).1.path=p then Bt (Bv k (Ai l).2) (Ai l).1 (Ai l).2 else jU (Bv k (Ai l).2) ((Ai l).1.path.getD p.length 0))
 else k
def kg (ls:List Fact) (a:Int) (p:List Int):Kn:=ls.foldl (HC a p) k0
structure c9 (k k':Kn):Prop where
 core:DB k=DB k'
 dH:k.Af=k'.Af
 AI: ∀s,s∈k.AI↔s∈k'.AI
def jF (l:List Int) (s x:Int):x∈SL l s↔x∈l\/x=s:=by
 unfold SL;split
 .rename_i h
  rw[List.contains_iff_mem]at h;exact⟨.inl,fun h'=>h'.elim id fun e=>by rw[e];exact h⟩
 .simp
def ga {k k':Kn} (h:c9 k k') (a:Int) (p:List Int) (l:Fact):c9 (HC a p k l) (Cj a p k' l):=by
 unfold HC Cj;split
 .split
  .refine⟨PF (k:=Bv k (Ai l).2) (k':=Bv k' (Ai l).2) h.core _ _,?_,fun s=>?_⟩
   .rw[KX,KX];simp[Bv,h.dH]
   .rw[Hc,Hc];exact h.AI s
  .refine⟨h.core,by simp[jU,ct,Bv,h.dH],fun s=>?_⟩
   show s∈SL k.AI _↔s∈IE k'.AI _;rw[Rv,jF,h.AI]
 .exact h
def Uz (a:Int) (p:List Int): ∀(ls:List Fact) (k k':Kn),c9 k k'->c9 (ls.foldl (HC a p) k) (ls.foldl (Cj a p) k')
 | [],_,_,h=>h
 | l::r,_,_,h=>Uz a p r _ _ (ga h a p l)
def F4 (ls:List Fact) (a:Int) (p:List Int):c9 (kg ls a p) (kn ls a p):=Uz a p ls k0 k0 ⟨rfl,rfl,fun _=>Iff.rfl⟩
def TD (ls:List Fact) (a:Int) (p:List Int):DB (kg ls a p)=DB (Du (ls.filter (Jd a p)) k0):=(F4 ls a p).core.trans (K3 ls a p)
def JM (ls:List Fact) (a:Int) (p:List Int):(kg ls a p).Af= !Ec ls a p:=by rw[(F4 ls a p).dH,JL]
def Md {w:AJ} {ls:List Fact} (hl: ∀l∈ls,DL w l):Gi w.owner.length ls:=fun l h=>(hl l h).path
def Iq {w:AJ} {ls:List Fact} (hl: ∀l∈ls,DL w l) {a:Int} {p:List Int} {s:Int}:s∈(kg ls a p).AI↔ ∃l∈ls,(Ai l).1.arg=a/\ ∃q,(Ai l).1.path=p++s::q:=by
 rw[(F4 ls a p).AI,Ip (Md hl),JG hl]
def dd {w:AJ} {ls:List Fact} (hl: ∀l∈ls,DL w l) {a:Int} {p:List Int} {s:Int} (h:s∈(kg ls a p).AI):0<=s/\s<(w.owner.length:Int):=by
 obtain⟨l,h1,h2,q,hq⟩:=(Iq hl).1 h;exact(hl l h1).path s (by rw[hq];simp)
def fH (ls:List Fact) (a:Int) (p:List Int):HD (kg ls) a p=HD (kn ls) a p:=by
 rw[HD,HD,Hf,Dh,Dh];constructor
 .intro h s hs
  have:=h s (((F4 ls a p).AI s).2 hs)
  rwa [(F4 ls a (p++[s])).dH]at this
 .intro h s hs
  have:=h s (((F4 ls a p).AI s).1 hs)
  rwa [(F4 ls a (p++[s])).dH]
def JA {k k':Kn} (h:DB k=DB k'):k.low=k'.low/\k.high=k'.high/\k.no=k'.no/\k.BJ=k'.BJ/\k.DU=k'.DU/\k.whole=k'.whole:=by
 simpa only[DB,Prod.mk.injEq]using h
def vg (ls:List Fact) (a:Int) (p:List Int):FT (kg ls) a p=FT (kn ls) a p:=by
 obtain⟨c1,c2,c3,c4,c5,-⟩:=JA (F4 ls a p).core;rw[FT,FT,D5,D5,fH,EA,EA,c1,c2,c3,c4,c5]
def qH (ls:List Fact) (a:Int) (p:List Int):C9 (kg ls) a p=C9 (kn ls) a p:=by
 obtain⟨-,-,-,c4,c5,c6⟩:=JA (F4 ls a p).core;rw[C9,C9,D5,D5,fH,c4,c5,c6]
def PG {w:AJ} {ls:List Fact} (hl: ∀l∈ls,DL w l):GK (3+w.parents.length) ls:=fun l h ho=>by
 have:=(hl l h).cls ho;omega
def Y8 {w:AJ} (hw:Ju w) {ls:List Fact} (hl: ∀l∈ls,DL w l) (a:Int) (p:List Int):FT (kg ls) a p=true↔ ∃m,FR w (.int m)/\TT w ls a p (.int m):=by
 rw[vg,XB (n:=3+w.parents.length) (by have:=hw.len;omega) (PG hl) (Md hl),LW hl]
def VC {w:AJ} (hw:Ju w) {ls:List Fact} (hl: ∀l∈ls,DL w l) (a:Int) (p:List Int):C9 (kg ls) a p=true↔TT w ls a p .I0:=by
 rw[qH,S4 (n:=3+w.parents.length) (by have:=hw.len;omega) (PG hl) (Md hl),JJ hl]
def QF (w:AJ) (kf:Int->List Int->Kn) (a:Int) (p:List Int) (up:Nat) (can:Int->Bool):Bool:=
 !(kf a p).whole&&(Gz (kf a p).BJ up&&((kf a p).DU&&&up==0&&(kf a p).AI.all fun s=>if up.testBit (Bh w s).toNat then can s else !(kf a (p++[s])).Af))
def O0 {w : AJ} (hw:Ju w) {ls:List Fact} (hl: ∀l∈ls,DL w l) {a:Int} {p:List Int} {up:Nat} {can:Int->Bool} {OK:H2->Prop} (hnon:OK .I0) (u0:up.testBit 0=true) (u1:up.testBit 1=false) (u2:up.testBit 2=false)
    (hcan: ∀s∈(kg ls a p).AI,(can s=true↔ ∃t,OK t/\TT w ls a (p++[s]) t)) :
    QF w (kg ls) a p up can=true↔ ∃kid,(∀s,OK (kid s))/\TT w ls a p (.obj (fun b=>up.testBit b) kid):=by
 obtain⟨-,-,-,c4,c5,c6⟩:=JA (TD ls a p);have hc2:GK (3+w.parents.length) (ls.filter (Jd a p)):=fun l h=>PG hl l (Jc.1 h).1
 have hlt:(Du (ls.filter (Jd a p)) k0).BJ<2 ^ 64:=Nat.lt_of_lt_of_le (K1 hc2) (Nat.pow_le_pow_right (by decide) (by have:=hw.len;omega));have hon: ∀l,l∈ls.filter (Jd a p)↔l∈ls/\(Ai l).1.arg=a/\(Ai l).1.path=p:=fun l=>by rw[Jc,D1]
 rw[QF,A8,A8,A8,c4,c5,c6,Qj,LH hlt,Lb,Dh];simp only[HJ,S3,hon];constructor
 .rintro ⟨h1,h2,h3,h4⟩
  have hk: ∀s,∃t,OK t/\(s∈(kg ls a p).AI->up.testBit (Bh w s).toNat=true->TT w ls a (p++[s]) t):=fun s=>by
   rcases Classical.em (s∈(kg ls a p).AI/\up.testBit (Bh w s).toNat=true)with⟨e1,e2⟩|e
   .have:=h4 s e1
    rw[if_pos e2]at this;obtain⟨t,q1,q2⟩:=(hcan s e1).1 this;exact⟨t,q1,fun _ _=>q2⟩
   .exact⟨.I0,hnon,fun e1 e2=>absurd ⟨e1,e2⟩ e⟩
  refine⟨fun s=>Classical.choose (hk s),fun s=>(Classical.choose_spec (hk s)).1,fun l k1 k2 q hq=>?_⟩;cases q with
  | nil =>
    rw[Ep]at hq;have hcl:=(hl l k1).cls;show Dw _ _=_;simp only[Dw];cases hb:(Ai l).2
    .have ho:=h1 l ⟨k1,k2,hq⟩ hb
     have hu:=h2 _ ⟨l,⟨k1,k2,hq⟩,ho,hb,rfl⟩;have:=hcl ho;rw[Cr.2 ho,D2];by_cases e0:(Ai l).1.cls=0
     .rw[e0];rfl
     .have e3:3<=(Ai l).1.cls:=by
       rcases Int.lt_or_le (Ai l).1.cls 3 with hlt|hge
       .exfalso
        have:(Ai l).1.cls.toNat=1\/(Ai l).1.cls.toNat=2:=by omega
        rcases this with e|e<;>rw[e]at hu
        .rw[u1]at hu;cases hu
        .rw[u2]at hu;cases hu
       .exact hge
      rw[decide_eq_true e3,hu];simp
    .by_cases ho:(Ai l).1.op=2
     .have hn:=h3 _ ⟨l,⟨k1,k2,hq⟩,ho,hb,rfl⟩
      have:=hcl ho;rw[Cr.2 ho,D2];have e0:(Ai l).1.cls≠0:=fun e=>hn (by rw[e];exact u0)
      rw[beq_eq_false_iff_ne.2 e0,Bool.false_or];cases hu:up.testBit (Ai l).1.cls.toNat
      .simp
      .exact(hn hu).elim
     .rw[beq_eq_false_iff_ne.2 ho];rfl
  | cons s r=>
    have hs:s∈(kg ls a p).AI:=(Iq hl).2 ⟨l,k1,k2,r,hq⟩;rw[L0];have hsp:=(Classical.choose_spec (hk s)).2;generalize Classical.choose (hk s)=t at hsp ⊢;cases hu:up.testBit (Bh w s).toNat
    .have:=h4 s hs
     rw[hu,if_neg (by decide),JM,Bool.not_not]at this;have:=D0.1 this l k1 k2 r (by rw[hq];simp);rw[this];rfl
    .rw[D2]
     exact hsp hs hu l k1 k2 r (by rw[hq];simp)
 .rintro ⟨kid,hkid,hT⟩
  have hleaf: ∀l∈ls,(Ai l).1.arg=a->(Ai l).1.path=p->((Ai l).1.op==2&&((Ai l).1.cls==0||(decide (3<=(Ai l).1.cls)&&up.testBit (Ai l).1.cls.toNat)))= !(Ai l).2:=fun l k1 k2 k3=>hT l k1 k2 [] (by rw[k3];simp)
  refine⟨?_,?_,?_,?_⟩
  .rintro l ⟨k1,k2,k3⟩ hb
   have:=hleaf l k1 k2 k3;rw[hb,Bool.not_false,A8,Cr]at this;exact this.1
  .rintro b ⟨l,⟨k1,k2,k3⟩,ho,hb,rfl⟩
   have:=hleaf l k1 k2 k3;rw[hb,Bool.not_false,A8,EJ,A8,Cr,Cr]at this;rcases this.2 with e|e
   .rw[e];exact u0
   .exact e.2
  .rintro b ⟨l,⟨k1,k2,k3⟩,ho,hb,rfl⟩ hu
   have:=hleaf l k1 k2 k3;have hc:=(hl l k1).cls ho;rw[hb,Cr.2 ho,hu,D2,Bool.and_true]at this;by_cases e0:(Ai l).1.cls=0
   .rw[e0]at this;cases this
   .have e3:3<=(Ai l).1.cls:=by
     rcases Int.lt_or_le (Ai l).1.cls 3 with hlt|hge
     .exfalso
      have:(Ai l).1.cls.toNat=1\/(Ai l).1.cls.toNat=2:=by omega
      rcases this with e|e<;>rw[e]at hu
      .rw[u1]at hu;cases hu
      .rw[u2]at hu;cases hu
     .exact hge
    rw[decide_eq_true e3]at this;simp at this
  .intro s hs
   cases hu:up.testBit (Bh w s).toNat
   .rw[if_neg (by decide),JM,Bool.not_not]
    refine D0.2 fun l k1 k2 q hq=>?_
    have:=hT l k1 k2 (s::q) (by rw[hq];simp);rw[L0,hu,Bool.false_and]at this;simpa using this.symm
   .rw[if_pos rfl]
    refine(hcan s hs).2 ⟨kid s,hkid s,fun l k1 k2 q hq=>?_⟩;have:=hT l k1 k2 (s::q) (by rw[hq];simp)
    rwa [L0,hu,D2]at this
def DX (w:AJ) (kf:Int->List Int->Kn) (a:Int) (p:List Int):Nat:=(kf a p).AI.foldl (fun m s=>if(kf a (p++[s])).Af then m|||2 ^ (Bh w s).toNat else m) ((kf a p).BJ|||2 ^ 0)
def Tx (w:AJ) (kf:Int->List Int->Kn) (a:Int) (p:List Int) (can:Int->Bool):Bool:=
 !(DX w kf a p).testBit 1&&(!(DX w kf a p).testBit 2&&QF w kf a p (Bi (BQ w.parents) w.parents.length (DX w kf a p)) can)
def QH (w:AJ) (kf:Int->List Int->Kn) (a:Int):Nat->List Int->Bool
 | 0,p=>FT kf a p||(C9 kf a p||Tx w kf a p fun _=>false)
 | d+1,p=>FT kf a p||(C9 kf a p||Tx w kf a p fun s=>QH w kf a d (p++[s]))
def VT {w:AJ} {kf:Int->List Int->Kn} {a:Int} {p:List Int} {b:Nat}: ∀(l:List Int) (m:Nat),(l.foldl (fun m s=>if(kf a (p++[s])).Af then m|||2 ^ (Bh w s).toNat else m) m).testBit b=true↔m.testBit b=true\/ ∃s∈l,(kf a (p++[s])).Af=true/\b=(Bh w s).toNat
 | [],m=>by simp
 | x ::r,m=>by
   rw[List.foldl_cons,VT r];simp only[Fq,exists_eq_or_imp];cases hn:(kf a (p++[x])).Af
   .simp
   .rw[if_pos rfl,De,EJ,Cr]
    simp only[true_and,or_assoc]
def bC {w:AJ} {kf:Int->List Int->Kn} {a:Int} {p:List Int} {b:Nat}:(DX w kf a p).testBit b=true↔(kf a p).BJ.testBit b=true\/b=0\/ ∃s∈(kf a p).AI,(kf a (p++[s])).Af=true/\b=(Bh w s).toNat:=by
 rw[DX,VT,De,EJ,Cr,or_assoc]
def N9 {w:AJ} (hw:Ju w) {ls:List Fact} (hl: ∀l∈ls,DL w l) {a:Int} {p:List Int} {AF C':Nat->Bool} {kid:Int->H2} (h: ∀b,3<=b->AF b=C' b) (hT:TT w ls a p (.obj AF kid)):TT w ls a p (.obj C' kid):=fun l k1 k2 q hq=>by
 rw[<-hT l k1 k2 q hq];cases q with
 | nil=>
   show Dw _ _=Dw _ _;simp only[Dw];by_cases h3:3<=(Ai l).1.cls
   .rw[h _ (by omega)]
   .rw[decide_eq_false h3,Bool.false_and,Bool.false_and]
 | cons s r=>
   have:=J2 hw ((hl l k1).path s (by rw[hq];simp));rw[L0,L0,h _ (by omega)]
def gu {w : AJ} (hw:Ju w) {ls:List Fact} (hl: ∀l∈ls,DL w l) {a:Int} {p:List Int} {can:Int->Bool} (hcan: ∀s∈(kg ls a p).AI,(can s=true↔ ∃t,FR w t/\TT w ls a (p++[s]) t)) :
    Tx w (kg ls) a p can=true↔ ∃AF kid,FR w (.obj AF kid)/\TT w ls a p (.obj AF kid):=by
 have hmb:=fun b=>bC (w:=w) (kf:=kg ls) (a:=a) (p:=p) (b:=b)
 have hcb:=fun b=>KV hw.ord (DX w (kg ls) a p) w.parents.length b (IN _)
 obtain⟨-,-,-,c4,-,-⟩:=JA (TD ls a p)
 have hmi: ∀b,(kg ls a p).BJ.testBit b=true↔ ∃l∈ls,((Ai l).1.arg=a/\(Ai l).1.path=p)/\(Ai l).1.op=2/\(Ai l).2=false/\(Ai l).1.cls.toNat=b:=fun b=>by
  rw[c4,HJ];constructor
  .rintro⟨l,h1,h2⟩
   exact⟨l,(Jc.1 h1).1,D1.1 (Jc.1 h1).2,h2⟩
  .rintro⟨l,h1,h2,h3⟩
   exact⟨l,Jc.2 ⟨h1,D1.2 h2⟩,h3⟩
 have hge: ∀b,b=1\/b=2->(Bi (BQ w.parents) w.parents.length (DX w (kg ls) a p)).testBit b=true->(DX w (kg ls) a p).testBit b=true:=fun b hb h=>by
  rcases(hcb b).1 h with h|⟨d,h1,_,_,h2⟩
  .exact h
  .rcases h2 with h2|h2
   .omega
   .have:=J0 hw.ord d b h1 h2
    omega
 rw[Tx,A8,A8,Bool.not_eq_true',Bool.not_eq_true'];constructor
 .rintro⟨m1,m2,ho⟩
  have u0:(Bi (BQ w.parents) w.parents.length (DX w (kg ls) a p)).testBit 0=true:=(hcb 0).2 (.inl ((hmb 0).2 (.inr (.inl rfl))))
  have u1:(Bi (BQ w.parents) w.parents.length (DX w (kg ls) a p)).testBit 1=false:=by
   rw[<-Bool.not_eq_true];intro h;rw[hge 1 (.inl rfl) h]at m1;cases m1
  have u2:(Bi (BQ w.parents) w.parents.length (DX w (kg ls) a p)).testBit 2=false:=by
   rw[<-Bool.not_eq_true];intro h;rw[hge 2 (.inr rfl) h]at m2;cases m2
  obtain⟨kid,h1,h2⟩:=(O0 hw hl (OK:=FR w) trivial u0 u1 u2 hcan).1 ho;refine⟨_,kid,⟨fun c h3 hc q hq=>?_,h1⟩,h2⟩;have hqc:=hw.ord c q hq
  have hcl:c<3+w.parents.length:=by
   rcases Nat.lt_or_ge c (3+w.parents.length)with h'|h'
   .exact h'
   .rw[par,if_neg (by omega),Ds,List.getElem?_eq_none (by omega)]at hq;cases hq
  have hup:GI w.parents c q.toNat=true:=by
   rw[D4 hw.ord,EJ,He];exact .inr ⟨q,hq,Dy hw.ord _⟩
  rcases(hcb c).1 hc with h|⟨d,k1,k2,k3,k4⟩
  .exact(hcb _).2 (.inr ⟨c,h3,hcl,h,.inr hup⟩)
  .refine(hcb _).2 (.inr ⟨d,k1,k2,k3,.inr ?_⟩)
   rcases k4 with k4|k4
   .omega
   .exact HR hw.ord _ _ _ k4 hup
 .rintro ⟨AF,kid,⟨hC,hkid⟩,hT⟩
  have hleaf: ∀l∈ls,(Ai l).1.arg=a->(Ai l).1.path=p->((Ai l).1.op==2&&((Ai l).1.cls==0||(decide (3<=(Ai l).1.cls)&&AF (Ai l).1.cls.toNat)))= !(Ai l).2:=fun l k1 k2 k3=>hT l k1 k2 [] (by rw[k3];simp)
  have hM: ∀b,(DX w (kg ls) a p).testBit b=true->b=0\/3<=b/\AF b=true:=fun b hb=>by
   rcases(hmb b).1 hb with h|h|⟨s,h1,h2,h3⟩
   .obtain⟨l,k1,⟨k2,k3⟩,ho,hb2,rfl⟩:=(hmi b).1 h
    have:=hleaf l k1 k2 k3;rw[hb2,Bool.not_false,A8,EJ,A8,Cr,Cr,Cm]at this;rcases this.2 with e|⟨e1,e2⟩
    .left;omega
    .exact .inr ⟨by omega,e2⟩
   .exact .inl h
   .have hin:=J2 hw (dd hl h1)
    refine .inr ⟨by omega,?_⟩;rw[JM,Bool.not_eq_true',<-Bool.not_eq_true]at h2;rcases Classical.em (AF (Bh w s).toNat=true)with e|e
    .rw[h3];exact e
    .refine absurd (D0.2 fun l k1 k2 q hq=>?_) h2
     have:=hT l k1 k2 (s::q) (by rw[hq];simp);rw[Bool.not_eq_true]at e;rw[L0,e,Bool.false_and]at this;simpa using this.symm
  have hU: ∀b,(Bi (BQ w.parents) w.parents.length (DX w (kg ls) a p)).testBit b=true->b=0\/3<=b/\AF b=true:=fun b hb=>by
   rcases(hcb b).1 hb with h|⟨d,k1,k2,k3,k4⟩
   .exact hM b h
   .rcases k4 with k4|k4
    .exact .inl k4
    .rcases hM d k3 with e|⟨_,e⟩
     .omega
     .exact .inr ⟨J0 hw.ord d b k1 k4,Rk hw.ord hC d b k1 e k4⟩
  have u0:(Bi (BQ w.parents) w.parents.length (DX w (kg ls) a p)).testBit 0=true:=(hcb 0).2 (.inl ((hmb 0).2 (.inr (.inl rfl))))
  have u1:(Bi (BQ w.parents) w.parents.length (DX w (kg ls) a p)).testBit 1=false:=by
   rw[<-Bool.not_eq_true];intro h;rcases hU 1 h with e|⟨e,_⟩<;>omega
  have u2:(Bi (BQ w.parents) w.parents.length (DX w (kg ls) a p)).testBit 2=false:=by
   rw[<-Bool.not_eq_true];intro h;rcases hU 2 h with e|⟨e,_⟩<;>omega
  refine⟨?_,?_,(O0 hw hl (OK:=FR w) trivial u0 u1 u2 hcan).2 ⟨kid,hkid,fun l k1 k2 q hq=>?_⟩⟩
  .rw[<-Bool.not_eq_true];intro h;rcases hM 1 h with e|⟨e,_⟩<;>omega
  .rw[<-Bool.not_eq_true];intro h;rcases hM 2 h with e|⟨e,_⟩<;>omega
  have hTl:=hT l k1 k2 q hq;cases q with
  | nil =>
    rw[Ep]at hq;have hcl:=(hl l k1).cls;have hlf:=hleaf l k1 k2 hq;show Dw _ _=_;simp only[Dw];cases hb:(Ai l).2
    .rw[hb,Bool.not_false,A8,Cr]at hlf
     have hm:=(hcb _).2 (.inl ((hmb _).2 (.inl ((hmi _).2 ⟨l,k1,⟨k2,hq⟩,hlf.1,hb,rfl⟩))));rw[Cr.2 hlf.1,hm,D2,Bool.and_true];have:=hlf.2;rw[EJ,A8]at this;rcases this with e|e
     .rw[e];rfl
     .rw[e.1];simp
    .rw [hb,Bool.not_true]at hlf
     rw[Bool.not_true];by_cases ho:(Ai l).1.op=2
     .rw [Cr.2 ho,D2,Bool.or_eq_false_iff]at hlf
      rw[Cr.2 ho,D2,hlf.1,Bool.false_or];cases hu:(Bi (BQ w.parents) w.parents.length (DX w (kg ls) a p)).testBit (Ai l).1.cls.toNat
      .simp
      .rcases hU _ hu with e|⟨e1,e2⟩
       .have hne:=beq_eq_false_iff_ne.1 hlf.1
        have:=hcl ho;omega
       .rw[e2,Bool.and_true]at hlf
        rw[hlf.2,Bool.false_and]
     .rw[beq_eq_false_iff_ne.2 ho];rfl
  | cons s r=>
    have hs:s∈(kg ls a p).AI:=(Iq hl).2 ⟨l,k1,k2,r,hq⟩;have hin:=J2 hw (dd hl hs);rw[L0]at hTl ⊢;cases hu:(Bi (BQ w.parents) w.parents.length (DX w (kg ls) a p)).testBit (Bh w s).toNat
    .have hnn:(kg ls a (p++[s])).Af=false:=by
      rw[<-Bool.not_eq_true];intro hne;rw[(hcb _).2 (.inl ((hmb _).2 (.inr (.inr ⟨s,hs,hne,rfl⟩))))]at hu;cases hu
     rw[JM,Bool.not_eq_false']at hnn;rw[D0.1 hnn l k1 k2 r (by rw[hq];simp)];rfl
    .rcases hU _ hu with e|⟨_,e2⟩
     .omega
     .rw[e2,D2]at hTl
      rw[D2];exact hTl
def Ve {w:AJ} (hw:Ju w) {ls:List Fact} (hl: ∀l∈ls,DL w l) (a:Int): ∀(d:Nat) (p:List Int),p.length+d=2->(QH w (kg ls) a d p=true↔ ∃t,FR w t/\TT w ls a p t):=by
 have key: ∀(p:List Int) (can:Int->Bool),(∀s∈(kg ls a p).AI,(can s=true↔ ∃t,FR w t/\TT w ls a (p++[s]) t))->((FT (kg ls) a p||(C9 (kg ls) a p||Tx w (kg ls) a p can))=true↔ ∃t,FR w t/\TT w ls a p t):=fun p can hcan=>by
  rw[EJ,EJ,Y8 hw hl,VC hw hl,gu hw hl hcan];constructor
  .rintro(⟨m,h1,h2⟩|h|⟨AF,kid,h1,h2⟩)
   .exact⟨_,h1,h2⟩
   .exact⟨.I0,trivial,h⟩
   .exact⟨_,h1,h2⟩
  .rintro⟨t,h1,h2⟩
   cases t with
   | int m=>exact .inl ⟨m,h1,h2⟩
   | I0=>exact .inr (.inl h2)
   | obj AF kid=>exact .inr (.inr ⟨AF,kid,h1,h2⟩)
 intro d
 induction d with
 | zero=>
   intro p hp;rw[QH];refine key p _ fun s hs=>?_
   obtain⟨l,h1,h2,q,hq⟩:=(Iq hl).1 hs;have:=(hl l h1).short;rw[hq]at this;simp at this;omega
 | succ d ih=>
   intro p hp;rw[QH];exact key p _ fun s _=>ih (p++[s]) (by simp;omega)
def Tk (w:AJ):H2->Prop
 | .int n=> -1000000000<=n/\n<=1000000000
 | .I0=>True
 | .obj AF kid=>(∃c:Nat,3<=c/\c<3+w.parents.length/\ ∀b,AF b=GI w.parents c b)/\ ∀s,Tk w (kid s)
def R7 (w:AJ) (t:H2) (c:Nat):Prop:=match t with
 | .int _=>c=1
 | .I0=>c=2
 | .obj AF _=>3<=c/\c<3+w.parents.length/\ ∀b,AF b=GI w.parents c b
def eY {w:AJ} (hw:Ju w): ∀t:H2,Tk w t->FR w t
 | .int _,h=>h
 | .I0,_=>trivial
 | .obj AF kid,⟨⟨c,h1,h2,h3⟩,h4⟩=>⟨fun d _ hd q hq=>by
  rw[h3]at hd ⊢;refine HR hw.ord _ d _ hd ?_;rw[D4 hw.ord,EJ,He]
  exact .inr ⟨q,hq,Dy hw.ord _⟩,fun s=>eY hw (kid s) (h4 s)⟩
def eH {w:AJ}: ∀t:H2,Tk w t-> ∃c,R7 w t c/\1<=c/\c<3+w.parents.length
 | .int _,_=>⟨1,rfl,by omega,by omega⟩
 | .I0,_=>⟨2,rfl,by omega,by omega⟩
 | .obj AF kid,⟨⟨c,h1,h2,h3⟩,_⟩=>⟨c,⟨h1,h2,h3⟩,by omega,h2⟩
def UF (w:AJ) (kf:Int->List Int->Kn) (a:Int) (p:List Int) (can:Int->Bool) (c:Nat):Bool:=
 if c=1 then FT kf a p else if c=2 then C9 kf a p else QF w kf a p ((BQ w.parents).getD c 0) can
def QI (w:AJ) (kf:Int->List Int->Kn) (a:Int):Nat->(Nat->Bool)->List Int->Bool
 | 0,fit,p=>(List.range (3+w.parents.length)).any fun c=>decide (1<=c)&&(fit c&&UF w kf a p (fun _=>false) c)
 | d+1,fit,p=>(List.range (3+w.parents.length)).any fun c=>decide (1<=c)&&(fit c&&UF w kf a p (fun s=>QI w kf a d (fun _=>true) (p++[s])) c)
def Vb {w : AJ} (hw:Ju w) {ls:List Fact} (hl: ∀l∈ls,DL w l) {a:Int} {p:List Int} {can:Int->Bool} (hcan: ∀s∈(kg ls a p).AI,(can s=true↔ ∃t,Tk w t/\TT w ls a (p++[s]) t)) {c:Nat} (h1:1<=c) (h2:c<3+w.parents.length) :
    UF w (kg ls) a p can c=true↔ ∃t,R7 w t c/\Tk w t/\TT w ls a p t:=by
 rw[UF];split
 .rename_i e
  subst e;rw[Y8 hw hl];constructor
  .rintro⟨m,k1,k2⟩
   exact⟨.int m,rfl,k1,k2⟩
  .rintro⟨t,k0,k1,k2⟩
   cases t with
   | int m=>exact⟨m,k1,k2⟩
   | I0=>cases k0
   | obj AF kid=>exact absurd k0.1 (by omega)
 .split
  .rename_i e
   subst e;rw[VC hw hl];constructor
   .intro k
    exact⟨.I0,rfl,trivial,k⟩
   .rintro⟨t,k0,k1,k2⟩
    cases t with
    | int m=>cases k0
    | I0=>exact k2
    | obj AF kid=>exact absurd k0.1 (by omega)
  .rename_i e1 e2
   have hb:=fun b=>Up hw.ord (b:=b) h2
   have h3:3<=c:=by omega
   have u0:((BQ w.parents).getD c 0).testBit 0=true:=by rw[hb];rfl
   have hno: ∀b,b=1\/b=2->((BQ w.parents).getD c 0).testBit b=false:=fun b hbb=>by
    rw[hb,<-Bool.not_eq_true,EJ,Cr];rintro(h|h)
    .omega
    .have:=J0 hw.ord c b h3 h
     omega
   rw[O0 hw hl (OK:=Tk w) trivial u0 (hno 1 (.inl rfl)) (hno 2 (.inr rfl)) hcan]
   have hagree: ∀b,3<=b->((BQ w.parents).getD c 0).testBit b=GI w.parents c b:=fun b hb3=>by
    rw[hb,beq_eq_false_iff_ne.2 (show b≠0 by omega),Bool.false_or]
   constructor
   .rintro⟨kid,k1,k2⟩
    exact⟨.obj (fun b=>GI w.parents c b) kid,⟨h3,h2,fun _=>rfl⟩,⟨⟨c,h3,h2,fun _=>rfl⟩,k1⟩,N9 hw hl hagree k2⟩
   .rintro⟨t,k0,k1,k2⟩
    cases t with
    | int m=>exact absurd k0 (by simp only[R7];omega)
    | I0=>exact absurd k0 (by simp only[R7];omega)
    | obj AF kid=>
      exact⟨kid,k1.2,N9 hw hl (fun b hb3=>by rw[hagree b hb3,k0.2.2]) k2⟩
def Lc {w:AJ} (hw:Ju w) {ls:List Fact} (hl: ∀l∈ls,DL w l) (a:Int): ∀(d:Nat) (fit:Nat->Bool) (p:List Int),p.length+d=2->(QI w (kg ls) a d fit p=true↔ ∃t c,R7 w t c/\fit c=true/\Tk w t/\TT w ls a p t):=by
 have key: ∀(fit:Nat->Bool) (p:List Int) (can:Int->Bool),(∀s∈(kg ls a p).AI,(can s=true↔ ∃t,Tk w t/\TT w ls a (p++[s]) t))->(((List.range (3+w.parents.length)).any fun c=>decide (1<=c)&&(fit c&&UF w (kg ls) a p can c))=true↔ ∃t c,R7 w t c/\fit c=true/\Tk w t/\TT w ls a p t):=fun fit p can hcan=>by
  rw[He];constructor
  .rintro⟨c,h1,h2⟩
   rw[A8,A8,Cm]at h2;obtain⟨t,k0,k1,k2⟩:=(Vb hw hl hcan h2.1 (List.mem_range.1 h1)).1 h2.2.2;exact⟨t,c,k0,h2.2.1,k1,k2⟩
  .rintro⟨t,c,k0,k1,k2,k3⟩
   have hc:1<=c/\c<3+w.parents.length:=by
    cases t with
    | int m=>have k0:c=1:=k0;omega
    | I0=>have k0:c=2:=k0;omega
    | obj AF kid=>have:=k0.1;have:=k0.2.1;omega
   refine⟨c,List.mem_range.2 hc.2,?_⟩;rw[decide_eq_true hc.1,k1,(Vb hw hl hcan hc.1 hc.2).2 ⟨t,k0,k2,k3⟩];rfl
 intro d
 induction d with
 | zero=>
   intro fit p hp;rw[QI];refine key fit p _ fun s hs=>?_
   obtain⟨l,h1,h2,q,hq⟩:=(Iq hl).1 hs;have:=(hl l h1).short;rw[hq]at this;simp at this;omega
 | succ d ih=>
   intro fit p hp;rw[QI];refine key fit p _ fun s _=>?_
   rw[ih (fun _=>true) (p++[s]) (by simp;omega)];constructor
   .rintro⟨t,c,_,_,k1,k2⟩
    exact⟨t,k1,k2⟩
   .rintro⟨t,k1,k2⟩
    obtain⟨c,k3,_⟩:=eH t k1;exact⟨t,c,k3,rfl,k1,k2⟩
def IV (cs:List Int) (a:Int) (c:Nat):Bool:=decide ((cs.length:Int)<=a)||cs.getD a.toNat 0==(c:Int)
def Zw (w:AJ) (cs:List Int) (ls:List Fact):Bool:=(Bd 3).all fun a=>QI w (kg ls) a 2 (IV cs a) []
def jf (w:AJ) (ls:List Fact):Bool:=(Bd 3).all fun a=>QH w (kg ls) a 2 []
def o5 (w:AJ) (cs:List Int) (M:Int->H2):Prop:= ∀a,Tk w (M a)/\(0<=a->a<3-> ∃c,R7 w (M a) c/\IV cs a c=true)
def o0 (w:AJ) (M:Int->H2):Prop:= ∀a,FR w (M a)
def Ow {w:AJ} (hw:Ju w) {cs:List Int} {ls:List Fact} (hl: ∀l∈ls,DL w l):Zw w cs ls=true↔ ∃M:Int->H2,o5 w cs M/\ ∀l∈ls,EU w M l:=by
 rw[Zw,Dh];constructor
 .intro h
  have hk: ∀a:Int,∃t,Tk w t/\(0<=a/\a<3->TT w ls a [] t/\ ∃c,R7 w t c/\IV cs a c=true):=fun a=>by
   rcases Classical.em (0<=a/\a<3)with e|e
   .obtain⟨t,c,k0,k1,k2,k3⟩:=(Lc hw hl a 2 _ [] rfl).1 (h a (Cp.2 e))
    exact⟨t,k2,fun _=>⟨k3,c,k0,k1⟩⟩
   .exact⟨.I0,trivial,fun k=>absurd k e⟩
  exact⟨fun a=>Classical.choose (hk a),fun a=>⟨(Classical.choose_spec (hk a)).1,fun h0 h1=>((Classical.choose_spec (hk a)).2 ⟨h0,h1⟩).2⟩,fun l k=>((Classical.choose_spec (hk (Ai l).1.arg)).2 (hl l k).arg).1 l k rfl _ rfl⟩
 .rintro⟨M,h1,h2⟩ a ha
  have ha:=Cp.1 ha;obtain⟨c,k0,k1⟩:=(h1 a).2 ha.1 (by omega);refine(Lc hw hl a 2 _ [] rfl).2 ⟨M a,c,k0,k1,(h1 a).1,fun l k1 k2 q hq=>?_⟩;have:=h2 l k1;rw[EU,k2]at this;rw[List.nil_append]at hq;rw[<-hq];exact this
def Uv {w:AJ} (hw:Ju w) {ls:List Fact} (hl: ∀l∈ls,DL w l):jf w ls=true↔ ∃M:Int->H2,o0 w M/\ ∀l∈ls,EU w M l:=by
 show _↔ ∃M:Int->H2,(∀a,FR w (M a))/\_;rw[jf,Dh,<-LG hw hl,Fg,Dh];constructor
 .intro h a ha
  exact(It hw hl a 2 [] rfl).2 ((Ve hw hl a 2 [] rfl).1 (h a ha))
 .intro h a ha
  exact(Ve hw hl a 2 [] rfl).2 ((It hw hl a 2 [] rfl).1 (h a ha))
def stepOf (w:AJ) (c:Int) (x:Fact×Bool):Bool:=(x.1.op==2&&UG w.parents c x.1.cls)==x.2
def uU (w:AJ) (ls:List Fact) (a:Int) (p:List Int) (can:Int->Bool) (c:Int):Bool:=
 (ls.filter (Jd a p)).all (fun l=> !stepOf w c (Ai l))&&(Cb w.owner.length ls a p).all fun s=>if hasB w c s then can s else Ec ls a (p++[s])
def aB (w:AJ) (ls:List Fact) (a:Int):Nat->List Int->Bool
 | 0,p=>((NZ ls a p).isSome&&GP w.owner.length ls a p)||(Ia w.owner.length ls a p||(Bd w.parents.length).any fun c=>uU w ls a p (fun _=>false) (3+c))
 | d+1,p=>((NZ ls a p).isSome&&GP w.owner.length ls a p)||(Ia w.owner.length ls a p||(Bd w.parents.length).any fun c=>uU w ls a p (fun s=>aB w ls a d (p++[s])) (3+c))
def S2 {w : AJ} (hw:Ju w) {ls:List Fact} (hl: ∀l∈ls,DL w l) {a:Int} {p:List Int} {can:Int->Bool} (hcan: ∀s∈Cb w.owner.length ls a p,(can s=true↔ ∃t,Tk w t/\TT w ls a (p++[s]) t)) {c:Int} (h3:3<=c) (hc:c<3+(w.parents.length:Int)) :
    uU w ls a p can c=true↔ ∃kid,(∀s,Tk w (kid s))/\TT w ls a p (.obj (fun b=>GI w.parents c.toNat b) kid):=by
 have hleaf: ∀l∈ls,∀kid,Dw (.obj (fun b=>GI w.parents c.toNat b) kid) (Ai l).1=((Ai l).1.op==2&&UG w.parents c (Ai l).1.cls):=fun l hm kid=>by
  simp only[Dw];by_cases ho:(Ai l).1.op=2
  .have hcl:=(hl l hm).cls ho
   rw[Cr.2 ho,D2,D2,UG,decide_eq_true h3,D2];by_cases hz:(Ai l).1.cls=0
   .rw[hz];simp
   rw[beq_eq_false_iff_ne.2 hz,Bool.false_or,Bool.false_or];by_cases h3c:3<=(Ai l).1.cls
   .rw[decide_eq_true h3c,D2]
    by_cases he:c=(Ai l).1.cls
    .rw[<-he,Dy hw.ord];simp
    .rw[beq_eq_false_iff_ne.2 he,Bool.false_or]
   .rw[decide_eq_false h3c,Bool.false_and,beq_eq_false_iff_ne.2 (show c≠(Ai l).1.cls by omega),Bool.false_or]
    cases hb:GI w.parents c.toNat (Ai l).1.cls.toNat
    .rfl
    .have:=J0 hw.ord _ _ (by omega) hb
     omega
  .rw[beq_eq_false_iff_ne.2 ho];rfl
 have hhas: ∀s,0<=s/\s<(w.owner.length:Int)->hasB w c s=GI w.parents c.toNat (Bh w s).toNat:=fun s hs=>by
  have ho:=J2 hw hs;rw[hasB,UG,decide_eq_true h3,D2,beq_eq_false_iff_ne.2 (show Bh w s≠0 by omega),Bool.false_or,D2];by_cases he:c=Bh w s
  .rw[<-he,Dy hw.ord];simp
  .rw[beq_eq_false_iff_ne.2 he,Bool.false_or]
 have hstep: ∀l∈ls,∀kid,(!stepOf w c (Ai l))=true↔Dw (.obj (fun b=>GI w.parents c.toNat b) kid) (Ai l).1= !(Ai l).2:=fun l hm kid=>by
  rw[hleaf l hm kid,stepOf];cases((Ai l).1.op==2&&UG w.parents c (Ai l).1.cls)<;>cases(Ai l).2<;>decide
 rw[uU,A8,Dh,Dh];constructor
 .rintro⟨h1,h2⟩
  have hk: ∀s,∃t,Tk w t/\(s∈Cb w.owner.length ls a p->hasB w c s=true->TT w ls a (p++[s]) t):=fun s=>by
   rcases Classical.em (s∈Cb w.owner.length ls a p/\hasB w c s=true)with⟨e1,e2⟩|e
   .have:=h2 s e1
    rw[if_pos e2]at this;obtain⟨t,q1,q2⟩:=(hcan s e1).1 this;exact⟨t,q1,fun _ _=>q2⟩
   .exact⟨.I0,trivial,fun e1 e2=>absurd ⟨e1,e2⟩ e⟩
  refine⟨fun s=>Classical.choose (hk s),fun s=>(Classical.choose_spec (hk s)).1,fun l k1 k2 q hq=>?_⟩;cases q with
  | nil=>
    rw[Ep]at hq;exact(hstep l k1 _).1 (h1 l (Jc.2 ⟨k1,D1.2 ⟨k2,hq⟩⟩))
  | cons s r=>
    have hs:s∈Cb w.owner.length ls a p:=(JG hl).2 ⟨l,k1,k2,r,hq⟩;have hin:=HS hs;rw[L0,<-hhas s hin];have hsp:=(Classical.choose_spec (hk s)).2;generalize Classical.choose (hk s)=t at hsp ⊢;cases hu:hasB w c s
    .have:=h2 s hs
     rw[hu,if_neg (by decide)]at this;rw[D0.1 this l k1 k2 r (by rw[hq];simp)];rfl
    .rw[D2]
     exact hsp hs hu l k1 k2 r (by rw[hq];simp)
 .rintro⟨kid,hkid,hT⟩
  refine⟨fun l hm=>?_,fun s hs=>?_⟩
  .obtain⟨k1,k2⟩:=Jc.1 hm
   obtain⟨k3,k4⟩:=D1.1 k2;exact(hstep l k1 kid).2 (hT l k1 k3 [] (by rw[k4];simp))
  .have hin:=HS hs
   cases hu:hasB w c s
   .rw[if_neg (by decide)]
    refine D0.2 fun l k1 k2 q hq=>?_
    have:=hT l k1 k2 (s::q) (by rw[hq];simp);rw[L0,<-hhas s hin,hu,Bool.false_and]at this;simpa using this.symm
   .rw[if_pos rfl]
    refine(hcan s hs).2 ⟨kid s,hkid s,fun l k1 k2 q hq=>?_⟩;have:=hT l k1 k2 (s::q) (by rw[hq];simp)
    rwa [L0,<-hhas s hin,hu,D2]at this
def Vf {w:AJ} (hw:Ju w) {ls:List Fact} (hl: ∀l∈ls,DL w l) (a:Int): ∀(d:Nat) (p:List Int),p.length+d=2->(aB w ls a d p=true↔ ∃t,Tk w t/\TT w ls a p t):=by
 have key: ∀(p:List Int) (can:Int->Bool),(∀s∈Cb w.owner.length ls a p,(can s=true↔ ∃t,Tk w t/\TT w ls a (p++[s]) t))->((((NZ ls a p).isSome&&GP w.owner.length ls a p)||(Ia w.owner.length ls a p||(Bd w.parents.length).any fun c=>uU w ls a p can (3+c)))=true↔ ∃t,Tk w t/\TT w ls a p t):=fun p can hcan=>by
  rw[EJ,EJ,LW hl,JJ hl,He];constructor
  .rintro(⟨m,h1,h2⟩|h|⟨c,h1,h2⟩)
   .exact⟨.int m,h1,h2⟩
   .exact⟨.I0,trivial,h⟩
   .have:=Cp.1 h1
    obtain⟨kid,k1,k2⟩:=(S2 hw hl hcan (by omega) (by omega)).1 h2;exact⟨.obj (fun b=>GI w.parents (3+c).toNat b) kid,⟨⟨(3+c).toNat,by omega,by omega,fun _=>rfl⟩,k1⟩,k2⟩
  .rintro⟨t,h1,h2⟩
   cases t with
   | int m=>exact .inl ⟨m,h1,h2⟩
   | I0=>exact .inr (.inl h2)
   | obj AF kid=>
     obtain⟨⟨c,k1,k2,k3⟩,k4⟩:=h1;refine .inr (.inr ⟨(c:Int) - 3,Cp.2 (by omega),(S2 hw hl hcan (by omega) (by omega)).2 ⟨kid,k4,?_⟩⟩);rw[show(3+((c:Int) - 3)).toNat=c by omega];exact N9 hw hl (fun b _=>k3 b) h2
 intro d
 induction d with
 | zero=>
   intro p hp;rw[aB];refine key p _ fun s hs=>?_
   rw[Ma (m:=2) (fun l h=>(hl l h).short) (by omega)]at hs;cases hs
 | succ d ih=>
   intro p hp;rw[aB];exact key p _ fun s _=>ih (p++[s]) (by simp;omega)
def og (w:AJ) (ls:List Fact) (cs:List Int) (a:Int):Bool:=
 if(cs.length:Int)<=a\/cs.getD a.toNat 0=0 then aB w ls a 2 []else if cs.getD a.toNat 0=1 then(NZ ls a []).isSome&&GP w.owner.length ls a []else if cs.getD a.toNat 0=2 then Ia w.owner.length ls a []else uU w ls a [] (fun s=>aB w ls a 1 [s]) (cs.getD a.toNat 0)
def R8 (w:AJ) (cs:List Int) (ls:List Fact):Bool:=(Bd 3).all (og w ls cs)
def Uu {w : AJ} (hw:Ju w) {ls:List Fact} (hl: ∀l∈ls,DL w l) {cs:List Int} (hcs: ∀c∈cs,1<=c/\c<3+(w.parents.length:Int)) {a:Int} (h0:0<=a):og w ls cs a=true↔ ∃t c,R7 w t c/\IV cs a c=true/\Tk w t/\TT w ls a [] t:=by
 rw[og];by_cases hle:(cs.length:Int)<=a
 .rw[if_pos (.inl hle),Vf hw hl a 2 [] rfl]
  have hf: ∀c,IV cs a c=true:=fun c=>by rw[IV,decide_eq_true hle];rfl
  constructor
  .rintro⟨t,k1,k2⟩
   obtain⟨c,k3,_⟩:=eH t k1;exact⟨t,c,k3,hf c,k1,k2⟩
  .rintro⟨t,c,_,_,k1,k2⟩
   exact⟨t,k1,k2⟩
 .obtain ⟨x,hx⟩: ∃x,cs[a.toNat]? =some x:=⟨_,ES (by omega)⟩
  have hxd:cs.getD a.toNat 0=x:=by rw[Ds,hx];rfl
  have hxc:=hcs x (Dm hx);have hf: ∀c:Nat,IV cs a c=true↔x=(c:Int):=fun c=>by rw[IV,decide_eq_false hle,Bool.false_or,hxd,Cr]
  rw[hxd,if_neg (by omega)];by_cases h1:x=1
  .rw[if_pos h1,LW hl]
   constructor
   .rintro⟨m,k1,k2⟩
    exact⟨.int m,1,rfl,(hf 1).2 h1,k1,k2⟩
   .rintro⟨t,c,k0,k1,k2,k3⟩
    have:=(hf c).1 k1;cases t with
    | int m=>exact⟨m,k2,k3⟩
    | I0=>have k0:c=2:=k0;omega
    | obj AF kid=>have:=k0.1;omega
  .rw [if_neg h1]
   by_cases h2:x=2
   .rw[if_pos h2,JJ hl]
    constructor
    .intro k
     exact⟨.I0,2,rfl,(hf 2).2 h2,trivial,k⟩
    .rintro⟨t,c,k0,k1,k2,k3⟩
     have:=(hf c).1 k1;cases t with
     | int m=>have k0:c=1:=k0;omega
     | I0=>exact k3
     | obj AF kid=>have:=k0.1;omega
   .rw [if_neg h2,S2 hw hl (fun s _=>Vf hw hl a 1 [s] rfl) (by omega) (by omega)]
    constructor
    .rintro⟨kid,k1,k2⟩
     exact⟨.obj (fun b=>GI w.parents x.toNat b) kid,x.toNat,⟨by omega,by omega,fun _=>rfl⟩,(hf _).2 (by omega),⟨⟨x.toNat,by omega,by omega,fun _=>rfl⟩,k1⟩,k2⟩
    .rintro⟨t,c,k0,k1,k2,k3⟩
     have:=(hf c).1 k1;cases t with
     | int m=>have k0:c=1:=k0;omega
     | I0=>have k0:c=2:=k0;omega
     | obj AF kid=>
       refine⟨kid,k2.2,N9 hw hl (fun b _=>?_) k3⟩;rw[k0.2.2,show x.toNat=c by omega]
def pX {w:AJ} (hw:Ju w) {cs:List Int} (hcs: ∀c∈cs,1<=c/\c<3+(w.parents.length:Int)) {ls:List Fact} (hl: ∀l∈ls,DL w l):Zw w cs ls=R8 w cs ls:=by
 rw[Zw,R8,Hf,Dh,Dh];constructor
 .intro h a ha
  exact(Uu hw hl hcs (Cp.1 ha).1).2 ((Lc hw hl a 2 _ [] rfl).1 (h a ha))
 .intro h a ha
  exact(Lc hw hl a 2 _ [] rfl).2 ((Uu hw hl hcs (Cp.1 ha).1).1 (h a ha))
end Go.Gl
namespace Go.Gl
open Go.Proofs
attribute [local irreducible] As Am Ac AQ AM Ab AP AR AL Aa AN AO Ao Ax Sat AW Au Ad W
def gh {n k:Nat} (h:k<n):(Bd n)[k]? =some (k:Int):=by
 rw[Bd,P8,List.getElem?_range h];rfl
end Go.Gl
namespace Go.Gl
open Go.Proofs
def UR (A B:List (List Fact)):List (List Fact):=A.flatMap fun x=>B.map fun y=>x++y
def OY (f:Fact) (l:List (Bool->List (List Fact))) (c:Bool):List (List Fact):=
 if f.op=1 then(if c then []else [[]])else
 if f.op=5 then(l.getD 0 (fun _=>[])) (!c)else
 if f.op=6\/f.op=7 then(if c != (f.op==7)then l.getD 0 (fun _=>[]) c++l.getD 1 (fun _=>[]) c else UR (l.getD 0 (fun _=>[]) c) (l.getD 1 (fun _=>[]) c))else
 if c then [[Ea f]]else [[f]]
def CH (f:Fact):Bool->List (List Fact):=f.G4 OY
def JT (f:Fact) (c:Bool):CH f c=OY f (f.kids.map CH) c:=congrFun (Fact.DT OY f) c
def Ev {A B:List (List Fact)} {l:List Fact}:l∈UR A B↔ ∃x∈A,∃y∈B,l=x++y:=by
 simp only[UR,List.mem_flatMap,Iz];constructor
 .rintro⟨x,hx,y,hy,rfl⟩
  exact⟨x,hx,y,hy,rfl⟩
 .rintro⟨x,hx,y,hy,rfl⟩
  exact⟨x,hx,y,hy,rfl⟩
def NR {w:AJ} (f:Fact):BT w f=true-> ∀c,∀l∈CH f c,∀x∈l,C1 w x:=by
 induction f using Fact.ind with
 | h f ih=>
   intro h c;have har:=By f h;have h':=h;rw[CS,A8,Dh]at h';rw[JT,OY];by_cases h1:f.op=1
   .rw[if_pos h1]
    cases c
    .rw[if_neg (by decide)]
     intro l hl x hx;simp at hl;subst hl;cases hx
    .rw[if_pos rfl]
     intro l hl;cases hl
   rw[if_neg h1];by_cases h5:f.op=5
   .obtain⟨a,ha,hb⟩:=FC har h5
    rw[if_pos h5,ha];exact ih a (by rw[ha];exact .head _) (h'.2 a (by rw[ha];exact .head _)) (!c)
   rw[if_neg h5];by_cases h6:f.op=6\/f.op=7
   .obtain⟨a,b,ha,hb1,hb2⟩:=FB har h6
    rw[if_pos h6,ha];have i1:=ih a (by rw[ha];exact .head _) (h'.2 a (by rw[ha];exact .head _)) c;have j1:=ih b (by rw[ha];exact .tail _ (.head _)) (h'.2 b (by rw[ha];exact .tail _ (.head _))) c;simp only[E4,List.map_nil,List.getD_cons_zero,List.getD_cons_succ];split
    .intro l hl
     rcases Dr.1 hl with hl|hl
     .exact i1 l hl
     .exact j1 l hl
    .intro l hl x hx
     obtain⟨y,hy,z,hz,rfl⟩:=Ev.1 hl;rcases Dr.1 hx with h|h
     .exact i1 y hy x h
     .exact j1 z hz x h
   .have hr:=Df f h c
    rw[Ey,Gr,if_neg h1,if_neg h5,if_neg h6]at hr;rw[if_neg h6];exact hr
def Pw (f:Fact):arity f=true-> ∀c,∀l∈CH f c,l.length<=lv f:=by
 induction f using Fact.ind with
 | h f ih=>
   intro h c;rw[JT,Jh,OY,Zr];by_cases h1:f.op=1
   .have e5: ¬f.op=5:=by omega
    have e6: ¬(f.op=6\/f.op=7):=by omega
    rw[if_pos h1,if_neg e5,if_neg e6];cases c
    .rw[if_neg (by decide)]
     exact fun l hl=>by simp at hl;subst hl;simp
    .rw[if_pos rfl]
     exact fun l hl=>by cases hl
   rw[if_neg h1];by_cases h5:f.op=5
   .obtain⟨a,ha,hb⟩:=FC h h5
    rw[if_pos h5,if_pos h5,ha];exact ih a (by rw[ha];exact .head _) hb (!c)
   rw[if_neg h5,if_neg h5];by_cases h6:f.op=6\/f.op=7
   .obtain⟨a,b,ha,hb1,hb2⟩:=FB h h6
    rw[if_pos h6,if_pos h6,ha];simp only[E4,List.map_nil,List.getD_cons_zero,List.getD_cons_succ];have i2:=ih a (by rw[ha];exact .head _) hb1 c;have j2:=ih b (by rw[ha];exact .tail _ (.head _)) hb2 c;split
    .intro l hl
     rcases Dr.1 hl with hl|hl
     .have:=i2 l hl;omega
     .have:=j2 l hl;omega
    .intro l hl
     obtain⟨x,hx,y,hy,rfl⟩:=Ev.1 hl;have:=i2 x hx;have:=j2 y hy;rw[R0];omega
   .rw[if_neg h6,if_neg h6]
    cases c
    .exact fun l hl=>by simp at hl;subst hl;simp
    .exact fun l hl=>by simp at hl;subst hl;simp
def Px {w : AJ} {M:Int->H2} (f:Fact):BT w f=true-> ∀c,(∃l∈CH f c,∀x∈l,EU w M x)↔R4 w M f= !c:=by
 induction f using Fact.ind with
 | h f ih=>
   intro h c;have har:=By f h;have h':=h;rw[CS,A8,Dh]at h';have hF:=EP (M:=M) f h c;rw[Ey,Gr]at hF;rw[JT,OY];by_cases h1:f.op=1
   .rw[if_pos h1]at hF ⊢
    exact hF
   rw[if_neg h1]at hF ⊢;by_cases h5:f.op=5
   .obtain⟨a,ha,hb⟩:=FC har h5
    have i1:=ih a (by rw[ha];exact .head _) (h'.2 a (by rw[ha];exact .head _)) (!c);have k1:=EP (M:=M) a (h'.2 a (by rw[ha];exact .head _)) (!c);rw[if_pos h5,ha]at hF ⊢;exact(i1.trans k1.symm).trans hF
   rw[if_neg h5]at hF ⊢;by_cases h6:f.op=6\/f.op=7
   .obtain⟨a,b,ha,hb1,hb2⟩:=FB har h6
    have hna:=h'.2 a (by rw[ha];exact .head _);have hnb:=h'.2 b (by rw[ha];exact .tail _ (.head _));have i1:=(ih a (by rw[ha];exact .head _) hna c).trans (EP (M:=M) a hna c).symm;have j1:=(ih b (by rw[ha];exact .tail _ (.head _)) hnb c).trans (EP (M:=M) b hnb c).symm;rw[if_pos h6,ha]at hF ⊢;simp only[E4,List.map_nil,List.getD_cons_zero,List.getD_cons_succ]at hF ⊢;refine Iff.trans ?_ hF;split
    .constructor
     .rintro⟨l,hl,hx⟩
      rcases Dr.1 hl with hl|hl
      .obtain⟨m,h1,h2⟩:=i1.1 ⟨l,hl,hx⟩
       exact⟨m,NU _ h1,h2⟩
      .obtain⟨m,h1,h2⟩:=j1.1 ⟨l,hl,hx⟩
       exact⟨m,M0 _ h1,h2⟩
     .rintro⟨l,hl,hx⟩
      rcases Dr.1 hl with hl|hl
      .obtain⟨m,h1,h2⟩:=i1.2 ⟨l,hl,hx⟩
       exact⟨m,NU _ h1,h2⟩
      .obtain⟨m,h1,h2⟩:=j1.2 ⟨l,hl,hx⟩
       exact⟨m,M0 _ h1,h2⟩
    .constructor
     .rintro⟨l,hl,hx⟩
      obtain⟨y,hy,z,hz,rfl⟩:=Ev.1 hl;obtain⟨m,h1,h2⟩:=i1.1 ⟨y,hy,fun x h=>hx x (NU _ h)⟩;obtain⟨n,h3,h4⟩:=j1.1 ⟨z,hz,fun x h=>hx x (M0 _ h)⟩;refine⟨Cf m n,?_,(LV m _ n).2 ⟨h2,h4⟩⟩;simp only[FG,List.mem_flatMap,Iz];exact⟨m,h1,n,h3,rfl⟩
     .rintro⟨l,hl,hx⟩
      simp only[FG,List.mem_flatMap,Iz]at hl;obtain⟨y,hy,z,hz,rfl⟩:=hl;rw[LV]at hx;obtain⟨m,h1,h2⟩:=i1.2 ⟨y,hy,hx.1⟩;obtain⟨n,h3,h4⟩:=j1.2 ⟨z,hz,hx.2⟩;refine⟨m++n,Ev.2 ⟨m,h1,n,h3,rfl⟩,fun x hx=>?_⟩;rcases Dr.1 hx with h|h
      .exact h2 x h
      .exact h4 x h
   .rw[if_neg h6]at hF ⊢
    exact hF
def NX (tog:List Fact->Bool):List (List (List Fact))->List Fact->Bool
 | [],l=>tog l
 | cs::r,l=>tog l&&cs.any fun c=>NX tog r (l++c)
def Ox {w:AJ} {tog:List Fact->Bool} {OK:(Int->H2)->Prop} (htog: ∀l,(∀x∈l,C1 w x)->(tog l=true↔ ∃M,OK M/\ ∀x∈l,EU w M x)): ∀(css:List (List (List Fact))) (l:List Fact),(∀x∈l,C1 w x)->(∀cs∈css,∀c∈cs,∀x∈c,C1 w x)->
    (NX tog css l=true↔ ∃M,OK M/\(∀x∈l,EU w M x)/\ ∀cs∈css,∃c∈cs,∀x∈c,EU w M x)
 | [],l,hl,_=>by
   rw[NX,htog l hl];constructor
   .rintro⟨M,h1,h2⟩
    exact⟨M,h1,h2,fun _ h=>by cases h⟩
   .rintro⟨M,h1,h2,_⟩
    exact⟨M,h1,h2⟩
 | cs::r,l,hl,hcs=>by
   have ih:=fun c (hc:c∈cs)=>Ox htog r (l++c) (fun x hx=>(Dr.1 hx).elim (hl x) (hcs cs (.head _) c hc x)) (fun d hd=>hcs d (.tail _ hd))
   rw[NX,A8,He];constructor
   .rintro⟨_,c,hc,h⟩
    obtain⟨M,h1,h2,h3⟩:=(ih c hc).1 h;refine⟨M,h1,fun x hx=>h2 x (NU _ hx),fun d hd=>?_⟩;rcases Fq.1 hd with rfl|hd
    .exact⟨c,hc,fun x hx=>h2 x (M0 _ hx)⟩
    .exact h3 d hd
   .rintro⟨M,h1,h2,h3⟩
    obtain⟨c,hc,h4⟩:=h3 cs (.head _);refine⟨(htog l hl).2 ⟨M,h1,h2⟩,c,hc,(ih c hc).2 ⟨M,h1,fun x hx=>(Dr.1 hx).elim (h2 x) (h4 x),fun d hd=>h3 d (.tail _ hd)⟩⟩
def pM (fs:List (Fact×Bool)):List (List (List Fact)):=fs.map fun x=>BS x.1 (!x.2)
def Z8 (fs:List (Fact×Bool)):List (List (List Fact)):=fs.map fun x=>CH x.1 (!x.2)
def gT {w:AJ} {tog:List Fact->Bool} {OK:(Int->H2)->Prop} (htog: ∀l,(∀x∈l,C1 w x)->(tog l=true↔ ∃M,OK M/\ ∀x∈l,EU w M x)) {fs:List (Fact×Bool)} (hn: ∀x∈fs,BT w x.1=true) :
    NX tog (pM fs) []=true↔ ∃M,OK M/\ ∀x∈fs,R4 w M x.1=x.2:=by
 rw[Ox htog (pM fs) [] (fun _ h=>by cases h) (fun cs hcs=>by
  obtain⟨x,hx,rfl⟩:=Iz.1 hcs
  exact Df x.1 (hn x hx) _)]
 constructor
 .rintro⟨M,h1,_,h3⟩
  exact⟨M,h1,fun x hx=>by simpa using(EP x.1 (hn x hx) (!x.2)).1 (h3 _ (Iz.2 ⟨x,hx,rfl⟩))⟩
 .rintro⟨M,h1,h2⟩
  refine⟨M,h1,(fun _ h=>by cases h),fun cs hcs=>?_⟩;obtain⟨x,hx,rfl⟩:=Iz.1 hcs;exact(EP x.1 (hn x hx) (!x.2)).2 (by simpa using h2 x hx)
def gS {w:AJ} {tog:List Fact->Bool} {OK:(Int->H2)->Prop} (htog: ∀l,(∀x∈l,C1 w x)->(tog l=true↔ ∃M,OK M/\ ∀x∈l,EU w M x)) {fs:List (Fact×Bool)} (hn: ∀x∈fs,BT w x.1=true) :
    NX tog (Z8 fs) []=true↔ ∃M,OK M/\ ∀x∈fs,R4 w M x.1=x.2:=by
 rw[Ox htog (Z8 fs) [] (fun _ h=>by cases h) (fun cs hcs=>by
  obtain⟨x,hx,rfl⟩:=Iz.1 hcs
  exact NR x.1 (hn x hx) _)]
 constructor
 .rintro⟨M,h1,_,h3⟩
  exact⟨M,h1,fun x hx=>by simpa using(Px x.1 (hn x hx) (!x.2)).1 (h3 _ (Iz.2 ⟨x,hx,rfl⟩))⟩
 .rintro⟨M,h1,h2⟩
  refine⟨M,h1,(fun _ h=>by cases h),fun cs hcs=>?_⟩;obtain⟨x,hx,rfl⟩:=Iz.1 hcs;exact(Px x.1 (hn x hx) (!x.2)).2 (by simpa using h2 x hx)
def Gd (E:List Bool->Bool):Nat->List Bool->List (List Bool)
 | 0,pre=>if E pre then [pre]else []
 | k+1,pre=>if E pre then Gd E k (pre++[false])++Gd E k (pre++[true])else []
def Hv {E E':List Bool->Bool} (h: ∀l,E l=E' l): ∀(k:Nat) (pre:List Bool),Gd E k pre=Gd E' k pre
 | 0,pre=>by rw[Gd,Gd,h]
 | k+1,pre=>by rw[Gd,Gd,h,Hv h k,Hv h k]
def aD (tog:List Fact->Bool) (fs:List Fact) (bs:List Bool):Bool:=NX tog (pM (fs.zip bs)) []
def Eb (tog:List Fact->Bool) (fs:List Fact) (bs:List Bool):Bool:=NX tog (Z8 (fs.zip bs)) []
def Ld {w:AJ} {tog:List Fact->Bool} {OK:(Int->H2)->Prop} (htog: ∀l,(∀x∈l,C1 w x)->(tog l=true↔ ∃M,OK M/\ ∀x∈l,EU w M x)) {fs:List Fact} (hn: ∀f∈fs,BT w f=true) (bs:List Bool) :
    aD tog fs bs=true↔ ∃M,OK M/\ ∀x∈fs.zip bs,R4 w M x.1=x.2:=gT htog fun x hx=>hn x.1 (List.of_mem_zip hx).1
def Ro {w:AJ} {tog:List Fact->Bool} {OK:(Int->H2)->Prop} (htog: ∀l,(∀x∈l,C1 w x)->(tog l=true↔ ∃M,OK M/\ ∀x∈l,EU w M x)) {fs:List Fact} (hn: ∀f∈fs,BT w f=true) (bs:List Bool) :
    Eb tog fs bs=true↔ ∃M,OK M/\ ∀x∈fs.zip bs,R4 w M x.1=x.2:=gS htog fun x hx=>hn x.1 (List.of_mem_zip hx).1
def Pn {p:Prog} (hok:Ed p) {i j k:Int} (hi:Bc p i=true) (hj:Bc p j=true) (hk:Bc p k=true) (h1:Ja p i j=true) (h2:Ja p j k=true):Ja p i k=true:=
 imp_trans hok.ud (hok.facts _ (Dm (C0 hi))).1 (hok.facts _ (Dm (C0 hj))).1 (hok.facts _ (Dm (C0 hk))).1 h1 h2
def YE {p:Prog} {i j:Int}:Az p i j=true↔Ja p i j=true/\Ja p j i=false:=by
 rw[Az,A8,Bool.not_eq_true']
def P3 {p:Prog} (i:Int):Az p i i=false:=by
 rw[Az];cases Ja p i i<;>rfl
def Tg {p:Prog} (hok:Ed p) {i j k:Int} (hi:Bc p i=true) (hj:Bc p j=true) (hk:Bc p k=true) (h1:Az p i j=true) (h2:Az p j k=true):Az p i k=true:=by
 rw[YE]at *;refine⟨Pn hok hi hj hk h1.1 h2.1,?_⟩;rw[<-Bool.not_eq_true];intro e;have:=Pn hok hk hi hj e h1.1;rw[h2.2]at this;cases this
end Go.Gl
namespace Go.Gl
open Go.Proofs
attribute [local irreducible] As Am Ac AQ AM Ab AP AR AL Aa AN AO Ao Ax Sat AW Au Ad W
def iS (g:FuncId) (fi ca:List V) (q:Int->Bool) (xs:List Int) (hpf: ∀y∈xs,Pure Tryz.prog g (fi++[eI y]++ca) (.b (q y))) (f:Bool) (hxl:xs.length<=1000):Pure Tryz.prog 170 [.l (iL xs) f,.f (.func g) fi ca] (.l (iL (xs.filter q)) true):=by
 refine Pure.of ?_;have hM:=Mx;refine tS kZ ?_;have hs:=Sn
 conv=>whnf
 repeat'((first|apply st|(apply sq;intro K U)|(apply si;intro A B Y Z)|(apply Y;clear Z B Y A)|(apply U;clear U K)|fail)<;>conv=>whnf)
 refine D3 xs.length (fun k v=>[(5,v),(10,eI (Bq k))]) (fun k v=>[.own v 1 (iL ((xs.take k).filter q))]) (fun _ _=>True) (.l [] true) rfl trivial (OF hs 1) ?_;clear hs;rintro k v σ hk - hs;have hfl:=Wb q (xs.take k);rw[NT]at hfl;rcases BM xs hk with⟨y,hy,hlt⟩|hke
 .have hpy:=hpf y (Dm hy)
  have hst:(xs.take (k+1)).filter q=if q y then(xs.take k).filter q++[y]else(xs.take k).filter q:=by
   rw[Ar hy,List.filter_append];cases hp:q y<;>simp[hp]
  generalize (xs.take k).filter q=zs at *;have hll:zs.length<Ay/\(zs.length+1)*8<=140737488355328:=by omega
  conv=>whnf
  repeat'((first|apply st|(apply sq;intro K U)|(apply si;intro A B Y Z)|(apply Y;clear Z B Y A)|(apply U;clear U K)|refine⟨rfl,?_⟩|refine ix ?_|refine aq fun v σ hs hsl=>?_|(refine DV (fun hc=>?_)<;>(try rw[hc])<;>clear hc)|refine BD (hpy.use ?_)|(constructor<;>intro hc<;>(try rw[hc])<;>(replace hc:=bp hc))|clear U K)<;>conv=>whnf)
  .rw[if_pos (by assumption)]at hst
   exact⟨hlt,_,rfl,trivial,by rw[hst];exact hs⟩
  .rw[if_neg (by simp[*])]at hst
   exact⟨hlt,_,rfl,trivial,by rw[hst];exact hs⟩
 .rw[CJ hke]at hs
  conv=>whnf
  repeat'((first|apply st|(apply sq;intro K U)|(apply si;intro A B Y Z)|(apply Y;clear Z B Y A)|(apply U;clear U K)|refine⟨rfl,?_⟩|(refine EZ (fun hc=>?_)<;>(try rw[hc])<;>clear hc)|clear U K)<;>conv=>whnf)
  refine(On (xs.filter q) v (by have:=Wb q xs;omega)).use (rest:=[]) (by simpa using hs) ?_;clear hs;rintro r post σ ⟨rfl,rfl⟩ hs
  conv=>whnf
  repeat'((first|apply st|(apply Y;clear Z B Y A)|(apply U;clear U K)|fail)<;>conv=>whnf)
  exact AK (by rfl)
def vV (x y:Int):Pure Tryz.prog 311 [eI y,.rp [eI x]] (.b (y != x)):=by
 refine rm kZ ?_;have hs:=Sn
 conv=>whnf
 repeat'((first|apply st|(apply sq;intro K U)|(apply si;intro A B Y Z)|(apply Y;clear Z B Y A)|(apply U;clear U K)|refine⟨rfl,?_⟩|fail)<;>conv=>whnf)
 all_goals exact AS (by rfl)
def MW (xs:List Int) (f:Bool) (x:Int) (hxl:xs.length<=1000):Pure Tryz.prog 259 [.l (iL xs) f,eI x] (.l (iL (xs.filter (· != x))) true):=by
 have c1:=iS 311 [] [.rp [eI x]] (· != x) xs (fun y _=>vV x y) f hxl;refine sW kZ ?_;have hs:=Sn
 conv=>whnf
 repeat'((first|apply st|(apply sq;intro K U)|(apply si;intro A B Y Z)|(apply Y;clear Z B Y A)|(apply U;clear U K)|refine c1.use ?_|fail)<;>conv=>whnf)
 all_goals exact AS (by rfl)
end Go.Gl
