import Derived.Test.YtnidfcmdimehdaaGreatW14
import Derived.Test.YtnidfcmdimehdaaGreatW17
import Derived.Test.YtnidfcmdimehdaaGreatW21
import Derived.Test.YtnidfcmdimehdaaGreatW25
set_option linter.all false
set_option linter.defProp false
set_option maxHeartbeats 8000000
noncomputable section
namespace Go.Gl
open Go.Proofs
inductive I3 where
 | int (n:Int)
 | J3
 | obj (C:Nat->Bool) (kid:Int->I3)
def J5 (w:AG):I3->Prop
 | .int n=> -1000000000<=n/\n<=1000000000
 | .J3=>True
 | .obj C kid=>(∀c,3<=c->C c=true-> ∀q∈par w.parents c,C q.toNat=true)/\ ∀s,J5 w (kid s)
def EN (t:I3) (f:Fact):Bool:=match t with
 | .int n=>if f.op=2 then !decide (f.cls > 1)else if f.op=3 then decide (n<f.n)else decide (n=f.n)
 | .J3=>f.op==2&&(f.cls==0||f.cls==2)
 | .obj C _=>f.op==2&&(f.cls==0||(decide (3<=f.cls)&&C f.cls.toNat))
def NM (w:AG):I3->List Int->Fact->Bool
 | t,[],f=>EN t f
 | .obj C kid,s::r,f=>C (B2 w s).toNat&&NM w (kid s) r f
 | _,_::_,_=>false
structure Dc (w:AG) (l:Fact):Prop where
 op:(Ag l).1.op=2\/(Ag l).1.op=3\/(Ag l).1.op=4
 cls:(Ag l).1.op=2->0<=(Ag l).1.cls/\(Ag l).1.cls<3+w.parents.length
 arg:0<=(Ag l).1.arg/\(Ag l).1.arg<3
 path: ∀s∈(Ag l).1.path,(0:Int)<=s/\s<w.owner.length
 short:(Ag l).1.path.length<=2
def Fc {w:AG} {l:Fact} (h:C6 w l):Dc w l:=by
 obtain⟨-,hn,hl⟩:=HH h;have hlo:=E3 hl;have q:=Lh (w:=w) (l:=[l]) (fun x hx=>by rw[MG.1 hx];exact h);rw[CO,A4]at hn;have hn:=hn.1;simp only[Dr,A4,CT]at hn;obtain⟨ho,-,ha1,ha2,hp,-⟩:=hn;simp only[Ib,A4,DR,Ot,CT]at hp;exact⟨hlo,q.2.1 l (.head _),⟨ha1,ha2⟩,fun s hs=>hp.1 s hs,hp.2⟩
def pf (t:Int×Int×List Int) (m:Int):Prop:=t.1<=m/\m<=t.2.1/\m∉t.2.2
def bA {w:AG} {l:Fact} (hl:Dc w l) (t:Int×Int×List Int) (m:Int):(∃t',Uv (Ag l) t=some t'/\pf t' m)↔pf t m/\EN (.int m) (Ag l).1= !(Ag l).2:=by
 have h1:=hl.op;generalize Ag l=x at *;obtain⟨f,b⟩:=x;obtain⟨lo,hi,no⟩:=t;simp only[Uv,pf,EN]at *;rcases h1 with h|h|h
 .rw[if_pos h,if_pos h]
  by_cases hc:f.cls > 1<;>cases b<;>simp[hc]
 .have h2: ¬f.op=2:=by omega
  rw[if_neg h2,if_pos h,if_neg h2,if_pos h];cases b
  .simp only[Jf,if_false,GU,exists_eq_left',Bool.not_false,CT]
   split<;>constructor<;>rintro⟨h3,h4⟩
   .exact⟨⟨h3,by omega,h4.2⟩,by omega⟩
   .exact⟨h3.1,by omega,h3.2.2⟩
   .exact⟨⟨h3,h4⟩,by omega⟩
   .exact h3
  .simp only[if_true,GU,exists_eq_left',Bool.not_true,decide_eq_false_iff_not]
   split<;>constructor<;>rintro⟨h3,h4⟩
   .exact⟨⟨by omega,h4⟩,by omega⟩
   .exact⟨by omega,h3.2⟩
   .exact⟨⟨h3,h4⟩,by omega⟩
   .exact h3
 .have h2: ¬f.op=2:=by omega
  have h3: ¬f.op=3:=by omega
  rw[if_neg h2,if_neg h3,if_neg h2,if_neg h3];cases b
  .simp only[Jf,if_false,GU,exists_eq_left',Bool.not_false,CT]
   constructor
   .rintro⟨h3,h4,h5⟩
    split at h3<;>split at h4<;>exact⟨⟨by omega,by omega,h5⟩,by omega⟩
   .rintro⟨⟨h3,h4,h5⟩,rfl⟩
    refine⟨?_,?_,h5⟩
    .split<;>omega
    .split<;>omega
  .simp only[if_true,GU,exists_eq_left',Bool.not_true,decide_eq_false_iff_not,Dm,MG,not_or]
   constructor
   .rintro⟨h3,h4,h5,h6⟩
    exact⟨⟨h3,h4,h5⟩,h6⟩
   .rintro⟨⟨h3,h4,h5⟩,h6⟩
    exact⟨h3,h4,h5,h6⟩
def JU {w:AG} (m:Int): ∀(os:List Fact) (t:Int×Int×List Int),(∀l∈os,Dc w l)->((∃t',foldI os t=some t'/\pf t' m)↔pf t m/\ ∀l∈os,EN (.int m) (Ag l).1= !(Ag l).2)
 | [],t,_=>by simp[foldI]
 | x ::r,t,h=>by
   have h1:=bA (h x (.head _)) t m;constructor
   .rintro⟨t',h2,h3⟩
    rw[foldI,Option.bind_eq_some_iff]at h2;obtain⟨u,h4,h5⟩:=h2;obtain⟨h6,h7⟩:=(JU m r u fun l hl=>h l (.tail _ hl)).1 ⟨t',h5,h3⟩;obtain⟨h8,h9⟩:=h1.1 ⟨u,h4,h6⟩;refine⟨h8,fun l hl=>?_⟩;rcases FR.1 hl with rfl|hl
    .exact h9
    .exact h7 l hl
   .rintro⟨h2,h3⟩
    obtain⟨u,h4,h5⟩:=h1.2 ⟨h2,h3 x (.head _)⟩;obtain⟨t',h6,h7⟩:=(JU m r u fun l hl=>h l (.tail _ hl)).2 ⟨h5,fun l hl=>h3 l (.tail _ hl)⟩;exact⟨t',by rw[foldI,h4];exact h6,h7⟩
def Rg (t:Int×Int×List Int):(Uw t).isSome=true↔ ∃m,pf t m:=by
 obtain⟨lo,hi,no⟩:=t;rw[Uw,Mt];constructor
 .rintro⟨j,h1,h2⟩
  exact⟨lo+j,by simp only[pf]at *;omega,by simp only[]at *;omega,h2⟩
 .rintro⟨m,h1,h2,h3⟩
  dsimp only at h1 h2 h3 ⊢;exact⟨(m - lo).toNat,by omega,by rw[show lo+((m - lo).toNat:Int)=m by omega];exact h3⟩
def E0 {a:Int} {p:List Int} {l:Fact}:Jk a p l=true↔(Ag l).1.arg=a/\(Ag l).1.path=p:=by
 rw[Jk,A4,Cy,Cy]
def jH {w:AG} {ls:List Fact} (hl: ∀l∈ls,Dc w l) (a:Int) (p:List Int):(Ny ls a p).isSome=true↔ ∃m,(-1000000000<=m/\m<=1000000000)/\ ∀l∈ls,(Ag l).1.arg=a->(Ag l).1.path=p->EN (.int m) (Ag l).1= !(Ag l).2:=by
 have hL: ∀l∈ls.filter (Jk a p),Dc w l:=fun l h=>hl l (Kv.1 h).1
 rw[Ny];constructor
 .intro h
  cases hf:foldI (ls.filter (Jk a p)) t0 with
  | none=>rw[hf]at h;cases h
  | some t=>
    rw[hf]at h;obtain⟨m,hm⟩:=(Rg t).1 h;obtain⟨h1,h2⟩:=(JU m _ t0 hL).1 ⟨t,hf,hm⟩;exact⟨m,⟨h1.1,h1.2.1⟩,fun l h3 h4 h5=>h2 l (Kv.2 ⟨h3,E0.2 ⟨h4,h5⟩⟩)⟩
 .rintro⟨m,h1,h2⟩
  obtain⟨t,h3,h4⟩:=(JU m (ls.filter (Jk a p)) t0 hL).2 ⟨⟨h1.1,h1.2,by simp[t0]⟩,fun l h=>by
   obtain⟨h5,h6⟩:=Kv.1 h
   exact h2 l h5 (E0.1 h6).1 (E0.1 h6).2⟩
  rw[h3];exact(Rg t).2 ⟨m,h4⟩
def FK {ls:List Fact} {a:Int} {p:List Int}:EP ls a p=true↔ ∀l∈ls,(Ag l).1.arg=a-> ∀q,(Ag l).1.path=p++q->(Ag l).2=true:=by
 rw[EP,DR];constructor
 .intro h l hl ha q hq
  have:=h l hl;rw[Ek]at this;rcases this with h1|h1
  .exact h1
  .rw[ha,hq]at h1
   have h2:BY (p++q) p=true:=Bn.2 ⟨q,rfl⟩;simp[h2]at h1
 .intro h l hl
  rw[Ek];by_cases h1:(Ag l).1.arg=a/\BY (Ag l).1.path p=true
  .obtain⟨q,hq⟩:=Bn.1 h1.2
   exact .inl (h l hl h1.1 q hq)
  .right
   simp only[Bool.not_eq_true',Bool.and_eq_false_iff,beq_eq_false_iff_ne];rcases Classical.em ((Ag l).1.arg=a)with e|e
   .exact .inr (by simpa[e]using h1)
   .exact .inl e
def JM {w:AG} {ls:List Fact} (hl: ∀l∈ls,Dc w l) {a:Int} {p:List Int} {s:Int}:s∈CX w.owner.length ls a p↔ ∃l∈ls,(Ag l).1.arg=a/\ ∃q,(Ag l).1.path=p++s::q:=by
 rw[CX,Kv,GF,Ck];constructor
 .rintro⟨-,l,h1,h2⟩
  rw[oN,A4,Cy]at h2;obtain⟨q,hq⟩:=Bn.1 h2.2;exact⟨l,h1,h2.1,q,by rw[hq];simp⟩
 .rintro⟨l,h1,h2,q,hq⟩
  refine⟨(hl l h1).path s (by rw[hq];simp),l,h1,?_⟩;rw[oN,A4,Cy];exact⟨h2,Bn.2 ⟨q,by rw[hq];simp⟩⟩
def V4 {w:AG} {ls:List Fact} (hl: ∀l∈ls,Dc w l) {a:Int} {p:List Int}:GI w.owner.length ls a p=true↔ ∀l∈ls,(Ag l).1.arg=a-> ∀s q,(Ag l).1.path=p++s::q->(Ag l).2=true:=by
 rw[GI,DR];constructor
 .intro h l h1 h2 s q hq
  exact FK.1 (h s ((JM hl).2 ⟨l,h1,h2,q,hq⟩)) l h1 h2 q (by rw[hq];simp)
 .intro h s _
  exact FK.2 fun l h1 h2 q hq=>h l h1 h2 s q (by rw[hq];simp)
def PF {w:AG} (hw:Nr w) {s:Int} (h:0<=s/\s<(w.owner.length:Int)):3<=B2 w s/\B2 w s<3+w.parents.length:=by
 have hs:s.toNat<w.owner.length:=by omega
 have:B2 w s=w.owner[s.toNat]:=by rw[B2,Dh,Di hs];rfl
 rw[this];exact hw.own _ (List.getElem_mem hs)
def oT (t:BB) (C:Nat->Bool):Prop:=(∀c,t.1.getD c false=true->c=0\/C c=true)/\ ∀c,t.2.getD c false=true->c≠0/\C c=false
def Sm (t t':BB):Prop:=t.1.length=t'.1.length/\t.2.length=t'.2.length/\(∀c,t.1.getD c false=true->t'.1.getD c false=true)/\ ∀c,t.2.getD c false=true->t'.2.getD c false=true
def Sm.kY {t:BB}:Sm t t:=⟨rfl,rfl,fun _ h=>h,fun _ h=>h⟩
def Sm.trans {t u v:BB} (h:Sm t u) (k:Sm u v):Sm t v:=⟨h.1.trans k.1,h.2.1.trans k.2.1,fun c hc=>k.2.2.1 c (h.2.2.1 c hc),fun c hc=>k.2.2.2 c (h.2.2.2 c hc)⟩
def LY {l:List Bool} {c b:Nat} (h:(l.set c true).getD b false=true):l.getD b false=true\/b=c:=by
 by_cases e:b=c
 .exact .inr e
 .rw[Dh,List.getElem?_set_ne (fun h=>e h.symm),<-Dh]at h
  exact .inl h
def La {l:List Bool} {c b:Nat} (h:l.getD b false=true):(l.set c true).getD b false=true:=by
 by_cases e:c<l.length
 .rw[EY e]
  split
  .rfl
  .exact h
 .rw[List.set_eq_of_length_le (by omega)];exact h
def LZ {l:List Bool} {c:Nat} (h:c<l.length):(l.set c true).getD c false=true:=by
 rw[EY h,if_pos rfl]
def Sm.yV {t:BB} (c:Nat):Sm t (t.1.set c true,t.2):=⟨by simp,rfl,fun _ h=>La h,fun _ h=>h⟩
def Sm.yU {t:BB} (c:Nat):Sm t (t.1,t.2.set c true):=⟨rfl,by simp,fun _ h=>h,fun _ h=>La h⟩
def XS (t:BB) (f:Fact) (b:Bool):Prop:=if f.op≠2\/f.cls=1\/f.cls=2 then b=true else if b then t.2.getD f.cls.toNat false=true else t.1.getD f.cls.toNat false=true
def SY {t t':BB} (h:Sm t t') {f:Fact} {b:Bool} (k:XS t f b):XS t' f b:=by
 unfold XS at *;split
 .rename_i h1;rw[if_pos h1]at k;exact k
 .rename_i h1;rw[if_neg h1]at k
  split
  .rename_i h2;rw[if_pos h2]at k;exact h.2.2.2 _ k
  .rename_i h2;rw[if_neg h2]at k;exact h.2.2.1 _ k
def hZ {w:AG} {l:Fact} (hl:Dc w l) {t t':BB} (hn:t.1.length=3+w.parents.length/\t.2.length=3+w.parents.length) (h:NN (Ag l) t=some t'):Sm t t'/\XS t' (Ag l).1 (Ag l).2:=by
 have hc:=hl.cls;generalize Ag l=x at *;obtain⟨f,b⟩:=x;simp only[NN,XS]at *;split at h
 .rename_i h1
  rw[if_pos h1];cases b
  .cases h
  .obtain rfl:=Option.some.inj h
   exact⟨Sm.kY,rfl⟩
 .rename_i h1
  rw[if_neg h1]
  have h2:f.op=2:=by
   rcases Classical.em (f.op=2)with e|e
   .exact e
   .exact absurd (Or.inl e) h1
  have:=hc h2;cases b
  .obtain rfl:=Option.some.inj h
   exact⟨.yV _,by rw[if_neg (by decide)];exact LZ (by omega)⟩
  .obtain rfl:=Option.some.inj h
   exact⟨.yU _,by rw[if_pos rfl];exact LZ (by omega)⟩
def a6 {w:AG} {l:Fact} (hl:Dc w l) {t:BB} {C:Nat->Bool} {kid:Int->I3} (hi:oT t C) (h:EN (.obj C kid) (Ag l).1= !(Ag l).2): ∃t',NN (Ag l) t=some t'/\oT t' C:=by
 have hc:=hl.cls;generalize Ag l=x at *;obtain⟨f,b⟩:=x;simp only[NN,EN]at *;by_cases h1:f.op≠2\/f.cls=1\/f.cls=2
 .rw[if_pos h1]
  have h2:(f.op==2&&(f.cls==0||(decide (3<=f.cls)&&C f.cls.toNat)))=false:=by
   rcases h1 with h1|h1|h1
   .simp[h1]
   .simp[h1]
   .simp[h1]
  rw[h2]at h;cases b
  .cases h
  .exact⟨t,rfl,hi⟩
 .rw [if_neg h1]
  have h2:f.op=2:=by
   rcases Classical.em (f.op=2)with e|e
   .exact e
   .exact absurd (Or.inl e) h1
  have hr:=hc h2;have h3:f.cls≠1/\f.cls≠2:=⟨fun e=>h1 (.inr (.inl e)),fun e=>h1 (.inr (.inr e))⟩
  have h4:(f.op==2&&(f.cls==0||(decide (3<=f.cls)&&C f.cls.toNat)))=(decide (f.cls=0)||C f.cls.toNat):=by
   rw[h2];rcases Classical.em (f.cls=0)with e|e
   .simp[e]
   .have:3<=f.cls:=by omega
    simp[e,this]
  rw[h4]at h;cases b
  .refine⟨_,rfl,fun c hh=>?_,hi.2⟩
   rcases LY hh with hh|rfl
   .exact hi.1 c hh
   .simp only[Bool.not_false,Ek,CT]at h
    rcases h with h|h
    .exact .inl (by omega)
    .exact .inr h
  .refine⟨_,rfl,hi.1,fun c hh=>?_⟩
   rcases LY hh with hh|rfl
   .exact hi.2 c hh
   .simp only[Bool.not_true,Bool.or_eq_false_iff,decide_eq_false_iff_not]at h
    exact⟨by omega,h.2⟩
def Pq {w:AG}: ∀(os:List Fact) {t t':BB},(∀l∈os,Dc w l)->(t.1.length=3+w.parents.length/\t.2.length=3+w.parents.length)->Jv os t=some t'->Sm t t'/\ ∀l∈os,XS t' (Ag l).1 (Ag l).2
 | [],t,t',_,_,h=>by
   obtain rfl:=Option.some.inj h;exact⟨Sm.kY,fun l hl=>by cases hl⟩
 | x::r,t,t',hl,hn,h=>by
   rw[Jv,Option.bind_eq_some_iff]at h;obtain⟨u,h1,h2⟩:=h;obtain⟨h3,h4⟩:=hZ (hl x (.head _)) hn h1;obtain⟨h5,h6⟩:=Pq r (fun l h=>hl l (.tail _ h)) ⟨by rw[<-h3.1];exact hn.1,by rw[<-h3.2.1];exact hn.2⟩ h2;refine⟨h3.trans h5,fun l h=>?_⟩;rcases FR.1 h with rfl|h
   .exact SY h5 h4
   .exact h6 l h
def SG {w:AG} {C:Nat->Bool} {kid:Int->I3}: ∀(os:List Fact) {t:BB},(∀l∈os,Dc w l)->oT t C->(∀l∈os,EN (.obj C kid) (Ag l).1= !(Ag l).2)-> ∃t',Jv os t=some t'/\oT t' C
 | [],t,_,hi,_=>⟨t,rfl,hi⟩
 | x::r,t,hl,hi,h=>by
   obtain⟨u,h1,h2⟩:=a6 (hl x (.head _)) hi (h x (.head _));obtain⟨t',h3,h4⟩:=SG r (fun l h=>hl l (.tail _ h)) h2 fun l hh=>h l (.tail _ hh)
   exact⟨t',by rw[Jv,h1];exact h3,h4⟩
def qP (w:AG) (ls:List Fact) (a:Int) (p:List Int) (can:Int->Bool) (s:Int) (t:BB):Prop:=
 (EP ls a (p++[s])=false->t.1.getD (B2 w s).toNat false=true/\can s=true)/\(can s=false->t.2.getD (B2 w s).toNat false=true)
def Pp {w:AG} (hw:Nr w) {ls:List Fact} {a:Int} {p:List Int} {can:Int->Bool}: ∀(sl:List Int) {t t':BB},(∀s∈sl,0<=s/\s<(w.owner.length:Int))->(t.1.length=3+w.parents.length/\t.2.length=3+w.parents.length)->Ju w ls a p can sl t=some t'->Sm t t'/\ ∀s∈sl,qP w ls a p can s t'
 | [],t,t',_,_,h=>by
   obtain rfl:=Option.some.inj h;exact⟨Sm.kY,fun l hl=>by cases hl⟩
 | s ::r,t,t',hs,hn,h=>by
   rw[Ju,Option.bind_eq_some_iff]at h;obtain⟨u,h1,h2⟩:=h;have ho:=PF hw (hs s (.head _))
   have h3:Sm t u/\qP w ls a p can s u:=by
    rw[Uu]at h1;split at h1
    .cases h1
    .rename_i hne
     obtain rfl:=Option.some.inj h1;simp only[qP];cases hb:EP ls a (p++[s])<;>cases hc:can s
     .simp[hb,hc]at hne
     .exact⟨⟨by simp,rfl,fun c h=>La h,fun c h=>h⟩,fun _=>⟨LZ (by omega),rfl⟩,fun h=>(by cases h)⟩
     .exact⟨⟨rfl,by simp,fun c h=>h,fun c h=>La h⟩,fun h=>(by cases h),fun _=>LZ (by omega)⟩
     .exact⟨Sm.kY,fun h=>(by cases h),fun h=>(by cases h)⟩
   obtain⟨h5,h6⟩:=Pp hw r (fun l h=>hs l (.tail _ h)) ⟨by rw[<-h3.1.1];exact hn.1,by rw[<-h3.1.2.1];exact hn.2⟩ h2;refine⟨h3.1.trans h5,fun l h=>?_⟩;rcases FR.1 h with rfl|h
   .exact⟨fun hb=>⟨h5.2.2.1 _ (h3.2.1 hb).1,(h3.2.1 hb).2⟩,fun hc=>h5.2.2.2 _ (h3.2.2 hc)⟩
   .exact h6 l h
def SF {w : AG} (hw:Nr w) {ls:List Fact} {a:Int} {p:List Int} {can:Int->Bool} {C:Nat->Bool}: ∀(sl:List Int) {t:BB},(∀s∈sl,0<=s/\s<(w.owner.length:Int))->oT t C->
    (∀s∈sl,(EP ls a (p++[s])=false->C (B2 w s).toNat=true)/\(C (B2 w s).toNat=true->can s=true))-> ∃t',Ju w ls a p can sl t=some t'/\oT t' C
 | [],t,_,hi,_=>⟨t,rfl,hi⟩
 | s :: r, t,hs,hi,h=>by
   have ho:=PF hw (hs s (.head _));obtain⟨k1,k2⟩:=h s (.head _)
   have h1 : ∃u,Uu w ls a p can s t=some u/\oT u C:=by
    rw[Uu];cases hb:EP ls a (p++[s])
    .rw[k2 (k1 hb)]
     refine⟨_,rfl,fun c hh=>?_,hi.2⟩;rcases LY hh with hh|rfl
     .exact hi.1 c hh
     .exact .inr (k1 hb)
    .cases hc:can s
     .refine⟨_,rfl,hi.1,fun c hh=>?_⟩
      rcases LY hh with hh|rfl
      .exact hi.2 c hh
      .refine⟨by omega,?_⟩
       rw[<-Bool.not_eq_true];intro e;rw[k2 e]at hc;cases hc
     .exact⟨_,rfl,hi⟩
   obtain⟨u,h2,h3⟩:=h1;obtain⟨t',h4,h5⟩:=SF hw r (fun l h=>hs l (.tail _ h)) h3 fun l hh=>h l (.tail _ hh)
   exact⟨t',by rw[Ju,h2];exact h4,h5⟩
def lx {w:AG} {C:Nat->Bool}:oT (tO w) C:=by
 have: ∀c,(List.replicate (3+w.parents.length) false).getD c false=false:=fun c=>by
  rw[Dh];cases h:(List.replicate (3+w.parents.length) false)[c]? with
  | none=>rfl
  | some b=>rw[List.eq_of_mem_replicate (Dn h)];rfl
 exact⟨fun c h=>absurd ((this c).symm.trans h) (by decide),fun c h=>absurd ((this c).symm.trans h) (by decide)⟩
def cg {g:List (List Int)} (ho:ordered g) {C:Nat->Bool} (hC: ∀c,3<=c->C c=true-> ∀q∈par g c,C q.toNat=true): ∀d b:Nat,3<=d->C d=true->GG g d b=true->C b=true:=by
 intro d
 induction d using Nat.strongRecOn with
 | _ d ih=>
   intro b h3 hd h;rw[Eo ho]at h;simp only[Ek,Cy,GF]at h;rcases h with rfl|⟨p,hp,h⟩
   .exact hd
   .have:=ho d p hp
    exact ih p.toNat (by omega) b (by omega) (hC d h3 hd p hp) h
def ij {w : AG} (hw : Nr w) {ls:List Fact} (hl: ∀l∈ls,Dc w l) {a:Int} {p:List Int} {can:Int->Bool} {T:Int->I3->Prop} (hcan: ∀s,s∈CX w.owner.length ls a p->(can s=true↔ ∃t,J5 w t/\T s t))
    (hT: ∀s t,T s t↔ ∀l∈ls,(Ag l).1.arg=a-> ∀q,(Ag l).1.path=p++s::q->NM w t q (Ag l).1= !(Ag l).2) :
    (UW w ls a p can).isSome=true↔ ∃C kid,J5 w (.obj C kid)/\ ∀l∈ls,(Ag l).1.arg=a-> ∀q,(Ag l).1.path=p++q->NM w (.obj C kid) q (Ag l).1= !(Ag l).2:=by
 have hL: ∀l∈ls.filter (Jk a p),Dc w l:=fun l h=>hl l (Kv.1 h).1
 have hS: ∀s∈CX w.owner.length ls a p,0<=s/\s<(w.owner.length:Int):=fun s h=>HS h
 have hn0:(tO w).1.length=3+w.parents.length/\(tO w).2.length=3+w.parents.length:=by simp[tO]
 constructor
 .intro h
  rw[UW]at h;cases h1:Jv (ls.filter (Jk a p)) (tO w)with
  | none=>rw[h1]at h;cases h
  | some t=>
    rw[h1,Option.bind_some]at h;obtain⟨g1,g2⟩:=Pq _ hL hn0 h1;have hn1:t.1.length=3+w.parents.length/\t.2.length=3+w.parents.length:=⟨by rw[<-g1.1];exact hn0.1,by rw[<-g1.2.1];exact hn0.2⟩
    cases h2:Ju w ls a p can (CX w.owner.length ls a p) t with
    | none=>rw[h2]at h;cases h
    | some u=>
      rw[h2,Option.bind_some,dk]at h;obtain⟨g3,g4⟩:=Pp hw _ hS hn1 h2;have hn2:u.1.length=3+w.parents.length/\u.2.length=3+w.parents.length:=⟨by rw[<-g3.1];exact hn1.1,by rw[<-g3.2.1];exact hn1.2⟩
      split at h
      .cases h
      .rename_i h0
       split at h
       .cases h
       .rename_i h3
        clear h;have hSl:(u.1.set 0 false).length=3+w.parents.length:=by simpa using hn2.1
        generalize hSd:Cc w.parents (3+w.parents.length) w.parents.length (u.1.set 0 false)=S at *
        have hin: ∀c,3<=c->u.1.getD c false=true->S.getD c false=true:=fun c hc h=>by
         rw[<-hSd];refine I0 hw.ord hSl _ _ ?_;rw[Dh,List.getElem?_set_ne (by omega),<-Dh];exact h
        have hdis: ∀c,S.getD c false=true->u.2.getD c false=true->False:=fun c k1 k2=>by
         have hc:c<3+w.parents.length:=by
          rcases Nat.lt_or_ge c (3+w.parents.length)with h|h
          .exact h
          .rw[Dh,List.getElem?_eq_none (by omega)]at k2
           cases k2
         refine h3 (GF.2 ⟨c,List.mem_range.2 hc,?_⟩);rw[k1,k2];rfl
        have hkid: ∀s,∃t,J5 w t/\((∃t,J5 w t/\T s t)->T s t):=fun s=>by
         rcases Classical.em (∃t,J5 w t/\T s t)with⟨t,k1,k2⟩|k
         .exact⟨t,k1,fun _=>k2⟩
         .exact⟨.J3,trivial,fun h=>absurd h k⟩
        refine⟨fun c=>S.getD c false,fun s=>Classical.choose (hkid s),⟨fun c hc h q hq=>?_,fun s=>(Classical.choose_spec (hkid s)).1⟩,fun l h1 h2 q hq=>?_⟩
        .change S.getD c false=true at h
         change S.getD q.toNat false=true
         have hcl:c<3+w.parents.length:=by
          rcases Nat.lt_or_ge c (3+w.parents.length)with h'|h'
          .exact h'
          .rw[Dh,List.getElem?_eq_none (by rw[<-hSd,Ey];omega)]at h
           cases h
         rw[<-hSd]at h ⊢;exact Gp hw.ord hSl _ c (by omega) (by omega) h q hq
        .cases q with
         | nil =>
           have k:=g2 l (Kv.2 ⟨h1,E0.2 ⟨h2,by simpa using hq⟩⟩);have k:=SY g3 k;have hc:=(hl l h1).cls;generalize Ag l=x at *;obtain⟨f,b⟩:=x;simp only[NM,EN,XS]at *;by_cases e1:f.op≠2\/f.cls=1\/f.cls=2
           .rw[if_pos e1]at k
            subst k;rcases e1 with e1|e1|e1
            .simp[e1]
            .simp[e1]
            .simp[e1]
           .rw [if_neg e1]at k
            have e2:f.op=2:=by
             rcases Classical.em (f.op=2)with e|e
             .exact e
             .exact absurd (Or.inl e) e1
            have hr:=hc e2;have e3:f.cls≠1/\f.cls≠2:=⟨fun e=>e1 (.inr (.inl e)),fun e=>e1 (.inr (.inr e))⟩
            rw[e2];rcases Classical.em (f.cls=0)with e|e
            .rw[e]at k ⊢
             cases b
             .rfl
             .exfalso;exact h0 k
            .have e4:(f.cls==0)=false:=by simpa using e
             have e5:decide (3<=f.cls)=true:=decide_eq_true (by omega);rw[e4,e5];cases b
             .rw[if_neg (by decide)]at k
              rw[hin _ (by omega) k];rfl
             .rw[if_pos rfl]at k
              have:S.getD f.cls.toNat false=false:=by
               rw[<-Bool.not_eq_true];exact fun e=>hdis _ e k
              rw[this];rfl
         | cons s q=>
           have hs:s∈CX w.owner.length ls a p:=(JM hl).2 ⟨l,h1,h2,q,hq⟩;have hso:=PF hw (hS s hs);obtain⟨k1,k2⟩:=g4 s hs;simp only[NM];cases hm:S.getD (B2 w s).toNat false
           .rw[Bool.false_and]
            cases hb:EP ls a (p++[s])
            .have:=hin _ (by omega) (k1 hb).1
             rw[hm]at this;cases this
            .rw[FK.1 hb l h1 h2 q (by rw[hq];simp)];rfl
           .rw[Ed]
            cases hc:can s
            .exact absurd (k2 hc) fun e=>hdis _ hm e
            .exact(hT s _).1 ((Classical.choose_spec (hkid s)).2 ((hcan s hs).1 hc)) l h1 h2 q hq
 .rintro ⟨C,kid,⟨hC,U⟩,h⟩
  obtain⟨t,h1,h2⟩:=SG (C:=C) (kid:=kid) (ls.filter (Jk a p)) (t:=tO w) hL lx fun l k=>by
   obtain⟨k1,k2⟩:=Kv.1 k;obtain⟨k3,k4⟩:=E0.1 k2;exact h l k1 k3 [] (by simpa using k4)
  obtain ⟨u,h3,h4⟩:=SF hw (C:=C) (can:=can) (ls:=ls) (a:=a) (p:=p) (CX w.owner.length ls a p) (t:=t) hS h2 fun s hs=>by
   constructor
   .intro hb
    cases e:C (B2 w s).toNat
    .rw[FK.2 fun l k1 k2 q hq=>by
      have:=h l k1 k2 (s::q) (by rw[hq];simp);simp only[NM,e,Bool.false_and]at this
      simpa using this.symm]at hb
     cases hb
    .rfl
   .intro e
    refine(hcan s hs).2 ⟨kid s,U s,(hT s _).2 fun l k1 k2 q hq=>?_⟩;have:=h l k1 k2 (s::q) hq;simpa only[NM,e,Ed]using this
  rw[UW,h1,Option.bind_some,h3,Option.bind_some,dk]
  have h0:u.2.getD 0 false=false:=by
   rw[<-Bool.not_eq_true];exact fun e=>(h4.2 0 e).1 rfl
  rw[h0,if_neg (by decide),if_neg]
  .rfl
  .rw [GF]
   rintro⟨c,-,hc⟩;rw[A4]at hc;have q1:=(Pq _ hL hn0 h1).1;have q2:=(Pp hw _ hS ⟨by rw[<-q1.1];exact hn0.1,by rw[<-q1.2.1];exact hn0.2⟩ h3).1;have hlen:(u.1.set 0 false).length=3+w.parents.length:=by rw[List.length_set,<-q2.1,<-q1.1];exact hn0.1
   obtain⟨d,k1,k2⟩:=Fi hw.ord hlen _ _ hc.1
   have hd0:d≠0:=by
    rintro rfl;rw[Dh,List.getElem?_set_self (by rw[List.length_set]at hlen;omega)]at k1;cases k1
   rw[Dh,List.getElem?_set_ne (fun e=>hd0 e.symm),<-Dh]at k1;have hCd:C d=true:=(h4.1 d k1).resolve_left hd0
   have hCc:C c=true:=by
    rcases Nat.lt_or_ge d 3 with hd|hd
    .rw[Eo hw.ord,show par w.parents d= [] from if_pos hd]at k2
     simp only[List.any_nil,Bool.or_false,Cy]at k2;subst k2;exact hCd
    .exact cg hw.ord hC d c hd hCd k2
   have:=(h4.2 c hc.2).2;rw[hCc]at this;cases this
def TT (w:AG) (ls:List Fact) (a:Int) (p:List Int) (t:I3):Prop:= ∀l∈ls,(Ag l).1.arg=a-> ∀q,(Ag l).1.path=p++q->NM w t q (Ag l).1= !(Ag l).2
def JP {w:AG} {ls:List Fact} (hl: ∀l∈ls,Dc w l) {a:Int} {p:List Int}:Ic w.owner.length ls a p=true↔TT w ls a p .J3:=by
 rw[Ic,A4,DR,V4 hl];constructor
 .rintro⟨h1,h2⟩ l k1 k2 q hq
  cases q with
  | nil=>
    have:=h1 l (Kv.2 ⟨k1,E0.2 ⟨k2,by simpa using hq⟩⟩);simp only[NM,EN,RI]at *
    revert this
    cases((Ag l).1.op==2&&((Ag l).1.cls==0||(Ag l).1.cls==2))<;>cases(Ag l).2<;>decide
  | cons s q=>simp[NM,h2 l k1 k2 s q hq]
 .intro h
  refine⟨fun l k=>?_,fun l k1 k2 s q hq=>?_⟩
  .obtain⟨k1,k2⟩:=Kv.1 k
   obtain⟨k3,k4⟩:=E0.1 k2;have:=h l k1 k3 [] (by simpa using k4);simp only[NM,EN,RI]at *
   revert this
   cases((Ag l).1.op==2&&((Ag l).1.cls==0||(Ag l).1.cls==2))<;>cases(Ag l).2<;>decide
  .have:=h l k1 k2 (s::q) hq
   simpa[NM]using this.symm
def Ll {w:AG} {ls:List Fact} (hl: ∀l∈ls,Dc w l) {a:Int} {p:List Int}:((Ny ls a p).isSome&&GI w.owner.length ls a p)=true↔ ∃m,J5 w (.int m)/\TT w ls a p (.int m):=by
 rw[A4,V4 hl,jH hl];constructor
 .rintro⟨⟨m,h1,h2⟩,h3⟩
  refine⟨m,h1,fun l k1 k2 q hq=>?_⟩;cases q with
  | nil=>exact h2 l k1 k2 (by simpa using hq)
  | cons s q=>simp[NM,h3 l k1 k2 s q hq]
 .rintro⟨m,h1,h2⟩
  refine⟨⟨m,h1,fun l k1 k2 k3=>h2 l k1 k2 [] (by simpa using k3)⟩,fun l k1 k2 s q hq=>?_⟩;have:=h2 l k1 k2 (s::q) hq;simpa[NM]using this.symm
def Zz {w:AG} (hw:Nr w) {ls:List Fact} (hl: ∀l∈ls,Dc w l) {a:Int} {p:List Int} {can:Int->Bool} (hcan: ∀s,s∈CX w.owner.length ls a p->(can s=true↔ ∃t,J5 w t/\TT w ls a (p++[s]) t)) :
    (((Ny ls a p).isSome&&GI w.owner.length ls a p)||(Ic w.owner.length ls a p||(UW w ls a p can).isSome))=true↔ ∃t,J5 w t/\TT w ls a p t:=by
 rw[Ek,Ek,Ll hl,JP hl,ij hw hl (T:=fun s t=>TT w ls a (p++[s]) t) hcan fun s t=>by simp only[TT,Od,List.singleton_append]];constructor
 .rintro(⟨m,h1,h2⟩|h|⟨C,kid,h1,h2⟩)
  .exact⟨_,h1,h2⟩
  .exact⟨.J3,trivial,h⟩
  .exact⟨_,h1,h2⟩
 .rintro⟨t,h1,h2⟩
  cases t with
  | int m=>exact .inl ⟨m,h1,h2⟩
  | J3=>exact .inr (.inl h2)
  | obj C kid=>exact .inr (.inr ⟨C,kid,h1,h2⟩)
def Pw {w:AG} (hw:Nr w) {ls:List Fact} (hl: ∀l∈ls,Dc w l) (a:Int): ∀(d:Nat) (p:List Int),p.length+d=2->(S3 w ls a d p=true↔ ∃t,J5 w t/\TT w ls a p t)
 | 0,p,hp=>by
   rw[S3];refine Zz hw hl fun s hs=>?_
   rw[Mu (m:=2) (fun l h=>(hl l h).short) (by omega)]at hs;cases hs
 | d+1,p,hp=>by
   rw[S3];exact Zz hw hl fun s hs=>Pw hw hl a d (p++[s]) (by simp;omega)
def Em (w:AG) (M:Int->I3) (l:Fact):Prop:=NM w (M (Ag l).1.arg) (Ag l).1.path (Ag l).1= !(Ag l).2
def VS {w:AG} (hw:Nr w) {ls:List Fact} (hl: ∀l∈ls,Dc w l):Ji w ls=true↔ ∃M:Int->I3,(∀a,J5 w (M a))/\ ∀l∈ls,Em w M l:=by
 rw[Ji,DR];constructor
 .intro h
  have hk: ∀a:Int,∃t,J5 w t/\(0<=a/\a<3->TT w ls a [] t):=fun a=>by
   rcases Classical.em (0<=a/\a<3)with e|e
   .obtain⟨t,h1,h2⟩:=(Pw hw hl a 2 [] rfl).1 (h a (Ck.2 e))
    exact⟨t,h1,fun _=>h2⟩
   .exact⟨.J3,trivial,fun k=>absurd k e⟩
  exact⟨fun a=>Classical.choose (hk a),fun a=>(Classical.choose_spec (hk a)).1,fun l k=>(Classical.choose_spec (hk (Ag l).1.arg)).2 (hl l k).arg l k rfl _ rfl⟩
 .rintro⟨M,h1,h2⟩ a _
  refine(Pw hw hl a 2 [] rfl).2 ⟨M a,h1 a,fun l k1 k2 q hq=>?_⟩;have:=h2 l k1;rw[Em,k2]at this;rw[List.nil_append]at hq;rw[<-hq];exact this
def ux (w:AG) (M:Int->I3) (f:Fact) (l:List Bool):Bool:=
 if f.op=1 then true else if f.op=5 then !l.getD 0 false else if f.op=6 then l.getD 0 false&&l.getD 1 false else if f.op=7 then l.getD 0 false||l.getD 1 false else NM w (M f.arg) f.path f
def Sl (w:AG) (M:Int->I3) (f:Fact):Bool:=f.Gy (ux w M)
def Xi (w:AG) (M:Int->I3) (f:Fact):Sl w M f=ux w M f (f.kids.map (Sl w M)):=Fact.DQ (ux w M) f
def Lk (a:List Fact) (Q:Fact->Prop): ∀b:List Fact,(∀x∈Cb a b,Q x)↔(∀x∈a,Q x)/\ ∀x∈b,Q x:=by
 intro b
 induction b generalizing a with
 | nil=>simp[Cb]
 | cons y r ih=>
   rw[Cb,ih];split
   .rename_i h
    obtain⟨z,h1,h2⟩:=GF.1 h;have:=(Mv y z).1 h2;subst this;simp only[List.forall_mem_cons];constructor
    .rintro⟨h3,h4⟩;exact⟨h3,h3 _ h1,h4⟩
    .rintro⟨h3,_,h4⟩;exact⟨h3,h4⟩
   .simp only[List.forall_mem_append,List.forall_mem_cons,List.forall_mem_nil]
    constructor
    .rintro⟨⟨h1,h2,_⟩,h3⟩;exact⟨h1,h2,h3⟩
    .rintro⟨h1,h2,h3⟩;exact⟨⟨h1,h2,fun _ h=>by cases h⟩,h3⟩
def EF {w : AG} {M:Int->I3} (f:Fact):BM w f=true-> ∀c,(∃l∈BO f c,∀x∈l,Em w M x)↔Sl w M f= !c:=by
 induction f using Fact.ind with
 | h f ih=>
   intro h c;have har:=Bs f h;have h':=h;rw[CO,A4,DR]at h';rw[Eu,Gh,Xi,ux];by_cases h1:f.op=1
   .rw[if_pos h1,if_pos h1]
    cases c<;>simp
   rw[if_neg h1,if_neg h1];by_cases h5:f.op=5
   .obtain⟨a,ha,hb⟩:=E7 har h5
    rw[if_pos h5,if_pos h5,ha];have:=ih a (by rw[ha];exact .head _) (h'.2 a (by rw[ha];exact .head _)) (!c);simp only[Eg,List.map_nil,List.getD_cons_zero];rw[this];cases Sl w M a<;>cases c<;>decide
   rw[if_neg h5,if_neg h5];by_cases h6:f.op=6\/f.op=7
   .obtain⟨a,b,ha,hb1,hb2⟩:=E6 har h6
    rw[if_pos h6,ha];have i1:=ih a (by rw[ha];exact .head _) (h'.2 a (by rw[ha];exact .head _)) c;have j1:=ih b (by rw[ha];exact .tail _ (.head _)) (h'.2 b (by rw[ha];exact .tail _ (.head _))) c;simp only[Eg,List.map_nil,List.getD_cons_zero,List.getD_cons_succ]
    have happ:(∃l∈BO a c++BO b c,∀x∈l,Em w M x)↔Sl w M a= !c\/Sl w M b= !c:=by
     rw[<-i1,<-j1];constructor
     .rintro⟨l,hl,hx⟩
      rcases Dm.1 hl with hl|hl
      .exact .inl ⟨l,hl,hx⟩
      .exact .inr ⟨l,hl,hx⟩
     .rintro(⟨l,hl,hx⟩|⟨l,hl,hx⟩)
      .exact⟨l,NL _ hl,hx⟩
      .exact⟨l,MH _ hl,hx⟩
    have hprod:(∃l∈FB (BO a c) (BO b c),∀x∈l,Em w M x)↔Sl w M a= !c/\Sl w M b= !c:=by
     rw[<-i1,<-j1];simp only[FB,List.mem_flatMap,H8];constructor
     .rintro⟨l,⟨y,hy,z,hz,rfl⟩,hx⟩
      rw[Lk]at hx;exact⟨⟨y,hy,hx.1⟩,z,hz,hx.2⟩
     .rintro⟨⟨y,hy,h1⟩,z,hz,h2⟩
      exact⟨_,⟨y,hy,z,hz,rfl⟩,(Lk y _ z).2 ⟨h1,h2⟩⟩
    rcases h6 with h6|h6
    .rw[if_pos h6,h6]
     cases c
     .rw[if_neg (by decide),hprod]
      simp
     .rw[if_pos (by decide),happ]
      simp only[Bool.not_true,Bool.and_eq_false_iff]
    .rw[if_neg (by omega: ¬f.op=6),if_pos h6,h6]
     cases c
     .rw[if_pos (by decide),happ]
      simp
     .rw[if_neg (by decide),hprod]
      simp only[Bool.not_true,Bool.or_eq_false_iff]
   .rw[if_neg h6,if_neg (fun e=>h6 (.inl e)),if_neg (fun e=>h6 (.inr e))]
    have e1:Em w M f↔NM w (M f.arg) f.path f=true:=by rw[Em,Ag,if_neg h5];exact Iff.rfl
    have e2:Em w M (EL f)↔NM w (M f.arg) f.path f=false:=by
     rw[Em,show Ag (EL f)=(f,true) from rfl];exact Iff.rfl
    cases c
    .simp[e1]
    .simp[e2]
def iV {w:AG} (hw:Nr w) {f:Fact} (hn:BM w f=true):XG w f=true↔ ∃M:Int->I3,(∀a,J5 w (M a))/\Sl w M f=true:=by
 rw[XG,GF];constructor
 .rintro⟨l,h1,h2⟩
  obtain⟨M,h3,h4⟩:=(VS hw fun x hx=>Fc (Da f hn false l h1 x hx)).1 h2;exact⟨M,h3,(EF f hn false).1 ⟨l,h1,h4⟩⟩
 .rintro⟨M,h1,h2⟩
  obtain⟨l,h3,h4⟩:=(EF f hn false).2 h2;exact⟨l,h3,(VS hw fun x hx=>Fc (Da f hn false l h3 x hx)).2 ⟨M,h1,h4⟩⟩
def Pk {w:AG} (hw:Nr w) {a b:Fact} (ha:BM w a=true) (hb:BM w b=true):Ud w a b=true↔ ∀M:Int->I3,(∀x,J5 w (M x))->Sl w M a=true->Sl w M b=true:=by
 have he: ∀M,Sl w M (Q4 a (EL b))=(Sl w M a&& !Sl w M b):=fun M=>by
  rw[Xi];simp only[ux,Q4,Fact.op,Fact.kids,Eg,List.map_nil,List.getD_cons_zero,List.getD_cons_succ];rw[Xi w M (EL b)];simp[ux,EL,Fact.op,Fact.kids]
 rw[Ud,Bool.not_eq_true',<-Bool.not_eq_true,iV hw (Vh ha hb)];constructor
 .intro h M h1 h2
  rw[<-Bool.not_eq_false];exact fun h3=>h ⟨M,h1,by rw[he,h2,h3];rfl⟩
 .rintro h ⟨M,h1,h2⟩
  rw[he,A4]at h2;rw[h M h1 h2.1]at h2;simp at h2
def imp_trans {w:AG} (hw:Nr w) {a b c:Fact} (ha:BM w a=true) (hb:BM w b=true) (hc:BM w c=true) (h1:Ud w a b=true) (h2:Ud w b c=true):Ud w a c=true:=
 (Pk hw ha hc).2 fun M hM h=>(Pk hw hb hc).1 h2 M hM ((Pk hw ha hb).1 h1 M hM h)
end Go.Gl
namespace Go.Gl
open Go.Proofs
attribute [local irreducible] Ao Ai AY AO AJ AX AN AP AI AW AK AL Ak Au Sat AT Ar Aa W
end Go.Gl
namespace Go.Gl
open Go.Proofs
def QO {p:Prog} (hok:ES p) {i j k:Int} (hi:BX p i=true) (hj:BX p j=true) (hk:BX p k=true) (h1:Jj p i j=true) (h2:Jj p j k=true):Jj p i k=true:=
 imp_trans hok.vB (hok.facts _ (Dn (Cx hi))).1 (hok.facts _ (Dn (Cx hj))).1 (hok.facts _ (Dn (Cx hk))).1 h1 h2
def Yg {p:Prog} {i j:Int}:Aw p i j=true↔Jj p i j=true/\Jj p j i=false:=by
 rw[Aw,A4,Bool.not_eq_true']
def Qf {p:Prog} (i:Int):Aw p i i=false:=by
 rw[Aw];cases Jj p i i<;>rfl
def UH {p:Prog} (hok:ES p) {i j k:Int} (hi:BX p i=true) (hj:BX p j=true) (hk:BX p k=true) (h1:Aw p i j=true) (h2:Aw p j k=true):Aw p i k=true:=by
 rw[Yg]at *;refine⟨QO hok hi hj hk h1.1 h2.1,?_⟩;rw[<-Bool.not_eq_true];intro e;have:=QO hok hk hi hj e h1.1;rw[h2.2]at this;cases this
end Go.Gl
namespace Go.Gl
open Go.Proofs
attribute [local irreducible] Ao Ai AY AO AJ AX AN AP AI AW AK AL Ak Au Sat AT Ar Aa W
def lM (p:Prog) (L:Nat) (m:Int) (hok:ES p) (hgw:Cn (AM p)) (hfm: ∀x∈p.methods,EC (AM p) x.fact=true) (hm:BX p m=true) :
    Cr zP (.f (.func 266) [] [.rp [Sh p L],.rp [eI m]]) eI (fun M=>[.map L (J4 p M)]) (fun y M=>(Aw p y m,an p M y m)) (fun y _=>BX p y=true):=by
 intro y M hy Z hs;refine Ay ?_;show Ao zP 266 ([]++[eI y]++[.rp [Sh p L],.rp [eI m]]) Z _;refine sf kZ ?_;refine zz ?_;(repeat clear U K);repeat intro K U
 refine(WK p L y m hok hgw hfm hy hm M).use (rest:=[]) (by simpa using hs) ?_;clear hs;rintro r post Z ⟨rfl,rfl⟩ hs;refine zz ?_;(repeat clear U K);repeat intro K U
 exact A0 hs (List.sublist_append_left _ _) (.refl _) fun Z' hs'=>⟨rfl,hs'⟩
def SJ {S:Type} {stp:Int->S->Bool×S} {q:Int->Bool}: ∀(xs:List Int) (k:Nat) (s:S),(∀y∈xs,∀s,(stp y s).1=q y)->(Bd stp xs k s).1=match(List.range xs.length).find? fun i=>q (xs.getD i 0)with|some i=>((k+i:Nat):Int)|none=> -1
 | [],_,_,_=>rfl
 | y ::r,k,s,h=>by
   rw[Bd,h y (.head _)];have ih:=SJ r (k+1) (stp y s).2 fun z hz=>h z (.tail _ hz)
   rw[Kt,List.range_succ_eq_map,List.find?_cons,List.getD_cons_zero];cases hq:q y
   .rw[if_neg (by decide),ih]
    simp only[List.find?_map,Function.comp_def,Nat.succ_eq_add_one,List.getD_cons_succ];cases(List.range r.length).find? fun i=>q (r.getD i 0)with
    | none=>rfl
    | some i=>simp only[aE];congr 1;omega
   .rw[if_pos rfl];simp
def vM (p:Prog) (l:List Int) (m:Int) (M:List (Int×Int)):List (Int×Int):=(Bd (fun y M=>(Aw p y m,an p M y m)) l 0 M).2
def Y7 (p:Prog) (L nb:Nat) (l:List Int) (f:Bool) (hok:ES p) (hgw:Cn (AM p)) (hfm: ∀x∈p.methods,EC (AM p) x.fact=true) (hl: ∀x∈l,BX p x=true) :
    Cr zP (.f (.func 265) [] [.p nb 0,.rp [Sh p L]]) eI (fun M=>[.box nb [.l (iL l) f],.map L (J4 p M)]) (fun m M=>(!(decide ((Bd (fun y M=>(Aw p y m,an p M y m)) l 0 M).1≥0)),vM p l m M)) (fun m _=>BX p m=true):=by
 intro m M hm Z hs;refine Ay ?_;show Ao zP 265 ([]++[eI m]++[.p nb 0,.rp [Sh p L]]) Z _;refine sg kZ ?_;refine zz ?_;(repeat clear U K);repeat intro K U
 refine(F7 266 [] [.rp [Sh p L],.rp [eI m]] (fun M=>[.map L (J4 p M)]) _ _ (lM p L m hok hgw hfm hm) l f M (Gc fun y hy _=>hl y hy)).use (rest:=[_]) (hs.perm (.swap _ _ _)) ?_;clear hs;rintro r post Z ⟨rfl,rfl⟩ hs;refine zz ?_;(repeat clear U K);repeat intro K U
 exact A0 (hs.perm (.swap _ _ _)) (List.Sublist.refl _) (.refl _) fun Z' hs'=>⟨rfl,hs'⟩
def fO {p:Prog} (hok:ES p): ∀(l:List Int),l≠[]->(∀x∈l,BX p x=true)-> ∃x∈l,∀y∈l,Aw p y x=false
 | [],h,_=>absurd rfl h
 | x ::r,_,h=>by
   by_cases hr:r= []
   .subst hr
    exact⟨x,.head _,fun y hy=>by rw[MG.1 hy];exact Qf x⟩
   obtain⟨z,hz,hz2⟩:=fO hok r hr fun y hy=>h y (.tail _ hy)
   cases hxz:Aw p x z
   .refine⟨z,.tail _ hz,fun y hy=>?_⟩
    rcases FR.1 hy with rfl|hy
    .exact hxz
    .exact hz2 y hy
   .refine⟨x,.head _,fun y hy=>?_⟩
    rcases FR.1 hy with rfl|hy
    .exact Qf y
    .rw[<-Bool.not_eq_true]
     intro e;have:=UH hok (h y (.tail _ hy)) (h x (.head _)) (h z (.tail _ hz)) e hxz;rw[hz2 y hy]at this;cases this
def Rz {p:Prog} (hok:ES p) {l:List Int} (hl:l≠[]) (h: ∀x∈l,BX p x=true): ∃i,XJ (Aw p) l=some i:=by
 obtain⟨x,hx,hx2⟩:=fO hok l hl h;obtain⟨i,hi⟩:=List.getElem?_of_mem hx;cases hm:XJ (Aw p) l with
 | some i=>exact⟨i,rfl⟩
 | none=>
   rw[XJ,List.find?_range_eq_none]at hm;have h1:=hm i (Je.1 hi).1
   have h2:aT (Aw p) l i l.length=true:=by
    rw[aT,DR];intro k hk;rw[E4 hi,hx2 _ (SC (List.mem_range.1 hk))];rfl
   rw[h2]at h1;cases h1
end Go.Gl
namespace Go.Gl
variable {P:Program} {Z:AE}
def uh {L:Nat} {args:List V} {Q:R->AE->Prop} (h:MQ P L args Z Q):Ak P (.f (.yield L) [] []) args Z Q:=h
def WX {L:Nat} {E:Env} {ps:List Nat} {a b:AU} {args:List V} {l:List At} (hl:args.length=ps.length) (hs:Sat Z (.obj L (.loop .ready E (BW P ps a b))::l)) {Q:R->AE->Prop}
    (h: ∀Z,Sat Z l->W P a (CG (W P b fun ex env' Z'=>Z' L=none->PS L E (BW P ps a b) Q ex env' Z')) (D4 ps args E) Z):MQ P L args Z Q:=
 Kk (hs.get (i:=0) rfl) hl (h _ hs.del)
end Go.Gl
