import Derived.Test.YtnidfcmdimehdaaGreatProg
import Derived.KernelRfl
import Derived.Test.YtnidfcmdimehdaaGreatU14
import Derived.Test.YtnidfcmdimehdaaGreatU21
import Derived.Test.YtnidfcmdimehdaaGreatU22
import Derived.Test.YtnidfcmdimehdaaGreatU23
import Derived.Test.YtnidfcmdimehdaaGreatU24
set_option linter.all false
set_option linter.defProp false
set_option maxHeartbeats 8000000
noncomputable section
namespace Go.Gl
open Go.Proofs
inductive JB where
 | int (n:Int)
 | Kv
 | obj (C:Nat->Bool) (kid:Int->JB)
def GM (w:AE):JB->Prop
 | .int n=> -1000000000<=n/\n<=1000000000
 | .Kv=>True
 | .obj C kid=>(∀c,3<=c->C c=true-> ∀q∈par w.parents c,C q.toNat=true)/\ ∀s,GM w (kid s)
def EX (t:JB) (f:Fact):Bool:=match t with
 | .int n=>if f.op=2 then !decide (f.cls > 1)else if f.op=3 then decide (n<f.n)else decide (n=f.n)
 | .Kv=>f.op==2&&(f.cls==0||f.cls==2)
 | .obj C _=>f.op==2&&(f.cls==0||(decide (3<=f.cls)&&C f.cls.toNat))
def NH (w:AE):JB->List Int->Fact->Bool
 | t,[],f=>EX t f
 | .obj C kid,s::r,f=>C (Bb w s).toNat&&NH w (kid s) r f
 | _,_::_,_=>false
structure Di (w:AE) (l:Fact):Prop where
 op:(Ac l).1.op=2\/(Ac l).1.op=3\/(Ac l).1.op=4
 cls:(Ac l).1.op=2->0<=(Ac l).1.cls/\(Ac l).1.cls<3+w.parents.length
 arg:0<=(Ac l).1.arg/\(Ac l).1.arg<3
 path: ∀s∈(Ac l).1.path,(0:Int)<=s/\s<w.owner.length
 short:(Ac l).1.path.length<=2
def Dr {w:AE} {l:Fact} (h:C1 w l):Di w l:=by
 obtain⟨-,hn,hl⟩:=IG h;have hlo:=Fs hl;have q:=IF (w:=w) (l:=[l]) (fun x hx=>by rw[JT.1 hx];exact h);rw[Be,A7]at hn;have hn:=hn.1;simp only[Cf,A7,CF]at hn;obtain⟨ho,-,ha1,ha2,hp,-⟩:=hn;simp only[Ex,A7,DT,JE,CF]at hp;exact⟨hlo,q.2.1 l (.head _),⟨ha1,ha2⟩,fun s hs=>hp.1 s hs,hp.2⟩
def qY (t:Int×Int×List Int) (m:Int):Prop:=t.1<=m/\m<=t.2.1/\m∉t.2.2
def bz {w:AE} {l:Fact} (hl:Di w l) (t:Int×Int×List Int) (m:Int):(∃t',H0 (Ac l) t=some t'/\qY t' m)↔qY t m/\EX (.int m) (Ac l).1= !(Ac l).2:=by
 have h1:=hl.op;generalize Ac l=x at *;obtain⟨f,b⟩:=x;obtain⟨lo,hi,no⟩:=t;simp only[H0,qY,EX]at *;rcases h1 with h|h|h
 .rw[if_pos h,if_pos h]
  by_cases hc:f.cls > 1<;>cases b<;>simp[hc]
 .have h2: ¬f.op=2:=by omega
  rw[if_neg h2,if_pos h,if_neg h2,if_pos h];cases b
  .simp only[Jc,if_false,Hp,exists_eq_left',Bool.not_false,CF]
   split<;>constructor<;>rintro⟨h3,h4⟩
   .exact⟨⟨h3,by omega,h4.2⟩,by omega⟩
   .exact⟨h3.1,by omega,h3.2.2⟩
   .exact⟨⟨h3,h4⟩,by omega⟩
   .exact h3
  .simp only[if_true,Hp,exists_eq_left',Bool.not_true,decide_eq_false_iff_not]
   split<;>constructor<;>rintro⟨h3,h4⟩
   .exact⟨⟨by omega,h4⟩,by omega⟩
   .exact⟨by omega,h3.2⟩
   .exact⟨⟨h3,h4⟩,by omega⟩
   .exact h3
 .have h2: ¬f.op=2:=by omega
  have h3: ¬f.op=3:=by omega
  rw[if_neg h2,if_neg h3,if_neg h2,if_neg h3];cases b
  .simp only[Jc,if_false,Hp,exists_eq_left',Bool.not_false,CF]
   constructor
   .rintro⟨h3,h4,h5⟩
    split at h3<;>split at h4<;>exact⟨⟨by omega,by omega,h5⟩,by omega⟩
   .rintro⟨⟨h3,h4,h5⟩,rfl⟩
    refine⟨?_,?_,h5⟩
    .split<;>omega
    .split<;>omega
  .simp only[if_true,Hp,exists_eq_left',Bool.not_true,decide_eq_false_iff_not,Du,JT,not_or]
   constructor
   .rintro⟨h3,h4,h5,h6⟩
    exact⟨⟨h3,h4,h5⟩,h6⟩
   .rintro⟨⟨h3,h4,h5⟩,h6⟩
    exact⟨h3,h4,h5,h6⟩
def Km {w:AE} (m:Int): ∀(os:List Fact) (t:Int×Int×List Int),(∀l∈os,Di w l)->((∃t',foldI os t=some t'/\qY t' m)↔qY t m/\ ∀l∈os,EX (.int m) (Ac l).1= !(Ac l).2)
 | [],t,_=>by simp[foldI]
 | x ::r,t,h=>by
   have h1:=bz (h x (.head _)) t m;constructor
   .rintro⟨t',h2,h3⟩
    rw[foldI,Option.bind_eq_some_iff]at h2;obtain⟨u,h4,h5⟩:=h2;obtain⟨h6,h7⟩:=(Km m r u fun l hl=>h l (.tail _ hl)).1 ⟨t',h5,h3⟩;obtain⟨h8,h9⟩:=h1.1 ⟨u,h4,h6⟩;refine⟨h8,fun l hl=>?_⟩;rcases Ff.1 hl with rfl|hl
    .exact h9
    .exact h7 l hl
   .rintro⟨h2,h3⟩
    obtain⟨u,h4,h5⟩:=h1.2 ⟨h2,h3 x (.head _)⟩;obtain⟨t',h6,h7⟩:=(Km m r u fun l hl=>h l (.tail _ hl)).2 ⟨h5,fun l hl=>h3 l (.tail _ hl)⟩;exact⟨t',by rw[foldI,h4];exact h6,h7⟩
def Sb (t:Int×Int×List Int):(Pm t).isSome=true↔ ∃m,qY t m:=by
 obtain⟨lo,hi,no⟩:=t;rw[Pm,Nq];constructor
 .rintro⟨j,h1,h2⟩
  exact⟨lo+j,by simp only[qY]at *;omega,by simp only[]at *;omega,h2⟩
 .rintro⟨m,h1,h2,h3⟩
  dsimp only at h1 h2 h3 ⊢;exact⟨(m - lo).toNat,by omega,by rw[show lo+((m - lo).toNat:Int)=m by omega];exact h3⟩
def Ef {a:Int} {p:List Int} {l:Fact}:Fq a p l=true↔(Ac l).1.arg=a/\(Ac l).1.path=p:=by
 rw[Fq,A7,Cd,Cd]
def jt {w:AE} {ls:List Fact} (hl: ∀l∈ls,Di w l) (a:Int) (p:List Int):(F9 ls a p).isSome=true↔ ∃m,(-1000000000<=m/\m<=1000000000)/\ ∀l∈ls,(Ac l).1.arg=a->(Ac l).1.path=p->EX (.int m) (Ac l).1= !(Ac l).2:=by
 have hL: ∀l∈ls.filter (Fq a p),Di w l:=fun l h=>hl l (Ia.1 h).1
 rw[F9];constructor
 .intro h
  cases hf:foldI (ls.filter (Fq a p)) t0 with
  | none=>rw[hf]at h;cases h
  | some t=>
    rw[hf]at h;obtain⟨m,hm⟩:=(Sb t).1 h;obtain⟨h1,h2⟩:=(Km m _ t0 hL).1 ⟨t,hf,hm⟩;exact⟨m,⟨h1.1,h1.2.1⟩,fun l h3 h4 h5=>h2 l (Ia.2 ⟨h3,Ef.2 ⟨h4,h5⟩⟩)⟩
 .rintro⟨m,h1,h2⟩
  obtain⟨t,h3,h4⟩:=(Km m (ls.filter (Fq a p)) t0 hL).2 ⟨⟨h1.1,h1.2,by simp[t0]⟩,fun l h=>by
   obtain⟨h5,h6⟩:=Ia.1 h
   exact h2 l h5 (Ef.1 h6).1 (Ef.1 h6).2⟩
  rw[h3];exact(Sb t).2 ⟨m,h4⟩
def Ed {ls:List Fact} {a:Int} {p:List Int}:DB ls a p=true↔ ∀l∈ls,(Ac l).1.arg=a-> ∀q,(Ac l).1.path=p++q->(Ac l).2=true:=by
 rw[DB,DT];constructor
 .intro h l hl ha q hq
  have:=h l hl;rw[Ew]at this;rcases this with h1|h1
  .exact h1
  .rw[ha,hq]at h1
   have h2:BV (p++q) p=true:=Bw.2 ⟨q,rfl⟩;simp[h2]at h1
 .intro h l hl
  rw[Ew];by_cases h1:(Ac l).1.arg=a/\BV (Ac l).1.path p=true
  .obtain⟨q,hq⟩:=Bw.1 h1.2
   exact .inl (h l hl h1.1 q hq)
  .right
   simp only[Bool.not_eq_true',Bool.and_eq_false_iff,beq_eq_false_iff_ne];rcases Classical.em ((Ac l).1.arg=a)with e|e
   .exact .inr (by simpa[e]using h1)
   .exact .inl e
def Ke {w:AE} {ls:List Fact} (hl: ∀l∈ls,Di w l) {a:Int} {p:List Int} {s:Int}:s∈BM w.owner.length ls a p↔ ∃l∈ls,(Ac l).1.arg=a/\ ∃q,(Ac l).1.path=p++s::q:=by
 rw[BM,Ia,G1,C4];constructor
 .rintro⟨-,l,h1,h2⟩
  rw[Xo,A7,Cd]at h2;obtain⟨q,hq⟩:=Bw.1 h2.2;exact⟨l,h1,h2.1,q,by rw[hq];simp⟩
 .rintro⟨l,h1,h2,q,hq⟩
  refine⟨(hl l h1).path s (by rw[hq];simp),l,h1,?_⟩;rw[Xo,A7,Cd];exact⟨h2,Bw.2 ⟨q,by rw[hq];simp⟩⟩
def Wj {w:AE} {ls:List Fact} (hl: ∀l∈ls,Di w l) {a:Int} {p:List Int}:DX w.owner.length ls a p=true↔ ∀l∈ls,(Ac l).1.arg=a-> ∀s q,(Ac l).1.path=p++s::q->(Ac l).2=true:=by
 rw[DX,DT];constructor
 .intro h l h1 h2 s q hq
  exact Ed.1 (h s ((Ke hl).2 ⟨l,h1,h2,q,hq⟩)) l h1 h2 q (by rw[hq];simp)
 .intro h s _
  exact Ed.2 fun l h1 h2 q hq=>h l h1 h2 s q (by rw[hq];simp)
def LV {w:AE} (hw:Ig w) {s:Int} (h:0<=s/\s<(w.owner.length:Int)):3<=Bb w s/\Bb w s<3+w.parents.length:=by
 have hs:s.toNat<w.owner.length:=by omega
 have:Bb w s=w.owner[s.toNat]:=by rw[Bb,Co,CQ hs];rfl
 rw[this];exact hw.own _ (List.getElem_mem hs)
def o5 (t:BB) (C:Nat->Bool):Prop:=(∀c,t.1.getD c false=true->c=0\/C c=true)/\ ∀c,t.2.getD c false=true->c≠0/\C c=false
def Th (t t':BB):Prop:=t.1.length=t'.1.length/\t.2.length=t'.2.length/\(∀c,t.1.getD c false=true->t'.1.getD c false=true)/\ ∀c,t.2.getD c false=true->t'.2.getD c false=true
def Th.lU {t:BB}:Th t t:=⟨rfl,rfl,fun _ h=>h,fun _ h=>h⟩
def Th.trans {t u v:BB} (h:Th t u) (k:Th u v):Th t v:=⟨h.1.trans k.1,h.2.1.trans k.2.1,fun c hc=>k.2.2.1 c (h.2.2.1 c hc),fun c hc=>k.2.2.2 c (h.2.2.2 c hc)⟩
def Mb {l:List Bool} {c b:Nat} (h:(l.set c true).getD b false=true):l.getD b false=true\/b=c:=by
 by_cases e:b=c
 .exact .inr e
 .rw[Co,List.getElem?_set_ne (fun h=>e h.symm),<-Co]at h
  exact .inl h
def Md {l:List Bool} {c b:Nat} (h:l.getD b false=true):(l.set c true).getD b false=true:=by
 by_cases e:c<l.length
 .rw[Ea e]
  split
  .rfl
  .exact h
 .rw[List.set_eq_of_length_le (by omega)];exact h
def Mc {l:List Bool} {c:Nat} (h:c<l.length):(l.set c true).getD c false=true:=by
 rw[Ea h,if_pos rfl]
def Th.set1 {t:BB} (c:Nat):Th t (t.1.set c true,t.2):=⟨by simp,rfl,fun _ h=>Md h,fun _ h=>h⟩
def Th.set2 {t:BB} (c:Nat):Th t (t.1,t.2.set c true):=⟨rfl,by simp,fun _ h=>h,fun _ h=>Md h⟩
def Xx (t:BB) (f:Fact) (b:Bool):Prop:=if f.op≠2\/f.cls=1\/f.cls=2 then b=true else if b then t.2.getD f.cls.toNat false=true else t.1.getD f.cls.toNat false=true
def TQ {t t':BB} (h:Th t t') {f:Fact} {b:Bool} (k:Xx t f b):Xx t' f b:=by
 unfold Xx at *;split
 .rename_i h1;rw[if_pos h1]at k;exact k
 .rename_i h1;rw[if_neg h1]at k
  split
  .rename_i h2;rw[if_pos h2]at k;exact h.2.2.2 _ k
  .rename_i h2;rw[if_neg h2]at k;exact h.2.2.1 _ k
def iu {w:AE} {l:Fact} (hl:Di w l) {t t':BB} (hn:t.1.length=3+w.parents.length/\t.2.length=3+w.parents.length) (h:Ga (Ac l) t=some t'):Th t t'/\Xx t' (Ac l).1 (Ac l).2:=by
 have hc:=hl.cls;generalize Ac l=x at *;obtain⟨f,b⟩:=x;simp only[Ga,Xx]at *;split at h
 .rename_i h1
  rw[if_pos h1];cases b
  .cases h
  .obtain rfl:=Option.some.inj h
   exact⟨Th.lU,rfl⟩
 .rename_i h1
  rw[if_neg h1]
  have h2:f.op=2:=by
   rcases Classical.em (f.op=2)with e|e
   .exact e
   .exact absurd (Or.inl e) h1
  have:=hc h2;cases b
  .obtain rfl:=Option.some.inj h
   exact⟨.set1 _,by rw[if_neg (by decide)];exact Mc (by omega)⟩
  .obtain rfl:=Option.some.inj h
   exact⟨.set2 _,by rw[if_pos rfl];exact Mc (by omega)⟩
def bt {w:AE} {l:Fact} (hl:Di w l) {t:BB} {C:Nat->Bool} {kid:Int->JB} (hi:o5 t C) (h:EX (.obj C kid) (Ac l).1= !(Ac l).2): ∃t',Ga (Ac l) t=some t'/\o5 t' C:=by
 have hc:=hl.cls;generalize Ac l=x at *;obtain⟨f,b⟩:=x;simp only[Ga,EX]at *;by_cases h1:f.op≠2\/f.cls=1\/f.cls=2
 .rw[if_pos h1]
  have h2:(f.op==2&&(f.cls==0||(decide (3<=f.cls)&&C f.cls.toNat)))=false:=by
   rcases h1 with h1|h1|h1
   .simp[h1]
   .simp[h1]
   .simp[h1]
  rw[h2]at h;cases b
  .cases h
  .exact⟨t,rfl,hi⟩
 .rw [if_neg h1]
  have h2:f.op=2:=by
   rcases Classical.em (f.op=2)with e|e
   .exact e
   .exact absurd (Or.inl e) h1
  have hr:=hc h2;have h3:f.cls≠1/\f.cls≠2:=⟨fun e=>h1 (.inr (.inl e)),fun e=>h1 (.inr (.inr e))⟩
  have h4:(f.op==2&&(f.cls==0||(decide (3<=f.cls)&&C f.cls.toNat)))=(decide (f.cls=0)||C f.cls.toNat):=by
   rw[h2];rcases Classical.em (f.cls=0)with e|e
   .simp[e]
   .have:3<=f.cls:=by omega
    simp[e,this]
  rw[h4]at h;cases b
  .refine⟨_,rfl,fun c hh=>?_,hi.2⟩
   rcases Mb hh with hh|rfl
   .exact hi.1 c hh
   .simp only[Bool.not_false,Ew,CF]at h
    rcases h with h|h
    .exact .inl (by omega)
    .exact .inr h
  .refine⟨_,rfl,hi.1,fun c hh=>?_⟩
   rcases Mb hh with hh|rfl
   .exact hi.2 c hh
   .simp only[Bool.not_true,Bool.or_eq_false_iff,decide_eq_false_iff_not]at h
    exact⟨by omega,h.2⟩
def Qd {w:AE}: ∀(os:List Fact) {t t':BB},(∀l∈os,Di w l)->(t.1.length=3+w.parents.length/\t.2.length=3+w.parents.length)->EI os t=some t'->Th t t'/\ ∀l∈os,Xx t' (Ac l).1 (Ac l).2
 | [],t,t',_,_,h=>by
   obtain rfl:=Option.some.inj h;exact⟨Th.lU,fun l hl=>by cases hl⟩
 | x::r,t,t',hl,hn,h=>by
   rw[EI,Option.bind_eq_some_iff]at h;obtain⟨u,h1,h2⟩:=h;obtain⟨h3,h4⟩:=iu (hl x (.head _)) hn h1;obtain⟨h5,h6⟩:=Qd r (fun l h=>hl l (.tail _ h)) ⟨by rw[<-h3.1];exact hn.1,by rw[<-h3.2.1];exact hn.2⟩ h2;refine⟨h3.trans h5,fun l h=>?_⟩;rcases Ff.1 h with rfl|h
   .exact TQ h5 h4
   .exact h6 l h
def S9 {w:AE} {C:Nat->Bool} {kid:Int->JB}: ∀(os:List Fact) {t:BB},(∀l∈os,Di w l)->o5 t C->(∀l∈os,EX (.obj C kid) (Ac l).1= !(Ac l).2)-> ∃t',EI os t=some t'/\o5 t' C
 | [],t,_,hi,_=>⟨t,rfl,hi⟩
 | x::r,t,hl,hi,h=>by
   obtain⟨u,h1,h2⟩:=bt (hl x (.head _)) hi (h x (.head _));obtain⟨t',h3,h4⟩:=S9 r (fun l h=>hl l (.tail _ h)) h2 fun l hh=>h l (.tail _ hh)
   exact⟨t',by rw[EI,h1];exact h3,h4⟩
def qw (w:AE) (ls:List Fact) (a:Int) (p:List Int) (can:Int->Bool) (s:Int) (t:BB):Prop:=
 (DB ls a (p++[s])=false->t.1.getD (Bb w s).toNat false=true/\can s=true)/\(can s=false->t.2.getD (Bb w s).toNat false=true)
def Qc {w:AE} (hw:Ig w) {ls:List Fact} {a:Int} {p:List Int} {can:Int->Bool}: ∀(sl:List Int) {t t':BB},(∀s∈sl,0<=s/\s<(w.owner.length:Int))->(t.1.length=3+w.parents.length/\t.2.length=3+w.parents.length)->D0 w ls a p can sl t=some t'->Th t t'/\ ∀s∈sl,qw w ls a p can s t'
 | [],t,t',_,_,h=>by
   obtain rfl:=Option.some.inj h;exact⟨Th.lU,fun l hl=>by cases hl⟩
 | s ::r,t,t',hs,hn,h=>by
   rw[D0,Option.bind_eq_some_iff]at h;obtain⟨u,h1,h2⟩:=h;have ho:=LV hw (hs s (.head _))
   have h3:Th t u/\qw w ls a p can s u:=by
    rw[JC]at h1;split at h1
    .cases h1
    .rename_i hne
     obtain rfl:=Option.some.inj h1;simp only[qw];cases hb:DB ls a (p++[s])<;>cases hc:can s
     .simp[hb,hc]at hne
     .exact⟨⟨by simp,rfl,fun c h=>Md h,fun c h=>h⟩,fun _=>⟨Mc (by omega),rfl⟩,fun h=>(by cases h)⟩
     .exact⟨⟨rfl,by simp,fun c h=>h,fun c h=>Md h⟩,fun h=>(by cases h),fun _=>Mc (by omega)⟩
     .exact⟨Th.lU,fun h=>(by cases h),fun h=>(by cases h)⟩
   obtain⟨h5,h6⟩:=Qc hw r (fun l h=>hs l (.tail _ h)) ⟨by rw[<-h3.1.1];exact hn.1,by rw[<-h3.1.2.1];exact hn.2⟩ h2;refine⟨h3.1.trans h5,fun l h=>?_⟩;rcases Ff.1 h with rfl|h
   .exact⟨fun hb=>⟨h5.2.2.1 _ (h3.2.1 hb).1,(h3.2.1 hb).2⟩,fun hc=>h5.2.2.2 _ (h3.2.2 hc)⟩
   .exact h6 l h
def S8 {w : AE} (hw:Ig w) {ls:List Fact} {a:Int} {p:List Int} {can:Int->Bool} {C:Nat->Bool}: ∀(sl:List Int) {t:BB},(∀s∈sl,0<=s/\s<(w.owner.length:Int))->o5 t C->
    (∀s∈sl,(DB ls a (p++[s])=false->C (Bb w s).toNat=true)/\(C (Bb w s).toNat=true->can s=true))-> ∃t',D0 w ls a p can sl t=some t'/\o5 t' C
 | [],t,_,hi,_=>⟨t,rfl,hi⟩
 | s :: r, t,hs,hi,h=>by
   have ho:=LV hw (hs s (.head _));obtain⟨k1,k2⟩:=h s (.head _)
   have h1 : ∃u,JC w ls a p can s t=some u/\o5 u C:=by
    rw[JC];cases hb:DB ls a (p++[s])
    .rw[k2 (k1 hb)]
     refine⟨_,rfl,fun c hh=>?_,hi.2⟩;rcases Mb hh with hh|rfl
     .exact hi.1 c hh
     .exact .inr (k1 hb)
    .cases hc:can s
     .refine⟨_,rfl,hi.1,fun c hh=>?_⟩
      rcases Mb hh with hh|rfl
      .exact hi.2 c hh
      .refine⟨by omega,?_⟩
       rw[<-Bool.not_eq_true];intro e;rw[k2 e]at hc;cases hc
     .exact⟨_,rfl,hi⟩
   obtain⟨u,h2,h3⟩:=h1;obtain⟨t',h4,h5⟩:=S8 hw r (fun l h=>hs l (.tail _ h)) h3 fun l hh=>h l (.tail _ hh)
   exact⟨t',by rw[D0,h2];exact h4,h5⟩
def mj {w:AE} {C:Nat->Bool}:o5 (tO w) C:=by
 have: ∀c,(List.replicate (3+w.parents.length) false).getD c false=false:=fun c=>by
  rw[Co];cases h:(List.replicate (3+w.parents.length) false)[c]? with
  | none=>rfl
  | some b=>rw[List.eq_of_mem_replicate (BY h)];rfl
 exact⟨fun c h=>absurd ((this c).symm.trans h) (by decide),fun c h=>absurd ((this c).symm.trans h) (by decide)⟩
def TI {g:List (List Int)} (ho:ordered g) {C:Nat->Bool} (hC: ∀c,3<=c->C c=true-> ∀q∈par g c,C q.toNat=true): ∀d b:Nat,3<=d->C d=true->G3 g d b=true->C b=true:=by
 intro d
 induction d using Nat.strongRecOn with
 | _ d ih=>
   intro b h3 hd h;rw[FJ ho]at h;simp only[Ew,Cd,G1]at h;rcases h with rfl|⟨p,hp,h⟩
   .exact hd
   .have:=ho d p hp
    exact ih p.toNat (by omega) b (by omega) (hC d h3 hd p hp) h
def jY {w : AE} (hw : Ig w) {ls:List Fact} (hl: ∀l∈ls,Di w l) {a:Int} {p:List Int} {can:Int->Bool} {T:Int->JB->Prop} (hcan: ∀s,s∈BM w.owner.length ls a p->(can s=true↔ ∃t,GM w t/\T s t))
    (hT: ∀s t,T s t↔ ∀l∈ls,(Ac l).1.arg=a-> ∀q,(Ac l).1.path=p++s::q->NH w t q (Ac l).1= !(Ac l).2) :
    (LL w ls a p can).isSome=true↔ ∃C kid,GM w (.obj C kid)/\ ∀l∈ls,(Ac l).1.arg=a-> ∀q,(Ac l).1.path=p++q->NH w (.obj C kid) q (Ac l).1= !(Ac l).2:=by
 have hL: ∀l∈ls.filter (Fq a p),Di w l:=fun l h=>hl l (Ia.1 h).1
 have hS: ∀s∈BM w.owner.length ls a p,0<=s/\s<(w.owner.length:Int):=fun s h=>Fi h
 have hn0:(tO w).1.length=3+w.parents.length/\(tO w).2.length=3+w.parents.length:=by simp[tO]
 constructor
 .intro h
  rw[LL]at h;cases h1:EI (ls.filter (Fq a p)) (tO w)with
  | none=>rw[h1]at h;cases h
  | some t=>
    rw[h1,Option.bind_some]at h;obtain⟨g1,g2⟩:=Qd _ hL hn0 h1;have hn1:t.1.length=3+w.parents.length/\t.2.length=3+w.parents.length:=⟨by rw[<-g1.1];exact hn0.1,by rw[<-g1.2.1];exact hn0.2⟩
    cases h2:D0 w ls a p can (BM w.owner.length ls a p) t with
    | none=>rw[h2]at h;cases h
    | some u=>
      rw[h2,Option.bind_some,VM]at h;obtain⟨g3,g4⟩:=Qc hw _ hS hn1 h2;have hn2:u.1.length=3+w.parents.length/\u.2.length=3+w.parents.length:=⟨by rw[<-g3.1];exact hn1.1,by rw[<-g3.2.1];exact hn1.2⟩
      split at h
      .cases h
      .rename_i h0
       split at h
       .cases h
       .rename_i h3
        clear h;have hSl:(u.1.set 0 false).length=3+w.parents.length:=by simpa using hn2.1
        generalize hSd:B4 w.parents (3+w.parents.length) w.parents.length (u.1.set 0 false)=S at *
        have hin: ∀c,3<=c->u.1.getD c false=true->S.getD c false=true:=fun c hc h=>by
         rw[<-hSd];refine KC hw.ord hSl _ _ ?_;rw[Co,List.getElem?_set_ne (by omega),<-Co];exact h
        have hdis: ∀c,S.getD c false=true->u.2.getD c false=true->False:=fun c k1 k2=>by
         have hc:c<3+w.parents.length:=by
          rcases Nat.lt_or_ge c (3+w.parents.length)with h|h
          .exact h
          .rw[Co,List.getElem?_eq_none (by omega)]at k2
           cases k2
         refine h3 (G1.2 ⟨c,List.mem_range.2 hc,?_⟩);rw[k1,k2];rfl
        have hkid: ∀s,∃t,GM w t/\((∃t,GM w t/\T s t)->T s t):=fun s=>by
         rcases Classical.em (∃t,GM w t/\T s t)with⟨t,k1,k2⟩|k
         .exact⟨t,k1,fun _=>k2⟩
         .exact⟨.Kv,trivial,fun h=>absurd h k⟩
        refine⟨fun c=>S.getD c false,fun s=>Classical.choose (hkid s),⟨fun c hc h q hq=>?_,fun s=>(Classical.choose_spec (hkid s)).1⟩,fun l h1 h2 q hq=>?_⟩
        .change S.getD c false=true at h
         change S.getD q.toNat false=true
         have hcl:c<3+w.parents.length:=by
          rcases Nat.lt_or_ge c (3+w.parents.length)with h'|h'
          .exact h'
          .rw[Co,List.getElem?_eq_none (by rw[<-hSd,Ev];omega)]at h
           cases h
         rw[<-hSd]at h ⊢;exact Ho hw.ord hSl _ c (by omega) (by omega) h q hq
        .cases q with
         | nil =>
           have k:=g2 l (Ia.2 ⟨h1,Ef.2 ⟨h2,by simpa using hq⟩⟩);have k:=TQ g3 k;have hc:=(hl l h1).cls;generalize Ac l=x at *;obtain⟨f,b⟩:=x;simp only[NH,EX,Xx]at *;by_cases e1:f.op≠2\/f.cls=1\/f.cls=2
           .rw[if_pos e1]at k
            subst k;rcases e1 with e1|e1|e1
            .simp[e1]
            .simp[e1]
            .simp[e1]
           .rw [if_neg e1]at k
            have e2:f.op=2:=by
             rcases Classical.em (f.op=2)with e|e
             .exact e
             .exact absurd (Or.inl e) e1
            have hr:=hc e2;have e3:f.cls≠1/\f.cls≠2:=⟨fun e=>e1 (.inr (.inl e)),fun e=>e1 (.inr (.inr e))⟩
            rw[e2];rcases Classical.em (f.cls=0)with e|e
            .rw[e]at k ⊢
             cases b
             .rfl
             .exfalso;exact h0 k
            .have e4:(f.cls==0)=false:=by simpa using e
             have e5:decide (3<=f.cls)=true:=decide_eq_true (by omega);rw[e4,e5];cases b
             .rw[if_neg (by decide)]at k
              rw[hin _ (by omega) k];rfl
             .rw[if_pos rfl]at k
              have:S.getD f.cls.toNat false=false:=by
               rw[<-Bool.not_eq_true];exact fun e=>hdis _ e k
              rw[this];rfl
         | cons s q=>
           have hs:s∈BM w.owner.length ls a p:=(Ke hl).2 ⟨l,h1,h2,q,hq⟩;have hso:=LV hw (hS s hs);obtain⟨k1,k2⟩:=g4 s hs;simp only[NH];cases hm:S.getD (Bb w s).toNat false
           .rw[Bool.false_and]
            cases hb:DB ls a (p++[s])
            .have:=hin _ (by omega) (k1 hb).1
             rw[hm]at this;cases this
            .rw[Ed.1 hb l h1 h2 q (by rw[hq];simp)];rfl
           .rw[Db]
            cases hc:can s
            .exact absurd (k2 hc) fun e=>hdis _ hm e
            .exact(hT s _).1 ((Classical.choose_spec (hkid s)).2 ((hcan s hs).1 hc)) l h1 h2 q hq
 .rintro ⟨C,kid,⟨hC,U⟩,h⟩
  obtain⟨t,h1,h2⟩:=S9 (C:=C) (kid:=kid) (ls.filter (Fq a p)) (t:=tO w) hL mj fun l k=>by
   obtain⟨k1,k2⟩:=Ia.1 k;obtain⟨k3,k4⟩:=Ef.1 k2;exact h l k1 k3 [] (by simpa using k4)
  obtain ⟨u,h3,h4⟩:=S8 hw (C:=C) (can:=can) (ls:=ls) (a:=a) (p:=p) (BM w.owner.length ls a p) (t:=t) hS h2 fun s hs=>by
   constructor
   .intro hb
    cases e:C (Bb w s).toNat
    .rw[Ed.2 fun l k1 k2 q hq=>by
      have:=h l k1 k2 (s::q) (by rw[hq];simp);simp only[NH,e,Bool.false_and]at this
      simpa using this.symm]at hb
     cases hb
    .rfl
   .intro e
    refine(hcan s hs).2 ⟨kid s,U s,(hT s _).2 fun l k1 k2 q hq=>?_⟩;have:=h l k1 k2 (s::q) hq;simpa only[NH,e,Db]using this
  rw[LL,h1,Option.bind_some,h3,Option.bind_some,VM]
  have h0:u.2.getD 0 false=false:=by
   rw[<-Bool.not_eq_true];exact fun e=>(h4.2 0 e).1 rfl
  rw[h0,if_neg (by decide),if_neg]
  .rfl
  .rw [G1]
   rintro⟨c,-,hc⟩;rw[A7]at hc;have q1:=(Qd _ hL hn0 h1).1;have q2:=(Qc hw _ hS ⟨by rw[<-q1.1];exact hn0.1,by rw[<-q1.2.1];exact hn0.2⟩ h3).1;have hlen:(u.1.set 0 false).length=3+w.parents.length:=by rw[List.length_set,<-q2.1,<-q1.1];exact hn0.1
   obtain⟨d,k1,k2⟩:=GS hw.ord hlen _ _ hc.1
   have hd0:d≠0:=by
    rintro rfl;rw[Co,List.getElem?_set_self (by rw[List.length_set]at hlen;omega)]at k1;cases k1
   rw[Co,List.getElem?_set_ne (fun e=>hd0 e.symm),<-Co]at k1;have hCd:C d=true:=(h4.1 d k1).resolve_left hd0
   have hCc:C c=true:=by
    rcases Nat.lt_or_ge d 3 with hd|hd
    .rw[FJ hw.ord,show par w.parents d= [] from if_pos hd]at k2
     simp only[List.any_nil,Bool.or_false,Cd]at k2;subst k2;exact hCd
    .exact TI hw.ord hC d c hd hCd k2
   have:=(h4.2 c hc.2).2;rw[hCc]at this;cases this
def TT (w:AE) (ls:List Fact) (a:Int) (p:List Int) (t:JB):Prop:= ∀l∈ls,(Ac l).1.arg=a-> ∀q,(Ac l).1.path=p++q->NH w t q (Ac l).1= !(Ac l).2
def Kh {w:AE} {ls:List Fact} (hl: ∀l∈ls,Di w l) {a:Int} {p:List Int}:Ey w.owner.length ls a p=true↔TT w ls a p .Kv:=by
 rw[Ey,A7,DT,Wj hl];constructor
 .rintro⟨h1,h2⟩ l k1 k2 q hq
  cases q with
  | nil=>
    have:=h1 l (Ia.2 ⟨k1,Ef.2 ⟨k2,by simpa using hq⟩⟩);simp only[NH,EX,JD]at *
    revert this
    cases((Ac l).1.op==2&&((Ac l).1.cls==0||(Ac l).1.cls==2))<;>cases(Ac l).2<;>decide
  | cons s q=>simp[NH,h2 l k1 k2 s q hq]
 .intro h
  refine⟨fun l k=>?_,fun l k1 k2 s q hq=>?_⟩
  .obtain⟨k1,k2⟩:=Ia.1 k
   obtain⟨k3,k4⟩:=Ef.1 k2;have:=h l k1 k3 [] (by simpa using k4);simp only[NH,EX,JD]at *
   revert this
   cases((Ac l).1.op==2&&((Ac l).1.cls==0||(Ac l).1.cls==2))<;>cases(Ac l).2<;>decide
  .have:=h l k1 k2 (s::q) hq
   simpa[NH]using this.symm
def Mm {w:AE} {ls:List Fact} (hl: ∀l∈ls,Di w l) {a:Int} {p:List Int}:((F9 ls a p).isSome&&DX w.owner.length ls a p)=true↔ ∃m,GM w (.int m)/\TT w ls a p (.int m):=by
 rw[A7,Wj hl,jt hl];constructor
 .rintro⟨⟨m,h1,h2⟩,h3⟩
  refine⟨m,h1,fun l k1 k2 q hq=>?_⟩;cases q with
  | nil=>exact h2 l k1 k2 (by simpa using hq)
  | cons s q=>simp[NH,h3 l k1 k2 s q hq]
 .rintro⟨m,h1,h2⟩
  refine⟨⟨m,h1,fun l k1 k2 k3=>h2 l k1 k2 [] (by simpa using k3)⟩,fun l k1 k2 s q hq=>?_⟩;have:=h2 l k1 k2 (s::q) hq;simpa[NH]using this.symm
def bE {w:AE} (hw:Ig w) {ls:List Fact} (hl: ∀l∈ls,Di w l) {a:Int} {p:List Int} {can:Int->Bool} (hcan: ∀s,s∈BM w.owner.length ls a p->(can s=true↔ ∃t,GM w t/\TT w ls a (p++[s]) t)) :
    (((F9 ls a p).isSome&&DX w.owner.length ls a p)||(Ey w.owner.length ls a p||(LL w ls a p can).isSome))=true↔ ∃t,GM w t/\TT w ls a p t:=by
 rw[Ew,Ew,Mm hl,Kh hl,jY hw hl (T:=fun s t=>TT w ls a (p++[s]) t) hcan fun s t=>by simp only[TT,NJ,List.singleton_append]];constructor
 .rintro(⟨m,h1,h2⟩|h|⟨C,kid,h1,h2⟩)
  .exact⟨_,h1,h2⟩
  .exact⟨.Kv,trivial,h⟩
  .exact⟨_,h1,h2⟩
 .rintro⟨t,h1,h2⟩
  cases t with
  | int m=>exact .inl ⟨m,h1,h2⟩
  | Kv=>exact .inr (.inl h2)
  | obj C kid=>exact .inr (.inr ⟨C,kid,h1,h2⟩)
def J6 {w:AE} (hw:Ig w) {ls:List Fact} (hl: ∀l∈ls,Di w l) (a:Int): ∀(d:Nat) (p:List Int),p.length+d=2->(L2 w ls a d p=true↔ ∃t,GM w t/\TT w ls a p t)
 | 0,p,hp=>by
   rw[L2];refine bE hw hl fun s hs=>?_
   rw[IM (m:=2) (fun l h=>(hl l h).short) (by omega)]at hs;cases hs
 | d+1,p,hp=>by
   rw[L2];exact bE hw hl fun s hs=>J6 hw hl a d (p++[s]) (by simp;omega)
def Eh (w:AE) (M:Int->JB) (l:Fact):Prop:=NH w (M (Ac l).1.arg) (Ac l).1.path (Ac l).1= !(Ac l).2
def MZ {w:AE} (hw:Ig w) {ls:List Fact} (hl: ∀l∈ls,Di w l):FC w ls=true↔ ∃M:Int->JB,(∀a,GM w (M a))/\ ∀l∈ls,Eh w M l:=by
 rw[FC,DT];constructor
 .intro h
  have hk: ∀a:Int,∃t,GM w t/\(0<=a/\a<3->TT w ls a [] t):=fun a=>by
   rcases Classical.em (0<=a/\a<3)with e|e
   .obtain⟨t,h1,h2⟩:=(J6 hw hl a 2 [] rfl).1 (h a (C4.2 e))
    exact⟨t,h1,fun _=>h2⟩
   .exact⟨.Kv,trivial,fun k=>absurd k e⟩
  exact⟨fun a=>Classical.choose (hk a),fun a=>(Classical.choose_spec (hk a)).1,fun l k=>(Classical.choose_spec (hk (Ac l).1.arg)).2 (hl l k).arg l k rfl _ rfl⟩
 .rintro⟨M,h1,h2⟩ a _
  refine(J6 hw hl a 2 [] rfl).2 ⟨M a,h1 a,fun l k1 k2 q hq=>?_⟩;have:=h2 l k1;rw[Eh,k2]at this;rw[List.nil_append]at hq;rw[<-hq];exact this
def xU (w:AE) (M:Int->JB) (f:Fact) (l:List Bool):Bool:=
 if f.op=1 then true else if f.op=5 then !l.getD 0 false else if f.op=6 then l.getD 0 false&&l.getD 1 false else if f.op=7 then l.getD 0 false||l.getD 1 false else NH w (M f.arg) f.path f
def Tg (w:AE) (M:Int->JB) (f:Fact):Bool:=f.Fv (xU w M)
def YH (w:AE) (M:Int->JB) (f:Fact):Tg w M f=xU w M f (f.kids.map (Tg w M)):=Fact.CT (xU w M) f
def Ml (a:List Fact) (Q:Fact->Prop): ∀b:List Fact,(∀x∈CL a b,Q x)↔(∀x∈a,Q x)/\ ∀x∈b,Q x:=by
 intro b
 induction b generalizing a with
 | nil=>simp[CL]
 | cons y r ih=>
   rw[CL,ih];split
   .rename_i h
    obtain⟨z,h1,h2⟩:=G1.1 h;have:=(E2 y z).1 h2;subst this;simp only[List.forall_mem_cons];constructor
    .rintro⟨h3,h4⟩;exact⟨h3,h3 _ h1,h4⟩
    .rintro⟨h3,_,h4⟩;exact⟨h3,h4⟩
   .simp only[List.forall_mem_append,List.forall_mem_cons,List.forall_mem_nil]
    constructor
    .rintro⟨⟨h1,h2,_⟩,h3⟩;exact⟨h1,h2,h3⟩
    .rintro⟨h1,h2,h3⟩;exact⟨⟨h1,h2,fun _ h=>by cases h⟩,h3⟩
def E4 {w : AE} {M:Int->JB} (f:Fact):An w f=true-> ∀c,(∃l∈BC f c,∀x∈l,Eh w M x)↔Tg w M f= !c:=by
 induction f using Fact.ind with
 | h f ih=>
   intro h c;have har:=Am f h;have h':=h;rw[Be,A7,DT]at h';rw[E5,En,YH,xU];by_cases h1:f.op=1
   .rw[if_pos h1,if_pos h1]
    cases c<;>simp
   rw[if_neg h1,if_neg h1];by_cases h5:f.op=5
   .obtain⟨a,ha,hb⟩:=Dt har h5
    rw[if_pos h5,if_pos h5,ha];have:=ih a (by rw[ha];exact .head _) (h'.2 a (by rw[ha];exact .head _)) (!c);simp only[Cn,List.map_nil,List.getD_cons_zero];rw[this];cases Tg w M a<;>cases c<;>decide
   rw[if_neg h5,if_neg h5];by_cases h6:f.op=6\/f.op=7
   .obtain⟨a,b,ha,hb1,hb2⟩:=Ds har h6
    rw[if_pos h6,ha];have i1:=ih a (by rw[ha];exact .head _) (h'.2 a (by rw[ha];exact .head _)) c;have j1:=ih b (by rw[ha];exact .tail _ (.head _)) (h'.2 b (by rw[ha];exact .tail _ (.head _))) c;simp only[Cn,List.map_nil,List.getD_cons_zero,List.getD_cons_succ]
    have happ:(∃l∈BC a c++BC b c,∀x∈l,Eh w M x)↔Tg w M a= !c\/Tg w M b= !c:=by
     rw[<-i1,<-j1];constructor
     .rintro⟨l,hl,hx⟩
      rcases Du.1 hl with hl|hl
      .exact .inl ⟨l,hl,hx⟩
      .exact .inr ⟨l,hl,hx⟩
     .rintro(⟨l,hl,hx⟩|⟨l,hl,hx⟩)
      .exact⟨l,NK _ hl,hx⟩
      .exact⟨l,Lu _ hl,hx⟩
    have hprod:(∃l∈DU (BC a c) (BC b c),∀x∈l,Eh w M x)↔Tg w M a= !c/\Tg w M b= !c:=by
     rw[<-i1,<-j1];simp only[DU,List.mem_flatMap,GL];constructor
     .rintro⟨l,⟨y,hy,z,hz,rfl⟩,hx⟩
      rw[Ml]at hx;exact⟨⟨y,hy,hx.1⟩,z,hz,hx.2⟩
     .rintro⟨⟨y,hy,h1⟩,z,hz,h2⟩
      exact⟨_,⟨y,hy,z,hz,rfl⟩,(Ml y _ z).2 ⟨h1,h2⟩⟩
    rcases h6 with h6|h6
    .rw[if_pos h6,h6]
     cases c
     .rw[if_neg (by decide),hprod]
      simp
     .rw[if_pos (by decide),happ]
      simp only[Bool.not_true,Bool.and_eq_false_iff]
    .rw[if_neg (by omega: ¬f.op=6),if_pos h6,h6]
     cases c
     .rw[if_pos (by decide),happ]
      simp
     .rw[if_neg (by decide),hprod]
      simp only[Bool.not_true,Bool.or_eq_false_iff]
   .rw[if_neg h6,if_neg (fun e=>h6 (.inl e)),if_neg (fun e=>h6 (.inr e))]
    have e1:Eh w M f↔NH w (M f.arg) f.path f=true:=by rw[Eh,Ac,if_neg h5];exact Iff.rfl
    have e2:Eh w M (Ca f)↔NH w (M f.arg) f.path f=false:=by
     rw[Eh,show Ac (Ca f)=(f,true) from rfl];exact Iff.rfl
    cases c
    .simp[e1]
    .simp[e2]
def jQ {w:AE} (hw:Ig w) {f:Fact} (hn:An w f=true):Ry w f=true↔ ∃M:Int->JB,(∀a,GM w (M a))/\Tg w M f=true:=by
 rw[Ry,G1];constructor
 .rintro⟨l,h1,h2⟩
  obtain⟨M,h3,h4⟩:=(MZ hw fun x hx=>Dr (C0 f hn false l h1 x hx)).1 h2;exact⟨M,h3,(E4 f hn false).1 ⟨l,h1,h4⟩⟩
 .rintro⟨M,h1,h2⟩
  obtain⟨l,h3,h4⟩:=(E4 f hn false).2 h2;exact⟨l,h3,(MZ hw fun x hx=>Dr (C0 f hn false l h3 x hx)).2 ⟨M,h1,h4⟩⟩
def QU {w:AE} (hw:Ig w) {a b:Fact} (ha:An w a=true) (hb:An w b=true):NQ w a b=true↔ ∀M:Int->JB,(∀x,GM w (M x))->Tg w M a=true->Tg w M b=true:=by
 have he: ∀M,Tg w M (Jb a (Ca b))=(Tg w M a&& !Tg w M b):=fun M=>by
  rw[YH];simp only[xU,Jb,Fact.op,Fact.kids,Cn,List.map_nil,List.getD_cons_zero,List.getD_cons_succ];rw[YH w M (Ca b)];simp[xU,Ca,Fact.op,Fact.kids]
 rw[NQ,Bool.not_eq_true',<-Bool.not_eq_true,jQ hw (QL ha hb)];constructor
 .intro h M h1 h2
  rw[<-Bool.not_eq_false];exact fun h3=>h ⟨M,h1,by rw[he,h2,h3];rfl⟩
 .rintro h ⟨M,h1,h2⟩
  rw[he,A7]at h2;rw[h M h1 h2.1]at h2;simp at h2
def imp_trans {w:AE} (hw:Ig w) {a b c:Fact} (ha:An w a=true) (hb:An w b=true) (hc:An w c=true) (h1:NQ w a b=true) (h2:NQ w b c=true):NQ w a c=true:=
 (QU hw ha hc).2 fun M hM h=>(QU hw hb hc).1 h2 M hM ((QU hw ha hb).1 h1 M hM h)
end Go.Gl
namespace Go.Gl
open Go.Proofs
attribute [local irreducible] As Af AV AQ AI AU AP AR AJ AT AM AN Ag Ar Sat AS Ap AX W
def qC (g:FuncId) (fi ca:List V) (q:Int×Int->Bool):Prop:= ∀v,Pure zP g (fi++[.a (pI v)]++ca) (.b (q v))
def qC.use {g:FuncId} {fi ca:List V} {q:Int×Int->Bool} (h:qC g fi ca q) {v:Int×Int} {Z:AD} {k kp:V->AD->Prop} (hk:k (.b (q v)) Z):Ag zP (.f (.func g) fi ca) [.a (pI v)] Z (qk k kp):=A6 ((h v).use hk)
end Go.Gl
namespace Go.Gl
variable {P:Program} {Z:AD}
def As.OH {f:FuncId} {args args':List V} {Z Z2:AD} {Q:R->AD->Prop} (h:As P f args' Z2 Q) (hsub:Sub Z2 Z) (hf:Cm Z Z2 args args'):As P f args Z Q:=by
 refine⟨h.1,fun F w cs hR hv=>?_⟩;exact Calls.mono (h.2 F w cs (hR.drop hsub) ⟨by rw[hf.length];exact hv.1,hf.rel hR hsub (fun _ _ e=>e) hv.2⟩) fun e w' ⟨r,Z',hr,h1,h2,h3⟩=>⟨r,Z',hr,h1,h2,(B3.drop w hsub).trans h3⟩
def Pure.arg {f:FuncId} {args args':List V} {v:V} (h:Pure P f args' v) (hf:Cm emp emp args args'):Pure P f args v:=As.OH h (Sub.refl _) hf
def Own.lr {v:V} {sz:Nat} {es es':List (List V)} (h:Own Z v sz es) (hR:EL Z emp es es'):Fa Z emp v (.l es' false):=by
 rcases h with⟨rfl,_⟩|⟨n,cap,rfl,hn⟩
 .exact .l (fun h=>(by cases h)) hR
 .exact .arr hn rfl rfl hR
def Qb {α:Type} {e e':α->List V} (h: ∀x,Cm Z emp (e x) (e' x)): ∀xs:List α,EL Z emp (xs.map e) (xs.map e')
 | []=> .nil
 | x::r=> .cons (h x) (Qb h r)
inductive X0 (Z Z':AD):Env->Env->Prop
 | nil:X0 Z Z' [] []
 | cons {k:Nat} {v v':V} {e e':Env}:Fa Z Z' v v'->X0 Z Z' e e'->X0 Z Z' ((k,v)::e) ((k,v')::e')
def X0.efz {Z Z':AD} {e e':Env} (h:X0 Z Z' e e'):EFz Z Z' e e':=by
 induction h with
 | nil=>intro j v2 hv;cases hv
 | cons h1 h2 ih=>
   rename_i k v v' e e';intro j v2 hv;simp only[get]at hv ⊢;cases hb:Nat.beq k j with
   | true=>
     rw[hb]at hv;simp only[cond_true,Hp]at hv ⊢;subst hv;exact⟨v,rfl,h1⟩
   | false=>
     rw[hb]at hv;simp only[cond_false]at hv ⊢;exact ih j v2 hv
def qS {env:Env} {K:Env->AD->Prop} (h:K env Z):Fz env Z K:= .inl h
def fI {env env2:Env} {K:Env->AD->Prop} {l:List At} (hs:Sat Z l) (i:Nat) {v:V} {sz:Nat} {es:List (List V)} (hi:l[i]? =some (.own v sz es))
    (he: ∀Z2,Fa Z Z2 v (.l es false)->X0 Z Z2 env env2) (hk: ∀Z2,Sat Z2 (l.eraseIdx i)->K env2 Z2):Fz env Z K:=by
 obtain⟨Z2,h1,h2,h3⟩:=Gb hs i hi;exact .inr ⟨env2,Z2,⟨fun n o2 ho=> .inl (h1 n o2 ho)⟩,(he Z2 h2).efz,hk Z2 h3⟩
def yj {env env2:Env} {K:Env->AD->Prop} {l:List At} (hs:Sat Z l) (i j:Nat) {v:V} {sz n:Nat} {es:List (List V)} {vs vs2:List V} (hi:l[i]? =some (.own v sz es)) (hj:l[j]? =some (.box n vs))
    (hv: ∀Z2,Fa Z Z2 v (.l es false)->Cm Z Z2 vs vs2) (he: ∀Z2,Fa Z Z2 v (.l es false)->X0 Z Z2 env env2) (hk: ∀Z2,Sat Z2 ((l.set j (.box n vs2)).eraseIdx i)->K env2 Z2):Fz env Z K:=by
 have hn:Z n=some (.cs vs):=hs.get hj;have hij:j≠i:=fun e=>by subst e;rw[hj]at hi;cases hi
 have hi2:(l.set j (.box n vs2))[i]? =some (.own v sz es):=by rw[List.getElem?_set_ne hij];exact hi
 obtain⟨Z2,h1,h2,h3⟩:=Gb (lj hs hj (.cs vs2)) i hi2
 have hf:Fa Z Z2 v (.l es false):=by
  rcases hs.get hi with⟨rfl,_⟩|⟨m,cap,rfl,hm⟩
  .exact .l (fun h=>(by cases h)) (.refl _ _ _)
  .have hmn:m≠n:=fun e=>by
    subst e;rw[hm]at hn;cases hn
   refine .arr hm ?_ rfl (.refl _ _ _);cases h2 with
   | arr _ q _ _=>exact q
 refine .inr ⟨env2,Z2,⟨fun m o2 ho=>?_⟩,(he Z2 hf).efz,hk Z2 h3⟩;have:=h1 m o2 ho;by_cases hmn:m=n
 .subst hmn
  rw[D3]at this;cases this;exact .inr ⟨vs,vs2,hn,rfl,hv Z2 hf⟩
 .rw[Cg _ _ hmn]at this
  exact .inl this
def dz {l:List Nat} {a b:Ao} {Q:Ah->Env->AD->Prop} {env:Env} (h: ∀K:Env->AD->Prop,(∀env Z,(pk l env fun E=>Fz E Z (W P b Q))->K env Z)->W P a (Ah.andThen K Q) env Z):W P (.seq l a b) Q env Z:=xD h
end Go.Gl
namespace Go.Gl
open Go.Proofs
attribute [local irreducible] As Af AV AQ AI AU AP AR AJ AT AM AN Ag Ar Sat AS Ap AX W
end Go.Gl
namespace Go.Gl
open Go.Proofs
end Go.Gl
namespace Go.Gl
open Go.Proofs
attribute [local irreducible] As Af AV AQ AI AU AP AR AJ AT AM AN Ag Ar Sat AS Ap AX W
def qD (g:FuncId) (fi ca:List V) (q:Ob->Bool):Prop:= ∀v,Pure zP g (fi++[.a (eOb v)]++ca) (.b (q v))
def qD.use {g:FuncId} {fi ca:List V} {q:Ob->Bool} (h:qD g fi ca q) {v:Ob} {Z:AD} {k kp:V->AD->Prop} (hk:k (.b (q v)) Z):Ag zP (.f (.func g) fi ca) [.a (eOb v)] Z (qk k kp):=A6 ((h v).use hk)
end Go.Gl
namespace Go.Gl
open Go.Proofs
abbrev iM:Ao:=(.seq [2,3] (.Hs [⟨(some 2),.To (.t 0),none⟩,
 ⟨(some 3),.To (.t 1),none⟩,
 ⟨(some 4),.mv (.c .pn),none⟩])
 (.seq [2,3,5,6] (.Hs [⟨(some 8),.MA 1 (.t 2),none⟩,
  ⟨(some 9),.load none (.t 8),none⟩,
  ⟨(some 10),.load (some 4) (.t 3),none⟩,
  ⟨(some 11),.lookup (.a [.i64,.i64,.i64,.i64]) .pn true (.t 9) (.t 10),none⟩,
  ⟨(some 7),.mv (.t 11),none⟩,
  ⟨(some 12),.extract 0 (.t 7),none⟩,
  ⟨(some 13),.extract 1 (.t 7),none⟩,
  ⟨(some 5),.mv (.t 12),none⟩,
  ⟨(some 6),.mv (.t 13),none⟩])
 (.seq [5] (.seq [2,3,5,15] (.Hs [⟨(some 14),.mv (.t 6),none⟩,
  ⟨(some 15),.not (.t 14),none⟩])
 (.cond (.t 15)
 (.seq [2,3,5] (.Hs [⟨(some 16),.build [(.i .u64 0),(.i .u64 0),(.i .i64 0),(.i .i64 0),(.l [] true),(.b false),(.b false),(.l [] true)] [(2,1,(.c (.i .i64 (-1000000000)))),(3,1,(.c (.i .i64 1000000000)))],none⟩,
  ⟨(some 17),.box (.t 16),none⟩,
  ⟨(some 5),.mv (.t 17),none⟩])
 (.Hs [⟨(some 18),.MA 1 (.t 2),none⟩,
  ⟨(some 19),.load none (.t 18),none⟩,
  ⟨(some 20),.load (some 4) (.t 3),none⟩,
  ⟨(some 21),.mv (.t 5),none⟩,
  ⟨none,.Hg (.a [.i64,.i64,.i64,.i64]) (.t 19) (.t 20) (.t 21),none⟩]))
 .skip))
 (.seq [4] (.Hs [⟨(some 22),.mv (.t 5),none⟩,
  ⟨(some 4),.mv (.t 22),none⟩])
 .ret))))
def mT:Tryz.f151.body.bind (res Tryz.prog Tryz.f151.ntmps [] [2,3])=some (erase iM):=by kernel_rfl
def oK {args:List V} (hn:args.length<=23) {Z:AD} {Q:R->AD->Prop} (h:W Tryz.prog iM (ee [4] Q) (Ct 0 args) Z):As Tryz.prog 151 args Z Q:=
 Lk Tryz.func151 (by kernel_rfl) mT rfl hn (o0 h)
end Go.Gl
