import Derived.Test.YtegbmnmnaijioaaGreatX6
import Derived.Test.YtegbmnmnaijioaaGreatX8
import Derived.Test.YtegbmnmnaijioaaGreatX11
import Derived.Test.YtegbmnmnaijioaaGreatX12
set_option linter.all false
set_option linter.defProp false
set_option maxHeartbeats 8000000
noncomputable section
namespace Go.Gl
open Go.Proofs
inductive GQ where
 | int (n:Int)
 | JV
 | obj (C:Nat->Bool) (kid:Int->GQ)
def FG (w:AF):GQ->Prop
 | .int n=> -1000000000<=n/\n<=1000000000
 | .JV=>True
 | .obj C kid=>(∀c,3<=c->C c=true-> ∀q∈par w.parents c,C q.toNat=true)/\ ∀s,FG w (kid s)
def DK (t:GQ) (f:Fact):Bool:=match t with
 | .int n=>if f.op=2 then !decide (f.cls > 1)else if f.op=3 then decide (n<f.n)else decide (n=f.n)
 | .JV=>f.op==2&&(f.cls==0||f.cls==2)
 | .obj C _=>f.op==2&&(f.cls==0||(decide (3<=f.cls)&&C f.cls.toNat))
def Ko (w:AF):GQ->List Int->Fact->Bool
 | t,[],f=>DK t f
 | .obj C kid,s::r,f=>C (Bc w s).toNat&&Ko w (kid s) r f
 | _,_::_,_=>false
structure Dl (w:AF) (l:Fact):Prop where
 op:(Ah l).1.op=2\/(Ah l).1.op=3\/(Ah l).1.op=4
 cls:(Ah l).1.op=2->0<=(Ah l).1.cls/\(Ah l).1.cls<3+w.parents.length
 arg:0<=(Ah l).1.arg/\(Ah l).1.arg<3
 path: ∀s∈(Ah l).1.path,(0:Int)<=s/\s<w.owner.length
 short:(Ah l).1.path.length<=2
def GK {w:AF} {l:Fact} (h:DY w l):Dl w l:=by
 obtain⟨-,hn,hl⟩:=IF h;have hlo:=Ff hl;have q:=Mk (w:=w) (l:=[l]) (fun x hx=>by rw[Lp.1 hx];exact h);rw[By,A0]at hn;have hn:=hn.1;simp only[C8,A0,CC]at hn;obtain⟨ho,-,ha1,ha2,hp,-⟩:=hn;simp only[Eo,A0,DJ,Hy,CC]at hp;exact⟨hlo,q.2.1 l (.head _),⟨ha1,ha2⟩,fun s hs=>hp.1 s hs,hp.2⟩
def sw (t:Int×Int×List Int) (m:Int):Prop:=t.1<=m/\m<=t.2.1/\m∉t.2.2
def db {w:AF} {l:Fact} (hl:Dl w l) (t:Int×Int×List Int) (m:Int):(∃t',V3 (Ah l) t=some t'/\sw t' m)↔sw t m/\DK (.int m) (Ah l).1= !(Ah l).2:=by
 have h1:=hl.op;generalize Ah l=x at *;obtain⟨f,b⟩:=x;obtain⟨lo,hi,no⟩:=t;simp only[V3,sw,DK]at *;rcases h1 with h|h|h
 .rw[if_pos h,if_pos h]
  by_cases hc:f.cls > 1<;>cases b<;>simp[hc]
 .have h2: ¬f.op=2:=by omega
  rw[if_neg h2,if_pos h,if_neg h2,if_pos h];cases b
  .simp only[NM,if_false,JN,exists_eq_left',Bool.not_false,CC]
   split<;>constructor<;>rintro⟨h3,h4⟩
   .exact⟨⟨h3,by omega,h4.2⟩,by omega⟩
   .exact⟨h3.1,by omega,h3.2.2⟩
   .exact⟨⟨h3,h4⟩,by omega⟩
   .exact h3
  .simp only[if_true,JN,exists_eq_left',Bool.not_true,decide_eq_false_iff_not]
   split<;>constructor<;>rintro⟨h3,h4⟩
   .exact⟨⟨by omega,h4⟩,by omega⟩
   .exact⟨by omega,h3.2⟩
   .exact⟨⟨h3,h4⟩,by omega⟩
   .exact h3
 .have h2: ¬f.op=2:=by omega
  have h3: ¬f.op=3:=by omega
  rw[if_neg h2,if_neg h3,if_neg h2,if_neg h3];cases b
  .simp only[NM,if_false,JN,exists_eq_left',Bool.not_false,CC]
   constructor
   .rintro⟨h3,h4,h5⟩
    split at h3<;>split at h4<;>exact⟨⟨by omega,by omega,h5⟩,by omega⟩
   .rintro⟨⟨h3,h4,h5⟩,rfl⟩
    refine⟨?_,?_,h5⟩
    .split<;>omega
    .split<;>omega
  .simp only[if_true,JN,exists_eq_left',Bool.not_true,decide_eq_false_iff_not,D9,Lp,not_or]
   constructor
   .rintro⟨h3,h4,h5,h6⟩
    exact⟨⟨h3,h4,h5⟩,h6⟩
   .rintro⟨⟨h3,h4,h5⟩,h6⟩
    exact⟨h3,h4,h5,h6⟩
def Ka {w:AF} (m:Int): ∀(os:List Fact) (t:Int×Int×List Int),(∀l∈os,Dl w l)->((∃t',foldI os t=some t'/\sw t' m)↔sw t m/\ ∀l∈os,DK (.int m) (Ah l).1= !(Ah l).2)
 | [],t,_=>by simp[foldI]
 | x ::r,t,h=>by
   have h1:=db (h x (.head _)) t m;constructor
   .rintro⟨t',h2,h3⟩
    rw[foldI,Option.bind_eq_some_iff]at h2;obtain⟨u,h4,h5⟩:=h2;obtain⟨h6,h7⟩:=(Ka m r u fun l hl=>h l (.tail _ hl)).1 ⟨t',h5,h3⟩;obtain⟨h8,h9⟩:=h1.1 ⟨u,h4,h6⟩;refine⟨h8,fun l hl=>?_⟩;rcases Fl.1 hl with rfl|hl
    .exact h9
    .exact h7 l hl
   .rintro⟨h2,h3⟩
    obtain⟨u,h4,h5⟩:=h1.2 ⟨h2,h3 x (.head _)⟩;obtain⟨t',h6,h7⟩:=(Ka m r u fun l hl=>h l (.tail _ hl)).2 ⟨h5,fun l hl=>h3 l (.tail _ hl)⟩;exact⟨t',by rw[foldI,h4];exact h6,h7⟩
def S0 (t:Int×Int×List Int):(V4 t).isSome=true↔ ∃m,sw t m:=by
 obtain⟨lo,hi,no⟩:=t;rw[V4,N1];constructor
 .rintro⟨j,h1,h2⟩
  exact⟨lo+j,by simp only[sw]at *;omega,by simp only[]at *;omega,h2⟩
 .rintro⟨m,h1,h2,h3⟩
  dsimp only at h1 h2 h3 ⊢;exact⟨(m - lo).toNat,by omega,by rw[show lo+((m - lo).toNat:Int)=m by omega];exact h3⟩
def EX {a:Int} {p:List Int} {l:Fact}:Km a p l=true↔(Ah l).1.arg=a/\(Ah l).1.path=p:=by
 rw[Km,A0,Cd,Cd]
def mM {w:AF} {ls:List Fact} (hl: ∀l∈ls,Dl w l) (a:Int) (p:List Int):(PB ls a p).isSome=true↔ ∃m,(-1000000000<=m/\m<=1000000000)/\ ∀l∈ls,(Ah l).1.arg=a->(Ah l).1.path=p->DK (.int m) (Ah l).1= !(Ah l).2:=by
 have hL: ∀l∈ls.filter (Km a p),Dl w l:=fun l h=>hl l (JU.1 h).1
 rw[PB];constructor
 .intro h
  cases hf:foldI (ls.filter (Km a p)) t0 with
  | none=>rw[hf]at h;cases h
  | some t=>
    rw[hf]at h;obtain⟨m,hm⟩:=(S0 t).1 h;obtain⟨h1,h2⟩:=(Ka m _ t0 hL).1 ⟨t,hf,hm⟩;exact⟨m,⟨h1.1,h1.2.1⟩,fun l h3 h4 h5=>h2 l (JU.2 ⟨h3,EX.2 ⟨h4,h5⟩⟩)⟩
 .rintro⟨m,h1,h2⟩
  obtain⟨t,h3,h4⟩:=(Ka m (ls.filter (Km a p)) t0 hL).2 ⟨⟨h1.1,h1.2,by simp[t0]⟩,fun l h=>by
   obtain⟨h5,h6⟩:=JU.1 h
   exact h2 l h5 (EX.1 h6).1 (EX.1 h6).2⟩
  rw[h3];exact(S0 t).2 ⟨m,h4⟩
def EV {ls:List Fact} {a:Int} {p:List Int}:E2 ls a p=true↔ ∀l∈ls,(Ah l).1.arg=a-> ∀q,(Ah l).1.path=p++q->(Ah l).2=true:=by
 rw[E2,DJ];constructor
 .intro h l hl ha q hq
  have:=h l hl;rw[Ea]at this;rcases this with h1|h1
  .exact h1
  .rw[ha,hq]at h1
   have h2:Bm (p++q) p=true:=B4.2 ⟨q,rfl⟩;simp[h2]at h1
 .intro h l hl
  rw[Ea];by_cases h1:(Ah l).1.arg=a/\Bm (Ah l).1.path p=true
  .obtain⟨q,hq⟩:=B4.1 h1.2
   exact .inl (h l hl h1.1 q hq)
  .right
   simp only[Bool.not_eq_true',Bool.and_eq_false_iff,beq_eq_false_iff_ne];rcases Classical.em ((Ah l).1.arg=a)with e|e
   .exact .inr (by simpa[e]using h1)
   .exact .inl e
def KQ {w:AF} {ls:List Fact} (hl: ∀l∈ls,Dl w l) {a:Int} {p:List Int} {s:Int}:s∈Cu w.owner.length ls a p↔ ∃l∈ls,(Ah l).1.arg=a/\ ∃q,(Ah l).1.path=p++s::q:=by
 rw[Cu,JU,Hn,CK];constructor
 .rintro⟨-,l,h1,h2⟩
  rw[rf,A0,Cd]at h2;obtain⟨q,hq⟩:=B4.1 h2.2;exact⟨l,h1,h2.1,q,by rw[hq];simp⟩
 .rintro⟨l,h1,h2,q,hq⟩
  refine⟨(hl l h1).path s (by rw[hq];simp),l,h1,?_⟩;rw[rf,A0,Cd];exact⟨h2,B4.2 ⟨q,by rw[hq];simp⟩⟩
def XR {w:AF} {ls:List Fact} (hl: ∀l∈ls,Dl w l) {a:Int} {p:List Int}:G8 w.owner.length ls a p=true↔ ∀l∈ls,(Ah l).1.arg=a-> ∀s q,(Ah l).1.path=p++s::q->(Ah l).2=true:=by
 rw[G8,DJ];constructor
 .intro h l h1 h2 s q hq
  exact EV.1 (h s ((KQ hl).2 ⟨l,h1,h2,q,hq⟩)) l h1 h2 q (by rw[hq];simp)
 .intro h s _
  exact EV.2 fun l h1 h2 q hq=>h l h1 h2 s q (by rw[hq];simp)
def Ih {w:AF} (hw:GP w) {s:Int} (h:0<=s/\s<(w.owner.length:Int)):3<=Bc w s/\Bc w s<3+w.parents.length:=by
 have hs:s.toNat<w.owner.length:=by omega
 have:Bc w s=w.owner[s.toNat]:=by rw[Bc,C6,DC hs];rfl
 rw[this];exact hw.own _ (List.getElem_mem hs)
def rl (t:BB) (C:Nat->Bool):Prop:=(∀c,t.1.getD c false=true->c=0\/C c=true)/\ ∀c,t.2.getD c false=true->c≠0/\C c=false
def T5 (t t':BB):Prop:=t.1.length=t'.1.length/\t.2.length=t'.2.length/\(∀c,t.1.getD c false=true->t'.1.getD c false=true)/\ ∀c,t.2.getD c false=true->t'.2.getD c false=true
def T5.oB {t:BB}:T5 t t:=⟨rfl,rfl,fun _ h=>h,fun _ h=>h⟩
def T5.trans {t u v:BB} (h:T5 t u) (k:T5 u v):T5 t v:=⟨h.1.trans k.1,h.2.1.trans k.2.1,fun c hc=>k.2.2.1 c (h.2.2.1 c hc),fun c hc=>k.2.2.2 c (h.2.2.2 c hc)⟩
def Mb {l:List Bool} {c b:Nat} (h:(l.set c true).getD b false=true):l.getD b false=true\/b=c:=by
 by_cases e:b=c
 .exact .inr e
 .rw[C6,List.getElem?_set_ne (fun h=>e h.symm),<-C6]at h
  exact .inl h
def Md {l:List Bool} {c b:Nat} (h:l.getD b false=true):(l.set c true).getD b false=true:=by
 by_cases e:c<l.length
 .rw[FA e]
  split
  .rfl
  .exact h
 .rw[List.set_eq_of_length_le (by omega)];exact h
def Mc {l:List Bool} {c:Nat} (h:c<l.length):(l.set c true).getD c false=true:=by
 rw[FA h,if_pos rfl]
def T5.set1 {t:BB} (c:Nat):T5 t (t.1.set c true,t.2):=⟨by simp,rfl,fun _ h=>Md h,fun _ h=>h⟩
def T5.set2 {t:BB} (c:Nat):T5 t (t.1,t.2.set c true):=⟨rfl,by simp,fun _ h=>h,fun _ h=>Md h⟩
def Ye (t:BB) (f:Fact) (b:Bool):Prop:=if f.op≠2\/f.cls=1\/f.cls=2 then b=true else if b then t.2.getD f.cls.toNat false=true else t.1.getD f.cls.toNat false=true
def Ts {t t':BB} (h:T5 t t') {f:Fact} {b:Bool} (k:Ye t f b):Ye t' f b:=by
 unfold Ye at *;split
 .rename_i h1;rw[if_pos h1]at k;exact k
 .rename_i h1;rw[if_neg h1]at k
  split
  .rename_i h2;rw[if_pos h2]at k;exact h.2.2.2 _ k
  .rename_i h2;rw[if_neg h2]at k;exact h.2.2.1 _ k
def lJ {w:AF} {l:Fact} (hl:Dl w l) {t t':BB} (hn:t.1.length=3+w.parents.length/\t.2.length=3+w.parents.length) (h:OT (Ah l) t=some t'):T5 t t'/\Ye t' (Ah l).1 (Ah l).2:=by
 have hc:=hl.cls;generalize Ah l=x at *;obtain⟨f,b⟩:=x;simp only[OT,Ye]at *;split at h
 .rename_i h1
  rw[if_pos h1];cases b
  .cases h
  .obtain rfl:=Option.some.inj h
   exact⟨T5.oB,rfl⟩
 .rename_i h1
  rw[if_neg h1]
  have h2:f.op=2:=by
   rcases Classical.em (f.op=2)with e|e
   .exact e
   .exact absurd (Or.inl e) h1
  have:=hc h2;cases b
  .obtain rfl:=Option.some.inj h
   exact⟨.set1 _,by rw[if_neg (by decide)];exact Mc (by omega)⟩
  .obtain rfl:=Option.some.inj h
   exact⟨.set2 _,by rw[if_pos rfl];exact Mc (by omega)⟩
def dY {w:AF} {l:Fact} (hl:Dl w l) {t:BB} {C:Nat->Bool} {kid:Int->GQ} (hi:rl t C) (h:DK (.obj C kid) (Ah l).1= !(Ah l).2): ∃t',OT (Ah l) t=some t'/\rl t' C:=by
 have hc:=hl.cls;generalize Ah l=x at *;obtain⟨f,b⟩:=x;simp only[OT,DK]at *;by_cases h1:f.op≠2\/f.cls=1\/f.cls=2
 .rw[if_pos h1]
  have h2:(f.op==2&&(f.cls==0||(decide (3<=f.cls)&&C f.cls.toNat)))=false:=by
   rcases h1 with h1|h1|h1
   .simp[h1]
   .simp[h1]
   .simp[h1]
  rw[h2]at h;cases b
  .cases h
  .exact⟨t,rfl,hi⟩
 .rw [if_neg h1]
  have h2:f.op=2:=by
   rcases Classical.em (f.op=2)with e|e
   .exact e
   .exact absurd (Or.inl e) h1
  have hr:=hc h2;have h3:f.cls≠1/\f.cls≠2:=⟨fun e=>h1 (.inr (.inl e)),fun e=>h1 (.inr (.inr e))⟩
  have h4:(f.op==2&&(f.cls==0||(decide (3<=f.cls)&&C f.cls.toNat)))=(decide (f.cls=0)||C f.cls.toNat):=by
   rw[h2];rcases Classical.em (f.cls=0)with e|e
   .simp[e]
   .have:3<=f.cls:=by omega
    simp[e,this]
  rw[h4]at h;cases b
  .refine⟨_,rfl,fun c hh=>?_,hi.2⟩
   rcases Mb hh with hh|rfl
   .exact hi.1 c hh
   .simp only[Bool.not_false,Ea,CC]at h
    rcases h with h|h
    .exact .inl (by omega)
    .exact .inr h
  .refine⟨_,rfl,hi.1,fun c hh=>?_⟩
   rcases Mb hh with hh|rfl
   .exact hi.2 c hh
   .simp only[Bool.not_true,Bool.or_eq_false_iff,decide_eq_false_iff_not]at h
    exact⟨by omega,h.2⟩
def Qw {w:AF}: ∀(os:List Fact) {t t':BB},(∀l∈os,Dl w l)->(t.1.length=3+w.parents.length/\t.2.length=3+w.parents.length)->Ky os t=some t'->T5 t t'/\ ∀l∈os,Ye t' (Ah l).1 (Ah l).2
 | [],t,t',_,_,h=>by
   obtain rfl:=Option.some.inj h;exact⟨T5.oB,fun l hl=>by cases hl⟩
 | x::r,t,t',hl,hn,h=>by
   rw[Ky,Option.bind_eq_some_iff]at h;obtain⟨u,h1,h2⟩:=h;obtain⟨h3,h4⟩:=lJ (hl x (.head _)) hn h1;obtain⟨h5,h6⟩:=Qw r (fun l h=>hl l (.tail _ h)) ⟨by rw[<-h3.1];exact hn.1,by rw[<-h3.2.1];exact hn.2⟩ h2;refine⟨h3.trans h5,fun l h=>?_⟩;rcases Fl.1 h with rfl|h
   .exact Ts h5 h4
   .exact h6 l h
def Tb {w:AF} {C:Nat->Bool} {kid:Int->GQ}: ∀(os:List Fact) {t:BB},(∀l∈os,Dl w l)->rl t C->(∀l∈os,DK (.obj C kid) (Ah l).1= !(Ah l).2)-> ∃t',Ky os t=some t'/\rl t' C
 | [],t,_,hi,_=>⟨t,rfl,hi⟩
 | x::r,t,hl,hi,h=>by
   obtain⟨u,h1,h2⟩:=dY (hl x (.head _)) hi (h x (.head _));obtain⟨t',h3,h4⟩:=Tb r (fun l h=>hl l (.tail _ h)) h2 fun l hh=>h l (.tail _ hh)
   exact⟨t',by rw[Ky,h1];exact h3,h4⟩
def tV (w:AF) (ls:List Fact) (a:Int) (p:List Int) (can:Int->Bool) (s:Int) (t:BB):Prop:=
 (E2 ls a (p++[s])=false->t.1.getD (Bc w s).toNat false=true/\can s=true)/\(can s=false->t.2.getD (Bc w s).toNat false=true)
def Qv {w:AF} (hw:GP w) {ls:List Fact} {a:Int} {p:List Int} {can:Int->Bool}: ∀(sl:List Int) {t t':BB},(∀s∈sl,0<=s/\s<(w.owner.length:Int))->(t.1.length=3+w.parents.length/\t.2.length=3+w.parents.length)->Kx w ls a p can sl t=some t'->T5 t t'/\ ∀s∈sl,tV w ls a p can s t'
 | [],t,t',_,_,h=>by
   obtain rfl:=Option.some.inj h;exact⟨T5.oB,fun l hl=>by cases hl⟩
 | s ::r,t,t',hs,hn,h=>by
   rw[Kx,Option.bind_eq_some_iff]at h;obtain⟨u,h1,h2⟩:=h;have ho:=Ih hw (hs s (.head _))
   have h3:T5 t u/\tV w ls a p can s u:=by
    rw[V2]at h1;split at h1
    .cases h1
    .rename_i hne
     obtain rfl:=Option.some.inj h1;simp only[tV];cases hb:E2 ls a (p++[s])<;>cases hc:can s
     .simp[hb,hc]at hne
     .exact⟨⟨by simp,rfl,fun c h=>Md h,fun c h=>h⟩,fun _=>⟨Mc (by omega),rfl⟩,fun h=>(by cases h)⟩
     .exact⟨⟨rfl,by simp,fun c h=>h,fun c h=>Md h⟩,fun h=>(by cases h),fun _=>Mc (by omega)⟩
     .exact⟨T5.oB,fun h=>(by cases h),fun h=>(by cases h)⟩
   obtain⟨h5,h6⟩:=Qv hw r (fun l h=>hs l (.tail _ h)) ⟨by rw[<-h3.1.1];exact hn.1,by rw[<-h3.1.2.1];exact hn.2⟩ h2;refine⟨h3.1.trans h5,fun l h=>?_⟩;rcases Fl.1 h with rfl|h
   .exact⟨fun hb=>⟨h5.2.2.1 _ (h3.2.1 hb).1,(h3.2.1 hb).2⟩,fun hc=>h5.2.2.2 _ (h3.2.2 hc)⟩
   .exact h6 l h
def Ta {w : AF} (hw:GP w) {ls:List Fact} {a:Int} {p:List Int} {can:Int->Bool} {C:Nat->Bool}: ∀(sl:List Int) {t:BB},(∀s∈sl,0<=s/\s<(w.owner.length:Int))->rl t C->
    (∀s∈sl,(E2 ls a (p++[s])=false->C (Bc w s).toNat=true)/\(C (Bc w s).toNat=true->can s=true))-> ∃t',Kx w ls a p can sl t=some t'/\rl t' C
 | [],t,_,hi,_=>⟨t,rfl,hi⟩
 | s :: r, t,hs,hi,h=>by
   have ho:=Ih hw (hs s (.head _));obtain⟨k1,k2⟩:=h s (.head _)
   have h1 : ∃u,V2 w ls a p can s t=some u/\rl u C:=by
    rw[V2];cases hb:E2 ls a (p++[s])
    .rw[k2 (k1 hb)]
     refine⟨_,rfl,fun c hh=>?_,hi.2⟩;rcases Mb hh with hh|rfl
     .exact hi.1 c hh
     .exact .inr (k1 hb)
    .cases hc:can s
     .refine⟨_,rfl,hi.1,fun c hh=>?_⟩
      rcases Mb hh with hh|rfl
      .exact hi.2 c hh
      .refine⟨by omega,?_⟩
       rw[<-Bool.not_eq_true];intro e;rw[k2 e]at hc;cases hc
     .exact⟨_,rfl,hi⟩
   obtain⟨u,h2,h3⟩:=h1;obtain⟨t',h4,h5⟩:=Ta hw r (fun l h=>hs l (.tail _ h)) h3 fun l hh=>h l (.tail _ hh)
   exact⟨t',by rw[Kx,h2];exact h4,h5⟩
def pF {w:AF} {C:Nat->Bool}:rl (tO w) C:=by
 have: ∀c,(List.replicate (3+w.parents.length) false).getD c false=false:=fun c=>by
  rw[C6];cases h:(List.replicate (3+w.parents.length) false)[c]? with
  | none=>rfl
  | some b=>rw[List.eq_of_mem_replicate (CY h)];rfl
 exact⟨fun c h=>absurd ((this c).symm.trans h) (by decide),fun c h=>absurd ((this c).symm.trans h) (by decide)⟩
def Tn {g:List (List Int)} (ho:ordered g) {C:Nat->Bool} (hC: ∀c,3<=c->C c=true-> ∀q∈par g c,C q.toNat=true): ∀d b:Nat,3<=d->C d=true->GC g d b=true->C b=true:=by
 intro d
 induction d using Nat.strongRecOn with
 | _ d ih=>
   intro b h3 hd h;rw[EI ho]at h;simp only[Ea,Cd,Hn]at h;rcases h with rfl|⟨p,hp,h⟩
   .exact hd
   .have:=ho d p hp
    exact ih p.toNat (by omega) b (by omega) (hC d h3 hd p hp) h
def lz {w : AF} (hw : GP w) {ls:List Fact} (hl: ∀l∈ls,Dl w l) {a:Int} {p:List Int} {can:Int->Bool} {T:Int->GQ->Prop} (hcan: ∀s,s∈Cu w.owner.length ls a p->(can s=true↔ ∃t,FG w t/\T s t))
    (hT: ∀s t,T s t↔ ∀l∈ls,(Ah l).1.arg=a-> ∀q,(Ah l).1.path=p++s::q->Ko w t q (Ah l).1= !(Ah l).2) :
    (Vg w ls a p can).isSome=true↔ ∃C kid,FG w (.obj C kid)/\ ∀l∈ls,(Ah l).1.arg=a-> ∀q,(Ah l).1.path=p++q->Ko w (.obj C kid) q (Ah l).1= !(Ah l).2:=by
 have hL: ∀l∈ls.filter (Km a p),Dl w l:=fun l h=>hl l (JU.1 h).1
 have hS: ∀s∈Cu w.owner.length ls a p,0<=s/\s<(w.owner.length:Int):=fun s h=>IN h
 have hn0:(tO w).1.length=3+w.parents.length/\(tO w).2.length=3+w.parents.length:=by simp[tO]
 constructor
 .intro h
  rw[Vg]at h;cases h1:Ky (ls.filter (Km a p)) (tO w)with
  | none=>rw[h1]at h;cases h
  | some t=>
    rw[h1,Option.bind_some]at h;obtain⟨g1,g2⟩:=Qw _ hL hn0 h1;have hn1:t.1.length=3+w.parents.length/\t.2.length=3+w.parents.length:=⟨by rw[<-g1.1];exact hn0.1,by rw[<-g1.2.1];exact hn0.2⟩
    cases h2:Kx w ls a p can (Cu w.owner.length ls a p) t with
    | none=>rw[h2]at h;cases h
    | some u=>
      rw[h2,Option.bind_some,gz]at h;obtain⟨g3,g4⟩:=Qv hw _ hS hn1 h2;have hn2:u.1.length=3+w.parents.length/\u.2.length=3+w.parents.length:=⟨by rw[<-g3.1];exact hn1.1,by rw[<-g3.2.1];exact hn1.2⟩
      split at h
      .cases h
      .rename_i h0
       split at h
       .cases h
       .rename_i h3
        clear h;have hSl:(u.1.set 0 false).length=3+w.parents.length:=by simpa using hn2.1
        generalize hSd:C4 w.parents (3+w.parents.length) w.parents.length (u.1.set 0 false)=S at *
        have hin: ∀c,3<=c->u.1.getD c false=true->S.getD c false=true:=fun c hc h=>by
         rw[<-hSd];refine J3 hw.ord hSl _ _ ?_;rw[C6,List.getElem?_set_ne (by omega),<-C6];exact h
        have hdis: ∀c,S.getD c false=true->u.2.getD c false=true->False:=fun c k1 k2=>by
         have hc:c<3+w.parents.length:=by
          rcases Nat.lt_or_ge c (3+w.parents.length)with h|h
          .exact h
          .rw[C6,List.getElem?_eq_none (by omega)]at k2
           cases k2
         refine h3 (Hn.2 ⟨c,List.mem_range.2 hc,?_⟩);rw[k1,k2];rfl
        have hkid: ∀s,∃t,FG w t/\((∃t,FG w t/\T s t)->T s t):=fun s=>by
         rcases Classical.em (∃t,FG w t/\T s t)with⟨t,k1,k2⟩|k
         .exact⟨t,k1,fun _=>k2⟩
         .exact⟨.JV,trivial,fun h=>absurd h k⟩
        refine⟨fun c=>S.getD c false,fun s=>Classical.choose (hkid s),⟨fun c hc h q hq=>?_,fun s=>(Classical.choose_spec (hkid s)).1⟩,fun l h1 h2 q hq=>?_⟩
        .change S.getD c false=true at h
         change S.getD q.toNat false=true
         have hcl:c<3+w.parents.length:=by
          rcases Nat.lt_or_ge c (3+w.parents.length)with h'|h'
          .exact h'
          .rw[C6,List.getElem?_eq_none (by rw[<-hSd,Fb];omega)]at h
           cases h
         rw[<-hSd]at h ⊢;exact Hm hw.ord hSl _ c (by omega) (by omega) h q hq
        .cases q with
         | nil =>
           have k:=g2 l (JU.2 ⟨h1,EX.2 ⟨h2,by simpa using hq⟩⟩);have k:=Ts g3 k;have hc:=(hl l h1).cls;generalize Ah l=x at *;obtain⟨f,b⟩:=x;simp only[Ko,DK,Ye]at *;by_cases e1:f.op≠2\/f.cls=1\/f.cls=2
           .rw[if_pos e1]at k
            subst k;rcases e1 with e1|e1|e1
            .simp[e1]
            .simp[e1]
            .simp[e1]
           .rw [if_neg e1]at k
            have e2:f.op=2:=by
             rcases Classical.em (f.op=2)with e|e
             .exact e
             .exact absurd (Or.inl e) e1
            have hr:=hc e2;have e3:f.cls≠1/\f.cls≠2:=⟨fun e=>e1 (.inr (.inl e)),fun e=>e1 (.inr (.inr e))⟩
            rw[e2];rcases Classical.em (f.cls=0)with e|e
            .rw[e]at k ⊢
             cases b
             .rfl
             .exfalso;exact h0 k
            .have e4:(f.cls==0)=false:=by simpa using e
             have e5:decide (3<=f.cls)=true:=decide_eq_true (by omega);rw[e4,e5];cases b
             .rw[if_neg (by decide)]at k
              rw[hin _ (by omega) k];rfl
             .rw[if_pos rfl]at k
              have:S.getD f.cls.toNat false=false:=by
               rw[<-Bool.not_eq_true];exact fun e=>hdis _ e k
              rw[this];rfl
         | cons s q=>
           have hs:s∈Cu w.owner.length ls a p:=(KQ hl).2 ⟨l,h1,h2,q,hq⟩;have hso:=Ih hw (hS s hs);obtain⟨k1,k2⟩:=g4 s hs;simp only[Ko];cases hm:S.getD (Bc w s).toNat false
           .rw[Bool.false_and]
            cases hb:E2 ls a (p++[s])
            .have:=hin _ (by omega) (k1 hb).1
             rw[hm]at this;cases this
            .rw[EV.1 hb l h1 h2 q (by rw[hq];simp)];rfl
           .rw[Cm]
            cases hc:can s
            .exact absurd (k2 hc) fun e=>hdis _ hm e
            .exact(hT s _).1 ((Classical.choose_spec (hkid s)).2 ((hcan s hs).1 hc)) l h1 h2 q hq
 .rintro ⟨C,kid,⟨hC,U⟩,h⟩
  obtain⟨t,h1,h2⟩:=Tb (C:=C) (kid:=kid) (ls.filter (Km a p)) (t:=tO w) hL pF fun l k=>by
   obtain⟨k1,k2⟩:=JU.1 k;obtain⟨k3,k4⟩:=EX.1 k2;exact h l k1 k3 [] (by simpa using k4)
  obtain ⟨u,h3,h4⟩:=Ta hw (C:=C) (can:=can) (ls:=ls) (a:=a) (p:=p) (Cu w.owner.length ls a p) (t:=t) hS h2 fun s hs=>by
   constructor
   .intro hb
    cases e:C (Bc w s).toNat
    .rw[EV.2 fun l k1 k2 q hq=>by
      have:=h l k1 k2 (s::q) (by rw[hq];simp);simp only[Ko,e,Bool.false_and]at this
      simpa using this.symm]at hb
     cases hb
    .rfl
   .intro e
    refine(hcan s hs).2 ⟨kid s,U s,(hT s _).2 fun l k1 k2 q hq=>?_⟩;have:=h l k1 k2 (s::q) hq;simpa only[Ko,e,Cm]using this
  rw[Vg,h1,Option.bind_some,h3,Option.bind_some,gz]
  have h0:u.2.getD 0 false=false:=by
   rw[<-Bool.not_eq_true];exact fun e=>(h4.2 0 e).1 rfl
  rw[h0,if_neg (by decide),if_neg]
  .rfl
  .rw [Hn]
   rintro⟨c,-,hc⟩;rw[A0]at hc;have q1:=(Qw _ hL hn0 h1).1;have q2:=(Qv hw _ hS ⟨by rw[<-q1.1];exact hn0.1,by rw[<-q1.2.1];exact hn0.2⟩ h3).1;have hlen:(u.1.set 0 false).length=3+w.parents.length:=by rw[List.length_set,<-q2.1,<-q1.1];exact hn0.1
   obtain⟨d,k1,k2⟩:=GO hw.ord hlen _ _ hc.1
   have hd0:d≠0:=by
    rintro rfl;rw[C6,List.getElem?_set_self (by rw[List.length_set]at hlen;omega)]at k1;cases k1
   rw[C6,List.getElem?_set_ne (fun e=>hd0 e.symm),<-C6]at k1;have hCd:C d=true:=(h4.1 d k1).resolve_left hd0
   have hCc:C c=true:=by
    rcases Nat.lt_or_ge d 3 with hd|hd
    .rw[EI hw.ord,show par w.parents d= [] from if_pos hd]at k2
     simp only[List.any_nil,Bool.or_false,Cd]at k2;subst k2;exact hCd
    .exact Tn hw.ord hC d c hd hCd k2
   have:=(h4.2 c hc.2).2;rw[hCc]at this;cases this
def TT (w:AF) (ls:List Fact) (a:Int) (p:List Int) (t:GQ):Prop:= ∀l∈ls,(Ah l).1.arg=a-> ∀q,(Ah l).1.path=p++q->Ko w t q (Ah l).1= !(Ah l).2
def KU {w:AF} {ls:List Fact} (hl: ∀l∈ls,Dl w l) {a:Int} {p:List Int}:Jg w.owner.length ls a p=true↔TT w ls a p .JV:=by
 rw[Jg,A0,DJ,XR hl];constructor
 .rintro⟨h1,h2⟩ l k1 k2 q hq
  cases q with
  | nil=>
    have:=h1 l (JU.2 ⟨k1,EX.2 ⟨k2,by simpa using hq⟩⟩);simp only[Ko,DK,Sf]at *
    revert this
    cases((Ah l).1.op==2&&((Ah l).1.cls==0||(Ah l).1.cls==2))<;>cases(Ah l).2<;>decide
  | cons s q=>simp[Ko,h2 l k1 k2 s q hq]
 .intro h
  refine⟨fun l k=>?_,fun l k1 k2 s q hq=>?_⟩
  .obtain⟨k1,k2⟩:=JU.1 k
   obtain⟨k3,k4⟩:=EX.1 k2;have:=h l k1 k3 [] (by simpa using k4);simp only[Ko,DK,Sf]at *
   revert this
   cases((Ah l).1.op==2&&((Ah l).1.cls==0||(Ah l).1.cls==2))<;>cases(Ah l).2<;>decide
  .have:=h l k1 k2 (s::q) hq
   simpa[Ko]using this.symm
def Mo {w:AF} {ls:List Fact} (hl: ∀l∈ls,Dl w l) {a:Int} {p:List Int}:((PB ls a p).isSome&&G8 w.owner.length ls a p)=true↔ ∃m,FG w (.int m)/\TT w ls a p (.int m):=by
 rw[A0,XR hl,mM hl];constructor
 .rintro⟨⟨m,h1,h2⟩,h3⟩
  refine⟨m,h1,fun l k1 k2 q hq=>?_⟩;cases q with
  | nil=>exact h2 l k1 k2 (by simpa using hq)
  | cons s q=>simp[Ko,h3 l k1 k2 s q hq]
 .rintro⟨m,h1,h2⟩
  refine⟨⟨m,h1,fun l k1 k2 k3=>h2 l k1 k2 [] (by simpa using k3)⟩,fun l k1 k2 s q hq=>?_⟩;have:=h2 l k1 k2 (s::q) hq;simpa[Ko]using this.symm
def cI {w:AF} (hw:GP w) {ls:List Fact} (hl: ∀l∈ls,Dl w l) {a:Int} {p:List Int} {can:Int->Bool} (hcan: ∀s,s∈Cu w.owner.length ls a p->(can s=true↔ ∃t,FG w t/\TT w ls a (p++[s]) t)) :
    (((PB ls a p).isSome&&G8 w.owner.length ls a p)||(Jg w.owner.length ls a p||(Vg w ls a p can).isSome))=true↔ ∃t,FG w t/\TT w ls a p t:=by
 rw[Ea,Ea,Mo hl,KU hl,lz hw hl (T:=fun s t=>TT w ls a (p++[s]) t) hcan fun s t=>by simp only[TT,Ps,List.singleton_append]];constructor
 .rintro(⟨m,h1,h2⟩|h|⟨C,kid,h1,h2⟩)
  .exact⟨_,h1,h2⟩
  .exact⟨.JV,trivial,h⟩
  .exact⟨_,h1,h2⟩
 .rintro⟨t,h1,h2⟩
  cases t with
  | int m=>exact .inl ⟨m,h1,h2⟩
  | JV=>exact .inr (.inl h2)
  | obj C kid=>exact .inr (.inr ⟨C,kid,h1,h2⟩)
def Jz {w:AF} (hw:GP w) {ls:List Fact} (hl: ∀l∈ls,Dl w l) (a:Int): ∀(d:Nat) (p:List Int),p.length+d=2->(UG w ls a d p=true↔ ∃t,FG w t/\TT w ls a p t)
 | 0,p,hp=>by
   rw[UG];refine cI hw hl fun s hs=>?_
   rw[N2 (m:=2) (fun l h=>(hl l h).short) (by omega)]at hs;cases hs
 | d+1,p,hp=>by
   rw[UG];exact cI hw hl fun s hs=>Jz hw hl a d (p++[s]) (by simp;omega)
def FH (w:AF) (M:Int->GQ) (l:Fact):Prop:=Ko w (M (Ah l).1.arg) (Ah l).1.path (Ah l).1= !(Ah l).2
def MZ {w:AF} (hw:GP w) {ls:List Fact} (hl: ∀l∈ls,Dl w l):HR w ls=true↔ ∃M:Int->GQ,(∀a,FG w (M a))/\ ∀l∈ls,FH w M l:=by
 rw[HR,DJ];constructor
 .intro h
  have hk: ∀a:Int,∃t,FG w t/\(0<=a/\a<3->TT w ls a [] t):=fun a=>by
   rcases Classical.em (0<=a/\a<3)with e|e
   .obtain⟨t,h1,h2⟩:=(Jz hw hl a 2 [] rfl).1 (h a (CK.2 e))
    exact⟨t,h1,fun _=>h2⟩
   .exact⟨.JV,trivial,fun k=>absurd k e⟩
  exact⟨fun a=>Classical.choose (hk a),fun a=>(Classical.choose_spec (hk a)).1,fun l k=>(Classical.choose_spec (hk (Ah l).1.arg)).2 (hl l k).arg l k rfl _ rfl⟩
 .rintro⟨M,h1,h2⟩ a _
  refine(Jz hw hl a 2 [] rfl).2 ⟨M a,h1 a,fun l k1 k2 q hq=>?_⟩;have:=h2 l k1;rw[FH,k2]at this;rw[List.nil_append]at hq;rw[<-hq];exact this
def YQ (w:AF) (M:Int->GQ) (f:Fact) (l:List Bool):Bool:=
 if f.op=1 then true else if f.op=5 then !l.getD 0 false else if f.op=6 then l.getD 0 false&&l.getD 1 false else if f.op=7 then l.getD 0 false||l.getD 1 false else Ko w (M f.arg) f.path f
def Sd (w:AF) (M:Int->GQ) (f:Fact):Bool:=f.HU (YQ w M)
def Ua (w:AF) (M:Int->GQ) (f:Fact):Sd w M f=YQ w M f (f.kids.map (Sd w M)):=Fact.DT (YQ w M) f
def Mn (a:List Fact) (Q:Fact->Prop): ∀b:List Fact,(∀x∈C1 a b,Q x)↔(∀x∈a,Q x)/\ ∀x∈b,Q x:=by
 intro b
 induction b generalizing a with
 | nil=>simp[C1]
 | cons y r ih=>
   rw[C1,ih];split
   .rename_i h
    obtain⟨z,h1,h2⟩:=Hn.1 h;have:=(N4 y z).1 h2;subst this;simp only[List.forall_mem_cons];constructor
    .rintro⟨h3,h4⟩;exact⟨h3,h3 _ h1,h4⟩
    .rintro⟨h3,_,h4⟩;exact⟨h3,h4⟩
   .simp only[List.forall_mem_append,List.forall_mem_cons,List.forall_mem_nil]
    constructor
    .rintro⟨⟨h1,h2,_⟩,h3⟩;exact⟨h1,h2,h3⟩
    .rintro⟨h1,h2,h3⟩;exact⟨⟨h1,h2,fun _ h=>by cases h⟩,h3⟩
def Et {w : AF} {M:Int->GQ} (f:Fact):BN w f=true-> ∀c,(∃l∈Be f c,∀x∈l,FH w M x)↔Sd w M f= !c:=by
 induction f using Fact.ind with
 | h f ih=>
   intro h c;have har:=B7 f h;have h':=h;rw[By,A0,DJ]at h';rw[FW,Hf,Ua,YQ];by_cases h1:f.op=1
   .rw[if_pos h1,if_pos h1]
    cases c<;>simp
   rw[if_neg h1,if_neg h1];by_cases h5:f.op=5
   .obtain⟨a,ha,hb⟩:=Fi har h5
    rw[if_pos h5,if_pos h5,ha];have:=ih a (by rw[ha];exact .head _) (h'.2 a (by rw[ha];exact .head _)) (!c);simp only[EW,List.map_nil,List.getD_cons_zero];rw[this];cases Sd w M a<;>cases c<;>decide
   rw[if_neg h5,if_neg h5];by_cases h6:f.op=6\/f.op=7
   .obtain⟨a,b,ha,hb1,hb2⟩:=Fh har h6
    rw[if_pos h6,ha];have i1:=ih a (by rw[ha];exact .head _) (h'.2 a (by rw[ha];exact .head _)) c;have j1:=ih b (by rw[ha];exact .tail _ (.head _)) (h'.2 b (by rw[ha];exact .tail _ (.head _))) c;simp only[EW,List.map_nil,List.getD_cons_zero,List.getD_cons_succ]
    have happ:(∃l∈Be a c++Be b c,∀x∈l,FH w M x)↔Sd w M a= !c\/Sd w M b= !c:=by
     rw[<-i1,<-j1];constructor
     .rintro⟨l,hl,hx⟩
      rcases D9.1 hl with hl|hl
      .exact .inl ⟨l,hl,hx⟩
      .exact .inr ⟨l,hl,hx⟩
     .rintro(⟨l,hl,hx⟩|⟨l,hl,hx⟩)
      .exact⟨l,O5 _ hl,hx⟩
      .exact⟨l,OQ _ hl,hx⟩
    have hprod:(∃l∈Fo (Be a c) (Be b c),∀x∈l,FH w M x)↔Sd w M a= !c/\Sd w M b= !c:=by
     rw[<-i1,<-j1];simp only[Fo,List.mem_flatMap,Hp];constructor
     .rintro⟨l,⟨y,hy,z,hz,rfl⟩,hx⟩
      rw[Mn]at hx;exact⟨⟨y,hy,hx.1⟩,z,hz,hx.2⟩
     .rintro⟨⟨y,hy,h1⟩,z,hz,h2⟩
      exact⟨_,⟨y,hy,z,hz,rfl⟩,(Mn y _ z).2 ⟨h1,h2⟩⟩
    rcases h6 with h6|h6
    .rw[if_pos h6,h6]
     cases c
     .rw[if_neg (by decide),hprod]
      simp
     .rw[if_pos (by decide),happ]
      simp only[Bool.not_true,Bool.and_eq_false_iff]
    .rw[if_neg (by omega: ¬f.op=6),if_pos h6,h6]
     cases c
     .rw[if_pos (by decide),happ]
      simp
     .rw[if_neg (by decide),hprod]
      simp only[Bool.not_true,Bool.or_eq_false_iff]
   .rw[if_neg h6,if_neg (fun e=>h6 (.inl e)),if_neg (fun e=>h6 (.inr e))]
    have e1:FH w M f↔Ko w (M f.arg) f.path f=true:=by rw[FH,Ah,if_neg h5];exact Iff.rfl
    have e2:FH w M (Ez f)↔Ko w (M f.arg) f.path f=false:=by
     rw[FH,show Ah (Ez f)=(f,true) from rfl];exact Iff.rfl
    cases c
    .simp[e1]
    .simp[e2]
def lg {w:AF} (hw:GP w) {f:Fact} (hn:BN w f=true):YU w f=true↔ ∃M:Int->GQ,(∀a,FG w (M a))/\Sd w M f=true:=by
 rw[YU,Hn];constructor
 .rintro⟨l,h1,h2⟩
  obtain⟨M,h3,h4⟩:=(MZ hw fun x hx=>GK (D7 f hn false l h1 x hx)).1 h2;exact⟨M,h3,(Et f hn false).1 ⟨l,h1,h4⟩⟩
 .rintro⟨M,h1,h2⟩
  obtain⟨l,h3,h4⟩:=(Et f hn false).2 h2;exact⟨l,h3,(MZ hw fun x hx=>GK (D7 f hn false l h3 x hx)).2 ⟨M,h1,h4⟩⟩
def Qr {w:AF} (hw:GP w) {a b:Fact} (ha:BN w a=true) (hb:BN w b=true):Vn w a b=true↔ ∀M:Int->GQ,(∀x,FG w (M x))->Sd w M a=true->Sd w M b=true:=by
 have he: ∀M,Sd w M (SU a (Ez b))=(Sd w M a&& !Sd w M b):=fun M=>by
  rw[Ua];simp only[YQ,SU,Fact.op,Fact.kids,EW,List.map_nil,List.getD_cons_zero,List.getD_cons_succ];rw[Ua w M (Ez b)];simp[YQ,Ez,Fact.op,Fact.kids]
 rw[Vn,Bool.not_eq_true',<-Bool.not_eq_true,lg hw (W6 ha hb)];constructor
 .intro h M h1 h2
  rw[<-Bool.not_eq_false];exact fun h3=>h ⟨M,h1,by rw[he,h2,h3];rfl⟩
 .rintro h ⟨M,h1,h2⟩
  rw[he,A0]at h2;rw[h M h1 h2.1]at h2;simp at h2
def imp_trans {w:AF} (hw:GP w) {a b c:Fact} (ha:BN w a=true) (hb:BN w b=true) (hc:BN w c=true) (h1:Vn w a b=true) (h2:Vn w b c=true):Vn w a c=true:=
 (Qr hw ha hc).2 fun M hM h=>(Qr hw hb hc).1 h2 M hM ((Qr hw ha hb).1 h1 M hM h)
def UJ (l:List Int) (s:Int):List Int:=if l.contains s then l else l++[s]
def ni (k:Kn) (s:Int):Kn:={k with AH:=UJ k.AH s}
def H6 (a:Int) (p:List Int) (k:Kn) (l:Fact):Kn:=
 if(Ah l).1.arg=a/\Bm (Ah l).1.path p=true then
  (if(Ah l).1.path=p then B1 (B2 k (Ah l).2) (Ah l).1 (Ah l).2 else ni (B2 k (Ah l).2) ((Ah l).1.path.getD p.length 0))
 else k
def kg (ls:List Fact) (a:Int) (p:List Int):Kn:=ls.foldl (H6 a p) k0
structure gd (k k':Kn):Prop where
 core:Dc k=Dc k'
 gr:k.Ac=k'.Ac
 AH: ∀s,s∈k.AH↔s∈k'.AH
def nK (l:List Int) (s x:Int):x∈UJ l s↔x∈l\/x=s:=by
 unfold UJ;split
 .rename_i h
  rw[List.contains_iff_mem]at h;exact⟨.inl,fun h'=>h'.elim id fun e=>by rw[e];exact h⟩
 .simp
def lU {k k':Kn} (h:gd k k') (a:Int) (p:List Int) (l:Fact):gd (H6 a p k l) (C7 a p k' l):=by
 unfold H6 C7;split
 .split
  .refine⟨Q1 (k:=B2 k (Ah l).2) (k':=B2 k' (Ah l).2) h.core _ _,?_,fun s=>?_⟩
   .rw[Lk,Lk];simp[B2,h.gr]
   .rw[IZ,IZ];exact h.AH s
  .refine⟨h.core,by simp[ni,gV,B2,h.gr],fun s=>?_⟩
   show s∈UJ k.AH _↔s∈JI k'.AH _;rw[Tx,nK,h.AH]
 .exact h
def Wq (a:Int) (p:List Int): ∀(ls:List Fact) (k k':Kn),gd k k'->gd (ls.foldl (H6 a p) k) (ls.foldl (C7 a p) k')
 | [],_,_,h=>h
 | l::r,_,_,h=>Wq a p r _ _ (lU h a p l)
def Gd (ls:List Fact) (a:Int) (p:List Int):gd (kg ls a p) (kn ls a p):=Wq a p ls k0 k0 ⟨rfl,rfl,fun _=>Iff.rfl⟩
def U4 (ls:List Fact) (a:Int) (p:List Int):Dc (kg ls a p)=Dc (ET (ls.filter (Km a p)) k0):=(Gd ls a p).core.trans (MI ls a p)
def KX (ls:List Fact) (a:Int) (p:List Int):(kg ls a p).Ac= !E2 ls a p:=by rw[(Gd ls a p).gr,KW]
def N6 {w:AF} {ls:List Fact} (hl: ∀l∈ls,Dl w l):HY w.owner.length ls:=fun l h=>(hl l h).path
def Jw {w:AF} {ls:List Fact} (hl: ∀l∈ls,Dl w l) {a:Int} {p:List Int} {s:Int}:s∈(kg ls a p).AH↔ ∃l∈ls,(Ah l).1.arg=a/\ ∃q,(Ah l).1.path=p++s::q:=by
 rw[(Gd ls a p).AH,Jv (N6 hl),KQ hl]
def iR {w:AF} {ls:List Fact} (hl: ∀l∈ls,Dl w l) {a:Int} {p:List Int} {s:Int} (h:s∈(kg ls a p).AH):0<=s/\s<(w.owner.length:Int):=by
 obtain⟨l,h1,h2,q,hq⟩:=(Jw hl).1 h;exact(hl l h1).path s (by rw[hq];simp)
def jj (ls:List Fact) (a:Int) (p:List Int):H7 (kg ls) a p=H7 (kn ls) a p:=by
 rw[H7,H7,G3,DJ,DJ];constructor
 .intro h s hs
  have:=h s (((Gd ls a p).AH s).2 hs)
  rwa [(Gd ls a (p++[s])).gr]at this
 .intro h s hs
  have:=h s (((Gd ls a p).AH s).1 hs)
  rwa [(Gd ls a (p++[s])).gr]
def KF {k k':Kn} (h:Dc k=Dc k'):k.low=k'.low/\k.high=k'.high/\k.no=k'.no/\k.BW=k'.BW/\k.Dt=k'.Dt/\k.whole=k'.whole:=by
 simpa only[Dc,Prod.mk.injEq]using h
def AAv (ls:List Fact) (a:Int) (p:List Int):F1 (kg ls) a p=F1 (kn ls) a p:=by
 obtain⟨c1,c2,c3,c4,c5,-⟩:=KF (Gd ls a p).core;rw[F1,F1,Eb,Eb,jj,Ef,Ef,c1,c2,c3,c4,c5]
def uG (ls:List Fact) (a:Int) (p:List Int):DZ (kg ls) a p=DZ (kn ls) a p:=by
 obtain⟨-,-,-,c4,c5,c6⟩:=KF (Gd ls a p).core;rw[DZ,DZ,Eb,Eb,jj,c4,c5,c6]
def Q2 {w:AF} {ls:List Fact} (hl: ∀l∈ls,Dl w l):Gz (3+w.parents.length) ls:=fun l h ho=>by
 have:=(hl l h).cls ho;omega
def bX {w:AF} (hw:GP w) {ls:List Fact} (hl: ∀l∈ls,Dl w l) (a:Int) (p:List Int):F1 (kg ls) a p=true↔ ∃m,FG w (.int m)/\TT w ls a p (.int m):=by
 rw[AAv,Yr (n:=3+w.parents.length) (by have:=hw.len;omega) (Q2 hl) (N6 hl),Mo hl]
def W5 {w:AF} (hw:GP w) {ls:List Fact} (hl: ∀l∈ls,Dl w l) (a:Int) (p:List Int):DZ (kg ls) a p=true↔TT w ls a p .JV:=by
 rw[uG,Uw (n:=3+w.parents.length) (by have:=hw.len;omega) (Q2 hl) (N6 hl),KU hl]
def SN (w:AF) (kf:Int->List Int->Kn) (a:Int) (p:List Int) (up:Nat) (can:Int->Bool):Bool:=
 !(kf a p).whole&&(Hr (kf a p).BW up&&((kf a p).Dt&&&up==0&&(kf a p).AH.all fun s=>if up.testBit (Bc w s).toNat then can s else !(kf a (p++[s])).Ac))
def Qk {w : AF} (hw:GP w) {ls:List Fact} (hl: ∀l∈ls,Dl w l) {a:Int} {p:List Int} {up:Nat} {can:Int->Bool} {OK:GQ->Prop} (hnon:OK .JV) (u0:up.testBit 0=true) (u1:up.testBit 1=false) (u2:up.testBit 2=false)
    (hcan: ∀s∈(kg ls a p).AH,(can s=true↔ ∃t,OK t/\TT w ls a (p++[s]) t)) :
    SN w (kg ls) a p up can=true↔ ∃kid,(∀s,OK (kid s))/\TT w ls a p (.obj (fun b=>up.testBit b) kid):=by
 obtain⟨-,-,-,c4,c5,c6⟩:=KF (U4 ls a p);have hc2:Gz (3+w.parents.length) (ls.filter (Km a p)):=fun l h=>Q2 hl l (JU.1 h).1
 have hlt:(ET (ls.filter (Km a p)) k0).BW<2 ^ 64:=Nat.lt_of_lt_of_le (MH hc2) (Nat.pow_le_pow_right (by decide) (by have:=hw.len;omega));have hon: ∀l,l∈ls.filter (Km a p)↔l∈ls/\(Ah l).1.arg=a/\(Ah l).1.path=p:=fun l=>by rw[JU,EX]
 rw[SN,A0,A0,A0,c4,c5,c6,Sv,Ma hlt,Mt,DJ];simp only[ID,Uv,hon];constructor
 .rintro ⟨h1,h2,h3,h4⟩
  have hk: ∀s,∃t,OK t/\(s∈(kg ls a p).AH->up.testBit (Bc w s).toNat=true->TT w ls a (p++[s]) t):=fun s=>by
   rcases Classical.em (s∈(kg ls a p).AH/\up.testBit (Bc w s).toNat=true)with⟨e1,e2⟩|e
   .have:=h4 s e1
    rw[if_pos e2]at this;obtain⟨t,q1,q2⟩:=(hcan s e1).1 this;exact⟨t,q1,fun _ _=>q2⟩
   .exact⟨.JV,hnon,fun e1 e2=>absurd ⟨e1,e2⟩ e⟩
  refine⟨fun s=>Classical.choose (hk s),fun s=>(Classical.choose_spec (hk s)).1,fun l k1 k2 q hq=>?_⟩;cases q with
  | nil =>
    rw[FE]at hq;have hcl:=(hl l k1).cls;show DK _ _=_;simp only[DK];cases hb:(Ah l).2
    .have ho:=h1 l ⟨k1,k2,hq⟩ hb
     have hu:=h2 _ ⟨l,⟨k1,k2,hq⟩,ho,hb,rfl⟩;have:=hcl ho;rw[Cd.2 ho,Cm];by_cases e0:(Ah l).1.cls=0
     .rw[e0];rfl
     .have e3:3<=(Ah l).1.cls:=by
       rcases Int.lt_or_le (Ah l).1.cls 3 with hlt|hge
       .exfalso
        have:(Ah l).1.cls.toNat=1\/(Ah l).1.cls.toNat=2:=by omega
        rcases this with e|e<;>rw[e]at hu
        .rw[u1]at hu;cases hu
        .rw[u2]at hu;cases hu
       .exact hge
      rw[decide_eq_true e3,hu];simp
    .by_cases ho:(Ah l).1.op=2
     .have hn:=h3 _ ⟨l,⟨k1,k2,hq⟩,ho,hb,rfl⟩
      have:=hcl ho;rw[Cd.2 ho,Cm];have e0:(Ah l).1.cls≠0:=fun e=>hn (by rw[e];exact u0)
      rw[beq_eq_false_iff_ne.2 e0,Bool.false_or];cases hu:up.testBit (Ah l).1.cls.toNat
      .simp
      .exact(hn hu).elim
     .rw[beq_eq_false_iff_ne.2 ho];rfl
  | cons s r=>
    have hs:s∈(kg ls a p).AH:=(Jw hl).2 ⟨l,k1,k2,r,hq⟩;rw[Ko];have hsp:=(Classical.choose_spec (hk s)).2;generalize Classical.choose (hk s)=t at hsp ⊢;cases hu:up.testBit (Bc w s).toNat
    .have:=h4 s hs
     rw[hu,if_neg (by decide),KX,Bool.not_not]at this;have:=EV.1 this l k1 k2 r (by rw[hq];simp);rw[this];rfl
    .rw[Cm]
     exact hsp hs hu l k1 k2 r (by rw[hq];simp)
 .rintro ⟨kid,hkid,hT⟩
  have hleaf: ∀l∈ls,(Ah l).1.arg=a->(Ah l).1.path=p->((Ah l).1.op==2&&((Ah l).1.cls==0||(decide (3<=(Ah l).1.cls)&&up.testBit (Ah l).1.cls.toNat)))= !(Ah l).2:=fun l k1 k2 k3=>hT l k1 k2 [] (by rw[k3];simp)
  refine⟨?_,?_,?_,?_⟩
  .rintro l ⟨k1,k2,k3⟩ hb
   have:=hleaf l k1 k2 k3;rw[hb,Bool.not_false,A0,Cd]at this;exact this.1
  .rintro b ⟨l,⟨k1,k2,k3⟩,ho,hb,rfl⟩
   have:=hleaf l k1 k2 k3;rw[hb,Bool.not_false,A0,Ea,A0,Cd,Cd]at this;rcases this.2 with e|e
   .rw[e];exact u0
   .exact e.2
  .rintro b ⟨l,⟨k1,k2,k3⟩,ho,hb,rfl⟩ hu
   have:=hleaf l k1 k2 k3;have hc:=(hl l k1).cls ho;rw[hb,Cd.2 ho,hu,Cm,Bool.and_true]at this;by_cases e0:(Ah l).1.cls=0
   .rw[e0]at this;cases this
   .have e3:3<=(Ah l).1.cls:=by
     rcases Int.lt_or_le (Ah l).1.cls 3 with hlt|hge
     .exfalso
      have:(Ah l).1.cls.toNat=1\/(Ah l).1.cls.toNat=2:=by omega
      rcases this with e|e<;>rw[e]at hu
      .rw[u1]at hu;cases hu
      .rw[u2]at hu;cases hu
     .exact hge
    rw[decide_eq_true e3]at this;simp at this
  .intro s hs
   cases hu:up.testBit (Bc w s).toNat
   .rw[if_neg (by decide),KX,Bool.not_not]
    refine EV.2 fun l k1 k2 q hq=>?_
    have:=hT l k1 k2 (s::q) (by rw[hq];simp);rw[Ko,hu,Bool.false_and]at this;simpa using this.symm
   .rw[if_pos rfl]
    refine(hcan s hs).2 ⟨kid s,hkid s,fun l k1 k2 q hq=>?_⟩;have:=hT l k1 k2 (s::q) (by rw[hq];simp)
    rwa [Ko,hu,Cm]at this
def Dw (w:AF) (kf:Int->List Int->Kn) (a:Int) (p:List Int):Nat:=(kf a p).AH.foldl (fun m s=>if(kf a (p++[s])).Ac then m|||2 ^ (Bc w s).toNat else m) ((kf a p).BW|||2 ^ 0)
def Vf (w:AF) (kf:Int->List Int->Kn) (a:Int) (p:List Int) (can:Int->Bool):Bool:=
 !(Dw w kf a p).testBit 1&&(!(Dw w kf a p).testBit 2&&SN w kf a p (Bp (A5 w.parents) w.parents.length (Dw w kf a p)) can)
def SP (w:AF) (kf:Int->List Int->Kn) (a:Int):Nat->List Int->Bool
 | 0,p=>F1 kf a p||(DZ kf a p||Vf w kf a p fun _=>false)
 | d+1,p=>F1 kf a p||(DZ kf a p||Vf w kf a p fun s=>SP w kf a d (p++[s]))
def XM {w:AF} {kf:Int->List Int->Kn} {a:Int} {p:List Int} {b:Nat}: ∀(l:List Int) (m:Nat),(l.foldl (fun m s=>if(kf a (p++[s])).Ac then m|||2 ^ (Bc w s).toNat else m) m).testBit b=true↔m.testBit b=true\/ ∃s∈l,(kf a (p++[s])).Ac=true/\b=(Bc w s).toNat
 | [],m=>by simp
 | x ::r,m=>by
   rw[List.foldl_cons,XM r];simp only[Fl,exists_eq_or_imp];cases hn:(kf a (p++[x])).Ac
   .simp
   .rw[if_pos rfl,D5,Ea,Cd]
    simp only[true_and,or_assoc]
def eN {w:AF} {kf:Int->List Int->Kn} {a:Int} {p:List Int} {b:Nat}:(Dw w kf a p).testBit b=true↔(kf a p).BW.testBit b=true\/b=0\/ ∃s∈(kf a p).AH,(kf a (p++[s])).Ac=true/\b=(Bc w s).toNat:=by
 rw[Dw,XM,D5,Ea,Cd,or_assoc]
def Pq {w:AF} (hw:GP w) {ls:List Fact} (hl: ∀l∈ls,Dl w l) {a:Int} {p:List Int} {C C':Nat->Bool} {kid:Int->GQ} (h: ∀b,3<=b->C b=C' b) (hT:TT w ls a p (.obj C kid)):TT w ls a p (.obj C' kid):=fun l k1 k2 q hq=>by
 rw[<-hT l k1 k2 q hq];cases q with
 | nil=>
   show DK _ _=DK _ _;simp only[DK];by_cases h3:3<=(Ah l).1.cls
   .rw[h _ (by omega)]
   .rw[decide_eq_false h3,Bool.false_and,Bool.false_and]
 | cons s r=>
   have:=Ih hw ((hl l k1).path s (by rw[hq];simp));rw[Ko,Ko,h _ (by omega)]
def ly {w : AF} (hw:GP w) {ls:List Fact} (hl: ∀l∈ls,Dl w l) {a:Int} {p:List Int} {can:Int->Bool} (hcan: ∀s∈(kg ls a p).AH,(can s=true↔ ∃t,FG w t/\TT w ls a (p++[s]) t)) :
    Vf w (kg ls) a p can=true↔ ∃C kid,FG w (.obj C kid)/\TT w ls a p (.obj C kid):=by
 have hmb:=fun b=>eN (w:=w) (kf:=kg ls) (a:=a) (p:=p) (b:=b)
 have hcb:=fun b=>Li hw.ord (Dw w (kg ls) a p) w.parents.length b (Ia _)
 obtain⟨-,-,-,c4,-,-⟩:=KF (U4 ls a p)
 have hmi: ∀b,(kg ls a p).BW.testBit b=true↔ ∃l∈ls,((Ah l).1.arg=a/\(Ah l).1.path=p)/\(Ah l).1.op=2/\(Ah l).2=false/\(Ah l).1.cls.toNat=b:=fun b=>by
  rw[c4,ID];constructor
  .rintro⟨l,h1,h2⟩
   exact⟨l,(JU.1 h1).1,EX.1 (JU.1 h1).2,h2⟩
  .rintro⟨l,h1,h2,h3⟩
   exact⟨l,JU.2 ⟨h1,EX.2 h2⟩,h3⟩
 have hge: ∀b,b=1\/b=2->(Bp (A5 w.parents) w.parents.length (Dw w (kg ls) a p)).testBit b=true->(Dw w (kg ls) a p).testBit b=true:=fun b hb h=>by
  rcases(hcb b).1 h with h|⟨d,h1,_,_,h2⟩
  .exact h
  .rcases h2 with h2|h2
   .omega
   .have:=Jn hw.ord d b h1 h2
    omega
 rw[Vf,A0,A0,Bool.not_eq_true',Bool.not_eq_true'];constructor
 .rintro⟨m1,m2,ho⟩
  have u0:(Bp (A5 w.parents) w.parents.length (Dw w (kg ls) a p)).testBit 0=true:=(hcb 0).2 (.inl ((hmb 0).2 (.inr (.inl rfl))))
  have u1:(Bp (A5 w.parents) w.parents.length (Dw w (kg ls) a p)).testBit 1=false:=by
   rw[<-Bool.not_eq_true];intro h;rw[hge 1 (.inl rfl) h]at m1;cases m1
  have u2:(Bp (A5 w.parents) w.parents.length (Dw w (kg ls) a p)).testBit 2=false:=by
   rw[<-Bool.not_eq_true];intro h;rw[hge 2 (.inr rfl) h]at m2;cases m2
  obtain⟨kid,h1,h2⟩:=(Qk hw hl (OK:=FG w) trivial u0 u1 u2 hcan).1 ho;refine⟨_,kid,⟨fun c h3 hc q hq=>?_,h1⟩,h2⟩;have hqc:=hw.ord c q hq
  have hcl:c<3+w.parents.length:=by
   rcases Nat.lt_or_ge c (3+w.parents.length)with h'|h'
   .exact h'
   .rw[par,if_neg (by omega),C6,List.getElem?_eq_none (by omega)]at hq;cases hq
  have hup:GC w.parents c q.toNat=true:=by
   rw[EI hw.ord,Ea,Hn];exact .inr ⟨q,hq,C9 hw.ord _⟩
  rcases(hcb c).1 hc with h|⟨d,k1,k2,k3,k4⟩
  .exact(hcb _).2 (.inr ⟨c,h3,hcl,h,.inr hup⟩)
  .refine(hcb _).2 (.inr ⟨d,k1,k2,k3,.inr ?_⟩)
   rcases k4 with k4|k4
   .omega
   .exact IM hw.ord _ _ _ k4 hup
 .rintro ⟨C,kid,⟨hC,hkid⟩,hT⟩
  have hleaf: ∀l∈ls,(Ah l).1.arg=a->(Ah l).1.path=p->((Ah l).1.op==2&&((Ah l).1.cls==0||(decide (3<=(Ah l).1.cls)&&C (Ah l).1.cls.toNat)))= !(Ah l).2:=fun l k1 k2 k3=>hT l k1 k2 [] (by rw[k3];simp)
  have hM: ∀b,(Dw w (kg ls) a p).testBit b=true->b=0\/3<=b/\C b=true:=fun b hb=>by
   rcases(hmb b).1 hb with h|h|⟨s,h1,h2,h3⟩
   .obtain⟨l,k1,⟨k2,k3⟩,ho,hb2,rfl⟩:=(hmi b).1 h
    have:=hleaf l k1 k2 k3;rw[hb2,Bool.not_false,A0,Ea,A0,Cd,Cd,CC]at this;rcases this.2 with e|⟨e1,e2⟩
    .left;omega
    .exact .inr ⟨by omega,e2⟩
   .exact .inl h
   .have hin:=Ih hw (iR hl h1)
    refine .inr ⟨by omega,?_⟩;rw[KX,Bool.not_eq_true',<-Bool.not_eq_true]at h2;rcases Classical.em (C (Bc w s).toNat=true)with e|e
    .rw[h3];exact e
    .refine absurd (EV.2 fun l k1 k2 q hq=>?_) h2
     have:=hT l k1 k2 (s::q) (by rw[hq];simp);rw[Bool.not_eq_true]at e;rw[Ko,e,Bool.false_and]at this;simpa using this.symm
  have hU: ∀b,(Bp (A5 w.parents) w.parents.length (Dw w (kg ls) a p)).testBit b=true->b=0\/3<=b/\C b=true:=fun b hb=>by
   rcases(hcb b).1 hb with h|⟨d,k1,k2,k3,k4⟩
   .exact hM b h
   .rcases k4 with k4|k4
    .exact .inl k4
    .rcases hM d k3 with e|⟨_,e⟩
     .omega
     .exact .inr ⟨Jn hw.ord d b k1 k4,Tn hw.ord hC d b k1 e k4⟩
  have u0:(Bp (A5 w.parents) w.parents.length (Dw w (kg ls) a p)).testBit 0=true:=(hcb 0).2 (.inl ((hmb 0).2 (.inr (.inl rfl))))
  have u1:(Bp (A5 w.parents) w.parents.length (Dw w (kg ls) a p)).testBit 1=false:=by
   rw[<-Bool.not_eq_true];intro h;rcases hU 1 h with e|⟨e,_⟩<;>omega
  have u2:(Bp (A5 w.parents) w.parents.length (Dw w (kg ls) a p)).testBit 2=false:=by
   rw[<-Bool.not_eq_true];intro h;rcases hU 2 h with e|⟨e,_⟩<;>omega
  refine⟨?_,?_,(Qk hw hl (OK:=FG w) trivial u0 u1 u2 hcan).2 ⟨kid,hkid,fun l k1 k2 q hq=>?_⟩⟩
  .rw[<-Bool.not_eq_true];intro h;rcases hM 1 h with e|⟨e,_⟩<;>omega
  .rw[<-Bool.not_eq_true];intro h;rcases hM 2 h with e|⟨e,_⟩<;>omega
  have hTl:=hT l k1 k2 q hq;cases q with
  | nil =>
    rw[FE]at hq;have hcl:=(hl l k1).cls;have hlf:=hleaf l k1 k2 hq;show DK _ _=_;simp only[DK];cases hb:(Ah l).2
    .rw[hb,Bool.not_false,A0,Cd]at hlf
     have hm:=(hcb _).2 (.inl ((hmb _).2 (.inl ((hmi _).2 ⟨l,k1,⟨k2,hq⟩,hlf.1,hb,rfl⟩))));rw[Cd.2 hlf.1,hm,Cm,Bool.and_true];have:=hlf.2;rw[Ea,A0]at this;rcases this with e|e
     .rw[e];rfl
     .rw[e.1];simp
    .rw [hb,Bool.not_true]at hlf
     rw[Bool.not_true];by_cases ho:(Ah l).1.op=2
     .rw [Cd.2 ho,Cm,Bool.or_eq_false_iff]at hlf
      rw[Cd.2 ho,Cm,hlf.1,Bool.false_or];cases hu:(Bp (A5 w.parents) w.parents.length (Dw w (kg ls) a p)).testBit (Ah l).1.cls.toNat
      .simp
      .rcases hU _ hu with e|⟨e1,e2⟩
       .have hne:=beq_eq_false_iff_ne.1 hlf.1
        have:=hcl ho;omega
       .rw[e2,Bool.and_true]at hlf
        rw[hlf.2,Bool.false_and]
     .rw[beq_eq_false_iff_ne.2 ho];rfl
  | cons s r=>
    have hs:s∈(kg ls a p).AH:=(Jw hl).2 ⟨l,k1,k2,r,hq⟩;have hin:=Ih hw (iR hl hs);rw[Ko]at hTl ⊢;cases hu:(Bp (A5 w.parents) w.parents.length (Dw w (kg ls) a p)).testBit (Bc w s).toNat
    .have hnn:(kg ls a (p++[s])).Ac=false:=by
      rw[<-Bool.not_eq_true];intro hne;rw[(hcb _).2 (.inl ((hmb _).2 (.inr (.inr ⟨s,hs,hne,rfl⟩))))]at hu;cases hu
     rw[KX,Bool.not_eq_false']at hnn;rw[EV.1 hnn l k1 k2 r (by rw[hq];simp)];rfl
    .rcases hU _ hu with e|⟨_,e2⟩
     .omega
     .rw[e2,Cm]at hTl
      rw[Cm];exact hTl
def XY {w:AF} (hw:GP w) {ls:List Fact} (hl: ∀l∈ls,Dl w l) (a:Int): ∀(d:Nat) (p:List Int),p.length+d=2->(SP w (kg ls) a d p=true↔ ∃t,FG w t/\TT w ls a p t):=by
 have key: ∀(p:List Int) (can:Int->Bool),(∀s∈(kg ls a p).AH,(can s=true↔ ∃t,FG w t/\TT w ls a (p++[s]) t))->((F1 (kg ls) a p||(DZ (kg ls) a p||Vf w (kg ls) a p can))=true↔ ∃t,FG w t/\TT w ls a p t):=fun p can hcan=>by
  rw[Ea,Ea,bX hw hl,W5 hw hl,ly hw hl hcan];constructor
  .rintro(⟨m,h1,h2⟩|h|⟨C,kid,h1,h2⟩)
   .exact⟨_,h1,h2⟩
   .exact⟨.JV,trivial,h⟩
   .exact⟨_,h1,h2⟩
  .rintro⟨t,h1,h2⟩
   cases t with
   | int m=>exact .inl ⟨m,h1,h2⟩
   | JV=>exact .inr (.inl h2)
   | obj C kid=>exact .inr (.inr ⟨C,kid,h1,h2⟩)
 intro d
 induction d with
 | zero=>
   intro p hp;rw[SP];refine key p _ fun s hs=>?_
   obtain⟨l,h1,h2,q,hq⟩:=(Jw hl).1 hs;have:=(hl l h1).short;rw[hq]at this;simp at this;omega
 | succ d ih=>
   intro p hp;rw[SP];exact key p _ fun s _=>ih (p++[s]) (by simp;omega)
def Sc (w:AF):GQ->Prop
 | .int n=> -1000000000<=n/\n<=1000000000
 | .JV=>True
 | .obj C kid=>(∃c:Nat,3<=c/\c<3+w.parents.length/\ ∀b,C b=GC w.parents c b)/\ ∀s,Sc w (kid s)
def SL (w:AF) (t:GQ) (c:Nat):Prop:=match t with
 | .int _=>c=1
 | .JV=>c=2
 | .obj C _=>3<=c/\c<3+w.parents.length/\ ∀b,C b=GC w.parents c b
def Yj {w:AF}: ∀t:GQ,Sc w t-> ∃c,SL w t c/\1<=c/\c<3+w.parents.length
 | .int _,_=>⟨1,rfl,by omega,by omega⟩
 | .JV,_=>⟨2,rfl,by omega,by omega⟩
 | .obj C kid,⟨⟨c,h1,h2,h3⟩,_⟩=>⟨c,⟨h1,h2,h3⟩,by omega,h2⟩
def Vv (w:AF) (kf:Int->List Int->Kn) (a:Int) (p:List Int) (can:Int->Bool) (c:Nat):Bool:=
 if c=1 then F1 kf a p else if c=2 then DZ kf a p else SN w kf a p ((A5 w.parents).getD c 0) can
def SQ (w:AF) (kf:Int->List Int->Kn) (a:Int):Nat->(Nat->Bool)->List Int->Bool
 | 0,fit,p=>(List.range (3+w.parents.length)).any fun c=>decide (1<=c)&&(fit c&&Vv w kf a p (fun _=>false) c)
 | d+1,fit,p=>(List.range (3+w.parents.length)).any fun c=>decide (1<=c)&&(fit c&&Vv w kf a p (fun s=>SQ w kf a d (fun _=>true) (p++[s])) c)
def XV {w : AF} (hw:GP w) {ls:List Fact} (hl: ∀l∈ls,Dl w l) {a:Int} {p:List Int} {can:Int->Bool} (hcan: ∀s∈(kg ls a p).AH,(can s=true↔ ∃t,Sc w t/\TT w ls a (p++[s]) t)) {c:Nat} (h1:1<=c) (h2:c<3+w.parents.length) :
    Vv w (kg ls) a p can c=true↔ ∃t,SL w t c/\Sc w t/\TT w ls a p t:=by
 rw[Vv];split
 .rename_i e
  subst e;rw[bX hw hl];constructor
  .rintro⟨m,k1,k2⟩
   exact⟨.int m,rfl,k1,k2⟩
  .rintro⟨t,k0,k1,k2⟩
   cases t with
   | int m=>exact⟨m,k1,k2⟩
   | JV=>cases k0
   | obj C kid=>exact absurd k0.1 (by omega)
 .split
  .rename_i e
   subst e;rw[W5 hw hl];constructor
   .intro k
    exact⟨.JV,rfl,trivial,k⟩
   .rintro⟨t,k0,k1,k2⟩
    cases t with
    | int m=>cases k0
    | JV=>exact k2
    | obj C kid=>exact absurd k0.1 (by omega)
  .rename_i e1 e2
   have hb:=fun b=>MY hw.ord (b:=b) h2
   have h3:3<=c:=by omega
   have u0:((A5 w.parents).getD c 0).testBit 0=true:=by rw[hb];rfl
   have hno: ∀b,b=1\/b=2->((A5 w.parents).getD c 0).testBit b=false:=fun b hbb=>by
    rw[hb,<-Bool.not_eq_true,Ea,Cd];rintro(h|h)
    .omega
    .have:=Jn hw.ord c b h3 h
     omega
   rw[Qk hw hl (OK:=Sc w) trivial u0 (hno 1 (.inl rfl)) (hno 2 (.inr rfl)) hcan]
   have hagree: ∀b,3<=b->((A5 w.parents).getD c 0).testBit b=GC w.parents c b:=fun b hb3=>by
    rw[hb,beq_eq_false_iff_ne.2 (show b≠0 by omega),Bool.false_or]
   constructor
   .rintro⟨kid,k1,k2⟩
    exact⟨.obj (fun b=>GC w.parents c b) kid,⟨h3,h2,fun _=>rfl⟩,⟨⟨c,h3,h2,fun _=>rfl⟩,k1⟩,Pq hw hl hagree k2⟩
   .rintro⟨t,k0,k1,k2⟩
    cases t with
    | int m=>exact absurd k0 (by simp only[SL];omega)
    | JV=>exact absurd k0 (by simp only[SL];omega)
    | obj C kid=>
      exact⟨kid,k1.2,Pq hw hl (fun b hb3=>by rw[hagree b hb3,k0.2.2]) k2⟩
def Mu {w:AF} (hw:GP w) {ls:List Fact} (hl: ∀l∈ls,Dl w l) (a:Int): ∀(d:Nat) (fit:Nat->Bool) (p:List Int),p.length+d=2->(SQ w (kg ls) a d fit p=true↔ ∃t c,SL w t c/\fit c=true/\Sc w t/\TT w ls a p t):=by
 have key: ∀(fit:Nat->Bool) (p:List Int) (can:Int->Bool),(∀s∈(kg ls a p).AH,(can s=true↔ ∃t,Sc w t/\TT w ls a (p++[s]) t))->(((List.range (3+w.parents.length)).any fun c=>decide (1<=c)&&(fit c&&Vv w (kg ls) a p can c))=true↔ ∃t c,SL w t c/\fit c=true/\Sc w t/\TT w ls a p t):=fun fit p can hcan=>by
  rw[Hn];constructor
  .rintro⟨c,h1,h2⟩
   rw[A0,A0,CC]at h2;obtain⟨t,k0,k1,k2⟩:=(XV hw hl hcan h2.1 (List.mem_range.1 h1)).1 h2.2.2;exact⟨t,c,k0,h2.2.1,k1,k2⟩
  .rintro⟨t,c,k0,k1,k2,k3⟩
   have hc:1<=c/\c<3+w.parents.length:=by
    cases t with
    | int m=>have k0:c=1:=k0;omega
    | JV=>have k0:c=2:=k0;omega
    | obj C kid=>have:=k0.1;have:=k0.2.1;omega
   refine⟨c,List.mem_range.2 hc.2,?_⟩;rw[decide_eq_true hc.1,k1,(XV hw hl hcan hc.1 hc.2).2 ⟨t,k0,k2,k3⟩];rfl
 intro d
 induction d with
 | zero=>
   intro fit p hp;rw[SQ];refine key fit p _ fun s hs=>?_
   obtain⟨l,h1,h2,q,hq⟩:=(Jw hl).1 hs;have:=(hl l h1).short;rw[hq]at this;simp at this;omega
 | succ d ih=>
   intro fit p hp;rw[SQ];refine key fit p _ fun s _=>?_
   rw[ih (fun _=>true) (p++[s]) (by simp;omega)];constructor
   .rintro⟨t,c,_,_,k1,k2⟩
    exact⟨t,k1,k2⟩
   .rintro⟨t,k1,k2⟩
    obtain⟨c,k3,_⟩:=Yj t k1;exact⟨t,c,k3,rfl,k1,k2⟩
def Hu (cs:List Int) (a:Int) (c:Nat):Bool:=decide ((cs.length:Int)<=a)||cs.getD a.toNat 0==(c:Int)
def dA (w:AF) (cs:List Int) (ls:List Fact):Bool:=(BD 3).all fun a=>SQ w (kg ls) a 2 (Hu cs a) []
def n9 (w:AF) (ls:List Fact):Bool:=(BD 3).all fun a=>SP w (kg ls) a 2 []
def gm (w:AF) (cs:List Int) (M:Int->GQ):Prop:= ∀a,Sc w (M a)/\(0<=a->a<3-> ∃c,SL w (M a) c/\Hu cs a c=true)
def z7 (w:AF) (M:Int->GQ):Prop:= ∀a,FG w (M a)
def Qe {w:AF} (hw:GP w) {cs:List Int} {ls:List Fact} (hl: ∀l∈ls,Dl w l):dA w cs ls=true↔ ∃M:Int->GQ,gm w cs M/\ ∀l∈ls,FH w M l:=by
 rw[dA,DJ];constructor
 .intro h
  have hk: ∀a:Int,∃t,Sc w t/\(0<=a/\a<3->TT w ls a [] t/\ ∃c,SL w t c/\Hu cs a c=true):=fun a=>by
   rcases Classical.em (0<=a/\a<3)with e|e
   .obtain⟨t,c,k0,k1,k2,k3⟩:=(Mu hw hl a 2 _ [] rfl).1 (h a (CK.2 e))
    exact⟨t,k2,fun _=>⟨k3,c,k0,k1⟩⟩
   .exact⟨.JV,trivial,fun k=>absurd k e⟩
  exact⟨fun a=>Classical.choose (hk a),fun a=>⟨(Classical.choose_spec (hk a)).1,fun h0 h1=>((Classical.choose_spec (hk a)).2 ⟨h0,h1⟩).2⟩,fun l k=>((Classical.choose_spec (hk (Ah l).1.arg)).2 (hl l k).arg).1 l k rfl _ rfl⟩
 .rintro⟨M,h1,h2⟩ a ha
  have ha:=CK.1 ha;obtain⟨c,k0,k1⟩:=(h1 a).2 ha.1 (by omega);refine(Mu hw hl a 2 _ [] rfl).2 ⟨M a,c,k0,k1,(h1 a).1,fun l k1 k2 q hq=>?_⟩;have:=h2 l k1;rw[FH,k2]at this;rw[List.nil_append]at hq;rw[<-hq];exact this
def lH {w:AF} (hw:GP w) {ls:List Fact} (hl: ∀l∈ls,Dl w l):n9 w ls=true↔ ∃M:Int->GQ,z7 w M/\ ∀l∈ls,FH w M l:=by
 show _↔ ∃M:Int->GQ,(∀a,FG w (M a))/\_;rw[n9,DJ,<-MZ hw hl,HR,DJ];constructor
 .intro h a ha
  exact(Jz hw hl a 2 [] rfl).2 ((XY hw hl a 2 [] rfl).1 (h a ha))
 .intro h a ha
  exact(XY hw hl a 2 [] rfl).2 ((Jz hw hl a 2 [] rfl).1 (h a ha))
def stepOf (w:AF) (c:Int) (x:Fact×Bool):Bool:=(x.1.op==2&&G0 w.parents c x.1.cls)==x.2
def zK (w:AF) (ls:List Fact) (a:Int) (p:List Int) (can:Int->Bool) (c:Int):Bool:=
 (ls.filter (Km a p)).all (fun l=> !stepOf w c (Ah l))&&(Cu w.owner.length ls a p).all fun s=>if hasB w c s then can s else E2 ls a (p++[s])
def dN (w:AF) (ls:List Fact) (a:Int):Nat->List Int->Bool
 | 0,p=>((PB ls a p).isSome&&G8 w.owner.length ls a p)||(Jg w.owner.length ls a p||(BD w.parents.length).any fun c=>zK w ls a p (fun _=>false) (3+c))
 | d+1,p=>((PB ls a p).isSome&&G8 w.owner.length ls a p)||(Jg w.owner.length ls a p||(BD w.parents.length).any fun c=>zK w ls a p (fun s=>dN w ls a d (p++[s])) (3+c))
def Uu {w : AF} (hw:GP w) {ls:List Fact} (hl: ∀l∈ls,Dl w l) {a:Int} {p:List Int} {can:Int->Bool} (hcan: ∀s∈Cu w.owner.length ls a p,(can s=true↔ ∃t,Sc w t/\TT w ls a (p++[s]) t)) {c:Int} (h3:3<=c) (hc:c<3+(w.parents.length:Int)) :
    zK w ls a p can c=true↔ ∃kid,(∀s,Sc w (kid s))/\TT w ls a p (.obj (fun b=>GC w.parents c.toNat b) kid):=by
 have hleaf: ∀l∈ls,∀kid,DK (.obj (fun b=>GC w.parents c.toNat b) kid) (Ah l).1=((Ah l).1.op==2&&G0 w.parents c (Ah l).1.cls):=fun l hm kid=>by
  simp only[DK];by_cases ho:(Ah l).1.op=2
  .have hcl:=(hl l hm).cls ho
   rw[Cd.2 ho,Cm,Cm,G0,decide_eq_true h3,Cm];by_cases hz:(Ah l).1.cls=0
   .rw[hz];simp
   rw[beq_eq_false_iff_ne.2 hz,Bool.false_or,Bool.false_or];by_cases h3c:3<=(Ah l).1.cls
   .rw[decide_eq_true h3c,Cm]
    by_cases he:c=(Ah l).1.cls
    .rw[<-he,C9 hw.ord];simp
    .rw[beq_eq_false_iff_ne.2 he,Bool.false_or]
   .rw[decide_eq_false h3c,Bool.false_and,beq_eq_false_iff_ne.2 (show c≠(Ah l).1.cls by omega),Bool.false_or]
    cases hb:GC w.parents c.toNat (Ah l).1.cls.toNat
    .rfl
    .have:=Jn hw.ord _ _ (by omega) hb
     omega
  .rw[beq_eq_false_iff_ne.2 ho];rfl
 have hhas: ∀s,0<=s/\s<(w.owner.length:Int)->hasB w c s=GC w.parents c.toNat (Bc w s).toNat:=fun s hs=>by
  have ho:=Ih hw hs;rw[hasB,G0,decide_eq_true h3,Cm,beq_eq_false_iff_ne.2 (show Bc w s≠0 by omega),Bool.false_or,Cm];by_cases he:c=Bc w s
  .rw[<-he,C9 hw.ord];simp
  .rw[beq_eq_false_iff_ne.2 he,Bool.false_or]
 have hstep: ∀l∈ls,∀kid,(!stepOf w c (Ah l))=true↔DK (.obj (fun b=>GC w.parents c.toNat b) kid) (Ah l).1= !(Ah l).2:=fun l hm kid=>by
  rw[hleaf l hm kid,stepOf];cases((Ah l).1.op==2&&G0 w.parents c (Ah l).1.cls)<;>cases(Ah l).2<;>decide
 rw[zK,A0,DJ,DJ];constructor
 .rintro⟨h1,h2⟩
  have hk: ∀s,∃t,Sc w t/\(s∈Cu w.owner.length ls a p->hasB w c s=true->TT w ls a (p++[s]) t):=fun s=>by
   rcases Classical.em (s∈Cu w.owner.length ls a p/\hasB w c s=true)with⟨e1,e2⟩|e
   .have:=h2 s e1
    rw[if_pos e2]at this;obtain⟨t,q1,q2⟩:=(hcan s e1).1 this;exact⟨t,q1,fun _ _=>q2⟩
   .exact⟨.JV,trivial,fun e1 e2=>absurd ⟨e1,e2⟩ e⟩
  refine⟨fun s=>Classical.choose (hk s),fun s=>(Classical.choose_spec (hk s)).1,fun l k1 k2 q hq=>?_⟩;cases q with
  | nil=>
    rw[FE]at hq;exact(hstep l k1 _).1 (h1 l (JU.2 ⟨k1,EX.2 ⟨k2,hq⟩⟩))
  | cons s r=>
    have hs:s∈Cu w.owner.length ls a p:=(KQ hl).2 ⟨l,k1,k2,r,hq⟩;have hin:=IN hs;rw[Ko,<-hhas s hin];have hsp:=(Classical.choose_spec (hk s)).2;generalize Classical.choose (hk s)=t at hsp ⊢;cases hu:hasB w c s
    .have:=h2 s hs
     rw[hu,if_neg (by decide)]at this;rw[EV.1 this l k1 k2 r (by rw[hq];simp)];rfl
    .rw[Cm]
     exact hsp hs hu l k1 k2 r (by rw[hq];simp)
 .rintro⟨kid,hkid,hT⟩
  refine⟨fun l hm=>?_,fun s hs=>?_⟩
  .obtain⟨k1,k2⟩:=JU.1 hm
   obtain⟨k3,k4⟩:=EX.1 k2;exact(hstep l k1 kid).2 (hT l k1 k3 [] (by rw[k4];simp))
  .have hin:=IN hs
   cases hu:hasB w c s
   .rw[if_neg (by decide)]
    refine EV.2 fun l k1 k2 q hq=>?_
    have:=hT l k1 k2 (s::q) (by rw[hq];simp);rw[Ko,<-hhas s hin,hu,Bool.false_and]at this;simpa using this.symm
   .rw[if_pos rfl]
    refine(hcan s hs).2 ⟨kid s,hkid s,fun l k1 k2 q hq=>?_⟩;have:=hT l k1 k2 (s::q) (by rw[hq];simp)
    rwa [Ko,<-hhas s hin,hu,Cm]at this
def XZ {w:AF} (hw:GP w) {ls:List Fact} (hl: ∀l∈ls,Dl w l) (a:Int): ∀(d:Nat) (p:List Int),p.length+d=2->(dN w ls a d p=true↔ ∃t,Sc w t/\TT w ls a p t):=by
 have key: ∀(p:List Int) (can:Int->Bool),(∀s∈Cu w.owner.length ls a p,(can s=true↔ ∃t,Sc w t/\TT w ls a (p++[s]) t))->((((PB ls a p).isSome&&G8 w.owner.length ls a p)||(Jg w.owner.length ls a p||(BD w.parents.length).any fun c=>zK w ls a p can (3+c)))=true↔ ∃t,Sc w t/\TT w ls a p t):=fun p can hcan=>by
  rw[Ea,Ea,Mo hl,KU hl,Hn];constructor
  .rintro(⟨m,h1,h2⟩|h|⟨c,h1,h2⟩)
   .exact⟨.int m,h1,h2⟩
   .exact⟨.JV,trivial,h⟩
   .have:=CK.1 h1
    obtain⟨kid,k1,k2⟩:=(Uu hw hl hcan (by omega) (by omega)).1 h2;exact⟨.obj (fun b=>GC w.parents (3+c).toNat b) kid,⟨⟨(3+c).toNat,by omega,by omega,fun _=>rfl⟩,k1⟩,k2⟩
  .rintro⟨t,h1,h2⟩
   cases t with
   | int m=>exact .inl ⟨m,h1,h2⟩
   | JV=>exact .inr (.inl h2)
   | obj C kid=>
     obtain⟨⟨c,k1,k2,k3⟩,k4⟩:=h1;refine .inr (.inr ⟨(c:Int) - 3,CK.2 (by omega),(Uu hw hl hcan (by omega) (by omega)).2 ⟨kid,k4,?_⟩⟩);rw[show(3+((c:Int) - 3)).toNat=c by omega];exact Pq hw hl (fun b _=>k3 b) h2
 intro d
 induction d with
 | zero=>
   intro p hp;rw[dN];refine key p _ fun s hs=>?_
   rw[N2 (m:=2) (fun l h=>(hl l h).short) (by omega)]at hs;cases hs
 | succ d ih=>
   intro p hp;rw[dN];exact key p _ fun s _=>ih (p++[s]) (by simp;omega)
def sx (w:AF) (ls:List Fact) (cs:List Int) (a:Int):Bool:=
 if(cs.length:Int)<=a\/cs.getD a.toNat 0=0 then dN w ls a 2 []else if cs.getD a.toNat 0=1 then(PB ls a []).isSome&&G8 w.owner.length ls a []else if cs.getD a.toNat 0=2 then Jg w.owner.length ls a []else zK w ls a [] (fun s=>dN w ls a 1 [s]) (cs.getD a.toNat 0)
def T7 (w:AF) (cs:List Int) (ls:List Fact):Bool:=(BD 3).all (sx w ls cs)
def Wk {w : AF} (hw:GP w) {ls:List Fact} (hl: ∀l∈ls,Dl w l) {cs:List Int} (hcs: ∀c∈cs,1<=c/\c<3+(w.parents.length:Int)) {a:Int} (h0:0<=a):sx w ls cs a=true↔ ∃t c,SL w t c/\Hu cs a c=true/\Sc w t/\TT w ls a [] t:=by
 rw[sx];by_cases hle:(cs.length:Int)<=a
 .rw[if_pos (.inl hle),XZ hw hl a 2 [] rfl]
  have hf: ∀c,Hu cs a c=true:=fun c=>by rw[Hu,decide_eq_true hle];rfl
  constructor
  .rintro⟨t,k1,k2⟩
   obtain⟨c,k3,_⟩:=Yj t k1;exact⟨t,c,k3,hf c,k1,k2⟩
  .rintro⟨t,c,_,_,k1,k2⟩
   exact⟨t,k1,k2⟩
 .obtain ⟨x,hx⟩: ∃x,cs[a.toNat]? =some x:=⟨_,DC (by omega)⟩
  have hxd:cs.getD a.toNat 0=x:=by rw[C6,hx];rfl
  have hxc:=hcs x (CY hx);have hf: ∀c:Nat,Hu cs a c=true↔x=(c:Int):=fun c=>by rw[Hu,decide_eq_false hle,Bool.false_or,hxd,Cd]
  rw[hxd,if_neg (by omega)];by_cases h1:x=1
  .rw[if_pos h1,Mo hl]
   constructor
   .rintro⟨m,k1,k2⟩
    exact⟨.int m,1,rfl,(hf 1).2 h1,k1,k2⟩
   .rintro⟨t,c,k0,k1,k2,k3⟩
    have:=(hf c).1 k1;cases t with
    | int m=>exact⟨m,k2,k3⟩
    | JV=>have k0:c=2:=k0;omega
    | obj C kid=>have:=k0.1;omega
  .rw [if_neg h1]
   by_cases h2:x=2
   .rw[if_pos h2,KU hl]
    constructor
    .intro k
     exact⟨.JV,2,rfl,(hf 2).2 h2,trivial,k⟩
    .rintro⟨t,c,k0,k1,k2,k3⟩
     have:=(hf c).1 k1;cases t with
     | int m=>have k0:c=1:=k0;omega
     | JV=>exact k3
     | obj C kid=>have:=k0.1;omega
   .rw [if_neg h2,Uu hw hl (fun s _=>XZ hw hl a 1 [s] rfl) (by omega) (by omega)]
    constructor
    .rintro⟨kid,k1,k2⟩
     exact⟨.obj (fun b=>GC w.parents x.toNat b) kid,x.toNat,⟨by omega,by omega,fun _=>rfl⟩,(hf _).2 (by omega),⟨⟨x.toNat,by omega,by omega,fun _=>rfl⟩,k1⟩,k2⟩
    .rintro⟨t,c,k0,k1,k2,k3⟩
     have:=(hf c).1 k1;cases t with
     | int m=>have k0:c=1:=k0;omega
     | JV=>have k0:c=2:=k0;omega
     | obj C kid=>
       refine⟨kid,k2.2,Pq hw hl (fun b _=>?_) k3⟩;rw[k0.2.2,show x.toNat=c by omega]
def td {w:AF} (hw:GP w) {cs:List Int} (hcs: ∀c∈cs,1<=c/\c<3+(w.parents.length:Int)) {ls:List Fact} (hl: ∀l∈ls,Dl w l):dA w cs ls=T7 w cs ls:=by
 rw[dA,T7,G3,DJ,DJ];constructor
 .intro h a ha
  exact(Wk hw hl hcs (CK.1 ha).1).2 ((Mu hw hl a 2 _ [] rfl).1 (h a ha))
 .intro h a ha
  exact(Mu hw hl a 2 _ [] rfl).2 ((Wk hw hl hcs (CK.1 ha).1).1 (h a ha))
end Go.Gl
namespace Go.Gl
open Go.Proofs
attribute [local irreducible] Ar Aj AZ AQ AL AX AP AR AJ AW AM AN Am Av Sat AT As Aa W
def lY {n k:Nat} (h:k<n):(BD n)[k]? =some (k:Int):=by
 rw[BD,OR,List.getElem?_range h];rfl
end Go.Gl
namespace Go.Gl
open Go.Proofs
def V9 (A B:List (List Fact)):List (List Fact):=A.flatMap fun x=>B.map fun y=>x++y
def QE (f:Fact) (l:List (Bool->List (List Fact))) (c:Bool):List (List Fact):=
 if f.op=1 then(if c then []else [[]])else
 if f.op=5 then(l.getD 0 (fun _=>[])) (!c)else
 if f.op=6\/f.op=7 then(if c != (f.op==7)then l.getD 0 (fun _=>[]) c++l.getD 1 (fun _=>[]) c else V9 (l.getD 0 (fun _=>[]) c) (l.getD 1 (fun _=>[]) c))else
 if c then [[Ez f]]else [[f]]
def CT (f:Fact):Bool->List (List Fact):=f.HU QE
def Kf (f:Fact) (c:Bool):CT f c=QE f (f.kids.map CT) c:=congrFun (Fact.DT QE f) c
def FU {A B:List (List Fact)} {l:List Fact}:l∈V9 A B↔ ∃x∈A,∃y∈B,l=x++y:=by
 simp only[V9,List.mem_flatMap,Hp];constructor
 .rintro⟨x,hx,y,hy,rfl⟩
  exact⟨x,hx,y,hy,rfl⟩
 .rintro⟨x,hx,y,hy,rfl⟩
  exact⟨x,hx,y,hy,rfl⟩
def O2 {w:AF} (f:Fact):BN w f=true-> ∀c,∀l∈CT f c,∀x∈l,DY w x:=by
 induction f using Fact.ind with
 | h f ih=>
   intro h c;have har:=B7 f h;have h':=h;rw[By,A0,DJ]at h';rw[Kf,QE];by_cases h1:f.op=1
   .rw[if_pos h1]
    cases c
    .rw[if_neg (by decide)]
     intro l hl x hx;simp at hl;subst hl;cases hx
    .rw[if_pos rfl]
     intro l hl;cases hl
   rw[if_neg h1];by_cases h5:f.op=5
   .obtain⟨a,ha,hb⟩:=Fi har h5
    rw[if_pos h5,ha];exact ih a (by rw[ha];exact .head _) (h'.2 a (by rw[ha];exact .head _)) (!c)
   rw[if_neg h5];by_cases h6:f.op=6\/f.op=7
   .obtain⟨a,b,ha,hb1,hb2⟩:=Fh har h6
    rw[if_pos h6,ha];have i1:=ih a (by rw[ha];exact .head _) (h'.2 a (by rw[ha];exact .head _)) c;have j1:=ih b (by rw[ha];exact .tail _ (.head _)) (h'.2 b (by rw[ha];exact .tail _ (.head _))) c;simp only[EW,List.map_nil,List.getD_cons_zero,List.getD_cons_succ];split
    .intro l hl
     rcases D9.1 hl with hl|hl
     .exact i1 l hl
     .exact j1 l hl
    .intro l hl x hx
     obtain⟨y,hy,z,hz,rfl⟩:=FU.1 hl;rcases D9.1 hx with h|h
     .exact i1 y hy x h
     .exact j1 z hz x h
   .have hr:=D7 f h c
    rw[FW,Hf,if_neg h1,if_neg h5,if_neg h6]at hr;rw[if_neg h6];exact hr
def Rx (f:Fact):arity f=true-> ∀c,∀l∈CT f c,l.length<=lv f:=by
 induction f using Fact.ind with
 | h f ih=>
   intro h c;rw[Kf,Kt,QE,ct];by_cases h1:f.op=1
   .have e5: ¬f.op=5:=by omega
    have e6: ¬(f.op=6\/f.op=7):=by omega
    rw[if_pos h1,if_neg e5,if_neg e6];cases c
    .rw[if_neg (by decide)]
     exact fun l hl=>by simp at hl;subst hl;simp
    .rw[if_pos rfl]
     exact fun l hl=>by cases hl
   rw[if_neg h1];by_cases h5:f.op=5
   .obtain⟨a,ha,hb⟩:=Fi h h5
    rw[if_pos h5,if_pos h5,ha];exact ih a (by rw[ha];exact .head _) hb (!c)
   rw[if_neg h5,if_neg h5];by_cases h6:f.op=6\/f.op=7
   .obtain⟨a,b,ha,hb1,hb2⟩:=Fh h h6
    rw[if_pos h6,if_pos h6,ha];simp only[EW,List.map_nil,List.getD_cons_zero,List.getD_cons_succ];have i2:=ih a (by rw[ha];exact .head _) hb1 c;have j2:=ih b (by rw[ha];exact .tail _ (.head _)) hb2 c;split
    .intro l hl
     rcases D9.1 hl with hl|hl
     .have:=i2 l hl;omega
     .have:=j2 l hl;omega
    .intro l hl
     obtain⟨x,hx,y,hy,rfl⟩:=FU.1 hl;have:=i2 x hx;have:=j2 y hy;rw[SB];omega
   .rw[if_neg h6,if_neg h6]
    cases c
    .exact fun l hl=>by simp at hl;subst hl;simp
    .exact fun l hl=>by simp at hl;subst hl;simp
def Ry {w : AF} {M:Int->GQ} (f:Fact):BN w f=true-> ∀c,(∃l∈CT f c,∀x∈l,FH w M x)↔Sd w M f= !c:=by
 induction f using Fact.ind with
 | h f ih=>
   intro h c;have har:=B7 f h;have h':=h;rw[By,A0,DJ]at h';have hF:=Et (M:=M) f h c;rw[FW,Hf]at hF;rw[Kf,QE];by_cases h1:f.op=1
   .rw[if_pos h1]at hF ⊢
    exact hF
   rw[if_neg h1]at hF ⊢;by_cases h5:f.op=5
   .obtain⟨a,ha,hb⟩:=Fi har h5
    have i1:=ih a (by rw[ha];exact .head _) (h'.2 a (by rw[ha];exact .head _)) (!c);have k1:=Et (M:=M) a (h'.2 a (by rw[ha];exact .head _)) (!c);rw[if_pos h5,ha]at hF ⊢;exact(i1.trans k1.symm).trans hF
   rw[if_neg h5]at hF ⊢;by_cases h6:f.op=6\/f.op=7
   .obtain⟨a,b,ha,hb1,hb2⟩:=Fh har h6
    have hna:=h'.2 a (by rw[ha];exact .head _);have hnb:=h'.2 b (by rw[ha];exact .tail _ (.head _));have i1:=(ih a (by rw[ha];exact .head _) hna c).trans (Et (M:=M) a hna c).symm;have j1:=(ih b (by rw[ha];exact .tail _ (.head _)) hnb c).trans (Et (M:=M) b hnb c).symm;rw[if_pos h6,ha]at hF ⊢;simp only[EW,List.map_nil,List.getD_cons_zero,List.getD_cons_succ]at hF ⊢;refine Iff.trans ?_ hF;split
    .constructor
     .rintro⟨l,hl,hx⟩
      rcases D9.1 hl with hl|hl
      .obtain⟨m,h1,h2⟩:=i1.1 ⟨l,hl,hx⟩
       exact⟨m,O5 _ h1,h2⟩
      .obtain⟨m,h1,h2⟩:=j1.1 ⟨l,hl,hx⟩
       exact⟨m,OQ _ h1,h2⟩
     .rintro⟨l,hl,hx⟩
      rcases D9.1 hl with hl|hl
      .obtain⟨m,h1,h2⟩:=i1.2 ⟨l,hl,hx⟩
       exact⟨m,O5 _ h1,h2⟩
      .obtain⟨m,h1,h2⟩:=j1.2 ⟨l,hl,hx⟩
       exact⟨m,OQ _ h1,h2⟩
    .constructor
     .rintro⟨l,hl,hx⟩
      obtain⟨y,hy,z,hz,rfl⟩:=FU.1 hl;obtain⟨m,h1,h2⟩:=i1.1 ⟨y,hy,fun x h=>hx x (O5 _ h)⟩;obtain⟨n,h3,h4⟩:=j1.1 ⟨z,hz,fun x h=>hx x (OQ _ h)⟩;refine⟨C1 m n,?_,(Mn m _ n).2 ⟨h2,h4⟩⟩;simp only[Fo,List.mem_flatMap,Hp];exact⟨m,h1,n,h3,rfl⟩
     .rintro⟨l,hl,hx⟩
      simp only[Fo,List.mem_flatMap,Hp]at hl;obtain⟨y,hy,z,hz,rfl⟩:=hl;rw[Mn]at hx;obtain⟨m,h1,h2⟩:=i1.2 ⟨y,hy,hx.1⟩;obtain⟨n,h3,h4⟩:=j1.2 ⟨z,hz,hx.2⟩;refine⟨m++n,FU.2 ⟨m,h1,n,h3,rfl⟩,fun x hx=>?_⟩;rcases D9.1 hx with h|h
      .exact h2 x h
      .exact h4 x h
   .rw[if_neg h6]at hF ⊢
    exact hF
def O9 (tog:List Fact->Bool):List (List (List Fact))->List Fact->Bool
 | [],l=>tog l
 | cs::r,l=>tog l&&cs.any fun c=>O9 tog r (l++c)
def Qg {w:AF} {tog:List Fact->Bool} {OK:(Int->GQ)->Prop} (htog: ∀l,(∀x∈l,DY w x)->(tog l=true↔ ∃M,OK M/\ ∀x∈l,FH w M x)): ∀(css:List (List (List Fact))) (l:List Fact),(∀x∈l,DY w x)->(∀cs∈css,∀c∈cs,∀x∈c,DY w x)->
    (O9 tog css l=true↔ ∃M,OK M/\(∀x∈l,FH w M x)/\ ∀cs∈css,∃c∈cs,∀x∈c,FH w M x)
 | [],l,hl,_=>by
   rw[O9,htog l hl];constructor
   .rintro⟨M,h1,h2⟩
    exact⟨M,h1,h2,fun _ h=>by cases h⟩
   .rintro⟨M,h1,h2,_⟩
    exact⟨M,h1,h2⟩
 | cs::r,l,hl,hcs=>by
   have ih:=fun c (hc:c∈cs)=>Qg htog r (l++c) (fun x hx=>(D9.1 hx).elim (hl x) (hcs cs (.head _) c hc x)) (fun d hd=>hcs d (.tail _ hd))
   rw[O9,A0,Hn];constructor
   .rintro⟨_,c,hc,h⟩
    obtain⟨M,h1,h2,h3⟩:=(ih c hc).1 h;refine⟨M,h1,fun x hx=>h2 x (O5 _ hx),fun d hd=>?_⟩;rcases Fl.1 hd with rfl|hd
    .exact⟨c,hc,fun x hx=>h2 x (OQ _ hx)⟩
    .exact h3 d hd
   .rintro⟨M,h1,h2,h3⟩
    obtain⟨c,hc,h4⟩:=h3 cs (.head _);refine⟨(htog l hl).2 ⟨M,h1,h2⟩,c,hc,(ih c hc).2 ⟨M,h1,fun x hx=>(D9.1 hx).elim (h2 x) (h4 x),fun d hd=>h3 d (.tail _ hd)⟩⟩
def tT (fs:List (Fact×Bool)):List (List (List Fact)):=fs.map fun x=>Be x.1 (!x.2)
def dL (fs:List (Fact×Bool)):List (List (List Fact)):=fs.map fun x=>CT x.1 (!x.2)
def lO {w:AF} {tog:List Fact->Bool} {OK:(Int->GQ)->Prop} (htog: ∀l,(∀x∈l,DY w x)->(tog l=true↔ ∃M,OK M/\ ∀x∈l,FH w M x)) {fs:List (Fact×Bool)} (hn: ∀x∈fs,BN w x.1=true) :
    O9 tog (tT fs) []=true↔ ∃M,OK M/\ ∀x∈fs,Sd w M x.1=x.2:=by
 rw[Qg htog (tT fs) [] (fun _ h=>by cases h) (fun cs hcs=>by
  obtain⟨x,hx,rfl⟩:=Hp.1 hcs
  exact D7 x.1 (hn x hx) _)]
 constructor
 .rintro⟨M,h1,_,h3⟩
  exact⟨M,h1,fun x hx=>by simpa using(Et x.1 (hn x hx) (!x.2)).1 (h3 _ (Hp.2 ⟨x,hx,rfl⟩))⟩
 .rintro⟨M,h1,h2⟩
  refine⟨M,h1,(fun _ h=>by cases h),fun cs hcs=>?_⟩;obtain⟨x,hx,rfl⟩:=Hp.1 hcs;exact(Et x.1 (hn x hx) (!x.2)).2 (by simpa using h2 x hx)
def lN {w:AF} {tog:List Fact->Bool} {OK:(Int->GQ)->Prop} (htog: ∀l,(∀x∈l,DY w x)->(tog l=true↔ ∃M,OK M/\ ∀x∈l,FH w M x)) {fs:List (Fact×Bool)} (hn: ∀x∈fs,BN w x.1=true) :
    O9 tog (dL fs) []=true↔ ∃M,OK M/\ ∀x∈fs,Sd w M x.1=x.2:=by
 rw[Qg htog (dL fs) [] (fun _ h=>by cases h) (fun cs hcs=>by
  obtain⟨x,hx,rfl⟩:=Hp.1 hcs
  exact O2 x.1 (hn x hx) _)]
 constructor
 .rintro⟨M,h1,_,h3⟩
  exact⟨M,h1,fun x hx=>by simpa using(Ry x.1 (hn x hx) (!x.2)).1 (h3 _ (Hp.2 ⟨x,hx,rfl⟩))⟩
 .rintro⟨M,h1,h2⟩
  refine⟨M,h1,(fun _ h=>by cases h),fun cs hcs=>?_⟩;obtain⟨x,hx,rfl⟩:=Hp.1 hcs;exact(Ry x.1 (hn x hx) (!x.2)).2 (by simpa using h2 x hx)
def JR (E:List Bool->Bool):Nat->List Bool->List (List Bool)
 | 0,pre=>if E pre then [pre]else []
 | k+1,pre=>if E pre then JR E k (pre++[false])++JR E k (pre++[true])else []
def Lf {E E':List Bool->Bool} (h: ∀l,E l=E' l): ∀(k:Nat) (pre:List Bool),JR E k pre=JR E' k pre
 | 0,pre=>by rw[JR,JR,h]
 | k+1,pre=>by rw[JR,JR,h,Lf h k,Lf h k]
def XJ {E:List Bool->Bool} (hE: ∀a b,E (a++b)=true->E a=true): ∀(k:Nat) (pre l:List Bool),l.length=k->E (pre++l)=true->pre++l∈JR E k pre
 | 0,pre,l,hl,h=>by
   obtain rfl:=YM.1 hl;rw[FE]at h ⊢;rw[JR,if_pos h];exact .head _
 | k+1,pre,[],hl,_=>by cases hl
 | k+1,pre,b::l,hl,h=>by
   rw[JR,if_pos (hE _ _ h)];have e:pre++b::l=pre++[b]++l:=by simp
   rw[e]at h ⊢;have:=XJ hE k (pre++[b]) l (by simpa using hl) h;cases b
   .exact O5 _ this
   .exact OQ _ this
def Yc (tog:List Fact->Bool) (fs:List Fact) (bs:List Bool):Bool:=O9 tog (tT (fs.zip bs)) []
def GA (tog:List Fact->Bool) (fs:List Fact) (bs:List Bool):Bool:=O9 tog (dL (fs.zip bs)) []
def Mv {w:AF} {tog:List Fact->Bool} {OK:(Int->GQ)->Prop} (htog: ∀l,(∀x∈l,DY w x)->(tog l=true↔ ∃M,OK M/\ ∀x∈l,FH w M x)) {fs:List Fact} (hn: ∀f∈fs,BN w f=true) (bs:List Bool) :
    Yc tog fs bs=true↔ ∃M,OK M/\ ∀x∈fs.zip bs,Sd w M x.1=x.2:=lO htog fun x hx=>hn x.1 (List.of_mem_zip hx).1
def fm {w:AF} {tog:List Fact->Bool} {OK:(Int->GQ)->Prop} (htog: ∀l,(∀x∈l,DY w x)->(tog l=true↔ ∃M,OK M/\ ∀x∈l,FH w M x)) {fs:List Fact} (hn: ∀f∈fs,BN w f=true) (bs:List Bool) :
    GA tog fs bs=true↔ ∃M,OK M/\ ∀x∈fs.zip bs,Sd w M x.1=x.2:=lN htog fun x hx=>hn x.1 (List.of_mem_zip hx).1
def oQ {fs:List Fact} {a b:List Bool} {x:Fact×Bool} (h:x∈fs.zip a):x∈fs.zip (a++b):=by
 induction fs generalizing a with
 | nil=>cases h
 | cons f r ih=>
   cases a with
   | nil=>cases h
   | cons c a=>
     rw[List.zip_cons_cons]at h;rw[List.cons_append,List.zip_cons_cons];rcases Fl.1 h with rfl|h
     .exact .head _
     .exact .tail _ (ih h)
def m7 {w:AF} {tog:List Fact->Bool} {OK:(Int->GQ)->Prop} (htog: ∀l,(∀x∈l,DY w x)->(tog l=true↔ ∃M,OK M/\ ∀x∈l,FH w M x)) {fs:List Fact} (hn: ∀f∈fs,BN w f=true) (a b:List Bool) (h:Yc tog fs (a++b)=true):Yc tog fs a=true:=by
 obtain⟨M,h1,h2⟩:=(Mv htog hn _).1 h;exact(Mv htog hn _).2 ⟨M,h1,fun x hx=>h2 x (oQ hx)⟩
def Rn {p:Prog} (hok:E3 p) {i j k:Int} (hi:Bb p i=true) (hj:Bb p j=true) (hk:Bb p k=true) (h1:Kk p i j=true) (h2:Kk p j k=true):Kk p i k=true:=
 imp_trans hok.nY (hok.facts _ (CY (CX hi))).1 (hok.facts _ (CY (CX hj))).1 (hok.facts _ (CY (CX hk))).1 h1 h2
def Z6 {p:Prog} {i j:Int}:Au p i j=true↔Kk p i j=true/\Kk p j i=false:=by
 rw[Au,A0,Bool.not_eq_true']
def R4 {p:Prog} (i:Int):Au p i i=false:=by
 rw[Au];cases Kk p i i<;>rfl
def VT {p:Prog} (hok:E3 p) {i j k:Int} (hi:Bb p i=true) (hj:Bb p j=true) (hk:Bb p k=true) (h1:Au p i j=true) (h2:Au p j k=true):Au p i k=true:=by
 rw[Z6]at *;refine⟨Rn hok hi hj hk h1.1 h2.1,?_⟩;rw[<-Bool.not_eq_true];intro e;have:=Rn hok hk hi hj e h1.1;rw[h2.2]at this;cases this
end Go.Gl
namespace Go.Gl
open Go.Proofs
attribute [local irreducible] Ar Aj AZ AQ AL AX AP AR AJ AW AM AN Am Av Sat AT As Aa W
def XQ (g:FuncId) (fi ca:List V) (q:Int->Bool) (xs:List Int) (hpf: ∀y∈xs,Pure zP g (fi++[eI y]++ca) (.b (q y))) (f:Bool) (hxl:xs.length<=1000):Pure zP 170 [.l (iL xs) f,.f (.func g) fi ca] (.l (iL (xs.filter q)) true):=by
 refine Pure.of ?_;have hM:=Mx;refine yI kZ ?_;have hs:=Sn;refine zz ?_;(repeat clear U K);repeat intro K U
 refine CZ xs.length (fun k v=>[(5,v),(10,eI (BL k))]) (fun k v=>[.own v 1 (iL ((xs.take k).filter q))]) (fun _ _=>True) (.l [] true) rfl trivial (Gy hs 1) ?_;clear hs;rintro k v Z hk - hs;have hfl:=Pr q (xs.take k);rw[Lq]at hfl;rcases BF xs hk with⟨y,hy,hlt⟩|hke
 .have hpy:=hpf y (CY hy)
  have hst:(xs.take (k+1)).filter q=if q y then(xs.take k).filter q++[y]else(xs.take k).filter q:=by
   rw[AU hy,List.filter_append];cases hp:q y<;>simp[hp]
  generalize (xs.take k).filter q=zl at *;have hll:zl.length<Ae/\(zl.length+1)*8<=140737488355328:=by omega
  conv=>whnf
  repeat'((first|clear U K|apply st|(apply zk;intro K U)|refine zY ?_|refine aq fun v Z hs hsl=>?_|refine BA (hpy.use ?_)|refine za (fun hc=>?_) fun hc=>?_|fail)<;>conv=>whnf)
  .rw[if_pos (by assumption)]at hst
   exact⟨hlt,_,rfl,trivial,by rw[hst];exact hs⟩
  .rw[if_neg (by simp[*])]at hst
   exact⟨hlt,_,rfl,trivial,by rw[hst];exact hs⟩
 .rw[BC hke]at hs
  refine zz ?_;(repeat clear U K);repeat intro K U
  refine(QX (xs.filter q) v (by have:=Pr q xs;omega)).use (rest:=[]) (by simpa using hs) ?_;clear hs;rintro r post Z ⟨rfl,rfl⟩ hs;refine zz ?_;(repeat clear U K);repeat intro K U
  exact AI (by rfl)
def AAk (x y:Int):Pure zP 311 [eI y,.rp [eI x]] (.b (y != x)):=by
 refine wG kZ ?_;have hs:=Sn;refine zz ?_;(repeat clear U K);repeat intro K U
 all_goals exact AG (by rfl)
def Nx (xs:List Int) (f:Bool) (x:Int) (hxl:xs.length<=1000):Pure zP 259 [.l (iL xs) f,eI x] (.l (iL (xs.filter (· != x))) true):=by
 have c1:=XQ 311 [] [.rp [eI x]] (· != x) xs (fun y _=>AAk x y) f hxl;refine xB kZ ?_;have hs:=Sn
 conv=>whnf
 repeat'((first|clear U K|apply st|(apply zk;intro K U)|refine zC ?_|fail)<;>conv=>whnf)
 all_goals exact AG (by rfl)
def pd (l:List Int) (f kd:Bool):Pure zP 201 [.pn,.l (iL l) f,.b kd] (.b false):=by
 have c1:=uq l f;refine Yy kZ ?_;have hs:=Sn;exact zW
def lZ {M:List Int} {x:Int} (h:M.contains x=false):Py M x=M++[x]:=by
 rw[Py,if_neg (by rw[h];decide)]
def ua (p : Prog) (L:Nat) (l:List Int) (f kd:Bool) (hl:l.length<=1000):Pure zP 201 [Ls p L,.l (iL l) f,.b kd] (.b (F8 p l kd)):=by
 refine Pure.fit (by kernel_rfl) fun hf=>?_
 have hM:=Mx;have c1:=AAx p L l f;cases hm:l.all (Bb p)<;>rw[hm]at c1
 .have hb:F8 p l kd=false:=by
   rw[<-Bool.not_eq_true];intro h;rw[F8,A0,DJ]at h;rw[<-Bool.not_eq_true,DJ]at hm;refine hm fun x hx=>?_
   have:=h.1 x hx;simp only[nj,A0]at this;exact this.1
  refine Yy kZ ?_;have hs:=Sn
  conv=>whnf
  repeat'((first|clear U K|apply st|(apply zk;intro K U)|refine zY ?_|refine zC ?_|fail)<;>conv=>whnf)
  all_goals exact AG (by rw[hb])
 rw[DJ]at hm;refine Yy kZ ?_;have hs:=Sn
 conv=>whnf
 repeat'((first|clear U K|apply st|(apply zk;intro K U)|refine zY ?_|refine zC ?_|refine zo fun nn hnn Z hs=>?_|fail)<;>conv=>whnf)
 clear c1;replace hs:Sat Z [.map nn (T3 [])]:=hs;refine CZ l.length (fun i (_:Unit)=>[(17,eI (BL i))]) (fun i _=>[.map nn (T3 (l.take i))]) (fun i _=>(∀k y,k<i->l[k]? =some y->nj p l kd y=true)/\(l.take i).Nodup) () rfl ⟨fun k y h=>by omega,by simp⟩ hs ?_;clear hs;rintro i - Z hi ⟨ho,hn⟩ hs;rcases BF l hi with⟨x,hx,hlt⟩|hie
 .have hci : BL i=i:=Ag (by omega)
  obtain⟨z,hz⟩: ∃z,l[0]? =some z:=⟨_,DC (by omega)⟩
  have hz0:=EZ hz;have hmx:=hm x (CY hx);have hmz:=hm z (CY hz);have hbad:=fun h=>eS (p:=p) (kd:=kd) hx h
  rw[nj,hz0]at hbad;have hxP:=CX hmx;have hzP:=CX hmz;have c2:=rV p L x z hmx hmz;have hxr:=hmx;have hzr:=hmz;simp only[Bb,A0,CC]at hxr hzr;cases hcon:(l.take i).contains x
  .have hne : ∀k y,k<i->l[k]? =some y->y≠x:=fun k y h h2 e=>by
    rw[<-Bool.not_eq_true,List.contains_iff_mem]at hcon;exact hcon (CY (i:=k) (by rw[List.getElem?_take,if_pos h,h2,e]))
   have hnd:=ZV hx hn hne;have hput:=lZ hcon;rw[<-AU hx]at hput;by_cases hg:(BO p x).gen=(BO p z).gen
   .have hoxF:(!kd||LO p x z)=true->nj p l kd x=true:=fun h=>by rw[nj,hz0,hmx,hg,h];simp
    cases hal:LO p x z<;>rw[hal]at c2 hoxF<;>cases kd
    all_goals
     conv=>whnf
     repeat'((first|clear U K|apply st|(apply zk;intro K U)|refine zY ?_|refine c2.use ?_|(refine KB hs 0 rfl rfl (IG _) ?_;rw[Mm,hcon])|(refine Io hs 0 rfl rfl (IG _) fun Z hs=>?_)|(refine zb (fun hc=>?_) (fun hc=>?_)<;>try exact⟨⟩)|fail)<;>conv=>whnf)
    all_goals first
     | exact AG (by rw[hbad (by simp[hal,hg])])
     | (exfalso;simp[hg]at hc;done)
     | (have hox:=hoxF rfl
        refine⟨hlt,(),rfl,⟨fun k' y' h h2=>?_,hnd⟩,?_⟩
        .rcases Nat.lt_or_ge k' i with h'|h'
         .exact ho k' y' h' h2
         .rw[show k'=i by omega,hx]at h2
          rw[<-Option.some.inj h2];exact hox
        .replace hs:Sat Z [.map nn (Da (eI x) (.b true) (T3 (l.take i)))]:=hs
         rw[bU,hput]at hs
         exact hs)
   .conv=>whnf
    repeat'((first|clear U K|apply st|(apply zk;intro K U)|refine zY ?_|(refine KB hs 0 rfl rfl (IG _) ?_;rw[Mm,hcon])|(refine zb (fun hc=>?_) (fun hc=>?_)<;>try exact⟨⟩)|fail)<;>conv=>whnf)
    all_goals first
     | exact AG (by rw[hbad (by simp[hg])])
     | (exfalso;have q:(BO p x).gen=(BO p z).gen:=(by assumption);exact hg q)
     | (exfalso;simp[hg]at hc;done)
  .obtain⟨k,hk⟩:=List.getElem?_of_mem (List.contains_iff_mem.1 hcon)
   rw[List.getElem?_take]at hk;split at hk
   .conv=>whnf
    repeat'((first|clear U K|apply st|(apply zk;intro K U)|refine zY ?_|(refine KB hs 0 rfl rfl (IG _) ?_;rw[Mm,hcon])|fail)<;>conv=>whnf)
    all_goals exact AG (by rw[eR hx hk (by assumption)])
   .cases hk
 .refine zz ?_;(repeat clear U K);repeat intro K U
  have hall:F8 p l kd=true:=by
   rw[F8,A0,DJ];refine⟨fun y hy=>?_,decide_eq_true (by rw[hie,List.take_length]at hn;exact hn)⟩;obtain⟨k,hk⟩:=List.getElem?_of_mem hy;exact ho k y (by rw[hie];exact(JT.1 hk).1) hk
  exact AG (by rw[hall])
end Go.Gl
