import Derived.Test.YtcfkfhaedllcpaaGreatW14
import Derived.Test.YtcfkfhaedllcpaaGreatW21
import Derived.Test.YtcfkfhaedllcpaaGreatW23
import Derived.Test.YtcfkfhaedllcpaaGreatW27
import Derived.Test.YtcfkfhaedllcpaaGreatW30
set_option linter.all false
set_option linter.defProp false
set_option maxHeartbeats 8000000
noncomputable section
namespace Go.Gl
open Go.Proofs
inductive W5 where
 | int (n:Int)
 | dW
 | obj (C:Nat->Bool) (kid:Int->W5)
def LM (w:AI):W5->Prop
 | .int n=> -1000000000<=n/\n<=1000000000
 | .dW=>True
 | .obj C kid=>(∀c,3<=c->C c=true-> ∀q∈par w.parents c,C q.toNat=true)/\ ∀s,LM w (kid s)
def I5 (t:W5) (f:Fact):Bool:=match t with
 | .int n=>if f.op=2 then !decide (f.cls > 1)else if f.op=3 then decide (n<f.n)else decide (n=f.n)
 | .dW=>f.op==2&&(f.cls==0||f.cls==2)
 | .obj C _=>f.op==2&&(f.cls==0||(decide (3<=f.cls)&&C f.cls.toNat))
def Ub (w:AI):W5->List Int->Fact->Bool
 | t,[],f=>I5 t f
 | .obj C kid,s::r,f=>C (Cm w s).toNat&&Ub w (kid s) r f
 | _,_::_,_=>false
structure Ir (w:AI) (l:Fact):Prop where
 op:(Av l).1.op=2\/(Av l).1.op=3\/(Av l).1.op=4
 cls:(Av l).1.op=2->0<=(Av l).1.cls/\(Av l).1.cls<3+w.parents.length
 arg:0<=(Av l).1.arg/\(Av l).1.arg<3
 path: ∀s∈(Av l).1.path,(0:Int)<=s/\s<w.owner.length
 short:(Av l).1.path.length<=2
def Zb {w:AI} {l:Fact} (h:Is w l):Ir w l:=by
 obtain⟨-,hn,hl⟩:=HS h;have hlo:=Fq hl;have q:=JG (w:=w) (l:=[l]) (fun x hx=>by rw[LD.1 hx];exact h);rw[Cp,BD]at hn;have hn:=hn.1;simp only[C6,BD,CN]at hn;obtain⟨ho,-,ha1,ha2,hp,-⟩:=hn;simp only[E5,BD,E3,IU,CN]at hp;exact⟨hlo,q.2.1 l (.head _),⟨ha1,ha2⟩,fun s hs=>hp.1 s hs,hp.2⟩
def pQ (t:Int×Int×List Int) (m:Int):Prop:=t.1<=m/\m<=t.2.1/\m∉t.2.2
def bO {w:AI} {l:Fact} (hl:Ir w l) (t:Int×Int×List Int) (m:Int):(∃t',HD (Av l) t=some t'/\pQ t' m)↔pQ t m/\I5 (.int m) (Av l).1= !(Av l).2:=by
 have h1:=hl.op;generalize Av l=x at *;obtain⟨f,b⟩:=x;obtain⟨lo,hi,no⟩:=t;simp only[HD,pQ,I5]at *;rcases h1 with h|h|h
 .rw[if_pos h,if_pos h]
  by_cases hc:f.cls > 1<;>cases b<;>simp[hc]
 .have h2: ¬f.op=2:=by omega
  rw[if_neg h2,if_pos h,if_neg h2,if_pos h];cases b
  .simp only[LG,if_false,Hl,exists_eq_left',Bool.not_false,CN]
   split<;>constructor<;>rintro⟨h3,h4⟩
   .exact⟨⟨h3,by omega,h4.2⟩,by omega⟩
   .exact⟨h3.1,by omega,h3.2.2⟩
   .exact⟨⟨h3,h4⟩,by omega⟩
   .exact h3
  .simp only[if_true,Hl,exists_eq_left',Bool.not_true,decide_eq_false_iff_not]
   split<;>constructor<;>rintro⟨h3,h4⟩
   .exact⟨⟨by omega,h4⟩,by omega⟩
   .exact⟨by omega,h3.2⟩
   .exact⟨⟨h3,h4⟩,by omega⟩
   .exact h3
 .have h2: ¬f.op=2:=by omega
  have h3: ¬f.op=3:=by omega
  rw[if_neg h2,if_neg h3,if_neg h2,if_neg h3];cases b
  .simp only[LG,if_false,Hl,exists_eq_left',Bool.not_false,CN]
   constructor
   .rintro⟨h3,h4,h5⟩
    split at h3<;>split at h4<;>exact⟨⟨by omega,by omega,h5⟩,by omega⟩
   .rintro⟨⟨h3,h4,h5⟩,rfl⟩
    refine⟨?_,?_,h5⟩
    .split<;>omega
    .split<;>omega
  .simp only[if_true,Hl,exists_eq_left',Bool.not_true,decide_eq_false_iff_not,E4,LD,not_or]
   constructor
   .rintro⟨h3,h4,h5,h6⟩
    exact⟨⟨h3,h4,h5⟩,h6⟩
   .rintro⟨⟨h3,h4,h5⟩,h6⟩
    exact⟨h3,h4,h5,h6⟩
def Jr {w:AI} (m:Int): ∀(os:List Fact) (t:Int×Int×List Int),(∀l∈os,Ir w l)->((∃t',foldI os t=some t'/\pQ t' m)↔pQ t m/\ ∀l∈os,I5 (.int m) (Av l).1= !(Av l).2)
 | [],t,_=>by simp[foldI]
 | x ::r,t,h=>by
   have h1:=bO (h x (.head _)) t m;constructor
   .rintro⟨t',h2,h3⟩
    rw[foldI,Option.bind_eq_some_iff]at h2;obtain⟨u,h4,h5⟩:=h2;obtain⟨h6,h7⟩:=(Jr m r u fun l hl=>h l (.tail _ hl)).1 ⟨t',h5,h3⟩;obtain⟨h8,h9⟩:=h1.1 ⟨u,h4,h6⟩;refine⟨h8,fun l hl=>?_⟩;rcases Fm.1 hl with rfl|hl
    .exact h9
    .exact h7 l hl
   .rintro⟨h2,h3⟩
    obtain⟨u,h4,h5⟩:=h1.2 ⟨h2,h3 x (.head _)⟩;obtain⟨t',h6,h7⟩:=(Jr m r u fun l hl=>h l (.tail _ hl)).2 ⟨h5,fun l hl=>h3 l (.tail _ hl)⟩;exact⟨t',by rw[foldI,h4];exact h6,h7⟩
def Rt (t:Int×Int×List Int):(O9 t).isSome=true↔ ∃m,pQ t m:=by
 obtain⟨lo,hi,no⟩:=t;rw[O9,NH];constructor
 .rintro⟨j,h1,h2⟩
  exact⟨lo+j,by simp only[pQ]at *;omega,by simp only[]at *;omega,h2⟩
 .rintro⟨m,h1,h2,h3⟩
  dsimp only at h1 h2 h3 ⊢;exact⟨(m - lo).toNat,by omega,by rw[show lo+((m - lo).toNat:Int)=m by omega];exact h3⟩
def Hz {a:Int} {p:List Int} {l:Fact}:Gk a p l=true↔(Av l).1.arg=a/\(Av l).1.path=p:=by
 rw[Gk,BD,EU,EU]
def ik {w:AI} {ls:List Fact} (hl: ∀l∈ls,Ir w l) (a:Int) (p:List Int):(It ls a p).isSome=true↔ ∃m,(-1000000000<=m/\m<=1000000000)/\ ∀l∈ls,(Av l).1.arg=a->(Av l).1.path=p->I5 (.int m) (Av l).1= !(Av l).2:=by
 have hL: ∀l∈ls.filter (Gk a p),Ir w l:=fun l h=>hl l (LH.1 h).1
 rw[It];constructor
 .intro h
  cases hf:foldI (ls.filter (Gk a p)) t0 with
  | none=>rw[hf]at h;cases h
  | some t=>
    rw[hf]at h;obtain⟨m,hm⟩:=(Rt t).1 h;obtain⟨h1,h2⟩:=(Jr m _ t0 hL).1 ⟨t,hf,hm⟩;exact⟨m,⟨h1.1,h1.2.1⟩,fun l h3 h4 h5=>h2 l (LH.2 ⟨h3,Hz.2 ⟨h4,h5⟩⟩)⟩
 .rintro⟨m,h1,h2⟩
  obtain⟨t,h3,h4⟩:=(Jr m (ls.filter (Gk a p)) t0 hL).2 ⟨⟨h1.1,h1.2,by simp[t0]⟩,fun l h=>by
   obtain⟨h5,h6⟩:=LH.1 h
   exact h2 l h5 (Hz.1 h6).1 (Hz.1 h6).2⟩
  rw[h3];exact(Rt t).2 ⟨m,h4⟩
def MF {ls:List Fact} {a:Int} {p:List Int}:D9 ls a p=true↔ ∀l∈ls,(Av l).1.arg=a-> ∀q,(Av l).1.path=p++q->(Av l).2=true:=by
 rw[D9,E3];constructor
 .intro h l hl ha q hq
  have:=h l hl;rw[Fl]at this;rcases this with h1|h1
  .exact h1
  .rw[ha,hq]at h1
   have h2:Bp (p++q) p=true:=CT.2 ⟨q,rfl⟩;simp[h2]at h1
 .intro h l hl
  rw[Fl];by_cases h1:(Av l).1.arg=a/\Bp (Av l).1.path p=true
  .obtain⟨q,hq⟩:=CT.1 h1.2
   exact .inl (h l hl h1.1 q hq)
  .right
   simp only[Bool.not_eq_true',Bool.and_eq_false_iff,beq_eq_false_iff_ne];rcases Classical.em ((Av l).1.arg=a)with e|e
   .exact .inr (by simpa[e]using h1)
   .exact .inl e
def Rx {w:AI} {ls:List Fact} (hl: ∀l∈ls,Ir w l) {a:Int} {p:List Int} {s:Int}:s∈Bg w.owner.length ls a p↔ ∃l∈ls,(Av l).1.arg=a/\ ∃q,(Av l).1.path=p++s::q:=by
 rw[Bg,LH,J0,Kv];constructor
 .rintro⟨-,l,h1,h2⟩
  rw[Yj,BD,EU]at h2;obtain⟨q,hq⟩:=CT.1 h2.2;exact⟨l,h1,h2.1,q,by rw[hq];simp⟩
 .rintro⟨l,h1,h2,q,hq⟩
  refine⟨(hl l h1).path s (by rw[hq];simp),l,h1,?_⟩;rw[Yj,BD,EU];exact⟨h2,CT.2 ⟨q,by rw[hq];simp⟩⟩
def V2 {w:AI} {ls:List Fact} (hl: ∀l∈ls,Ir w l) {a:Int} {p:List Int}:E9 w.owner.length ls a p=true↔ ∀l∈ls,(Av l).1.arg=a-> ∀s q,(Av l).1.path=p++s::q->(Av l).2=true:=by
 rw[E9,E3];constructor
 .intro h l h1 h2 s q hq
  exact MF.1 (h s ((Rx hl).2 ⟨l,h1,h2,q,hq⟩)) l h1 h2 q (by rw[hq];simp)
 .intro h s _
  exact MF.2 fun l h1 h2 q hq=>h l h1 h2 s q (by rw[hq];simp)
def XS {w:AI} (hw:UZ w) {s:Int} (h:0<=s/\s<(w.owner.length:Int)):3<=Cm w s/\Cm w s<3+w.parents.length:=by
 have hs:s.toNat<w.owner.length:=by omega
 have:Cm w s=w.owner[s.toNat]:=by rw[Cm,DH,Cy hs];rfl
 rw[this];exact hw.own _ (List.getElem_mem hs)
def oF (t:BB) (C:Nat->Bool):Prop:=(∀c,t.1.getD c false=true->c=0\/C c=true)/\ ∀c,t.2.getD c false=true->c≠0/\C c=false
def S5 (t t':BB):Prop:=t.1.length=t'.1.length/\t.2.length=t'.2.length/\(∀c,t.1.getD c false=true->t'.1.getD c false=true)/\ ∀c,t.2.getD c false=true->t'.2.getD c false=true
def S5.kH {t:BB}:S5 t t:=⟨rfl,rfl,fun _ h=>h,fun _ h=>h⟩
def S5.trans {t u v:BB} (h:S5 t u) (k:S5 u v):S5 t v:=⟨h.1.trans k.1,h.2.1.trans k.2.1,fun c hc=>k.2.2.1 c (h.2.2.1 c hc),fun c hc=>k.2.2.2 c (h.2.2.2 c hc)⟩
def Lu {l:List Bool} {c b:Nat} (h:(l.set c true).getD b false=true):l.getD b false=true\/b=c:=by
 by_cases e:b=c
 .exact .inr e
 .rw[DH,List.getElem?_set_ne (fun h=>e h.symm),<-DH]at h
  exact .inl h
def Lw {l:List Bool} {c b:Nat} (h:l.getD b false=true):(l.set c true).getD b false=true:=by
 by_cases e:c<l.length
 .rw[EB e]
  split
  .rfl
  .exact h
 .rw[List.set_eq_of_length_le (by omega)];exact h
def Lv {l:List Bool} {c:Nat} (h:c<l.length):(l.set c true).getD c false=true:=by
 rw[EB h,if_pos rfl]
def S5.yY {t:BB} (c:Nat):S5 t (t.1.set c true,t.2):=⟨by simp,rfl,fun _ h=>Lw h,fun _ h=>h⟩
def S5.yX {t:BB} (c:Nat):S5 t (t.1,t.2.set c true):=⟨rfl,by simp,fun _ h=>h,fun _ h=>Lw h⟩
def XL (t:BB) (f:Fact) (b:Bool):Prop:=if f.op≠2\/f.cls=1\/f.cls=2 then b=true else if b then t.2.getD f.cls.toNat false=true else t.1.getD f.cls.toNat false=true
def Sv {t t':BB} (h:S5 t t') {f:Fact} {b:Bool} (k:XL t f b):XL t' f b:=by
 unfold XL at *;split
 .rename_i h1;rw[if_pos h1]at k;exact k
 .rename_i h1;rw[if_neg h1]at k
  split
  .rename_i h2;rw[if_pos h2]at k;exact h.2.2.2 _ k
  .rename_i h2;rw[if_neg h2]at k;exact h.2.2.1 _ k
def gr {w:AI} {l:Fact} (hl:Ir w l) {t t':BB} (hn:t.1.length=3+w.parents.length/\t.2.length=3+w.parents.length) (h:F7 (Av l) t=some t'):S5 t t'/\XL t' (Av l).1 (Av l).2:=by
 have hc:=hl.cls;generalize Av l=x at *;obtain⟨f,b⟩:=x;simp only[F7,XL]at *;split at h
 .rename_i h1
  rw[if_pos h1];cases b
  .cases h
  .obtain rfl:=Option.some.inj h
   exact⟨S5.kH,rfl⟩
 .rename_i h1
  rw[if_neg h1]
  have h2:f.op=2:=by
   rcases Classical.em (f.op=2)with e|e
   .exact e
   .exact absurd (Or.inl e) h1
  have:=hc h2;cases b
  .obtain rfl:=Option.some.inj h
   exact⟨.yY _,by rw[if_neg (by decide)];exact Lv (by omega)⟩
  .obtain rfl:=Option.some.inj h
   exact⟨.yX _,by rw[if_pos rfl];exact Lv (by omega)⟩
def bK {w:AI} {l:Fact} (hl:Ir w l) {t:BB} {C:Nat->Bool} {kid:Int->W5} (hi:oF t C) (h:I5 (.obj C kid) (Av l).1= !(Av l).2): ∃t',F7 (Av l) t=some t'/\oF t' C:=by
 have hc:=hl.cls;generalize Av l=x at *;obtain⟨f,b⟩:=x;simp only[F7,I5]at *;by_cases h1:f.op≠2\/f.cls=1\/f.cls=2
 .rw[if_pos h1]
  have h2:(f.op==2&&(f.cls==0||(decide (3<=f.cls)&&C f.cls.toNat)))=false:=by
   rcases h1 with h1|h1|h1
   .simp[h1]
   .simp[h1]
   .simp[h1]
  rw[h2]at h;cases b
  .cases h
  .exact⟨t,rfl,hi⟩
 .rw [if_neg h1]
  have h2:f.op=2:=by
   rcases Classical.em (f.op=2)with e|e
   .exact e
   .exact absurd (Or.inl e) h1
  have hr:=hc h2;have h3:f.cls≠1/\f.cls≠2:=⟨fun e=>h1 (.inr (.inl e)),fun e=>h1 (.inr (.inr e))⟩
  have h4:(f.op==2&&(f.cls==0||(decide (3<=f.cls)&&C f.cls.toNat)))=(decide (f.cls=0)||C f.cls.toNat):=by
   rw[h2];rcases Classical.em (f.cls=0)with e|e
   .simp[e]
   .have:3<=f.cls:=by omega
    simp[e,this]
  rw[h4]at h;cases b
  .refine⟨_,rfl,fun c hh=>?_,hi.2⟩
   rcases Lu hh with hh|rfl
   .exact hi.1 c hh
   .simp only[Bool.not_false,Fl,CN]at h
    rcases h with h|h
    .exact .inl (by omega)
    .exact .inr h
  .refine⟨_,rfl,hi.1,fun c hh=>?_⟩
   rcases Lu hh with hh|rfl
   .exact hi.2 c hh
   .simp only[Bool.not_true,Bool.or_eq_false_iff,decide_eq_false_iff_not]at h
    exact⟨by omega,h.2⟩
def Ps {w:AI}: ∀(os:List Fact) {t t':BB},(∀l∈os,Ir w l)->(t.1.length=3+w.parents.length/\t.2.length=3+w.parents.length)->Dy os t=some t'->S5 t t'/\ ∀l∈os,XL t' (Av l).1 (Av l).2
 | [],t,t',_,_,h=>by
   obtain rfl:=Option.some.inj h;exact⟨S5.kH,fun l hl=>by cases hl⟩
 | x::r,t,t',hl,hn,h=>by
   rw[Dy,Option.bind_eq_some_iff]at h;obtain⟨u,h1,h2⟩:=h;obtain⟨h3,h4⟩:=gr (hl x (.head _)) hn h1;obtain⟨h5,h6⟩:=Ps r (fun l h=>hl l (.tail _ h)) ⟨by rw[<-h3.1];exact hn.1,by rw[<-h3.2.1];exact hn.2⟩ h2;refine⟨h3.trans h5,fun l h=>?_⟩;rcases Fm.1 h with rfl|h
   .exact Sv h5 h4
   .exact h6 l h
def SZ {w:AI} {C:Nat->Bool} {kid:Int->W5}: ∀(os:List Fact) {t:BB},(∀l∈os,Ir w l)->oF t C->(∀l∈os,I5 (.obj C kid) (Av l).1= !(Av l).2)-> ∃t',Dy os t=some t'/\oF t' C
 | [],t,_,hi,_=>⟨t,rfl,hi⟩
 | x::r,t,hl,hi,h=>by
   obtain⟨u,h1,h2⟩:=bK (hl x (.head _)) hi (h x (.head _));obtain⟨t',h3,h4⟩:=SZ r (fun l h=>hl l (.tail _ h)) h2 fun l hh=>h l (.tail _ hh)
   exact⟨t',by rw[Dy,h1];exact h3,h4⟩
def pz (w:AI) (ls:List Fact) (a:Int) (p:List Int) (can:Int->Bool) (s:Int) (t:BB):Prop:=
 (D9 ls a (p++[s])=false->t.1.getD (Cm w s).toNat false=true/\can s=true)/\(can s=false->t.2.getD (Cm w s).toNat false=true)
def Pr {w:AI} (hw:UZ w) {ls:List Fact} {a:Int} {p:List Int} {can:Int->Bool}: ∀(sl:List Int) {t t':BB},(∀s∈sl,0<=s/\s<(w.owner.length:Int))->(t.1.length=3+w.parents.length/\t.2.length=3+w.parents.length)->De w ls a p can sl t=some t'->S5 t t'/\ ∀s∈sl,pz w ls a p can s t'
 | [],t,t',_,_,h=>by
   obtain rfl:=Option.some.inj h;exact⟨S5.kH,fun l hl=>by cases hl⟩
 | s ::r,t,t',hs,hn,h=>by
   rw[De,Option.bind_eq_some_iff]at h;obtain⟨u,h1,h2⟩:=h;have ho:=XS hw (hs s (.head _))
   have h3:S5 t u/\pz w ls a p can s u:=by
    rw[IS]at h1;split at h1
    .cases h1
    .rename_i hne
     obtain rfl:=Option.some.inj h1;simp only[pz];cases hb:D9 ls a (p++[s])<;>cases hc:can s
     .simp[hb,hc]at hne
     .exact⟨⟨by simp,rfl,fun c h=>Lw h,fun c h=>h⟩,fun _=>⟨Lv (by omega),rfl⟩,fun h=>(by cases h)⟩
     .exact⟨⟨rfl,by simp,fun c h=>h,fun c h=>Lw h⟩,fun h=>(by cases h),fun _=>Lv (by omega)⟩
     .exact⟨S5.kH,fun h=>(by cases h),fun h=>(by cases h)⟩
   obtain⟨h5,h6⟩:=Pr hw r (fun l h=>hs l (.tail _ h)) ⟨by rw[<-h3.1.1];exact hn.1,by rw[<-h3.1.2.1];exact hn.2⟩ h2;refine⟨h3.1.trans h5,fun l h=>?_⟩;rcases Fm.1 h with rfl|h
   .exact⟨fun hb=>⟨h5.2.2.1 _ (h3.2.1 hb).1,(h3.2.1 hb).2⟩,fun hc=>h5.2.2.2 _ (h3.2.2 hc)⟩
   .exact h6 l h
def SY {w : AI} (hw:UZ w) {ls:List Fact} {a:Int} {p:List Int} {can:Int->Bool} {C:Nat->Bool}: ∀(sl:List Int) {t:BB},(∀s∈sl,0<=s/\s<(w.owner.length:Int))->oF t C->
    (∀s∈sl,(D9 ls a (p++[s])=false->C (Cm w s).toNat=true)/\(C (Cm w s).toNat=true->can s=true))-> ∃t',De w ls a p can sl t=some t'/\oF t' C
 | [],t,_,hi,_=>⟨t,rfl,hi⟩
 | s :: r, t,hs,hi,h=>by
   have ho:=XS hw (hs s (.head _));obtain⟨k1,k2⟩:=h s (.head _)
   have h1 : ∃u,IS w ls a p can s t=some u/\oF u C:=by
    rw[IS];cases hb:D9 ls a (p++[s])
    .rw[k2 (k1 hb)]
     refine⟨_,rfl,fun c hh=>?_,hi.2⟩;rcases Lu hh with hh|rfl
     .exact hi.1 c hh
     .exact .inr (k1 hb)
    .cases hc:can s
     .refine⟨_,rfl,hi.1,fun c hh=>?_⟩
      rcases Lu hh with hh|rfl
      .exact hi.2 c hh
      .refine⟨by omega,?_⟩
       rw[<-Bool.not_eq_true];intro e;rw[k2 e]at hc;cases hc
     .exact⟨_,rfl,hi⟩
   obtain⟨u,h2,h3⟩:=h1;obtain⟨t',h4,h5⟩:=SY hw r (fun l h=>hs l (.tail _ h)) h3 fun l hh=>h l (.tail _ hh)
   exact⟨t',by rw[De,h2];exact h4,h5⟩
def lU {w:AI} {C:Nat->Bool}:oF (tO w) C:=by
 have: ∀c,(List.replicate (3+w.parents.length) false).getD c false=false:=fun c=>by
  rw[DH];cases h:(List.replicate (3+w.parents.length) false)[c]? with
  | none=>rfl
  | some b=>rw[List.eq_of_mem_replicate (B1 h)];rfl
 exact⟨fun c h=>absurd ((this c).symm.trans h) (by decide),fun c h=>absurd ((this c).symm.trans h) (by decide)⟩
def dE {g:List (List Int)} (ho:ordered g) {C:Nat->Bool} (hC: ∀c,3<=c->C c=true-> ∀q∈par g c,C q.toNat=true): ∀d b:Nat,3<=d->C d=true->Jv g d b=true->C b=true:=by
 intro d
 induction d using Nat.strongRecOn with
 | _ d ih=>
   intro b h3 hd h;rw[FD ho]at h;simp only[Fl,EU,J0]at h;rcases h with rfl|⟨p,hp,h⟩
   .exact hd
   .have:=ho d p hp
    exact ih p.toNat (by omega) b (by omega) (hC d h3 hd p hp) h
def iN {w : AI} (hw : UZ w) {ls:List Fact} (hl: ∀l∈ls,Ir w l) {a:Int} {p:List Int} {can:Int->Bool} {T:Int->W5->Prop} (hcan: ∀s,s∈Bg w.owner.length ls a p->(can s=true↔ ∃t,LM w t/\T s t))
    (hT: ∀s t,T s t↔ ∀l∈ls,(Av l).1.arg=a-> ∀q,(Av l).1.path=p++s::q->Ub w t q (Av l).1= !(Av l).2) :
    (KK w ls a p can).isSome=true↔ ∃C kid,LM w (.obj C kid)/\ ∀l∈ls,(Av l).1.arg=a-> ∀q,(Av l).1.path=p++q->Ub w (.obj C kid) q (Av l).1= !(Av l).2:=by
 have hL: ∀l∈ls.filter (Gk a p),Ir w l:=fun l h=>hl l (LH.1 h).1
 have hS: ∀s∈Bg w.owner.length ls a p,0<=s/\s<(w.owner.length:Int):=fun s h=>Jo h
 have hn0:(tO w).1.length=3+w.parents.length/\(tO w).2.length=3+w.parents.length:=by simp[tO]
 constructor
 .intro h
  rw[KK]at h;cases h1:Dy (ls.filter (Gk a p)) (tO w)with
  | none=>rw[h1]at h;cases h
  | some t=>
    rw[h1,Option.bind_some]at h;obtain⟨g1,g2⟩:=Ps _ hL hn0 h1;have hn1:t.1.length=3+w.parents.length/\t.2.length=3+w.parents.length:=⟨by rw[<-g1.1];exact hn0.1,by rw[<-g1.2.1];exact hn0.2⟩
    cases h2:De w ls a p can (Bg w.owner.length ls a p) t with
    | none=>rw[h2]at h;cases h
    | some u=>
      rw[h2,Option.bind_some,Us]at h;obtain⟨g3,g4⟩:=Pr hw _ hS hn1 h2;have hn2:u.1.length=3+w.parents.length/\u.2.length=3+w.parents.length:=⟨by rw[<-g3.1];exact hn1.1,by rw[<-g3.2.1];exact hn1.2⟩
      split at h
      .cases h
      .rename_i h0
       split at h
       .cases h
       .rename_i h3
        clear h;have hSl:(u.1.set 0 false).length=3+w.parents.length:=by simpa using hn2.1
        generalize hSd:Bx w.parents (3+w.parents.length) w.parents.length (u.1.set 0 false)=S at *
        have hin: ∀c,3<=c->u.1.getD c false=true->S.getD c false=true:=fun c hc h=>by
         rw[<-hSd];refine JN hw.ord hSl _ _ ?_;rw[DH,List.getElem?_set_ne (by omega),<-DH];exact h
        have hdis: ∀c,S.getD c false=true->u.2.getD c false=true->False:=fun c k1 k2=>by
         have hc:c<3+w.parents.length:=by
          rcases Nat.lt_or_ge c (3+w.parents.length)with h|h
          .exact h
          .rw[DH,List.getElem?_eq_none (by omega)]at k2
           cases k2
         refine h3 (J0.2 ⟨c,List.mem_range.2 hc,?_⟩);rw[k1,k2];rfl
        have hkid: ∀s,∃t,LM w t/\((∃t,LM w t/\T s t)->T s t):=fun s=>by
         rcases Classical.em (∃t,LM w t/\T s t)with⟨t,k1,k2⟩|k
         .exact⟨t,k1,fun _=>k2⟩
         .exact⟨.dW,trivial,fun h=>absurd h k⟩
        refine⟨fun c=>S.getD c false,fun s=>Classical.choose (hkid s),⟨fun c hc h q hq=>?_,fun s=>(Classical.choose_spec (hkid s)).1⟩,fun l h1 h2 q hq=>?_⟩
        .change S.getD c false=true at h
         change S.getD q.toNat false=true
         have hcl:c<3+w.parents.length:=by
          rcases Nat.lt_or_ge c (3+w.parents.length)with h'|h'
          .exact h'
          .rw[DH,List.getElem?_eq_none (by rw[<-hSd,ES];omega)]at h
           cases h
         rw[<-hSd]at h ⊢;exact G6 hw.ord hSl _ c (by omega) (by omega) h q hq
        .cases q with
         | nil =>
           have k:=g2 l (LH.2 ⟨h1,Hz.2 ⟨h2,by simpa using hq⟩⟩);have k:=Sv g3 k;have hc:=(hl l h1).cls;generalize Av l=x at *;obtain⟨f,b⟩:=x;simp only[Ub,I5,XL]at *;by_cases e1:f.op≠2\/f.cls=1\/f.cls=2
           .rw[if_pos e1]at k
            subst k;rcases e1 with e1|e1|e1
            .simp[e1]
            .simp[e1]
            .simp[e1]
           .rw [if_neg e1]at k
            have e2:f.op=2:=by
             rcases Classical.em (f.op=2)with e|e
             .exact e
             .exact absurd (Or.inl e) e1
            have hr:=hc e2;have e3:f.cls≠1/\f.cls≠2:=⟨fun e=>e1 (.inr (.inl e)),fun e=>e1 (.inr (.inr e))⟩
            rw[e2];rcases Classical.em (f.cls=0)with e|e
            .rw[e]at k ⊢
             cases b
             .rfl
             .exfalso;exact h0 k
            .have e4:(f.cls==0)=false:=by simpa using e
             have e5:decide (3<=f.cls)=true:=decide_eq_true (by omega);rw[e4,e5];cases b
             .rw[if_neg (by decide)]at k
              rw[hin _ (by omega) k];rfl
             .rw[if_pos rfl]at k
              have:S.getD f.cls.toNat false=false:=by
               rw[<-Bool.not_eq_true];exact fun e=>hdis _ e k
              rw[this];rfl
         | cons s q=>
           have hs:s∈Bg w.owner.length ls a p:=(Rx hl).2 ⟨l,h1,h2,q,hq⟩;have hso:=XS hw (hS s hs);obtain⟨k1,k2⟩:=g4 s hs;simp only[Ub];cases hm:S.getD (Cm w s).toNat false
           .rw[Bool.false_and]
            cases hb:D9 ls a (p++[s])
            .have:=hin _ (by omega) (k1 hb).1
             rw[hm]at this;cases this
            .rw[MF.1 hb l h1 h2 q (by rw[hq];simp)];rfl
           .rw[G7]
            cases hc:can s
            .exact absurd (k2 hc) fun e=>hdis _ hm e
            .exact(hT s _).1 ((Classical.choose_spec (hkid s)).2 ((hcan s hs).1 hc)) l h1 h2 q hq
 .rintro ⟨C,kid,⟨hC,U⟩,h⟩
  obtain⟨t,h1,h2⟩:=SZ (C:=C) (kid:=kid) (ls.filter (Gk a p)) (t:=tO w) hL lU fun l k=>by
   obtain⟨k1,k2⟩:=LH.1 k;obtain⟨k3,k4⟩:=Hz.1 k2;exact h l k1 k3 [] (by simpa using k4)
  obtain ⟨u,h3,h4⟩:=SY hw (C:=C) (can:=can) (ls:=ls) (a:=a) (p:=p) (Bg w.owner.length ls a p) (t:=t) hS h2 fun s hs=>by
   constructor
   .intro hb
    cases e:C (Cm w s).toNat
    .rw[MF.2 fun l k1 k2 q hq=>by
      have:=h l k1 k2 (s::q) (by rw[hq];simp);simp only[Ub,e,Bool.false_and]at this
      simpa using this.symm]at hb
     cases hb
    .rfl
   .intro e
    refine(hcan s hs).2 ⟨kid s,U s,(hT s _).2 fun l k1 k2 q hq=>?_⟩;have:=h l k1 k2 (s::q) hq;simpa only[Ub,e,G7]using this
  rw[KK,h1,Option.bind_some,h3,Option.bind_some,Us]
  have h0:u.2.getD 0 false=false:=by
   rw[<-Bool.not_eq_true];exact fun e=>(h4.2 0 e).1 rfl
  rw[h0,if_neg (by decide),if_neg]
  .rfl
  .rw [J0]
   rintro⟨c,-,hc⟩;rw[BD]at hc;have q1:=(Ps _ hL hn0 h1).1;have q2:=(Pr hw _ hS ⟨by rw[<-q1.1];exact hn0.1,by rw[<-q1.2.1];exact hn0.2⟩ h3).1;have hlen:(u.1.set 0 false).length=3+w.parents.length:=by rw[List.length_set,<-q2.1,<-q1.1];exact hn0.1
   obtain⟨d,k1,k2⟩:=Fx hw.ord hlen _ _ hc.1
   have hd0:d≠0:=by
    rintro rfl;rw[DH,List.getElem?_set_self (by rw[List.length_set]at hlen;omega)]at k1;cases k1
   rw[DH,List.getElem?_set_ne (fun e=>hd0 e.symm),<-DH]at k1;have hCd:C d=true:=(h4.1 d k1).resolve_left hd0
   have hCc:C c=true:=by
    rcases Nat.lt_or_ge d 3 with hd|hd
    .rw[FD hw.ord,show par w.parents d= [] from if_pos hd]at k2
     simp only[List.any_nil,Bool.or_false,EU]at k2;subst k2;exact hCd
    .exact dE hw.ord hC d c hd hCd k2
   have:=(h4.2 c hc.2).2;rw[hCc]at this;cases this
def TT (w:AI) (ls:List Fact) (a:Int) (p:List Int) (t:W5):Prop:= ∀l∈ls,(Av l).1.arg=a-> ∀q,(Av l).1.path=p++q->Ub w t q (Av l).1= !(Av l).2
def br {w:AI} {ls:List Fact} (hl: ∀l∈ls,Ir w l) {a:Int} {p:List Int}:HI w.owner.length ls a p=true↔TT w ls a p .dW:=by
 rw[HI,BD,E3,V2 hl];constructor
 .rintro⟨h1,h2⟩ l k1 k2 q hq
  cases q with
  | nil=>
    have:=h1 l (LH.2 ⟨k1,Hz.2 ⟨k2,by simpa using hq⟩⟩);simp only[Ub,I5,IT]at *
    revert this
    cases((Av l).1.op==2&&((Av l).1.cls==0||(Av l).1.cls==2))<;>cases(Av l).2<;>decide
  | cons s q=>simp[Ub,h2 l k1 k2 s q hq]
 .intro h
  refine⟨fun l k=>?_,fun l k1 k2 s q hq=>?_⟩
  .obtain⟨k1,k2⟩:=LH.1 k
   obtain⟨k3,k4⟩:=Hz.1 k2;have:=h l k1 k3 [] (by simpa using k4);simp only[Ub,I5,IT]at *
   revert this
   cases((Av l).1.op==2&&((Av l).1.cls==0||(Av l).1.cls==2))<;>cases(Av l).2<;>decide
  .have:=h l k1 k2 (s::q) hq
   simpa[Ub]using this.symm
def il {w:AI} {ls:List Fact} (hl: ∀l∈ls,Ir w l) {a:Int} {p:List Int}:((It ls a p).isSome&&E9 w.owner.length ls a p)=true↔ ∃m,LM w (.int m)/\TT w ls a p (.int m):=by
 rw[BD,V2 hl,ik hl];constructor
 .rintro⟨⟨m,h1,h2⟩,h3⟩
  refine⟨m,h1,fun l k1 k2 q hq=>?_⟩;cases q with
  | nil=>exact h2 l k1 k2 (by simpa using hq)
  | cons s q=>simp[Ub,h3 l k1 k2 s q hq]
 .rintro⟨m,h1,h2⟩
  refine⟨⟨m,h1,fun l k1 k2 k3=>h2 l k1 k2 [] (by simpa using k3)⟩,fun l k1 k2 s q hq=>?_⟩;have:=h2 l k1 k2 (s::q) hq;simpa[Ub]using this.symm
def Z7 {w:AI} (hw:UZ w) {ls:List Fact} (hl: ∀l∈ls,Ir w l) {a:Int} {p:List Int} {can:Int->Bool} (hcan: ∀s,s∈Bg w.owner.length ls a p->(can s=true↔ ∃t,LM w t/\TT w ls a (p++[s]) t)) :
    (((It ls a p).isSome&&E9 w.owner.length ls a p)||(HI w.owner.length ls a p||(KK w ls a p can).isSome))=true↔ ∃t,LM w t/\TT w ls a p t:=by
 rw[Fl,Fl,il hl,br hl,iN hw hl (T:=fun s t=>TT w ls a (p++[s]) t) hcan fun s t=>by simp only[TT,Wx,List.singleton_append]];constructor
 .rintro(⟨m,h1,h2⟩|h|⟨C,kid,h1,h2⟩)
  .exact⟨_,h1,h2⟩
  .exact⟨.dW,trivial,h⟩
  .exact⟨_,h1,h2⟩
 .rintro⟨t,h1,h2⟩
  cases t with
  | int m=>exact .inl ⟨m,h1,h2⟩
  | dW=>exact .inr (.inl h2)
  | obj C kid=>exact .inr (.inr ⟨C,kid,h1,h2⟩)
def Px {w:AI} (hw:UZ w) {ls:List Fact} (hl: ∀l∈ls,Ir w l) (a:Int): ∀(d:Nat) (p:List Int),p.length+d=2->(LQ w ls a d p=true↔ ∃t,LM w t/\TT w ls a p t)
 | 0,p,hp=>by
   rw[LQ];refine Z7 hw hl fun s hs=>?_
   rw[NJ (m:=2) (fun l h=>(hl l h).short) (by omega)]at hs;cases hs
 | d+1,p,hp=>by
   rw[LQ];exact Z7 hw hl fun s hs=>Px hw hl a d (p++[s]) (by simp;omega)
def TB (w:AI) (M:Int->W5) (l:Fact):Prop:=Ub w (M (Av l).1.arg) (Av l).1.path (Av l).1= !(Av l).2
def VT {w:AI} (hw:UZ w) {ls:List Fact} (hl: ∀l∈ls,Ir w l):Gn w ls=true↔ ∃M:Int->W5,(∀a,LM w (M a))/\ ∀l∈ls,TB w M l:=by
 rw[Gn,E3];constructor
 .intro h
  have hk: ∀a:Int,∃t,LM w t/\(0<=a/\a<3->TT w ls a [] t):=fun a=>by
   rcases Classical.em (0<=a/\a<3)with e|e
   .obtain⟨t,h1,h2⟩:=(Px hw hl a 2 [] rfl).1 (h a (Kv.2 e))
    exact⟨t,h1,fun _=>h2⟩
   .exact⟨.dW,trivial,fun k=>absurd k e⟩
  exact⟨fun a=>Classical.choose (hk a),fun a=>(Classical.choose_spec (hk a)).1,fun l k=>(Classical.choose_spec (hk (Av l).1.arg)).2 (hl l k).arg l k rfl _ rfl⟩
 .rintro⟨M,h1,h2⟩ a _
  refine(Px hw hl a 2 [] rfl).2 ⟨M a,h1 a,fun l k1 k2 q hq=>?_⟩;have:=h2 l k1;rw[TB,k2]at this;rw[List.nil_append]at hq;rw[<-hq];exact this
def vZ (w:AI) (M:Int->W5) (f:Fact) (l:List Bool):Bool:=
 if f.op=1 then true else if f.op=5 then !l.getD 0 false else if f.op=6 then l.getD 0 false&&l.getD 1 false else if f.op=7 then l.getD 0 false||l.getD 1 false else Ub w (M f.arg) f.path f
def Yk (w:AI) (M:Int->W5) (f:Fact):Bool:=f.Hp (vZ w M)
def Xc (w:AI) (M:Int->W5) (f:Fact):Yk w M f=vZ w M f (f.kids.map (Yk w M)):=Fact.Du (vZ w M) f
def Vq (a:List Fact) (Q:Fact->Prop): ∀b:List Fact,(∀x∈CL a b,Q x)↔(∀x∈a,Q x)/\ ∀x∈b,Q x:=by
 intro b
 induction b generalizing a with
 | nil=>simp[CL]
 | cons y r ih=>
   rw[CL,ih];split
   .rename_i h
    obtain⟨z,h1,h2⟩:=J0.1 h;have:=(NK y z).1 h2;subst this;simp only[List.forall_mem_cons];constructor
    .rintro⟨h3,h4⟩;exact⟨h3,h3 _ h1,h4⟩
    .rintro⟨h3,_,h4⟩;exact⟨h3,h4⟩
   .simp only[List.forall_mem_append,List.forall_mem_cons,List.forall_mem_nil]
    constructor
    .rintro⟨⟨h1,h2,_⟩,h3⟩;exact⟨h1,h2,h3⟩
    .rintro⟨h1,h2,h3⟩;exact⟨⟨h1,h2,fun _ h=>by cases h⟩,h3⟩
def Sp {w : AI} {M:Int->W5} (f:Fact):Bh w f=true-> ∀c,(∃l∈BG f c,∀x∈l,TB w M x)↔Yk w M f= !c:=by
 induction f using Fact.ind with
 | h f ih=>
   intro h c;have har:=Cr f h;have h':=h;rw[Cp,BD,E3]at h';rw[F1,FH,Xc,vZ];by_cases h1:f.op=1
   .rw[if_pos h1,if_pos h1]
    cases c<;>simp
   rw[if_neg h1,if_neg h1];by_cases h5:f.op=5
   .obtain⟨a,ha,hb⟩:=H5 har h5
    rw[if_pos h5,if_pos h5,ha];have:=ih a (by rw[ha];exact .head _) (h'.2 a (by rw[ha];exact .head _)) (!c);simp only[Ex,List.map_nil,List.getD_cons_zero];rw[this];cases Yk w M a<;>cases c<;>decide
   rw[if_neg h5,if_neg h5];by_cases h6:f.op=6\/f.op=7
   .obtain⟨a,b,ha,hb1,hb2⟩:=H4 har h6
    rw[if_pos h6,ha];have i1:=ih a (by rw[ha];exact .head _) (h'.2 a (by rw[ha];exact .head _)) c;have j1:=ih b (by rw[ha];exact .tail _ (.head _)) (h'.2 b (by rw[ha];exact .tail _ (.head _))) c;simp only[Ex,List.map_nil,List.getD_cons_zero,List.getD_cons_succ]
    have happ:(∃l∈BG a c++BG b c,∀x∈l,TB w M x)↔Yk w M a= !c\/Yk w M b= !c:=by
     rw[<-i1,<-j1];constructor
     .rintro⟨l,hl,hx⟩
      rcases E4.1 hl with hl|hl
      .exact .inl ⟨l,hl,hx⟩
      .exact .inr ⟨l,hl,hx⟩
     .rintro(⟨l,hl,hx⟩|⟨l,hl,hx⟩)
      .exact⟨l,RU _ hl,hx⟩
      .exact⟨l,RT _ hl,hx⟩
    have hprod:(∃l∈Da (BG a c) (BG b c),∀x∈l,TB w M x)↔Yk w M a= !c/\Yk w M b= !c:=by
     rw[<-i1,<-j1];simp only[Da,List.mem_flatMap,Mg];constructor
     .rintro⟨l,⟨y,hy,z,hz,rfl⟩,hx⟩
      rw[Vq]at hx;exact⟨⟨y,hy,hx.1⟩,z,hz,hx.2⟩
     .rintro⟨⟨y,hy,h1⟩,z,hz,h2⟩
      exact⟨_,⟨y,hy,z,hz,rfl⟩,(Vq y _ z).2 ⟨h1,h2⟩⟩
    rcases h6 with h6|h6
    .rw[if_pos h6,h6]
     cases c
     .rw[if_neg (by decide),hprod]
      simp
     .rw[if_pos (by decide),happ]
      simp only[Bool.not_true,Bool.and_eq_false_iff]
    .rw[if_neg (by omega: ¬f.op=6),if_pos h6,h6]
     cases c
     .rw[if_pos (by decide),happ]
      simp
     .rw[if_neg (by decide),hprod]
      simp only[Bool.not_true,Bool.or_eq_false_iff]
   .rw[if_neg h6,if_neg (fun e=>h6 (.inl e)),if_neg (fun e=>h6 (.inr e))]
    have e1:TB w M f↔Ub w (M f.arg) f.path f=true:=by rw[TB,Av,if_neg h5];exact Iff.rfl
    have e2:TB w M (FV f)↔Ub w (M f.arg) f.path f=false:=by
     rw[TB,show Av (FV f)=(f,true) from rfl];exact Iff.rfl
    cases c
    .simp[e1]
    .simp[e2]
def iE {w:AI} (hw:UZ w) {f:Fact} (hn:Bh w f=true):Q4 w f=true↔ ∃M:Int->W5,(∀a,LM w (M a))/\Yk w M f=true:=by
 rw[Q4,J0];constructor
 .rintro⟨l,h1,h2⟩
  obtain⟨M,h3,h4⟩:=(VT hw fun x hx=>Zb (Ec f hn false l h1 x hx)).1 h2;exact⟨M,h3,(Sp f hn false).1 ⟨l,h1,h4⟩⟩
 .rintro⟨M,h1,h2⟩
  obtain⟨l,h3,h4⟩:=(Sp f hn false).2 h2;exact⟨l,h3,(VT hw fun x hx=>Zb (Ec f hn false l h3 x hx)).2 ⟨M,h1,h4⟩⟩
def Pm {w:AI} (hw:UZ w) {a b:Fact} (ha:Bh w a=true) (hb:Bh w b=true):TF w a b=true↔ ∀M:Int->W5,(∀x,LM w (M x))->Yk w M a=true->Yk w M b=true:=by
 have he: ∀M,Yk w M (OS a (FV b))=(Yk w M a&& !Yk w M b):=fun M=>by
  rw[Xc];simp only[vZ,OS,Fact.op,Fact.kids,Ex,List.map_nil,List.getD_cons_zero,List.getD_cons_succ];rw[Xc w M (FV b)];simp[vZ,FV,Fact.op,Fact.kids]
 rw[TF,Bool.not_eq_true',<-Bool.not_eq_true,iE hw (Pd ha hb)];constructor
 .intro h M h1 h2
  rw[<-Bool.not_eq_false];exact fun h3=>h ⟨M,h1,by rw[he,h2,h3];rfl⟩
 .rintro h ⟨M,h1,h2⟩
  rw[he,BD]at h2;rw[h M h1 h2.1]at h2;simp at h2
def imp_trans {w:AI} (hw:UZ w) {a b c:Fact} (ha:Bh w a=true) (hb:Bh w b=true) (hc:Bh w c=true) (h1:TF w a b=true) (h2:TF w b c=true):TF w a c=true:=
 (Pm hw ha hc).2 fun M hM h=>(Pm hw hb hc).1 h2 M hM ((Pm hw ha hb).1 h1 M hM h)
end Go.Gl
namespace Go.Gl
open Go.Proofs
attribute [local irreducible] A3 Aq Af AR AJ Ad AQ AT AK Ac AM AN Ax A5 Sat AX A4 Ah W
def pA (g:FuncId) (fi ca:List V) (q:Int×Int->Bool):Prop:= ∀v,Pure zP g (fi++[.a (pI v)]++ca) (.b (q v))
def pA.use {g:FuncId} {fi ca:List V} {q:Int×Int->Bool} (h:pA g fi ca q) {v:Int×Int} {Z:AE} {k kp:V->AE->Prop} (hk:k (.b (q v)) Z):Ax zP (.f (.func g) fi ca) [.a (pI v)] Z (qk k kp):=By ((h v).use hk)
end Go.Gl
namespace Go.Gl
variable {P:Program} {Z:AE}
def A3.I4 {f:FuncId} {args args':List V} {Z Z2:AE} {Q:R->AE->Prop} (h:A3 P f args' Z2 Q) (hsub:Sub Z2 Z) (hf:DA Z Z2 args args'):A3 P f args Z Q:=by
 refine⟨h.1,fun F w cs hR hv=>?_⟩;exact Calls.mono (h.2 F w cs (hR.drop hsub) ⟨by rw[hf.length];exact hv.1,hf.rel hR hsub (fun _ _ e=>e) hv.2⟩) fun e w' ⟨r,Z',hr,h1,h2,h3⟩=>⟨r,Z',hr,h1,h2,(Bu.drop w hsub).trans h3⟩
def Pure.arg {f:FuncId} {args args':List V} {v:V} (h:Pure P f args' v) (hf:DA emp emp args args'):Pure P f args v:=A3.I4 h (Sub.refl _) hf
def Own.pv {v:V} {sz:Nat} {es es':List (List V)} (h:Own Z v sz es) (hR:D7 Z emp es es'):Ez Z emp v (.l es' false):=by
 rcases h with⟨rfl,_⟩|⟨n,cap,rfl,hn⟩
 .exact .l (fun h=>(by cases h)) hR
 .exact .arr hn rfl rfl hR
inductive bE (Z Z':AE):Env->Env->Prop
 | nil:bE Z Z' [] []
 | cons {k:Nat} {v v':V} {e e':Env}:Ez Z Z' v v'->bE Z Z' e e'->bE Z Z' ((k,v)::e) ((k,v')::e')
def bE.efz {Z Z':AE} {e e':Env} (h:bE Z Z' e e'):yS Z Z' e e':=by
 induction h with
 | nil=>intro j v2 hv;cases hv
 | cons h1 h2 ih=>
   rename_i k v v' e e';intro j v2 hv;simp only[get]at hv ⊢;cases hb:Nat.beq k j with
   | true=>
     rw[hb]at hv;simp only[cond_true,Hl]at hv ⊢;subst hv;exact⟨v,rfl,h1⟩
   | false=>
     rw[hb]at hv;simp only[cond_false]at hv ⊢;exact ih j v2 hv
def JR {env:Env} {K:Env->AE->Prop} (h:K env Z):Fz env Z K:= .inl h
def Nv {env env2:Env} {K:Env->AE->Prop} {l:List At} (hs:Sat Z l) (i:Nat) {v:V} {sz:Nat} {es:List (List V)} (hi:l[i]? =some (.own v sz es))
    (he: ∀Z2,Ez Z Z2 v (.l es false)->bE Z Z2 env env2) (hk: ∀Z2,Sat Z2 (l.eraseIdx i)->K env2 Z2):Fz env Z K:=by
 obtain⟨Z2,h1,h2,h3⟩:=IZ hs i hi;exact .inr ⟨env2,Z2,⟨fun n o2 ho=> .inl (h1 n o2 ho)⟩,(he Z2 h2).efz,hk Z2 h3⟩
def JQ {l:List Nat} {a b:AV} {Q:Aa->Env->AE->Prop} {env:Env} (h: ∀K:Env->AE->Prop,(∀env Z,(pk l env fun E=>Fz E Z (W P b Q))->K env Z)->W P a (Aa.andThen K Q) env Z):W P (.seq l a b) Q env Z:=vN h
end Go.Gl
namespace Go.Gl
open Go.Proofs
attribute [local irreducible] A3 Aq Af AR AJ Ad AQ AT AK Ac AM AN Ax A5 Sat AX A4 Ah W
end Go.Gl
namespace Go.Gl
open Go.Proofs
end Go.Gl
namespace Go.Gl
open Go.Proofs
attribute [local irreducible] A3 Aq Af AR AJ Ad AQ AT AK Ac AM AN Ax A5 Sat AX A4 Ah W
def pB (g:FuncId) (fi ca:List V) (q:Ob->Bool):Prop:= ∀v,Pure zP g (fi++[.a (eOb v)]++ca) (.b (q v))
def pB.use {g:FuncId} {fi ca:List V} {q:Ob->Bool} (h:pB g fi ca q) {v:Ob} {Z:AE} {k kp:V->AE->Prop} (hk:k (.b (q v)) Z):Ax zP (.f (.func g) fi ca) [.a (eOb v)] Z (qk k kp):=By ((h v).use hk)
end Go.Gl
namespace Go.Gl
open Go.Proofs
def vC {Z:AE} {l:List At} {i:Nat} {v:V} {sz:Nat} {es:List (List V)} (hs:Sat Z l) (hi:l[i]? =some (.own v sz es)) (he: ∀e∈es,e.length=sz) {K:V->AE->Prop} (hk: ∀v' Z',Sat Z' (l.set i (.own v' sz es))->((Be v').isSome=true\/(v'= .l es true/\v= .l es true))->K v' Z'):AQ Z sz v none (some (.i .i64 (es.length:Int))) (some (.i .i64 (es.length:Int))) K:=by
 rcases hs.get hi with⟨rfl,_⟩|⟨n,cap,rfl,hn⟩
 .refine⟨he,?_⟩
  simp only[OL];refine⟨Int.le_refl _,Int.natCast_nonneg _,Int.le_refl _,trivial,?_⟩
  have hset:l.set i (.own (.l es true) sz es)=l:=by
   refine List.ext_getElem? fun j=>?_
   by_cases hj:i=j
   .subst hj
    rw[List.getElem?_set_self (IN.1 hi).1,hi]
   .rw[List.getElem?_set_ne hj]
  have:=hk (.l es true) Z (by rw[hset];exact hs) (.inr ⟨rfl,rfl⟩);simpa using this
 .unfold AQ
  simp only[OL];refine⟨Int.le_refl _,Int.natCast_nonneg _,Int.le_refl _,trivial,trivial,trivial,?_⟩;rw[hn];refine⟨rfl,rfl,rfl,.inr (hk _ _ ?_ (.inl rfl))⟩;refine hs.change hi (fun b hb ha=>E6 hb fun m hm=>?_) (fun b hb ha m hm=>?_) (.inr ⟨n,es.length,rfl,C2 _ _ _⟩)
  .rw[CY]
   intro e;subst e;exact ha m rfl hm
  .cases hm
   exact ha _ rfl
attribute [local irreducible] A3 Aq Af AR AJ Ad AQ AT AK Ac AM AN Ax A5 Sat AX A4 Ah W
def nR (xs:List Int) (v:V) (hl:xs.length<=AY) (hv:(Be v).isSome=true\/(v= .l [] true/\xs= [])):Bc zP 231 [v] [.own v 1 (iL xs)] fun r post=> ∃v',r= .ret v'/\post= [.own v' 1 (iL xs)]/\((Be v').isSome=true\/(v'= .l [] true/\xs= [])):=by
 intro Z hs;have hg:=C4 BZ xs;refine fu kZ ?_;refine zz ?_;(repeat clear U K);repeat intro K U
 refine vC (i:=0) hs rfl hg.1 fun v' Z hs hv'=>?_
 refine zz ?_;(repeat clear U K);repeat intro K U
 refine Ak hs (List.Sublist.refl _) (.refl _) fun Z' hs'=>⟨_,⟨v',rfl,rfl,?_⟩,hs'⟩
 rcases hv' with h|⟨h1,h2⟩
 .exact .inl h
 .rcases hv with h|⟨h3,h4⟩
  .rw[h2]at h;cases h
  .subst h4
   exact .inr ⟨h1,rfl⟩
def U5 (xs ys:List Int) (k:Nat):Prop:=ys.length=xs.length/\ ∀t,t<xs.length->ys[t]? =if t<k\/xs.length - k<=t then xs[xs.length - 1 - t]? else xs[t]?
def rN (xs:List Int):U5 xs xs 0:=⟨rfl,fun t ht=>by rw[if_neg (by omega)]⟩
def iv {xs ys:List Int} {k:Nat} (h:U5 xs ys k) (hk:xs.length<=2*k+1):ys=xs.reverse:=by
 refine List.ext_getElem? fun t=>?_
 rcases Nat.lt_or_ge t xs.length with ht|ht
 .rw[h.2 t ht,List.getElem?_reverse ht]
  split
  .rfl
  .congr 1;omega
 .rw[List.getElem?_eq_none (by rw[h.1];exact ht),List.getElem?_eq_none (by rw[List.length_reverse];exact ht)]
def cJ {xs ys:List Int} {k:Nat} {a b:Int} (h:U5 xs ys k) (hk:2*k+1<xs.length) (ha:ys[k]? =some a) (hb:ys[xs.length - 1 - k]? =some b):U5 xs ((ys.set k b).set (xs.length - 1 - k) a) (k+1):=by
 have h1:=h.2 k (by omega);have h2:=h.2 (xs.length - 1 - k) (by omega);rw[if_neg (by omega),ha]at h1;rw[if_neg (by omega),hb]at h2;refine⟨by rw[List.length_set,List.length_set];exact h.1,fun t ht=>?_⟩;have hl:=h.1;by_cases e1:t=xs.length - 1 - k
 .subst e1
  rw[List.getElem?_set_self (by rw[List.length_set];omega),if_pos (by omega),show xs.length - 1 - (xs.length - 1 - k)=k by omega,h1]
 .rw[List.getElem?_set_ne (fun e=>e1 e.symm)]
  by_cases e2:t=k
  .subst e2
   rw[List.getElem?_set_self (by omega),if_pos (by omega),h2]
  .rw[List.getElem?_set_ne (fun e=>e2 e.symm),h.2 t ht]
   by_cases e3:t<k\/xs.length - k<=t
   .rw[if_pos e3,if_pos (by omega)]
   .rw[if_neg e3,if_neg (by omega)]
end Go.Gl
