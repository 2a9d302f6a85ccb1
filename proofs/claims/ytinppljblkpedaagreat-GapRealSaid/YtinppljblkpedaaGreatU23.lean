import Derived.Test.YtinppljblkpedaaGreatU20
import Derived.Test.YtinppljblkpedaaGreatU22
set_option linter.all false
set_option linter.defProp false
set_option maxHeartbeats 8000000
noncomputable section
namespace Go.Gl
open Go.Proofs
inductive Er where
 | int (n:Int)
 | Gi
 | obj (C:Nat->Bool) (kid:Int->Er)
def E0 (w:AF):Er->Prop
 | .int n=> -1000000000<=n/\n<=1000000000
 | .Gi=>True
 | .obj C kid=>(∀c,3<=c->C c=true-> ∀q∈par w.parents c,C q.toNat=true)/\ ∀s,E0 w (kid s)
def Cg (t:Er) (f:Fact):Bool:=match t with
 | .int n=>if f.op=2 then !decide (f.cls > 1)else if f.op=3 then decide (n<f.n)else decide (n=f.n)
 | .Gi=>f.op==2&&(f.cls==0||f.cls==2)
 | .obj C _=>f.op==2&&(f.cls==0||(decide (3<=f.cls)&&C f.cls.toNat))
def Ir (w:AF):Er->List Int->Fact->Bool
 | t,[],f=>Cg t f
 | .obj C kid,s::r,f=>C (BG w s).toNat&&Ir w (kid s) r f
 | _,_::_,_=>false
structure CQ (w:AF) (l:Fact):Prop where
 op:(Ad l).1.op=2\/(Ad l).1.op=3\/(Ad l).1.op=4
 cls:(Ad l).1.op=2->0<=(Ad l).1.cls/\(Ad l).1.cls<3+w.parents.length
 arg:0<=(Ad l).1.arg/\(Ad l).1.arg<3
 path: ∀s∈(Ad l).1.path,(0:Int)<=s/\s<w.owner.length
 short:(Ad l).1.path.length<=2
def EB {w:AF} {l:Fact} (h:DS w l):CQ w l:=by
 obtain⟨-,hn,hl⟩:=IN h;have hlo:=Fw hl;have q:=Mv (w:=w) (l:=[l]) (fun x hx=>by rw[Jf.1 hx];exact h);rw[BS,A4]at hn;have hn:=hn.1;simp only[CE,A4,B7]at hn;obtain⟨ho,-,ha1,ha2,hp,-⟩:=hn;simp only[EH,A4,Cu,IA,B7]at hp;exact⟨hlo,q.2.1 l (.head _),⟨ha1,ha2⟩,fun s hs=>hp.1 s hs,hp.2⟩
def qe (t:Int×Int×List Int) (m:Int):Prop:=t.1<=m/\m<=t.2.1/\m∉t.2.2
def cw {w:AF} {l:Fact} (hl:CQ w l) (t:Int×Int×List Int) (m:Int):(∃t',VX (Ad l) t=some t'/\qe t' m)↔qe t m/\Cg (.int m) (Ad l).1= !(Ad l).2:=by
 have h1:=hl.op;generalize Ad l=x at *;obtain⟨f,b⟩:=x;obtain⟨lo,hi,no⟩:=t;simp only[VX,qe,Cg]at *;rcases h1 with h|h|h
 .rw[if_pos h,if_pos h]
  by_cases hc:f.cls > 1<;>cases b<;>simp[hc]
 .have h2: ¬f.op=2:=by omega
  rw[if_neg h2,if_pos h,if_neg h2,if_pos h];cases b
  .simp only[JX,if_false,Gh,exists_eq_left',Bool.not_false,B7]
   split<;>constructor<;>rintro⟨h3,h4⟩
   .exact⟨⟨h3,by omega,h4.2⟩,by omega⟩
   .exact⟨h3.1,by omega,h3.2.2⟩
   .exact⟨⟨h3,h4⟩,by omega⟩
   .exact h3
  .simp only[if_true,Gh,exists_eq_left',Bool.not_true,decide_eq_false_iff_not]
   split<;>constructor<;>rintro⟨h3,h4⟩
   .exact⟨⟨by omega,h4⟩,by omega⟩
   .exact⟨by omega,h3.2⟩
   .exact⟨⟨h3,h4⟩,by omega⟩
   .exact h3
 .have h2: ¬f.op=2:=by omega
  have h3: ¬f.op=3:=by omega
  rw[if_neg h2,if_neg h3,if_neg h2,if_neg h3];cases b
  .simp only[JX,if_false,Gh,exists_eq_left',Bool.not_false,B7]
   constructor
   .rintro⟨h3,h4,h5⟩
    split at h3<;>split at h4<;>exact⟨⟨by omega,by omega,h5⟩,by omega⟩
   .rintro⟨⟨h3,h4,h5⟩,rfl⟩
    refine⟨?_,?_,h5⟩
    .split<;>omega
    .split<;>omega
  .simp only[if_true,Gh,exists_eq_left',Bool.not_true,decide_eq_false_iff_not,Dn,Jf,not_or]
   constructor
   .rintro⟨h3,h4,h5,h6⟩
    exact⟨⟨h3,h4,h5⟩,h6⟩
   .rintro⟨⟨h3,h4,h5⟩,h6⟩
    exact⟨h3,h4,h5,h6⟩
def Ik {w:AF} (m:Int): ∀(os:List Fact) (t:Int×Int×List Int),(∀l∈os,CQ w l)->((∃t',foldI os t=some t'/\qe t' m)↔qe t m/\ ∀l∈os,Cg (.int m) (Ad l).1= !(Ad l).2)
 | [],t,_=>by simp[foldI]
 | x ::r,t,h=>by
   have h1:=cw (h x (.head _)) t m;constructor
   .rintro⟨t',h2,h3⟩
    rw[foldI,Option.bind_eq_some_iff]at h2;obtain⟨u,h4,h5⟩:=h2;obtain⟨h6,h7⟩:=(Ik m r u fun l hl=>h l (.tail _ hl)).1 ⟨t',h5,h3⟩;obtain⟨h8,h9⟩:=h1.1 ⟨u,h4,h6⟩;refine⟨h8,fun l hl=>?_⟩;rcases Ep.1 hl with rfl|hl
    .exact h9
    .exact h7 l hl
   .rintro⟨h2,h3⟩
    obtain⟨u,h4,h5⟩:=h1.2 ⟨h2,h3 x (.head _)⟩;obtain⟨t',h6,h7⟩:=(Ik m r u fun l hl=>h l (.tail _ hl)).2 ⟨h5,fun l hl=>h3 l (.tail _ hl)⟩;exact⟨t',by rw[foldI,h4];exact h6,h7⟩
def Sc (t:Int×Int×List Int):(VY t).isSome=true↔ ∃m,qe t m:=by
 obtain⟨lo,hi,no⟩:=t;rw[VY,Nu];constructor
 .rintro⟨j,h1,h2⟩
  exact⟨lo+j,by simp only[qe]at *;omega,by simp only[]at *;omega,h2⟩
 .rintro⟨m,h1,h2,h3⟩
  dsimp only at h1 h2 h3 ⊢;exact⟨(m - lo).toNat,by omega,by rw[show lo+((m - lo).toNat:Int)=m by omega];exact h3⟩
def Dl {a:Int} {p:List Int} {l:Fact}:Iq a p l=true↔(Ad l).1.arg=a/\(Ad l).1.path=p:=by
 rw[Iq,A4,CF,CF]
def lP {w:AF} {ls:List Fact} (hl: ∀l∈ls,CQ w l) (a:Int) (p:List Int):(NY ls a p).isSome=true↔ ∃m,(-1000000000<=m/\m<=1000000000)/\ ∀l∈ls,(Ad l).1.arg=a->(Ad l).1.path=p->Cg (.int m) (Ad l).1= !(Ad l).2:=by
 have hL: ∀l∈ls.filter (Iq a p),CQ w l:=fun l h=>hl l (HD.1 h).1
 rw[NY];constructor
 .intro h
  cases hf:foldI (ls.filter (Iq a p)) t0 with
  | none=>rw[hf]at h;cases h
  | some t=>
    rw[hf]at h;obtain⟨m,hm⟩:=(Sc t).1 h;obtain⟨h1,h2⟩:=(Ik m _ t0 hL).1 ⟨t,hf,hm⟩;exact⟨m,⟨h1.1,h1.2.1⟩,fun l h3 h4 h5=>h2 l (HD.2 ⟨h3,Dl.2 ⟨h4,h5⟩⟩)⟩
 .rintro⟨m,h1,h2⟩
  obtain⟨t,h3,h4⟩:=(Ik m (ls.filter (Iq a p)) t0 hL).2 ⟨⟨h1.1,h1.2,by simp[t0]⟩,fun l h=>by
   obtain⟨h5,h6⟩:=HD.1 h
   exact h2 l h5 (Dl.1 h6).1 (Dl.1 h6).2⟩
  rw[h3];exact(Sc t).2 ⟨m,h4⟩
def D5 {ls:List Fact} {a:Int} {p:List Int}:Eu ls a p=true↔ ∀l∈ls,(Ad l).1.arg=a-> ∀q,(Ad l).1.path=p++q->(Ad l).2=true:=by
 rw[Eu,Cu];constructor
 .intro h l hl ha q hq
  have:=h l hl;rw[EW]at this;rcases this with h1|h1
  .exact h1
  .rw[ha,hq]at h1
   have h2:Bn (p++q) p=true:=B1.2 ⟨q,rfl⟩;simp[h2]at h1
 .intro h l hl
  rw[EW];by_cases h1:(Ad l).1.arg=a/\Bn (Ad l).1.path p=true
  .obtain⟨q,hq⟩:=B1.1 h1.2
   exact .inl (h l hl h1.1 q hq)
  .right
   simp only[Bool.not_eq_true',Bool.and_eq_false_iff,beq_eq_false_iff_ne];rcases Classical.em ((Ad l).1.arg=a)with e|e
   .exact .inr (by simpa[e]using h1)
   .exact .inl e
def IX {w:AF} {ls:List Fact} (hl: ∀l∈ls,CQ w l) {a:Int} {p:List Int} {s:Int}:s∈CN w.owner.length ls a p↔ ∃l∈ls,(Ad l).1.arg=a/\ ∃q,(Ad l).1.path=p++s::q:=by
 rw[CN,HD,GY,BW];constructor
 .rintro⟨-,l,h1,h2⟩
  rw[qb,A4,CF]at h2;obtain⟨q,hq⟩:=B1.1 h2.2;exact⟨l,h1,h2.1,q,by rw[hq];simp⟩
 .rintro⟨l,h1,h2,q,hq⟩
  refine⟨(hl l h1).path s (by rw[hq];simp),l,h1,?_⟩;rw[qb,A4,CF];exact⟨h2,B1.2 ⟨q,by rw[hq];simp⟩⟩
def Qk {w:AF} {ls:List Fact} (hl: ∀l∈ls,CQ w l) {a:Int} {p:List Int}:HV w.owner.length ls a p=true↔ ∀l∈ls,(Ad l).1.arg=a-> ∀s q,(Ad l).1.path=p++s::q->(Ad l).2=true:=by
 rw[HV,Cu];constructor
 .intro h l h1 h2 s q hq
  exact D5.1 (h s ((IX hl).2 ⟨l,h1,h2,q,hq⟩)) l h1 h2 q (by rw[hq];simp)
 .intro h s _
  exact D5.2 fun l h1 h2 q hq=>h l h1 h2 s q (by rw[hq];simp)
def Fh {w:AF} (hw:Fu w) {s:Int} (h:0<=s/\s<(w.owner.length:Int)):3<=BG w s/\BG w s<3+w.parents.length:=by
 have hs:s.toNat<w.owner.length:=by omega
 have:BG w s=w.owner[s.toNat]:=by rw[BG,Cq,Cd hs];rfl
 rw[this];exact hw.own _ (List.getElem_mem hs)
def qd (t:BB) (C:Nat->Bool):Prop:=(∀c,t.1.getD c false=true->c=0\/C c=true)/\ ∀c,t.2.getD c false=true->c≠0/\C c=false
def Ti (t t':BB):Prop:=t.1.length=t'.1.length/\t.2.length=t'.2.length/\(∀c,t.1.getD c false=true->t'.1.getD c false=true)/\ ∀c,t.2.getD c false=true->t'.2.getD c false=true
def Ti.m7 {t:BB}:Ti t t:=⟨rfl,rfl,fun _ h=>h,fun _ h=>h⟩
def Ti.trans {t u v:BB} (h:Ti t u) (k:Ti u v):Ti t v:=⟨h.1.trans k.1,h.2.1.trans k.2.1,fun c hc=>k.2.2.1 c (h.2.2.1 c hc),fun c hc=>k.2.2.2 c (h.2.2.2 c hc)⟩
def Mn {l:List Bool} {c b:Nat} (h:(l.set c true).getD b false=true):l.getD b false=true\/b=c:=by
 by_cases e:b=c
 .exact .inr e
 .rw[Cq,List.getElem?_set_ne (fun h=>e h.symm),<-Cq]at h
  exact .inl h
def Mp {l:List Bool} {c b:Nat} (h:l.getD b false=true):(l.set c true).getD b false=true:=by
 by_cases e:c<l.length
 .rw[FK e]
  split
  .rfl
  .exact h
 .rw[List.set_eq_of_length_le (by omega)];exact h
def Mo {l:List Bool} {c:Nat} (h:c<l.length):(l.set c true).getD c false=true:=by
 rw[FK h,if_pos rfl]
def Ti.set1 {t:BB} (c:Nat):Ti t (t.1.set c true,t.2):=⟨by simp,rfl,fun _ h=>Mp h,fun _ h=>h⟩
def Ti.set2 {t:BB} (c:Nat):Ti t (t.1,t.2.set c true):=⟨rfl,by simp,fun _ h=>h,fun _ h=>Mp h⟩
def YD (t:BB) (f:Fact) (b:Bool):Prop:=if f.op≠2\/f.cls=1\/f.cls=2 then b=true else if b then t.2.getD f.cls.toNat false=true else t.1.getD f.cls.toNat false=true
def TO {t t':BB} (h:Ti t t') {f:Fact} {b:Bool} (k:YD t f b):YD t' f b:=by
 unfold YD at *;split
 .rename_i h1;rw[if_pos h1]at k;exact k
 .rename_i h1;rw[if_neg h1]at k
  split
  .rename_i h2;rw[if_pos h2]at k;exact h.2.2.2 _ k
  .rename_i h2;rw[if_neg h2]at k;exact h.2.2.1 _ k
def j9 {w:AF} {l:Fact} (hl:CQ w l) {t t':BB} (hn:t.1.length=3+w.parents.length/\t.2.length=3+w.parents.length) (h:OJ (Ad l) t=some t'):Ti t t'/\YD t' (Ad l).1 (Ad l).2:=by
 have hc:=hl.cls;generalize Ad l=x at *;obtain⟨f,b⟩:=x;simp only[OJ,YD]at *;split at h
 .rename_i h1
  rw[if_pos h1];cases b
  .cases h
  .obtain rfl:=Option.some.inj h
   exact⟨Ti.m7,rfl⟩
 .rename_i h1
  rw[if_neg h1]
  have h2:f.op=2:=by
   rcases Classical.em (f.op=2)with e|e
   .exact e
   .exact absurd (Or.inl e) h1
  have:=hc h2;cases b
  .obtain rfl:=Option.some.inj h
   exact⟨.set1 _,by rw[if_neg (by decide)];exact Mo (by omega)⟩
  .obtain rfl:=Option.some.inj h
   exact⟨.set2 _,by rw[if_pos rfl];exact Mo (by omega)⟩
def cr {w:AF} {l:Fact} (hl:CQ w l) {t:BB} {C:Nat->Bool} {kid:Int->Er} (hi:qd t C) (h:Cg (.obj C kid) (Ad l).1= !(Ad l).2): ∃t',OJ (Ad l) t=some t'/\qd t' C:=by
 have hc:=hl.cls;generalize Ad l=x at *;obtain⟨f,b⟩:=x;simp only[OJ,Cg]at *;by_cases h1:f.op≠2\/f.cls=1\/f.cls=2
 .rw[if_pos h1]
  have h2:(f.op==2&&(f.cls==0||(decide (3<=f.cls)&&C f.cls.toNat)))=false:=by
   rcases h1 with h1|h1|h1
   .simp[h1]
   .simp[h1]
   .simp[h1]
  rw[h2]at h;cases b
  .cases h
  .exact⟨t,rfl,hi⟩
 .rw [if_neg h1]
  have h2:f.op=2:=by
   rcases Classical.em (f.op=2)with e|e
   .exact e
   .exact absurd (Or.inl e) h1
  have hr:=hc h2;have h3:f.cls≠1/\f.cls≠2:=⟨fun e=>h1 (.inr (.inl e)),fun e=>h1 (.inr (.inr e))⟩
  have h4:(f.op==2&&(f.cls==0||(decide (3<=f.cls)&&C f.cls.toNat)))=(decide (f.cls=0)||C f.cls.toNat):=by
   rw[h2];rcases Classical.em (f.cls=0)with e|e
   .simp[e]
   .have:3<=f.cls:=by omega
    simp[e,this]
  rw[h4]at h;cases b
  .refine⟨_,rfl,fun c hh=>?_,hi.2⟩
   rcases Mn hh with hh|rfl
   .exact hi.1 c hh
   .simp only[Bool.not_false,EW,B7]at h
    rcases h with h|h
    .exact .inl (by omega)
    .exact .inr h
  .refine⟨_,rfl,hi.1,fun c hh=>?_⟩
   rcases Mn hh with hh|rfl
   .exact hi.2 c hh
   .simp only[Bool.not_true,Bool.or_eq_false_iff,decide_eq_false_iff_not]at h
    exact⟨by omega,h.2⟩
def Qi {w:AF}: ∀(os:List Fact) {t t':BB},(∀l∈os,CQ w l)->(t.1.length=3+w.parents.length/\t.2.length=3+w.parents.length)->LN os t=some t'->Ti t t'/\ ∀l∈os,YD t' (Ad l).1 (Ad l).2
 | [],t,t',_,_,h=>by
   obtain rfl:=Option.some.inj h;exact⟨Ti.m7,fun l hl=>by cases hl⟩
 | x::r,t,t',hl,hn,h=>by
   rw[LN,Option.bind_eq_some_iff]at h;obtain⟨u,h1,h2⟩:=h;obtain⟨h3,h4⟩:=j9 (hl x (.head _)) hn h1;obtain⟨h5,h6⟩:=Qi r (fun l h=>hl l (.tail _ h)) ⟨by rw[<-h3.1];exact hn.1,by rw[<-h3.2.1];exact hn.2⟩ h2;refine⟨h3.trans h5,fun l h=>?_⟩;rcases Ep.1 h with rfl|h
   .exact TO h5 h4
   .exact h6 l h
def TB {w:AF} {C:Nat->Bool} {kid:Int->Er}: ∀(os:List Fact) {t:BB},(∀l∈os,CQ w l)->qd t C->(∀l∈os,Cg (.obj C kid) (Ad l).1= !(Ad l).2)-> ∃t',LN os t=some t'/\qd t' C
 | [],t,_,hi,_=>⟨t,rfl,hi⟩
 | x::r,t,hl,hi,h=>by
   obtain⟨u,h1,h2⟩:=cr (hl x (.head _)) hi (h x (.head _));obtain⟨t',h3,h4⟩:=TB r (fun l h=>hl l (.tail _ h)) h2 fun l hh=>h l (.tail _ hh)
   exact⟨t',by rw[LN,h1];exact h3,h4⟩
def sQ (w:AF) (ls:List Fact) (a:Int) (p:List Int) (can:Int->Bool) (s:Int) (t:BB):Prop:=
 (Eu ls a (p++[s])=false->t.1.getD (BG w s).toNat false=true/\can s=true)/\(can s=false->t.2.getD (BG w s).toNat false=true)
def Qh {w:AF} (hw:Fu w) {ls:List Fact} {a:Int} {p:List Int} {can:Int->Bool}: ∀(sl:List Int) {t t':BB},(∀s∈sl,0<=s/\s<(w.owner.length:Int))->(t.1.length=3+w.parents.length/\t.2.length=3+w.parents.length)->LM w ls a p can sl t=some t'->Ti t t'/\ ∀s∈sl,sQ w ls a p can s t'
 | [],t,t',_,_,h=>by
   obtain rfl:=Option.some.inj h;exact⟨Ti.m7,fun l hl=>by cases hl⟩
 | s ::r,t,t',hs,hn,h=>by
   rw[LM,Option.bind_eq_some_iff]at h;obtain⟨u,h1,h2⟩:=h;have ho:=Fh hw (hs s (.head _))
   have h3:Ti t u/\sQ w ls a p can s u:=by
    rw[VW]at h1;split at h1
    .cases h1
    .rename_i hne
     obtain rfl:=Option.some.inj h1;simp only[sQ];cases hb:Eu ls a (p++[s])<;>cases hc:can s
     .simp[hb,hc]at hne
     .exact⟨⟨by simp,rfl,fun c h=>Mp h,fun c h=>h⟩,fun _=>⟨Mo (by omega),rfl⟩,fun h=>(by cases h)⟩
     .exact⟨⟨rfl,by simp,fun c h=>h,fun c h=>Mp h⟩,fun h=>(by cases h),fun _=>Mo (by omega)⟩
     .exact⟨Ti.m7,fun h=>(by cases h),fun h=>(by cases h)⟩
   obtain⟨h5,h6⟩:=Qh hw r (fun l h=>hs l (.tail _ h)) ⟨by rw[<-h3.1.1];exact hn.1,by rw[<-h3.1.2.1];exact hn.2⟩ h2;refine⟨h3.1.trans h5,fun l h=>?_⟩;rcases Ep.1 h with rfl|h
   .exact⟨fun hb=>⟨h5.2.2.1 _ (h3.2.1 hb).1,(h3.2.1 hb).2⟩,fun hc=>h5.2.2.2 _ (h3.2.2 hc)⟩
   .exact h6 l h
def TA {w : AF} (hw:Fu w) {ls:List Fact} {a:Int} {p:List Int} {can:Int->Bool} {C:Nat->Bool}: ∀(sl:List Int) {t:BB},(∀s∈sl,0<=s/\s<(w.owner.length:Int))->qd t C->
    (∀s∈sl,(Eu ls a (p++[s])=false->C (BG w s).toNat=true)/\(C (BG w s).toNat=true->can s=true))-> ∃t',LM w ls a p can sl t=some t'/\qd t' C
 | [],t,_,hi,_=>⟨t,rfl,hi⟩
 | s :: r, t,hs,hi,h=>by
   have ho:=Fh hw (hs s (.head _));obtain⟨k1,k2⟩:=h s (.head _)
   have h1 : ∃u,VW w ls a p can s t=some u/\qd u C:=by
    rw[VW];cases hb:Eu ls a (p++[s])
    .rw[k2 (k1 hb)]
     refine⟨_,rfl,fun c hh=>?_,hi.2⟩;rcases Mn hh with hh|rfl
     .exact hi.1 c hh
     .exact .inr (k1 hb)
    .cases hc:can s
     .refine⟨_,rfl,hi.1,fun c hh=>?_⟩
      rcases Mn hh with hh|rfl
      .exact hi.2 c hh
      .refine⟨by omega,?_⟩
       rw[<-Bool.not_eq_true];intro e;rw[k2 e]at hc;cases hc
     .exact⟨_,rfl,hi⟩
   obtain⟨u,h2,h3⟩:=h1;obtain⟨t',h4,h5⟩:=TA hw r (fun l h=>hs l (.tail _ h)) h3 fun l hh=>h l (.tail _ hh)
   exact⟨t',by rw[LM,h2];exact h4,h5⟩
def oP {w:AF} {C:Nat->Bool}:qd (tO w) C:=by
 have: ∀c,(List.replicate (3+w.parents.length) false).getD c false=false:=fun c=>by
  rw[Cq];cases h:(List.replicate (3+w.parents.length) false)[c]? with
  | none=>rfl
  | some b=>rw[List.eq_of_mem_replicate (B6 h)];rfl
 exact⟨fun c h=>absurd ((this c).symm.trans h) (by decide),fun c h=>absurd ((this c).symm.trans h) (by decide)⟩
def OA {g:List (List Int)} (ho:ordered g) {C:Nat->Bool} (hC: ∀c,3<=c->C c=true-> ∀q∈par g c,C q.toNat=true): ∀d b:Nat,3<=d->C d=true->FQ g d b=true->C b=true:=by
 intro d
 induction d using Nat.strongRecOn with
 | _ d ih=>
   intro b h3 hd h;rw[DM ho]at h;simp only[EW,CF,GY]at h;rcases h with rfl|⟨p,hp,h⟩
   .exact hd
   .have:=ho d p hp
    exact ih p.toNat (by omega) b (by omega) (hC d h3 hd p hp) h
def ky {w : AF} (hw : Fu w) {ls:List Fact} (hl: ∀l∈ls,CQ w l) {a:Int} {p:List Int} {can:Int->Bool} {T:Int->Er->Prop} (hcan: ∀s,s∈CN w.owner.length ls a p->(can s=true↔ ∃t,E0 w t/\T s t))
    (hT: ∀s t,T s t↔ ∀l∈ls,(Ad l).1.arg=a-> ∀q,(Ad l).1.path=p++s::q->Ir w t q (Ad l).1= !(Ad l).2) :
    (VH w ls a p can).isSome=true↔ ∃C kid,E0 w (.obj C kid)/\ ∀l∈ls,(Ad l).1.arg=a-> ∀q,(Ad l).1.path=p++q->Ir w (.obj C kid) q (Ad l).1= !(Ad l).2:=by
 have hL: ∀l∈ls.filter (Iq a p),CQ w l:=fun l h=>hl l (HD.1 h).1
 have hS: ∀s∈CN w.owner.length ls a p,0<=s/\s<(w.owner.length:Int):=fun s h=>IY h
 have hn0:(tO w).1.length=3+w.parents.length/\(tO w).2.length=3+w.parents.length:=by simp[tO]
 constructor
 .intro h
  rw[VH]at h;cases h1:LN (ls.filter (Iq a p)) (tO w)with
  | none=>rw[h1]at h;cases h
  | some t=>
    rw[h1,Option.bind_some]at h;obtain⟨g1,g2⟩:=Qi _ hL hn0 h1;have hn1:t.1.length=3+w.parents.length/\t.2.length=3+w.parents.length:=⟨by rw[<-g1.1];exact hn0.1,by rw[<-g1.2.1];exact hn0.2⟩
    cases h2:LM w ls a p can (CN w.owner.length ls a p) t with
    | none=>rw[h2]at h;cases h
    | some u=>
      rw[h2,Option.bind_some,fm]at h;obtain⟨g3,g4⟩:=Qh hw _ hS hn1 h2;have hn2:u.1.length=3+w.parents.length/\u.2.length=3+w.parents.length:=⟨by rw[<-g3.1];exact hn1.1,by rw[<-g3.2.1];exact hn1.2⟩
      split at h
      .cases h
      .rename_i h0
       split at h
       .cases h
       .rename_i h3
        clear h;have hSl:(u.1.set 0 false).length=3+w.parents.length:=by simpa using hn2.1
        generalize hSd:C0 w.parents (3+w.parents.length) w.parents.length (u.1.set 0 false)=S at *
        have hin: ∀c,3<=c->u.1.getD c false=true->S.getD c false=true:=fun c hc h=>by
         rw[<-hSd];refine KO hw.ord hSl _ _ ?_;rw[Cq,List.getElem?_set_ne (by omega),<-Cq];exact h
        have hdis: ∀c,S.getD c false=true->u.2.getD c false=true->False:=fun c k1 k2=>by
         have hc:c<3+w.parents.length:=by
          rcases Nat.lt_or_ge c (3+w.parents.length)with h|h
          .exact h
          .rw[Cq,List.getElem?_eq_none (by omega)]at k2
           cases k2
         refine h3 (GY.2 ⟨c,List.mem_range.2 hc,?_⟩);rw[k1,k2];rfl
        have hkid: ∀s,∃t,E0 w t/\((∃t,E0 w t/\T s t)->T s t):=fun s=>by
         rcases Classical.em (∃t,E0 w t/\T s t)with⟨t,k1,k2⟩|k
         .exact⟨t,k1,fun _=>k2⟩
         .exact⟨.Gi,trivial,fun h=>absurd h k⟩
        refine⟨fun c=>S.getD c false,fun s=>Classical.choose (hkid s),⟨fun c hc h q hq=>?_,fun s=>(Classical.choose_spec (hkid s)).1⟩,fun l h1 h2 q hq=>?_⟩
        .change S.getD c false=true at h
         change S.getD q.toNat false=true
         have hcl:c<3+w.parents.length:=by
          rcases Nat.lt_or_ge c (3+w.parents.length)with h'|h'
          .exact h'
          .rw[Cq,List.getElem?_eq_none (by rw[<-hSd,Fs];omega)]at h
           cases h
         rw[<-hSd]at h ⊢;exact Hz hw.ord hSl _ c (by omega) (by omega) h q hq
        .cases q with
         | nil =>
           have k:=g2 l (HD.2 ⟨h1,Dl.2 ⟨h2,by simpa using hq⟩⟩);have k:=TO g3 k;have hc:=(hl l h1).cls;generalize Ad l=x at *;obtain⟨f,b⟩:=x;simp only[Ir,Cg,YD]at *;by_cases e1:f.op≠2\/f.cls=1\/f.cls=2
           .rw[if_pos e1]at k
            subst k;rcases e1 with e1|e1|e1
            .simp[e1]
            .simp[e1]
            .simp[e1]
           .rw [if_neg e1]at k
            have e2:f.op=2:=by
             rcases Classical.em (f.op=2)with e|e
             .exact e
             .exact absurd (Or.inl e) e1
            have hr:=hc e2;have e3:f.cls≠1/\f.cls≠2:=⟨fun e=>e1 (.inr (.inl e)),fun e=>e1 (.inr (.inr e))⟩
            rw[e2];rcases Classical.em (f.cls=0)with e|e
            .rw[e]at k ⊢
             cases b
             .rfl
             .exfalso;exact h0 k
            .have e4:(f.cls==0)=false:=by simpa using e
             have e5:decide (3<=f.cls)=true:=decide_eq_true (by omega);rw[e4,e5];cases b
             .rw[if_neg (by decide)]at k
              rw[hin _ (by omega) k];rfl
             .rw[if_pos rfl]at k
              have:S.getD f.cls.toNat false=false:=by
               rw[<-Bool.not_eq_true];exact fun e=>hdis _ e k
              rw[this];rfl
         | cons s q=>
           have hs:s∈CN w.owner.length ls a p:=(IX hl).2 ⟨l,h1,h2,q,hq⟩;have hso:=Fh hw (hS s hs);obtain⟨k1,k2⟩:=g4 s hs;simp only[Ir];cases hm:S.getD (BG w s).toNat false
           .rw[Bool.false_and]
            cases hb:Eu ls a (p++[s])
            .have:=hin _ (by omega) (k1 hb).1
             rw[hm]at this;cases this
            .rw[D5.1 hb l h1 h2 q (by rw[hq];simp)];rfl
           .rw[Cc]
            cases hc:can s
            .exact absurd (k2 hc) fun e=>hdis _ hm e
            .exact(hT s _).1 ((Classical.choose_spec (hkid s)).2 ((hcan s hs).1 hc)) l h1 h2 q hq
 .rintro ⟨C,kid,⟨hC,U⟩,h⟩
  obtain⟨t,h1,h2⟩:=TB (C:=C) (kid:=kid) (ls.filter (Iq a p)) (t:=tO w) hL oP fun l k=>by
   obtain⟨k1,k2⟩:=HD.1 k;obtain⟨k3,k4⟩:=Dl.1 k2;exact h l k1 k3 [] (by simpa using k4)
  obtain ⟨u,h3,h4⟩:=TA hw (C:=C) (can:=can) (ls:=ls) (a:=a) (p:=p) (CN w.owner.length ls a p) (t:=t) hS h2 fun s hs=>by
   constructor
   .intro hb
    cases e:C (BG w s).toNat
    .rw[D5.2 fun l k1 k2 q hq=>by
      have:=h l k1 k2 (s::q) (by rw[hq];simp);simp only[Ir,e,Bool.false_and]at this
      simpa using this.symm]at hb
     cases hb
    .rfl
   .intro e
    refine(hcan s hs).2 ⟨kid s,U s,(hT s _).2 fun l k1 k2 q hq=>?_⟩;have:=h l k1 k2 (s::q) hq;simpa only[Ir,e,Cc]using this
  rw[VH,h1,Option.bind_some,h3,Option.bind_some,fm]
  have h0:u.2.getD 0 false=false:=by
   rw[<-Bool.not_eq_true];exact fun e=>(h4.2 0 e).1 rfl
  rw[h0,if_neg (by decide),if_neg]
  .rfl
  .rw [GY]
   rintro⟨c,-,hc⟩;rw[A4]at hc;have q1:=(Qi _ hL hn0 h1).1;have q2:=(Qh hw _ hS ⟨by rw[<-q1.1];exact hn0.1,by rw[<-q1.2.1];exact hn0.2⟩ h3).1;have hlen:(u.1.set 0 false).length=3+w.parents.length:=by rw[List.length_set,<-q2.1,<-q1.1];exact hn0.1
   obtain⟨d,k1,k2⟩:=GX hw.ord hlen _ _ hc.1
   have hd0:d≠0:=by
    rintro rfl;rw[Cq,List.getElem?_set_self (by rw[List.length_set]at hlen;omega)]at k1;cases k1
   rw[Cq,List.getElem?_set_ne (fun e=>hd0 e.symm),<-Cq]at k1;have hCd:C d=true:=(h4.1 d k1).resolve_left hd0
   have hCc:C c=true:=by
    rcases Nat.lt_or_ge d 3 with hd|hd
    .rw[DM hw.ord,show par w.parents d= [] from if_pos hd]at k2
     simp only[List.any_nil,Bool.or_false,CF]at k2;subst k2;exact hCd
    .exact OA hw.ord hC d c hd hCd k2
   have:=(h4.2 c hc.2).2;rw[hCc]at this;cases this
def TT (w:AF) (ls:List Fact) (a:Int) (p:List Int) (t:Er):Prop:= ∀l∈ls,(Ad l).1.arg=a-> ∀q,(Ad l).1.path=p++q->Ir w t q (Ad l).1= !(Ad l).2
def Ie {w:AF} {ls:List Fact} (hl: ∀l∈ls,CQ w l) {a:Int} {p:List Int}:Jr w.owner.length ls a p=true↔TT w ls a p .Gi:=by
 rw[Jr,A4,Cu,Qk hl];constructor
 .rintro⟨h1,h2⟩ l k1 k2 q hq
  cases q with
  | nil=>
    have:=h1 l (HD.2 ⟨k1,Dl.2 ⟨k2,by simpa using hq⟩⟩);simp only[Ir,Cg,SI]at *
    revert this
    cases((Ad l).1.op==2&&((Ad l).1.cls==0||(Ad l).1.cls==2))<;>cases(Ad l).2<;>decide
  | cons s q=>simp[Ir,h2 l k1 k2 s q hq]
 .intro h
  refine⟨fun l k=>?_,fun l k1 k2 s q hq=>?_⟩
  .obtain⟨k1,k2⟩:=HD.1 k
   obtain⟨k3,k4⟩:=Dl.1 k2;have:=h l k1 k3 [] (by simpa using k4);simp only[Ir,Cg,SI]at *
   revert this
   cases((Ad l).1.op==2&&((Ad l).1.cls==0||(Ad l).1.cls==2))<;>cases(Ad l).2<;>decide
  .have:=h l k1 k2 (s::q) hq
   simpa[Ir]using this.symm
def M0 {w:AF} {ls:List Fact} (hl: ∀l∈ls,CQ w l) {a:Int} {p:List Int}:((NY ls a p).isSome&&HV w.owner.length ls a p)=true↔ ∃m,E0 w (.int m)/\TT w ls a p (.int m):=by
 rw[A4,Qk hl,lP hl];constructor
 .rintro⟨⟨m,h1,h2⟩,h3⟩
  refine⟨m,h1,fun l k1 k2 q hq=>?_⟩;cases q with
  | nil=>exact h2 l k1 k2 (by simpa using hq)
  | cons s q=>simp[Ir,h3 l k1 k2 s q hq]
 .rintro⟨m,h1,h2⟩
  refine⟨⟨m,h1,fun l k1 k2 k3=>h2 l k1 k2 [] (by simpa using k3)⟩,fun l k1 k2 s q hq=>?_⟩;have:=h2 l k1 k2 (s::q) hq;simpa[Ir]using this.symm
def bj {w:AF} (hw:Fu w) {ls:List Fact} (hl: ∀l∈ls,CQ w l) {a:Int} {p:List Int} {can:Int->Bool} (hcan: ∀s,s∈CN w.owner.length ls a p->(can s=true↔ ∃t,E0 w t/\TT w ls a (p++[s]) t)) :
    (((NY ls a p).isSome&&HV w.owner.length ls a p)||(Jr w.owner.length ls a p||(VH w ls a p can).isSome))=true↔ ∃t,E0 w t/\TT w ls a p t:=by
 rw[EW,EW,M0 hl,Ie hl,ky hw hl (T:=fun s t=>TT w ls a (p++[s]) t) hcan fun s t=>by simp only[TT,LC,List.singleton_append]];constructor
 .rintro(⟨m,h1,h2⟩|h|⟨C,kid,h1,h2⟩)
  .exact⟨_,h1,h2⟩
  .exact⟨.Gi,trivial,h⟩
  .exact⟨_,h1,h2⟩
 .rintro⟨t,h1,h2⟩
  cases t with
  | int m=>exact .inl ⟨m,h1,h2⟩
  | Gi=>exact .inr (.inl h2)
  | obj C kid=>exact .inr (.inr ⟨C,kid,h1,h2⟩)
def KB {w:AF} (hw:Fu w) {ls:List Fact} (hl: ∀l∈ls,CQ w l) (a:Int): ∀(d:Nat) (p:List Int),p.length+d=2->(To w ls a d p=true↔ ∃t,E0 w t/\TT w ls a p t)
 | 0,p,hp=>by
   rw[To];refine bj hw hl fun s hs=>?_
   rw[IW (m:=2) (fun l h=>(hl l h).short) (by omega)]at hs;cases hs
 | d+1,p,hp=>by
   rw[To];exact bj hw hl fun s hs=>KB hw hl a d (p++[s]) (by simp;omega)
def E4 (w:AF) (M:Int->Er) (l:Fact):Prop:=Ir w (M (Ad l).1.arg) (Ad l).1.path (Ad l).1= !(Ad l).2
def Mk {w:AF} (hw:Fu w) {ls:List Fact} (hl: ∀l∈ls,CQ w l):EN w ls=true↔ ∃M:Int->Er,(∀a,E0 w (M a))/\ ∀l∈ls,E4 w M l:=by
 rw[EN,Cu];constructor
 .intro h
  have hk: ∀a:Int,∃t,E0 w t/\(0<=a/\a<3->TT w ls a [] t):=fun a=>by
   rcases Classical.em (0<=a/\a<3)with e|e
   .obtain⟨t,h1,h2⟩:=(KB hw hl a 2 [] rfl).1 (h a (BW.2 e))
    exact⟨t,h1,fun _=>h2⟩
   .exact⟨.Gi,trivial,fun k=>absurd k e⟩
  exact⟨fun a=>Classical.choose (hk a),fun a=>(Classical.choose_spec (hk a)).1,fun l k=>(Classical.choose_spec (hk (Ad l).1.arg)).2 (hl l k).arg l k rfl _ rfl⟩
 .rintro⟨M,h1,h2⟩ a _
  refine(KB hw hl a 2 [] rfl).2 ⟨M a,h1 a,fun l k1 k2 q hq=>?_⟩;have:=h2 l k1;rw[E4,k2]at this;rw[List.nil_append]at hq;rw[<-hq];exact this
def VB (w:AF) (M:Int->Er) (f:Fact) (l:List Bool):Bool:=
 if f.op=1 then true else if f.op=5 then !l.getD 0 false else if f.op=6 then l.getD 0 false&&l.getD 1 false else if f.op=7 then l.getD 0 false||l.getD 1 false else Ir w (M f.arg) f.path f
def LD (w:AF) (M:Int->Er) (f:Fact):Bool:=f.Fe (VB w M)
def Iw (w:AF) (M:Int->Er) (f:Fact):LD w M f=VB w M f (f.kids.map (LD w M)):=Fact.CJ (VB w M) f
def Mz (a:List Fact) (Q:Fact->Prop): ∀b:List Fact,(∀x∈Cv a b,Q x)↔(∀x∈a,Q x)/\ ∀x∈b,Q x:=by
 intro b
 induction b generalizing a with
 | nil=>simp[Cv]
 | cons y r ih=>
   rw[Cv,ih];split
   .rename_i h
    obtain⟨z,h1,h2⟩:=GY.1 h;have:=(Ev y z).1 h2;subst this;simp only[List.forall_mem_cons];constructor
    .rintro⟨h3,h4⟩;exact⟨h3,h3 _ h1,h4⟩
    .rintro⟨h3,_,h4⟩;exact⟨h3,h4⟩
   .simp only[List.forall_mem_append,List.forall_mem_cons,List.forall_mem_nil]
    constructor
    .rintro⟨⟨h1,h2,_⟩,h3⟩;exact⟨h1,h2,h3⟩
    .rintro⟨h1,h2,h3⟩;exact⟨⟨h1,h2,fun _ h=>by cases h⟩,h3⟩
def EF {w : AF} {M:Int->Er} (f:Fact):Ae w f=true-> ∀c,(∃l∈BV f c,∀x∈l,E4 w M x)↔LD w M f= !c:=by
 induction f using Fact.ind with
 | h f ih=>
   intro h c;have har:=Al f h;have h':=h;rw[BS,A4,Cu]at h';rw[Fm,Hw,Iw,VB];by_cases h1:f.op=1
   .rw[if_pos h1,if_pos h1]
    cases c<;>simp
   rw[if_neg h1,if_neg h1];by_cases h5:f.op=5
   .obtain⟨a,ha,hb⟩:=ED har h5
    rw[if_pos h5,if_pos h5,ha];have:=ih a (by rw[ha];exact .head _) (h'.2 a (by rw[ha];exact .head _)) (!c);simp only[CK,List.map_nil,List.getD_cons_zero];rw[this];cases LD w M a<;>cases c<;>decide
   rw[if_neg h5,if_neg h5];by_cases h6:f.op=6\/f.op=7
   .obtain⟨a,b,ha,hb1,hb2⟩:=EC har h6
    rw[if_pos h6,ha];have i1:=ih a (by rw[ha];exact .head _) (h'.2 a (by rw[ha];exact .head _)) c;have j1:=ih b (by rw[ha];exact .tail _ (.head _)) (h'.2 b (by rw[ha];exact .tail _ (.head _))) c;simp only[CK,List.map_nil,List.getD_cons_zero,List.getD_cons_succ]
    have happ:(∃l∈BV a c++BV b c,∀x∈l,E4 w M x)↔LD w M a= !c\/LD w M b= !c:=by
     rw[<-i1,<-j1];constructor
     .rintro⟨l,hl,hx⟩
      rcases Dn.1 hl with hl|hl
      .exact .inl ⟨l,hl,hx⟩
      .exact .inr ⟨l,hl,hx⟩
     .rintro(⟨l,hl,hx⟩|⟨l,hl,hx⟩)
      .exact⟨l,NS _ hl,hx⟩
      .exact⟨l,NR _ hl,hx⟩
    have hprod:(∃l∈F2 (BV a c) (BV b c),∀x∈l,E4 w M x)↔LD w M a= !c/\LD w M b= !c:=by
     rw[<-i1,<-j1];simp only[F2,List.mem_flatMap,GK];constructor
     .rintro⟨l,⟨y,hy,z,hz,rfl⟩,hx⟩
      rw[Mz]at hx;exact⟨⟨y,hy,hx.1⟩,z,hz,hx.2⟩
     .rintro⟨⟨y,hy,h1⟩,z,hz,h2⟩
      exact⟨_,⟨y,hy,z,hz,rfl⟩,(Mz y _ z).2 ⟨h1,h2⟩⟩
    rcases h6 with h6|h6
    .rw[if_pos h6,h6]
     cases c
     .rw[if_neg (by decide),hprod]
      simp
     .rw[if_pos (by decide),happ]
      simp only[Bool.not_true,Bool.and_eq_false_iff]
    .rw[if_neg (by omega: ¬f.op=6),if_pos h6,h6]
     cases c
     .rw[if_pos (by decide),happ]
      simp
     .rw[if_neg (by decide),hprod]
      simp only[Bool.not_true,Bool.or_eq_false_iff]
   .rw[if_neg h6,if_neg (fun e=>h6 (.inl e)),if_neg (fun e=>h6 (.inr e))]
    have e1:E4 w M f↔Ir w (M f.arg) f.path f=true:=by rw[E4,Ad,if_neg h5];exact Iff.rfl
    have e2:E4 w M (Ca f)↔Ir w (M f.arg) f.path f=false:=by
     rw[E4,show Ad (Ca f)=(f,true) from rfl];exact Iff.rfl
    cases c
    .simp[e1]
    .simp[e2]
def WL {w:AF} (hw:Fu w) {f:Fact} (hn:Ae w f=true):Ry w f=true↔ ∃M:Int->Er,(∀a,E0 w (M a))/\LD w M f=true:=by
 rw[Ry,GY];constructor
 .rintro⟨l,h1,h2⟩
  obtain⟨M,h3,h4⟩:=(Mk hw fun x hx=>EB (DB f hn false l h1 x hx)).1 h2;exact⟨M,h3,(EF f hn false).1 ⟨l,h1,h4⟩⟩
 .rintro⟨M,h1,h2⟩
  obtain⟨l,h3,h4⟩:=(EF f hn false).2 h2;exact⟨l,h3,(Mk hw fun x hx=>EB (DB f hn false l h3 x hx)).2 ⟨M,h1,h4⟩⟩
def Qb {w:AF} (hw:Fu w) {a b:Fact} (ha:Ae w a=true) (hb:Ae w b=true):O0 w a b=true↔ ∀M:Int->Er,(∀x,E0 w (M x))->LD w M a=true->LD w M b=true:=by
 have he: ∀M,LD w M (Jd a (Ca b))=(LD w M a&& !LD w M b):=fun M=>by
  rw[Iw];simp only[VB,Jd,Fact.op,Fact.kids,CK,List.map_nil,List.getD_cons_zero,List.getD_cons_succ];rw[Iw w M (Ca b)];simp[VB,Ca,Fact.op,Fact.kids]
 rw[O0,Bool.not_eq_true',<-Bool.not_eq_true,WL hw (WY ha hb)];constructor
 .intro h M h1 h2
  rw[<-Bool.not_eq_false];exact fun h3=>h ⟨M,h1,by rw[he,h2,h3];rfl⟩
 .rintro h ⟨M,h1,h2⟩
  rw[he,A4]at h2;rw[h M h1 h2.1]at h2;simp at h2
def imp_trans {w:AF} (hw:Fu w) {a b c:Fact} (ha:Ae w a=true) (hb:Ae w b=true) (hc:Ae w c=true) (h1:O0 w a b=true) (h2:O0 w b c=true):O0 w a c=true:=
 (Qb hw ha hc).2 fun M hM h=>(Qb hw hb hc).1 h2 M hM ((Qb hw ha hb).1 h1 M hM h)
end Go.Gl
