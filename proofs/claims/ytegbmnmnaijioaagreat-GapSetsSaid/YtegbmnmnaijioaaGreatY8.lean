import Derived.Test.YtegbmnmnaijioaaGreatRows
import Derived.HandedShaped
import Derived.Test.YtegbmnmnaijioaaGreatY4
import Derived.Test.YtegbmnmnaijioaaGreatY5
import Derived.Test.YtegbmnmnaijioaaGreatY6
import Derived.Test.YtegbmnmnaijioaaGreatY7
set_option linter.all false
set_option linter.defProp false
set_option maxHeartbeats 8000000
noncomputable section
namespace Go.Proofs.YtegbmnmnaijioaaGreat
open Go.Gl Go.ChangeShapes Go.WideShapes Go.ChangeAt Go.RowKit
theorem own:ownKnob Tryz.prog.godebug=none:=by kernel_rfl
def laidOut:laidOutB Tryz.prog=true:=by kernel_rfl
def FE {a b:Bool} (h1:a=true) (h2:b=true):(a&&b)=true:=by rw[h1,h2];rfl
abbrev HE (w:World):=Hh (fun _=>False) emp w
def vGiv {w:World} {cs:Array Value} {g:Giv} (hp:cs.toList.length=(Yn g).length/\Ba (HE w) (fun i=>cs.toList[i]?) 0 (Yn g)):Ah (HE w) (.a (Yn g)) (.agg cs):=by
 simp only[Ah];exact⟨cs,rfl,by simpa using hp.1,by simpa using hp.2⟩
end Go.Proofs.YtegbmnmnaijioaaGreat
namespace Go.Gl
open Go.Proofs
inductive KW where
 | int (n:Int)
 | K8
 | obj (C:Nat->Bool) (kid:Int->KW)
def GW (w:AF):KW->Prop
 | .int n=> -1000000000<=n/\n<=1000000000
 | .K8=>True
 | .obj C kid=>(∀c,3<=c->C c=true-> ∀q∈par w.parents c,C q.toNat=true)/\ ∀s,GW w (kid s)
def Eb (t:KW) (f:Fact):Bool:=match t with
 | .int n=>if f.op=2 then !decide (f.cls > 1)else if f.op=3 then decide (n<f.n)else decide (n=f.n)
 | .K8=>f.op==2&&(f.cls==0||f.cls==2)
 | .obj C _=>f.op==2&&(f.cls==0||(decide (3<=f.cls)&&C f.cls.toNat))
def Ni (w:AF):KW->List Int->Fact->Bool
 | t,[],f=>Eb t f
 | .obj C kid,s::r,f=>C (Bl w s).toNat&&Ni w (kid s) r f
 | _,_::_,_=>false
structure Dm (w:AF) (l:Fact):Prop where
 op:(Ad l).1.op=2\/(Ad l).1.op=3\/(Ad l).1.op=4
 cls:(Ad l).1.op=2->0<=(Ad l).1.cls/\(Ad l).1.cls<3+w.parents.length
 arg:0<=(Ad l).1.arg/\(Ad l).1.arg<3
 path: ∀s∈(Ad l).1.path,(0:Int)<=s/\s<w.owner.length
 short:(Ad l).1.path.length<=2
def HR {w:AF} {l:Fact} (h:DV w l):Dm w l:=by
 obtain⟨-,hn,hl⟩:=IN h;have hlo:=Fy hl;have q:=IM (w:=w) (l:=[l]) (fun x hx=>by rw[KV.1 hx];exact h);rw[CO,A9]at hn;have hn:=hn.1;simp only[DE,A9,Cp]at hn;obtain⟨ho,-,ha1,ha2,hp,-⟩:=hn;simp only[Fb,A9,EG,JR,Cp]at hp;exact⟨hlo,q.2.1 l (.head _),⟨ha1,ha2⟩,fun s hs=>hp.1 s hs,hp.2⟩
def tA (t:Int×Int×List Int) (m:Int):Prop:=t.1<=m/\m<=t.2.1/\m∉t.2.2
def df {w:AF} {l:Fact} (hl:Dm w l) (t:Int×Int×List Int) (m:Int):(∃t',H8 (Ad l) t=some t'/\tA t' m)↔tA t m/\Eb (.int m) (Ad l).1= !(Ad l).2:=by
 have h1:=hl.op;generalize Ad l=x at *;obtain⟨f,b⟩:=x;obtain⟨lo,hi,no⟩:=t;simp only[H8,tA,Eb]at *;rcases h1 with h|h|h
 .rw[if_pos h,if_pos h]
  by_cases hc:f.cls > 1<;>cases b<;>simp[hc]
 .have h2: ¬f.op=2:=by omega
  rw[if_neg h2,if_pos h,if_neg h2,if_pos h];cases b
  .simp only[ME,if_false,JM,exists_eq_left',Bool.not_false,Cp]
   split<;>constructor<;>rintro⟨h3,h4⟩
   .exact⟨⟨h3,by omega,h4.2⟩,by omega⟩
   .exact⟨h3.1,by omega,h3.2.2⟩
   .exact⟨⟨h3,h4⟩,by omega⟩
   .exact h3
  .simp only[if_true,JM,exists_eq_left',Bool.not_true,decide_eq_false_iff_not]
   split<;>constructor<;>rintro⟨h3,h4⟩
   .exact⟨⟨by omega,h4⟩,by omega⟩
   .exact⟨by omega,h3.2⟩
   .exact⟨⟨h3,h4⟩,by omega⟩
   .exact h3
 .have h2: ¬f.op=2:=by omega
  have h3: ¬f.op=3:=by omega
  rw[if_neg h2,if_neg h3,if_neg h2,if_neg h3];cases b
  .simp only[ME,if_false,JM,exists_eq_left',Bool.not_false,Cp]
   constructor
   .rintro⟨h3,h4,h5⟩
    split at h3<;>split at h4<;>exact⟨⟨by omega,by omega,h5⟩,by omega⟩
   .rintro⟨⟨h3,h4,h5⟩,rfl⟩
    refine⟨?_,?_,h5⟩
    .split<;>omega
    .split<;>omega
  .simp only[if_true,JM,exists_eq_left',Bool.not_true,decide_eq_false_iff_not,Dy,KV,not_or]
   constructor
   .rintro⟨h3,h4,h5,h6⟩
    exact⟨⟨h3,h4,h5⟩,h6⟩
   .rintro⟨⟨h3,h4,h5⟩,h6⟩
    exact⟨h3,h4,h5,h6⟩
def Ky {w:AF} (m:Int): ∀(os:List Fact) (t:Int×Int×List Int),(∀l∈os,Dm w l)->((∃t',foldI os t=some t'/\tA t' m)↔tA t m/\ ∀l∈os,Eb (.int m) (Ad l).1= !(Ad l).2)
 | [],t,_=>by simp[foldI]
 | x ::r,t,h=>by
   have h1:=df (h x (.head _)) t m;constructor
   .rintro⟨t',h2,h3⟩
    rw[foldI,Option.bind_eq_some_iff]at h2;obtain⟨u,h4,h5⟩:=h2;obtain⟨h6,h7⟩:=(Ky m r u fun l hl=>h l (.tail _ hl)).1 ⟨t',h5,h3⟩;obtain⟨h8,h9⟩:=h1.1 ⟨u,h4,h6⟩;refine⟨h8,fun l hl=>?_⟩;rcases GM.1 hl with rfl|hl
    .exact h9
    .exact h7 l hl
   .rintro⟨h2,h3⟩
    obtain⟨u,h4,h5⟩:=h1.2 ⟨h2,h3 x (.head _)⟩;obtain⟨t',h6,h7⟩:=(Ky m r u fun l hl=>h l (.tail _ hl)).2 ⟨h5,fun l hl=>h3 l (.tail _ hl)⟩;exact⟨t',by rw[foldI,h4];exact h6,h7⟩
def TG (t:Int×Int×List Int):(QU t).isSome=true↔ ∃m,tA t m:=by
 obtain⟨lo,hi,no⟩:=t;rw[QU,OO];constructor
 .rintro⟨j,h1,h2⟩
  exact⟨lo+j,by simp only[tA]at *;omega,by simp only[]at *;omega,h2⟩
 .rintro⟨m,h1,h2,h3⟩
  dsimp only at h1 h2 h3 ⊢;exact⟨(m - lo).toNat,by omega,by rw[show lo+((m - lo).toNat:Int)=m by omega];exact h3⟩
def Eh {a:Int} {p:List Int} {l:Fact}:Fv a p l=true↔(Ad l).1.arg=a/\(Ad l).1.path=p:=by
 rw[Fv,A9,C0,C0]
def mF {w:AF} {ls:List Fact} (hl: ∀l∈ls,Dm w l) (a:Int) (p:List Int):(GI ls a p).isSome=true↔ ∃m,(-1000000000<=m/\m<=1000000000)/\ ∀l∈ls,(Ad l).1.arg=a->(Ad l).1.path=p->Eb (.int m) (Ad l).1= !(Ad l).2:=by
 have hL: ∀l∈ls.filter (Fv a p),Dm w l:=fun l h=>hl l (Ik.1 h).1
 rw[GI];constructor
 .intro h
  cases hf:foldI (ls.filter (Fv a p)) t0 with
  | none=>rw[hf]at h;cases h
  | some t=>
    rw[hf]at h;obtain⟨m,hm⟩:=(TG t).1 h;obtain⟨h1,h2⟩:=(Ky m _ t0 hL).1 ⟨t,hf,hm⟩;exact⟨m,⟨h1.1,h1.2.1⟩,fun l h3 h4 h5=>h2 l (Ik.2 ⟨h3,Eh.2 ⟨h4,h5⟩⟩)⟩
 .rintro⟨m,h1,h2⟩
  obtain⟨t,h3,h4⟩:=(Ky m (ls.filter (Fv a p)) t0 hL).2 ⟨⟨h1.1,h1.2,by simp[t0]⟩,fun l h=>by
   obtain⟨h5,h6⟩:=Ik.1 h
   exact h2 l h5 (Eh.1 h6).1 (Eh.1 h6).2⟩
  rw[h3];exact(TG t).2 ⟨m,h4⟩
def Ef {ls:List Fact} {a:Int} {p:List Int}:DF ls a p=true↔ ∀l∈ls,(Ad l).1.arg=a-> ∀q,(Ad l).1.path=p++q->(Ad l).2=true:=by
 rw[DF,EG];constructor
 .intro h l hl ha q hq
  have:=h l hl;rw[E9]at this;rcases this with h1|h1
  .exact h1
  .rw[ha,hq]at h1
   have h2:Bd (p++q) p=true:=B6.2 ⟨q,rfl⟩;simp[h2]at h1
 .intro h l hl
  rw[E9];by_cases h1:(Ad l).1.arg=a/\Bd (Ad l).1.path p=true
  .obtain⟨q,hq⟩:=B6.1 h1.2
   exact .inl (h l hl h1.1 q hq)
  .right
   simp only[Bool.not_eq_true',Bool.and_eq_false_iff,beq_eq_false_iff_ne];rcases Classical.em ((Ad l).1.arg=a)with e|e
   .exact .inr (by simpa[e]using h1)
   .exact .inl e
def Kq {w:AF} {ls:List Fact} (hl: ∀l∈ls,Dm w l) {a:Int} {p:List Int} {s:Int}:s∈BR w.owner.length ls a p↔ ∃l∈ls,(Ad l).1.arg=a/\ ∃q,(Ad l).1.path=p++s::q:=by
 rw[BR,Ik,Ij,C9];constructor
 .rintro⟨-,l,h1,h2⟩
  rw[Yd,A9,C0]at h2;obtain⟨q,hq⟩:=B6.1 h2.2;exact⟨l,h1,h2.1,q,by rw[hq];simp⟩
 .rintro⟨l,h1,h2,q,hq⟩
  refine⟨(hl l h1).path s (by rw[hq];simp),l,h1,?_⟩;rw[Yd,A9,C0];exact⟨h2,B6.2 ⟨q,by rw[hq];simp⟩⟩
def XZ {w:AF} {ls:List Fact} (hl: ∀l∈ls,Dm w l) {a:Int} {p:List Int}:Da w.owner.length ls a p=true↔ ∀l∈ls,(Ad l).1.arg=a-> ∀s q,(Ad l).1.path=p++s::q->(Ad l).2=true:=by
 rw[Da,EG];constructor
 .intro h l h1 h2 s q hq
  exact Ef.1 (h s ((Kq hl).2 ⟨l,h1,h2,q,hq⟩)) l h1 h2 q (by rw[hq];simp)
 .intro h s _
  exact Ef.2 fun l h1 h2 q hq=>h l h1 h2 s q (by rw[hq];simp)
def Lh {w:AF} (hw:JN w) {s:Int} (h:0<=s/\s<(w.owner.length:Int)):3<=Bl w s/\Bl w s<3+w.parents.length:=by
 have hs:s.toNat<w.owner.length:=by omega
 have:Bl w s=w.owner[s.toNat]:=by rw[Bl,C6,Cs hs];rfl
 rw[this];exact hw.own _ (List.getElem_mem hs)
def rX (t:BB) (C:Nat->Bool):Prop:=(∀c,t.1.getD c false=true->c=0\/C c=true)/\ ∀c,t.2.getD c false=true->c≠0/\C c=false
def UM (t t':BB):Prop:=t.1.length=t'.1.length/\t.2.length=t'.2.length/\(∀c,t.1.getD c false=true->t'.1.getD c false=true)/\ ∀c,t.2.getD c false=true->t'.2.getD c false=true
def UM.nv {t:BB}:UM t t:=⟨rfl,rfl,fun _ h=>h,fun _ h=>h⟩
def UM.trans {t u v:BB} (h:UM t u) (k:UM u v):UM t v:=⟨h.1.trans k.1,h.2.1.trans k.2.1,fun c hc=>k.2.2.1 c (h.2.2.1 c hc),fun c hc=>k.2.2.2 c (h.2.2.2 c hc)⟩
def Mw {l:List Bool} {c b:Nat} (h:(l.set c true).getD b false=true):l.getD b false=true\/b=c:=by
 by_cases e:b=c
 .exact .inr e
 .rw[C6,List.getElem?_set_ne (fun h=>e h.symm),<-C6]at h
  exact .inl h
def Mz {l:List Bool} {c b:Nat} (h:l.getD b false=true):(l.set c true).getD b false=true:=by
 by_cases e:c<l.length
 .rw[Ee e]
  split
  .rfl
  .exact h
 .rw[List.set_eq_of_length_le (by omega)];exact h
def My {l:List Bool} {c:Nat} (h:c<l.length):(l.set c true).getD c false=true:=by
 rw[Ee h,if_pos rfl]
def UM.set1 {t:BB} (c:Nat):UM t (t.1.set c true,t.2):=⟨by simp,rfl,fun _ h=>Mz h,fun _ h=>h⟩
def UM.set2 {t:BB} (c:Nat):UM t (t.1,t.2.set c true):=⟨rfl,by simp,fun _ h=>h,fun _ h=>Mz h⟩
def Yr (t:BB) (f:Fact) (b:Bool):Prop:=if f.op≠2\/f.cls=1\/f.cls=2 then b=true else if b then t.2.getD f.cls.toNat false=true else t.1.getD f.cls.toNat false=true
def T9 {t t':BB} (h:UM t t') {f:Fact} {b:Bool} (k:Yr t f b):Yr t' f b:=by
 unfold Yr at *;split
 .rename_i h1;rw[if_pos h1]at k;exact k
 .rename_i h1;rw[if_neg h1]at k
  split
  .rename_i h2;rw[if_pos h2]at k;exact h.2.2.2 _ k
  .rename_i h2;rw[if_neg h2]at k;exact h.2.2.1 _ k
def lA {w:AF} {l:Fact} (hl:Dm w l) {t t':BB} (hn:t.1.length=3+w.parents.length/\t.2.length=3+w.parents.length) (h:Gm (Ad l) t=some t'):UM t t'/\Yr t' (Ad l).1 (Ad l).2:=by
 have hc:=hl.cls;generalize Ad l=x at *;obtain⟨f,b⟩:=x;simp only[Gm,Yr]at *;split at h
 .rename_i h1
  rw[if_pos h1];cases b
  .cases h
  .obtain rfl:=Option.some.inj h
   exact⟨UM.nv,rfl⟩
 .rename_i h1
  rw[if_neg h1]
  have h2:f.op=2:=by
   rcases Classical.em (f.op=2)with e|e
   .exact e
   .exact absurd (Or.inl e) h1
  have:=hc h2;cases b
  .obtain rfl:=Option.some.inj h
   exact⟨.set1 _,by rw[if_neg (by decide)];exact My (by omega)⟩
  .obtain rfl:=Option.some.inj h
   exact⟨.set2 _,by rw[if_pos rfl];exact My (by omega)⟩
def dc {w:AF} {l:Fact} (hl:Dm w l) {t:BB} {C:Nat->Bool} {kid:Int->KW} (hi:rX t C) (h:Eb (.obj C kid) (Ad l).1= !(Ad l).2): ∃t',Gm (Ad l) t=some t'/\rX t' C:=by
 have hc:=hl.cls;generalize Ad l=x at *;obtain⟨f,b⟩:=x;simp only[Gm,Eb]at *;by_cases h1:f.op≠2\/f.cls=1\/f.cls=2
 .rw[if_pos h1]
  have h2:(f.op==2&&(f.cls==0||(decide (3<=f.cls)&&C f.cls.toNat)))=false:=by
   rcases h1 with h1|h1|h1
   .simp[h1]
   .simp[h1]
   .simp[h1]
  rw[h2]at h;cases b
  .cases h
  .exact⟨t,rfl,hi⟩
 .rw [if_neg h1]
  have h2:f.op=2:=by
   rcases Classical.em (f.op=2)with e|e
   .exact e
   .exact absurd (Or.inl e) h1
  have hr:=hc h2;have h3:f.cls≠1/\f.cls≠2:=⟨fun e=>h1 (.inr (.inl e)),fun e=>h1 (.inr (.inr e))⟩
  have h4:(f.op==2&&(f.cls==0||(decide (3<=f.cls)&&C f.cls.toNat)))=(decide (f.cls=0)||C f.cls.toNat):=by
   rw[h2];rcases Classical.em (f.cls=0)with e|e
   .simp[e]
   .have:3<=f.cls:=by omega
    simp[e,this]
  rw[h4]at h;cases b
  .refine⟨_,rfl,fun c hh=>?_,hi.2⟩
   rcases Mw hh with hh|rfl
   .exact hi.1 c hh
   .simp only[Bool.not_false,E9,Cp]at h
    rcases h with h|h
    .exact .inl (by omega)
    .exact .inr h
  .refine⟨_,rfl,hi.1,fun c hh=>?_⟩
   rcases Mw hh with hh|rfl
   .exact hi.2 c hh
   .simp only[Bool.not_true,Bool.or_eq_false_iff,decide_eq_false_iff_not]at h
    exact⟨by omega,h.2⟩
def RG {w:AF}: ∀(os:List Fact) {t t':BB},(∀l∈os,Dm w l)->(t.1.length=3+w.parents.length/\t.2.length=3+w.parents.length)->EP os t=some t'->UM t t'/\ ∀l∈os,Yr t' (Ad l).1 (Ad l).2
 | [],t,t',_,_,h=>by
   obtain rfl:=Option.some.inj h;exact⟨UM.nv,fun l hl=>by cases hl⟩
 | x::r,t,t',hl,hn,h=>by
   rw[EP,Option.bind_eq_some_iff]at h;obtain⟨u,h1,h2⟩:=h;obtain⟨h3,h4⟩:=lA (hl x (.head _)) hn h1;obtain⟨h5,h6⟩:=RG r (fun l h=>hl l (.tail _ h)) ⟨by rw[<-h3.1];exact hn.1,by rw[<-h3.2.1];exact hn.2⟩ h2;refine⟨h3.trans h5,fun l h=>?_⟩;rcases GM.1 h with rfl|h
   .exact T9 h5 h4
   .exact h6 l h
def Tp {w:AF} {C:Nat->Bool} {kid:Int->KW}: ∀(os:List Fact) {t:BB},(∀l∈os,Dm w l)->rX t C->(∀l∈os,Eb (.obj C kid) (Ad l).1= !(Ad l).2)-> ∃t',EP os t=some t'/\rX t' C
 | [],t,_,hi,_=>⟨t,rfl,hi⟩
 | x::r,t,hl,hi,h=>by
   obtain⟨u,h1,h2⟩:=dc (hl x (.head _)) hi (h x (.head _));obtain⟨t',h3,h4⟩:=Tp r (fun l h=>hl l (.tail _ h)) h2 fun l hh=>h l (.tail _ hh)
   exact⟨t',by rw[EP,h1];exact h3,h4⟩
def tb (w:AF) (ls:List Fact) (a:Int) (p:List Int) (can:Int->Bool) (s:Int) (t:BB):Prop:=
 (DF ls a (p++[s])=false->t.1.getD (Bl w s).toNat false=true/\can s=true)/\(can s=false->t.2.getD (Bl w s).toNat false=true)
def RF {w:AF} (hw:JN w) {ls:List Fact} {a:Int} {p:List Int} {can:Int->Bool}: ∀(sl:List Int) {t t':BB},(∀s∈sl,0<=s/\s<(w.owner.length:Int))->(t.1.length=3+w.parents.length/\t.2.length=3+w.parents.length)->D5 w ls a p can sl t=some t'->UM t t'/\ ∀s∈sl,tb w ls a p can s t'
 | [],t,t',_,_,h=>by
   obtain rfl:=Option.some.inj h;exact⟨UM.nv,fun l hl=>by cases hl⟩
 | s ::r,t,t',hs,hn,h=>by
   rw[D5,Option.bind_eq_some_iff]at h;obtain⟨u,h1,h2⟩:=h;have ho:=Lh hw (hs s (.head _))
   have h3:UM t u/\tb w ls a p can s u:=by
    rw[JP]at h1;split at h1
    .cases h1
    .rename_i hne
     obtain rfl:=Option.some.inj h1;simp only[tb];cases hb:DF ls a (p++[s])<;>cases hc:can s
     .simp[hb,hc]at hne
     .exact⟨⟨by simp,rfl,fun c h=>Mz h,fun c h=>h⟩,fun _=>⟨My (by omega),rfl⟩,fun h=>(by cases h)⟩
     .exact⟨⟨rfl,by simp,fun c h=>h,fun c h=>Mz h⟩,fun h=>(by cases h),fun _=>My (by omega)⟩
     .exact⟨UM.nv,fun h=>(by cases h),fun h=>(by cases h)⟩
   obtain⟨h5,h6⟩:=RF hw r (fun l h=>hs l (.tail _ h)) ⟨by rw[<-h3.1.1];exact hn.1,by rw[<-h3.1.2.1];exact hn.2⟩ h2;refine⟨h3.1.trans h5,fun l h=>?_⟩;rcases GM.1 h with rfl|h
   .exact⟨fun hb=>⟨h5.2.2.1 _ (h3.2.1 hb).1,(h3.2.1 hb).2⟩,fun hc=>h5.2.2.2 _ (h3.2.2 hc)⟩
   .exact h6 l h
def To {w : AF} (hw:JN w) {ls:List Fact} {a:Int} {p:List Int} {can:Int->Bool} {C:Nat->Bool}: ∀(sl:List Int) {t:BB},(∀s∈sl,0<=s/\s<(w.owner.length:Int))->rX t C->
    (∀s∈sl,(DF ls a (p++[s])=false->C (Bl w s).toNat=true)/\(C (Bl w s).toNat=true->can s=true))-> ∃t',D5 w ls a p can sl t=some t'/\rX t' C
 | [],t,_,hi,_=>⟨t,rfl,hi⟩
 | s :: r, t,hs,hi,h=>by
   have ho:=Lh hw (hs s (.head _));obtain⟨k1,k2⟩:=h s (.head _)
   have h1 : ∃u,JP w ls a p can s t=some u/\rX u C:=by
    rw[JP];cases hb:DF ls a (p++[s])
    .rw[k2 (k1 hb)]
     refine⟨_,rfl,fun c hh=>?_,hi.2⟩;rcases Mw hh with hh|rfl
     .exact hi.1 c hh
     .exact .inr (k1 hb)
    .cases hc:can s
     .refine⟨_,rfl,hi.1,fun c hh=>?_⟩
      rcases Mw hh with hh|rfl
      .exact hi.2 c hh
      .refine⟨by omega,?_⟩
       rw[<-Bool.not_eq_true];intro e;rw[k2 e]at hc;cases hc
     .exact⟨_,rfl,hi⟩
   obtain⟨u,h2,h3⟩:=h1;obtain⟨t',h4,h5⟩:=To hw r (fun l h=>hs l (.tail _ h)) h3 fun l hh=>h l (.tail _ hh)
   exact⟨t',by rw[D5,h2];exact h4,h5⟩
def pG {w:AF} {C:Nat->Bool}:rX (tO w) C:=by
 have: ∀c,(List.replicate (3+w.parents.length) false).getD c false=false:=fun c=>by
  rw[C6];cases h:(List.replicate (3+w.parents.length) false)[c]? with
  | none=>rfl
  | some b=>rw[List.eq_of_mem_replicate (Bp h)];rfl
 exact⟨fun c h=>absurd ((this c).symm.trans h) (by decide),fun c h=>absurd ((this c).symm.trans h) (by decide)⟩
def T2 {g:List (List Int)} (ho:ordered g) {C:Nat->Bool} (hC: ∀c,3<=c->C c=true-> ∀q∈par g c,C q.toNat=true): ∀d b:Nat,3<=d->C d=true->HA g d b=true->C b=true:=by
 intro d
 induction d using Nat.strongRecOn with
 | _ d ih=>
   intro b h3 hd h;rw[FI ho]at h;simp only[E9,C0,Ij]at h;rcases h with rfl|⟨p,hp,h⟩
   .exact hd
   .have:=ho d p hp
    exact ih p.toNat (by omega) b (by omega) (hC d h3 hd p hp) h
def lh {w : AF} (hw : JN w) {ls:List Fact} (hl: ∀l∈ls,Dm w l) {a:Int} {p:List Int} {can:Int->Bool} {T:Int->KW->Prop} (hcan: ∀s,s∈BR w.owner.length ls a p->(can s=true↔ ∃t,GW w t/\T s t))
    (hT: ∀s t,T s t↔ ∀l∈ls,(Ad l).1.arg=a-> ∀q,(Ad l).1.path=p++s::q->Ni w t q (Ad l).1= !(Ad l).2) :
    (LY w ls a p can).isSome=true↔ ∃C kid,GW w (.obj C kid)/\ ∀l∈ls,(Ad l).1.arg=a-> ∀q,(Ad l).1.path=p++q->Ni w (.obj C kid) q (Ad l).1= !(Ad l).2:=by
 have hL: ∀l∈ls.filter (Fv a p),Dm w l:=fun l h=>hl l (Ik.1 h).1
 have hS: ∀s∈BR w.owner.length ls a p,0<=s/\s<(w.owner.length:Int):=fun s h=>Fl h
 have hn0:(tO w).1.length=3+w.parents.length/\(tO w).2.length=3+w.parents.length:=by simp[tO]
 constructor
 .intro h
  rw[LY]at h;cases h1:EP (ls.filter (Fv a p)) (tO w)with
  | none=>rw[h1]at h;cases h
  | some t=>
    rw[h1,Option.bind_some]at h;obtain⟨g1,g2⟩:=RG _ hL hn0 h1;have hn1:t.1.length=3+w.parents.length/\t.2.length=3+w.parents.length:=⟨by rw[<-g1.1];exact hn0.1,by rw[<-g1.2.1];exact hn0.2⟩
    cases h2:D5 w ls a p can (BR w.owner.length ls a p) t with
    | none=>rw[h2]at h;cases h
    | some u=>
      rw[h2,Option.bind_some,V9]at h;obtain⟨g3,g4⟩:=RF hw _ hS hn1 h2;have hn2:u.1.length=3+w.parents.length/\u.2.length=3+w.parents.length:=⟨by rw[<-g3.1];exact hn1.1,by rw[<-g3.2.1];exact hn1.2⟩
      split at h
      .cases h
      .rename_i h0
       split at h
       .cases h
       .rename_i h3
        clear h;have hSl:(u.1.set 0 false).length=3+w.parents.length:=by simpa using hn2.1
        generalize hSd:CE w.parents (3+w.parents.length) w.parents.length (u.1.set 0 false)=S at *
        have hin: ∀c,3<=c->u.1.getD c false=true->S.getD c false=true:=fun c hc h=>by
         rw[<-hSd];refine KQ hw.ord hSl _ _ ?_;rw[C6,List.getElem?_set_ne (by omega),<-C6];exact h
        have hdis: ∀c,S.getD c false=true->u.2.getD c false=true->False:=fun c k1 k2=>by
         have hc:c<3+w.parents.length:=by
          rcases Nat.lt_or_ge c (3+w.parents.length)with h|h
          .exact h
          .rw[C6,List.getElem?_eq_none (by omega)]at k2
           cases k2
         refine h3 (Ij.2 ⟨c,List.mem_range.2 hc,?_⟩);rw[k1,k2];rfl
        have hkid: ∀s,∃t,GW w t/\((∃t,GW w t/\T s t)->T s t):=fun s=>by
         rcases Classical.em (∃t,GW w t/\T s t)with⟨t,k1,k2⟩|k
         .exact⟨t,k1,fun _=>k2⟩
         .exact⟨.K8,trivial,fun h=>absurd h k⟩
        refine⟨fun c=>S.getD c false,fun s=>Classical.choose (hkid s),⟨fun c hc h q hq=>?_,fun s=>(Classical.choose_spec (hkid s)).1⟩,fun l h1 h2 q hq=>?_⟩
        .change S.getD c false=true at h
         change S.getD q.toNat false=true
         have hcl:c<3+w.parents.length:=by
          rcases Nat.lt_or_ge c (3+w.parents.length)with h'|h'
          .exact h'
          .rw[C6,List.getElem?_eq_none (by rw[<-hSd,Ey];omega)]at h
           cases h
         rw[<-hSd]at h ⊢;exact Hw hw.ord hSl _ c (by omega) (by omega) h q hq
        .cases q with
         | nil =>
           have k:=g2 l (Ik.2 ⟨h1,Eh.2 ⟨h2,by simpa using hq⟩⟩);have k:=T9 g3 k;have hc:=(hl l h1).cls;generalize Ad l=x at *;obtain⟨f,b⟩:=x;simp only[Ni,Eb,Yr]at *;by_cases e1:f.op≠2\/f.cls=1\/f.cls=2
           .rw[if_pos e1]at k
            subst k;rcases e1 with e1|e1|e1
            .simp[e1]
            .simp[e1]
            .simp[e1]
           .rw [if_neg e1]at k
            have e2:f.op=2:=by
             rcases Classical.em (f.op=2)with e|e
             .exact e
             .exact absurd (Or.inl e) e1
            have hr:=hc e2;have e3:f.cls≠1/\f.cls≠2:=⟨fun e=>e1 (.inr (.inl e)),fun e=>e1 (.inr (.inr e))⟩
            rw[e2];rcases Classical.em (f.cls=0)with e|e
            .rw[e]at k ⊢
             cases b
             .rfl
             .exfalso;exact h0 k
            .have e4:(f.cls==0)=false:=by simpa using e
             have e5:decide (3<=f.cls)=true:=decide_eq_true (by omega);rw[e4,e5];cases b
             .rw[if_neg (by decide)]at k
              rw[hin _ (by omega) k];rfl
             .rw[if_pos rfl]at k
              have:S.getD f.cls.toNat false=false:=by
               rw[<-Bool.not_eq_true];exact fun e=>hdis _ e k
              rw[this];rfl
         | cons s q=>
           have hs:s∈BR w.owner.length ls a p:=(Kq hl).2 ⟨l,h1,h2,q,hq⟩;have hso:=Lh hw (hS s hs);obtain⟨k1,k2⟩:=g4 s hs;simp only[Ni];cases hm:S.getD (Bl w s).toNat false
           .rw[Bool.false_and]
            cases hb:DF ls a (p++[s])
            .have:=hin _ (by omega) (k1 hb).1
             rw[hm]at this;cases this
            .rw[Ef.1 hb l h1 h2 q (by rw[hq];simp)];rfl
           .rw[Ds]
            cases hc:can s
            .exact absurd (k2 hc) fun e=>hdis _ hm e
            .exact(hT s _).1 ((Classical.choose_spec (hkid s)).2 ((hcan s hs).1 hc)) l h1 h2 q hq
 .rintro ⟨C,kid,⟨hC,U⟩,h⟩
  obtain⟨t,h1,h2⟩:=Tp (C:=C) (kid:=kid) (ls.filter (Fv a p)) (t:=tO w) hL pG fun l k=>by
   obtain⟨k1,k2⟩:=Ik.1 k;obtain⟨k3,k4⟩:=Eh.1 k2;exact h l k1 k3 [] (by simpa using k4)
  obtain ⟨u,h3,h4⟩:=To hw (C:=C) (can:=can) (ls:=ls) (a:=a) (p:=p) (BR w.owner.length ls a p) (t:=t) hS h2 fun s hs=>by
   constructor
   .intro hb
    cases e:C (Bl w s).toNat
    .rw[Ef.2 fun l k1 k2 q hq=>by
      have:=h l k1 k2 (s::q) (by rw[hq];simp);simp only[Ni,e,Bool.false_and]at this
      simpa using this.symm]at hb
     cases hb
    .rfl
   .intro e
    refine(hcan s hs).2 ⟨kid s,U s,(hT s _).2 fun l k1 k2 q hq=>?_⟩;have:=h l k1 k2 (s::q) hq;simpa only[Ni,e,Ds]using this
  rw[LY,h1,Option.bind_some,h3,Option.bind_some,V9]
  have h0:u.2.getD 0 false=false:=by
   rw[<-Bool.not_eq_true];exact fun e=>(h4.2 0 e).1 rfl
  rw[h0,if_neg (by decide),if_neg]
  .rfl
  .rw [Ij]
   rintro⟨c,-,hc⟩;rw[A9]at hc;have q1:=(RG _ hL hn0 h1).1;have q2:=(RF hw _ hS ⟨by rw[<-q1.1];exact hn0.1,by rw[<-q1.2.1];exact hn0.2⟩ h3).1;have hlen:(u.1.set 0 false).length=3+w.parents.length:=by rw[List.length_set,<-q2.1,<-q1.1];exact hn0.1
   obtain⟨d,k1,k2⟩:=Gd hw.ord hlen _ _ hc.1
   have hd0:d≠0:=by
    rintro rfl;rw[C6,List.getElem?_set_self (by rw[List.length_set]at hlen;omega)]at k1;cases k1
   rw[C6,List.getElem?_set_ne (fun e=>hd0 e.symm),<-C6]at k1;have hCd:C d=true:=(h4.1 d k1).resolve_left hd0
   have hCc:C c=true:=by
    rcases Nat.lt_or_ge d 3 with hd|hd
    .rw[FI hw.ord,show par w.parents d= [] from if_pos hd]at k2
     simp only[List.any_nil,Bool.or_false,C0]at k2;subst k2;exact hCd
    .exact T2 hw.ord hC d c hd hCd k2
   have:=(h4.2 c hc.2).2;rw[hCc]at this;cases this
def TT (w:AF) (ls:List Fact) (a:Int) (p:List Int) (t:KW):Prop:= ∀l∈ls,(Ad l).1.arg=a-> ∀q,(Ad l).1.path=p++q->Ni w t q (Ad l).1= !(Ad l).2
def Ks {w:AF} {ls:List Fact} (hl: ∀l∈ls,Dm w l) {a:Int} {p:List Int}:E0 w.owner.length ls a p=true↔TT w ls a p .K8:=by
 rw[E0,A9,EG,XZ hl];constructor
 .rintro⟨h1,h2⟩ l k1 k2 q hq
  cases q with
  | nil=>
    have:=h1 l (Ik.2 ⟨k1,Eh.2 ⟨k2,by simpa using hq⟩⟩);simp only[Ni,Eb,JQ]at *
    revert this
    cases((Ad l).1.op==2&&((Ad l).1.cls==0||(Ad l).1.cls==2))<;>cases(Ad l).2<;>decide
  | cons s q=>simp[Ni,h2 l k1 k2 s q hq]
 .intro h
  refine⟨fun l k=>?_,fun l k1 k2 s q hq=>?_⟩
  .obtain⟨k1,k2⟩:=Ik.1 k
   obtain⟨k3,k4⟩:=Eh.1 k2;have:=h l k1 k3 [] (by simpa using k4);simp only[Ni,Eb,JQ]at *
   revert this
   cases((Ad l).1.op==2&&((Ad l).1.cls==0||(Ad l).1.cls==2))<;>cases(Ad l).2<;>decide
  .have:=h l k1 k2 (s::q) hq
   simpa[Ni]using this.symm
def NC {w:AF} {ls:List Fact} (hl: ∀l∈ls,Dm w l) {a:Int} {p:List Int}:((GI ls a p).isSome&&Da w.owner.length ls a p)=true↔ ∃m,GW w (.int m)/\TT w ls a p (.int m):=by
 rw[A9,XZ hl,mF hl];constructor
 .rintro⟨⟨m,h1,h2⟩,h3⟩
  refine⟨m,h1,fun l k1 k2 q hq=>?_⟩;cases q with
  | nil=>exact h2 l k1 k2 (by simpa using hq)
  | cons s q=>simp[Ni,h3 l k1 k2 s q hq]
 .rintro⟨m,h1,h2⟩
  refine⟨⟨m,h1,fun l k1 k2 k3=>h2 l k1 k2 [] (by simpa using k3)⟩,fun l k1 k2 s q hq=>?_⟩;have:=h2 l k1 k2 (s::q) hq;simpa[Ni]using this.symm
def cR {w:AF} (hw:JN w) {ls:List Fact} (hl: ∀l∈ls,Dm w l) {a:Int} {p:List Int} {can:Int->Bool} (hcan: ∀s,s∈BR w.owner.length ls a p->(can s=true↔ ∃t,GW w t/\TT w ls a (p++[s]) t)) :
    (((GI ls a p).isSome&&Da w.owner.length ls a p)||(E0 w.owner.length ls a p||(LY w ls a p can).isSome))=true↔ ∃t,GW w t/\TT w ls a p t:=by
 rw[E9,E9,NC hl,Ks hl,lh hw hl (T:=fun s t=>TT w ls a (p++[s]) t) hcan fun s t=>by simp only[TT,PR,List.singleton_append]];constructor
 .rintro(⟨m,h1,h2⟩|h|⟨C,kid,h1,h2⟩)
  .exact⟨_,h1,h2⟩
  .exact⟨.K8,trivial,h⟩
  .exact⟨_,h1,h2⟩
 .rintro⟨t,h1,h2⟩
  cases t with
  | int m=>exact .inl ⟨m,h1,h2⟩
  | K8=>exact .inr (.inl h2)
  | obj C kid=>exact .inr (.inr ⟨C,kid,h1,h2⟩)
def KG {w:AF} (hw:JN w) {ls:List Fact} (hl: ∀l∈ls,Dm w l) (a:Int): ∀(d:Nat) (p:List Int),p.length+d=2->(MO w ls a d p=true↔ ∃t,GW w t/\TT w ls a p t)
 | 0,p,hp=>by
   rw[MO];refine cR hw hl fun s hs=>?_
   rw[IV (m:=2) (fun l h=>(hl l h).short) (by omega)]at hs;cases hs
 | d+1,p,hp=>by
   rw[MO];exact cR hw hl fun s hs=>KG hw hl a d (p++[s]) (by simp;omega)
def F4 (w:AF) (M:Int->KW) (l:Fact):Prop:=Ni w (M (Ad l).1.arg) (Ad l).1.path (Ad l).1= !(Ad l).2
def Mu {w:AF} (hw:JN w) {ls:List Fact} (hl: ∀l∈ls,Dm w l):FW w ls=true↔ ∃M:Int->KW,(∀a,GW w (M a))/\ ∀l∈ls,F4 w M l:=by
 rw[FW,EG];constructor
 .intro h
  have hk: ∀a:Int,∃t,GW w t/\(0<=a/\a<3->TT w ls a [] t):=fun a=>by
   rcases Classical.em (0<=a/\a<3)with e|e
   .obtain⟨t,h1,h2⟩:=(KG hw hl a 2 [] rfl).1 (h a (C9.2 e))
    exact⟨t,h1,fun _=>h2⟩
   .exact⟨.K8,trivial,fun k=>absurd k e⟩
  exact⟨fun a=>Classical.choose (hk a),fun a=>(Classical.choose_spec (hk a)).1,fun l k=>(Classical.choose_spec (hk (Ad l).1.arg)).2 (hl l k).arg l k rfl _ rfl⟩
 .rintro⟨M,h1,h2⟩ a _
  refine(KG hw hl a 2 [] rfl).2 ⟨M a,h1 a,fun l k1 k2 q hq=>?_⟩;have:=h2 l k1;rw[F4,k2]at this;rw[List.nil_append]at hq;rw[<-hq];exact this
def z7 (w:AF) (M:Int->KW) (f:Fact) (l:List Bool):Bool:=
 if f.op=1 then true else if f.op=5 then !l.getD 0 false else if f.op=6 then l.getD 0 false&&l.getD 1 false else if f.op=7 then l.getD 0 false||l.getD 1 false else Ni w (M f.arg) f.path f
def UL (w:AF) (M:Int->KW) (f:Fact):Bool:=f.H6 (z7 w M)
def Y5 (w:AF) (M:Int->KW) (f:Fact):UL w M f=z7 w M f (f.kids.map (UL w M)):=Fact.Dw (z7 w M) f
def NB (a:List Fact) (Q:Fact->Prop): ∀b:List Fact,(∀x∈Ca a b,Q x)↔(∀x∈a,Q x)/\ ∀x∈b,Q x:=by
 intro b
 induction b generalizing a with
 | nil=>simp[Ca]
 | cons y r ih=>
   rw[Ca,ih];split
   .rename_i h
    obtain⟨z,h1,h2⟩:=Ij.1 h;have:=(OQ y z).1 h2;subst this;simp only[List.forall_mem_cons];constructor
    .rintro⟨h3,h4⟩;exact⟨h3,h3 _ h1,h4⟩
    .rintro⟨h3,_,h4⟩;exact⟨h3,h4⟩
   .simp only[List.forall_mem_append,List.forall_mem_cons,List.forall_mem_nil]
    constructor
    .rintro⟨⟨h1,h2,_⟩,h3⟩;exact⟨h1,h2,h3⟩
    .rintro⟨h1,h2,h3⟩;exact⟨⟨h1,h2,fun _ h=>by cases h⟩,h3⟩
def E4 {w : AF} {M:Int->KW} (f:Fact):Bb w f=true-> ∀c,(∃l∈BE f c,∀x∈l,F4 w M x)↔UL w M f= !c:=by
 induction f using Fact.ind with
 | h f ih=>
   intro h c;have har:=Bn f h;have h':=h;rw[CO,A9,EG]at h';rw[E5,Es,Y5,z7];by_cases h1:f.op=1
   .rw[if_pos h1,if_pos h1]
    cases c<;>simp
   rw[if_neg h1,if_neg h1];by_cases h5:f.op=5
   .obtain⟨a,ha,hb⟩:=FN har h5
    rw[if_pos h5,if_pos h5,ha];have:=ih a (by rw[ha];exact .head _) (h'.2 a (by rw[ha];exact .head _)) (!c);simp only[FA,List.map_nil,List.getD_cons_zero];rw[this];cases UL w M a<;>cases c<;>decide
   rw[if_neg h5,if_neg h5];by_cases h6:f.op=6\/f.op=7
   .obtain⟨a,b,ha,hb1,hb2⟩:=FM har h6
    rw[if_pos h6,ha];have i1:=ih a (by rw[ha];exact .head _) (h'.2 a (by rw[ha];exact .head _)) c;have j1:=ih b (by rw[ha];exact .tail _ (.head _)) (h'.2 b (by rw[ha];exact .tail _ (.head _))) c;simp only[FA,List.map_nil,List.getD_cons_zero,List.getD_cons_succ]
    have happ:(∃l∈BE a c++BE b c,∀x∈l,F4 w M x)↔UL w M a= !c\/UL w M b= !c:=by
     rw[<-i1,<-j1];constructor
     .rintro⟨l,hl,hx⟩
      rcases Dy.1 hl with hl|hl
      .exact .inl ⟨l,hl,hx⟩
      .exact .inr ⟨l,hl,hx⟩
     .rintro(⟨l,hl,hx⟩|⟨l,hl,hx⟩)
      .exact⟨l,Pk _ hl,hx⟩
      .exact⟨l,Ov _ hl,hx⟩
    have hprod:(∃l∈DX (BE a c) (BE b c),∀x∈l,F4 w M x)↔UL w M a= !c/\UL w M b= !c:=by
     rw[<-i1,<-j1];simp only[DX,List.mem_flatMap,Il];constructor
     .rintro⟨l,⟨y,hy,z,hz,rfl⟩,hx⟩
      rw[NB]at hx;exact⟨⟨y,hy,hx.1⟩,z,hz,hx.2⟩
     .rintro⟨⟨y,hy,h1⟩,z,hz,h2⟩
      exact⟨_,⟨y,hy,z,hz,rfl⟩,(NB y _ z).2 ⟨h1,h2⟩⟩
    rcases h6 with h6|h6
    .rw[if_pos h6,h6]
     cases c
     .rw[if_neg (by decide),hprod]
      simp
     .rw[if_pos (by decide),happ]
      simp only[Bool.not_true,Bool.and_eq_false_iff]
    .rw[if_neg (by omega: ¬f.op=6),if_pos h6,h6]
     cases c
     .rw[if_pos (by decide),happ]
      simp
     .rw[if_neg (by decide),hprod]
      simp only[Bool.not_true,Bool.or_eq_false_iff]
   .rw[if_neg h6,if_neg (fun e=>h6 (.inl e)),if_neg (fun e=>h6 (.inr e))]
    have e1:F4 w M f↔Ni w (M f.arg) f.path f=true:=by rw[F4,Ad,if_neg h5];exact Iff.rfl
    have e2:F4 w M (EZ f)↔Ni w (M f.arg) f.path f=false:=by
     rw[F4,show Ad (EZ f)=(f,true) from rfl];exact Iff.rfl
    cases c
    .simp[e1]
    .simp[e2]
def lS {w:AF} (hw:JN w) {f:Fact} (hn:Bb w f=true):Sg w f=true↔ ∃M:Int->KW,(∀a,GW w (M a))/\UL w M f=true:=by
 rw[Sg,Ij];constructor
 .rintro⟨l,h1,h2⟩
  obtain⟨M,h3,h4⟩:=(Mu hw fun x hx=>HR (C5 f hn false l h1 x hx)).1 h2;exact⟨M,h3,(E4 f hn false).1 ⟨l,h1,h4⟩⟩
 .rintro⟨M,h1,h2⟩
  obtain⟨l,h3,h4⟩:=(E4 f hn false).2 h2;exact⟨l,h3,(Mu hw fun x hx=>HR (C5 f hn false l h3 x hx)).2 ⟨M,h1,h4⟩⟩
def Q8 {w:AF} (hw:JN w) {a b:Fact} (ha:Bb w a=true) (hb:Bb w b=true):UW w a b=true↔ ∀M:Int->KW,(∀x,GW w (M x))->UL w M a=true->UL w M b=true:=by
 have he: ∀M,UL w M (Pb a (EZ b))=(UL w M a&& !UL w M b):=fun M=>by
  rw[Y5];simp only[z7,Pb,Fact.op,Fact.kids,FA,List.map_nil,List.getD_cons_zero,List.getD_cons_succ];rw[Y5 w M (EZ b)];simp[z7,EZ,Fact.op,Fact.kids]
 rw[UW,Bool.not_eq_true',<-Bool.not_eq_true,lS hw (Q2 ha hb)];constructor
 .intro h M h1 h2
  rw[<-Bool.not_eq_false];exact fun h3=>h ⟨M,h1,by rw[he,h2,h3];rfl⟩
 .rintro h ⟨M,h1,h2⟩
  rw[he,A9]at h2;rw[h M h1 h2.1]at h2;simp at h2
def imp_trans {w:AF} (hw:JN w) {a b c:Fact} (ha:Bb w a=true) (hb:Bb w b=true) (hc:Bb w c=true) (h1:UW w a b=true) (h2:UW w b c=true):UW w a c=true:=
 (Q8 hw ha hc).2 fun M hM h=>(Q8 hw hb hc).1 h2 M hM ((Q8 hw ha hb).1 h1 M hM h)
end Go.Gl
namespace Go.Gl
open Go.Proofs
def Ua (l:List Int) (s:Int):List Int:=if l.contains s then l else l++[s]
def na (k:Kn) (s:Int):Kn:={k with AG:=Ua k.AG s}
def ID (a:Int) (p:List Int) (k:Kn) (l:Fact):Kn:=
 if(Ad l).1.arg=a/\Bd (Ad l).1.path p=true then
  (if(Ad l).1.path=p then B4 (B5 k (Ad l).2) (Ad l).1 (Ad l).2 else na (B5 k (Ad l).2) ((Ad l).1.path.getD p.length 0))
 else k
def kg (ls:List Fact) (a:Int) (p:List Int):Kn:=ls.foldl (ID a p) k0
structure gZ (k k':Kn):Prop where
 core:Db k=Db k'
 gl:k.Ab=k'.Ab
 AG: ∀s,s∈k.AG↔s∈k'.AG
def nG (l:List Int) (s x:Int):x∈Ua l s↔x∈l\/x=s:=by
 unfold Ua;split
 .rename_i h
  rw[List.contains_iff_mem]at h;exact⟨.inl,fun h'=>h'.elim id fun e=>by rw[e];exact h⟩
 .simp
def lM {k k':Kn} (h:gZ k k') (a:Int) (p:List Int) (l:Fact):gZ (ID a p k l) (C1 a p k' l):=by
 unfold ID C1;split
 .split
  .refine⟨RM (k:=B5 k (Ad l).2) (k':=B5 k' (Ad l).2) h.core _ _,?_,fun s=>?_⟩
   .rw[L8,L8];simp[B5,h.gl]
   .rw[Ii,Ii];exact h.AG s
  .refine⟨h.core,by simp[na,gR,B5,h.gl],fun s=>?_⟩
   show s∈Ua k.AG _↔s∈Jb k'.AG _;rw[UD,nG,h.AG]
 .exact h
def W6 (a:Int) (p:List Int): ∀(ls:List Fact) (k k':Kn),gZ k k'->gZ (ls.foldl (ID a p) k) (ls.foldl (C1 a p) k')
 | [],_,_,h=>h
 | l::r,_,_,h=>W6 a p r _ _ (lM h a p l)
def Gs (ls:List Fact) (a:Int) (p:List Int):gZ (kg ls a p) (kn ls a p):=W6 a p ls k0 k0 ⟨rfl,rfl,fun _=>Iff.rfl⟩
def VM (ls:List Fact) (a:Int) (p:List Int):Db (kg ls a p)=Db (Ea (ls.filter (Fv a p)) k0):=(Gs ls a p).core.trans (Mf ls a p)
def Kw (ls:List Fact) (a:Int) (p:List Int):(kg ls a p).Ab= !DF ls a p:=by rw[(Gs ls a p).gl,Kv]
def OS {w:AF} {ls:List Fact} (hl: ∀l∈ls,Dm w l):Hj w.owner.length ls:=fun l h=>(hl l h).path
def KD {w:AF} {ls:List Fact} (hl: ∀l∈ls,Dm w l) {a:Int} {p:List Int} {s:Int}:s∈(kg ls a p).AG↔ ∃l∈ls,(Ad l).1.arg=a/\ ∃q,(Ad l).1.path=p++s::q:=by
 rw[(Gs ls a p).AG,KC (OS hl),Kq hl]
def iN {w:AF} {ls:List Fact} (hl: ∀l∈ls,Dm w l) {a:Int} {p:List Int} {s:Int} (h:s∈(kg ls a p).AG):0<=s/\s<(w.owner.length:Int):=by
 obtain⟨l,h1,h2,q,hq⟩:=(KD hl).1 h;exact(hl l h1).path s (by rw[hq];simp)
def jc (ls:List Fact) (a:Int) (p:List Int):IE (kg ls) a p=IE (kn ls) a p:=by
 rw[IE,IE,JK,EG,EG];constructor
 .intro h s hs
  have:=h s (((Gs ls a p).AG s).2 hs)
  rwa [(Gs ls a (p++[s])).gl]at this
 .intro h s hs
  have:=h s (((Gs ls a p).AG s).1 hs)
  rwa [(Gs ls a (p++[s])).gl]
def Kg {k k':Kn} (h:Db k=Db k'):k.low=k'.low/\k.high=k'.high/\k.no=k'.no/\k.BM=k'.BM/\k.Dz=k'.Dz/\k.whole=k'.whole:=by
 simpa only[Db,Prod.mk.injEq]using h
def AAw (ls:List Fact) (a:Int) (p:List Int):GJ (kg ls) a p=GJ (kn ls) a p:=by
 obtain⟨c1,c2,c3,c4,c5,-⟩:=Kg (Gs ls a p).core;rw[GJ,GJ,Ek,Ek,jc,Eo,Eo,c1,c2,c3,c4,c5]
def uN (ls:List Fact) (a:Int) (p:List Int):DY (kg ls) a p=DY (kn ls) a p:=by
 obtain⟨-,-,-,c4,c5,c6⟩:=Kg (Gs ls a p).core;rw[DY,DY,Ek,Ek,jc,c4,c5,c6]
def RN {w:AF} {ls:List Fact} (hl: ∀l∈ls,Dm w l):HD (3+w.parents.length) ls:=fun l h ho=>by
 have:=(hl l h).cls ho;omega
def bg {w:AF} (hw:JN w) {ls:List Fact} (hl: ∀l∈ls,Dm w l) (a:Int) (p:List Int):GJ (kg ls) a p=true↔ ∃m,GW w (.int m)/\TT w ls a p (.int m):=by
 rw[AAw,Y1 (n:=3+w.parents.length) (by have:=hw.len;omega) (RN hl) (OS hl),NC hl]
def XH {w:AF} (hw:JN w) {ls:List Fact} (hl: ∀l∈ls,Dm w l) (a:Int) (p:List Int):DY (kg ls) a p=true↔TT w ls a p .K8:=by
 rw[uN,VE (n:=3+w.parents.length) (by have:=hw.len;omega) (RN hl) (OS hl),Ks hl]
def Sh (w:AF) (kf:Int->List Int->Kn) (a:Int) (p:List Int) (up:Nat) (can:Int->Bool):Bool:=
 !(kf a p).whole&&(H2 (kf a p).BM up&&((kf a p).Dz&&&up==0&&(kf a p).AG.all fun s=>if up.testBit (Bl w s).toNat then can s else !(kf a (p++[s])).Ab))
def Qz {w : AF} (hw:JN w) {ls:List Fact} (hl: ∀l∈ls,Dm w l) {a:Int} {p:List Int} {up:Nat} {can:Int->Bool} {OK:KW->Prop} (hnon:OK .K8) (u0:up.testBit 0=true) (u1:up.testBit 1=false) (u2:up.testBit 2=false)
    (hcan: ∀s∈(kg ls a p).AG,(can s=true↔ ∃t,OK t/\TT w ls a (p++[s]) t)) :
    Sh w (kg ls) a p up can=true↔ ∃kid,(∀s,OK (kid s))/\TT w ls a p (.obj (fun b=>up.testBit b) kid):=by
 obtain⟨-,-,-,c4,c5,c6⟩:=Kg (VM ls a p);have hc2:HD (3+w.parents.length) (ls.filter (Fv a p)):=fun l h=>RN hl l (Ik.1 h).1
 have hlt:(Ea (ls.filter (Fv a p)) k0).BM<2 ^ 64:=Nat.lt_of_lt_of_le (Me hc2) (Nat.pow_le_pow_right (by decide) (by have:=hw.len;omega));have hon: ∀l,l∈ls.filter (Fv a p)↔l∈ls/\(Ad l).1.arg=a/\(Ad l).1.path=p:=fun l=>by rw[Ik,Eh]
 rw[Sh,A9,A9,A9,c4,c5,c6,TA,Mv hlt,NJ,EG];simp only[IK,VD,hon];constructor
 .rintro ⟨h1,h2,h3,h4⟩
  have hk: ∀s,∃t,OK t/\(s∈(kg ls a p).AG->up.testBit (Bl w s).toNat=true->TT w ls a (p++[s]) t):=fun s=>by
   rcases Classical.em (s∈(kg ls a p).AG/\up.testBit (Bl w s).toNat=true)with⟨e1,e2⟩|e
   .have:=h4 s e1
    rw[if_pos e2]at this;obtain⟨t,q1,q2⟩:=(hcan s e1).1 this;exact⟨t,q1,fun _ _=>q2⟩
   .exact⟨.K8,hnon,fun e1 e2=>absurd ⟨e1,e2⟩ e⟩
  refine⟨fun s=>Classical.choose (hk s),fun s=>(Classical.choose_spec (hk s)).1,fun l k1 k2 q hq=>?_⟩;cases q with
  | nil =>
    rw[Ez]at hq;have hcl:=(hl l k1).cls;show Eb _ _=_;simp only[Eb];cases hb:(Ad l).2
    .have ho:=h1 l ⟨k1,k2,hq⟩ hb
     have hu:=h2 _ ⟨l,⟨k1,k2,hq⟩,ho,hb,rfl⟩;have:=hcl ho;rw[C0.2 ho,Ds];by_cases e0:(Ad l).1.cls=0
     .rw[e0];rfl
     .have e3:3<=(Ad l).1.cls:=by
       rcases Int.lt_or_le (Ad l).1.cls 3 with hlt|hge
       .exfalso
        have:(Ad l).1.cls.toNat=1\/(Ad l).1.cls.toNat=2:=by omega
        rcases this with e|e<;>rw[e]at hu
        .rw[u1]at hu;cases hu
        .rw[u2]at hu;cases hu
       .exact hge
      rw[decide_eq_true e3,hu];simp
    .by_cases ho:(Ad l).1.op=2
     .have hn:=h3 _ ⟨l,⟨k1,k2,hq⟩,ho,hb,rfl⟩
      have:=hcl ho;rw[C0.2 ho,Ds];have e0:(Ad l).1.cls≠0:=fun e=>hn (by rw[e];exact u0)
      rw[beq_eq_false_iff_ne.2 e0,Bool.false_or];cases hu:up.testBit (Ad l).1.cls.toNat
      .simp
      .exact(hn hu).elim
     .rw[beq_eq_false_iff_ne.2 ho];rfl
  | cons s r=>
    have hs:s∈(kg ls a p).AG:=(KD hl).2 ⟨l,k1,k2,r,hq⟩;rw[Ni];have hsp:=(Classical.choose_spec (hk s)).2;generalize Classical.choose (hk s)=t at hsp ⊢;cases hu:up.testBit (Bl w s).toNat
    .have:=h4 s hs
     rw[hu,if_neg (by decide),Kw,Bool.not_not]at this;have:=Ef.1 this l k1 k2 r (by rw[hq];simp);rw[this];rfl
    .rw[Ds]
     exact hsp hs hu l k1 k2 r (by rw[hq];simp)
 .rintro ⟨kid,hkid,hT⟩
  have hleaf: ∀l∈ls,(Ad l).1.arg=a->(Ad l).1.path=p->((Ad l).1.op==2&&((Ad l).1.cls==0||(decide (3<=(Ad l).1.cls)&&up.testBit (Ad l).1.cls.toNat)))= !(Ad l).2:=fun l k1 k2 k3=>hT l k1 k2 [] (by rw[k3];simp)
  refine⟨?_,?_,?_,?_⟩
  .rintro l ⟨k1,k2,k3⟩ hb
   have:=hleaf l k1 k2 k3;rw[hb,Bool.not_false,A9,C0]at this;exact this.1
  .rintro b ⟨l,⟨k1,k2,k3⟩,ho,hb,rfl⟩
   have:=hleaf l k1 k2 k3;rw[hb,Bool.not_false,A9,E9,A9,C0,C0]at this;rcases this.2 with e|e
   .rw[e];exact u0
   .exact e.2
  .rintro b ⟨l,⟨k1,k2,k3⟩,ho,hb,rfl⟩ hu
   have:=hleaf l k1 k2 k3;have hc:=(hl l k1).cls ho;rw[hb,C0.2 ho,hu,Ds,Bool.and_true]at this;by_cases e0:(Ad l).1.cls=0
   .rw[e0]at this;cases this
   .have e3:3<=(Ad l).1.cls:=by
     rcases Int.lt_or_le (Ad l).1.cls 3 with hlt|hge
     .exfalso
      have:(Ad l).1.cls.toNat=1\/(Ad l).1.cls.toNat=2:=by omega
      rcases this with e|e<;>rw[e]at hu
      .rw[u1]at hu;cases hu
      .rw[u2]at hu;cases hu
     .exact hge
    rw[decide_eq_true e3]at this;simp at this
  .intro s hs
   cases hu:up.testBit (Bl w s).toNat
   .rw[if_neg (by decide),Kw,Bool.not_not]
    refine Ef.2 fun l k1 k2 q hq=>?_
    have:=hT l k1 k2 (s::q) (by rw[hq];simp);rw[Ni,hu,Bool.false_and]at this;simpa using this.symm
   .rw[if_pos rfl]
    refine(hcan s hs).2 ⟨kid s,hkid s,fun l k1 k2 q hq=>?_⟩;have:=hT l k1 k2 (s::q) (by rw[hq];simp)
    rwa [Ni,hu,Ds]at this
def D2 (w:AF) (kf:Int->List Int->Kn) (a:Int) (p:List Int):Nat:=(kf a p).AG.foldl (fun m s=>if(kf a (p++[s])).Ab then m|||2 ^ (Bl w s).toNat else m) ((kf a p).BM|||2 ^ 0)
def Vz (w:AF) (kf:Int->List Int->Kn) (a:Int) (p:List Int) (can:Int->Bool):Bool:=
 !(D2 w kf a p).testBit 1&&(!(D2 w kf a p).testBit 2&&Sh w kf a p (Br (Bc w.parents) w.parents.length (D2 w kf a p)) can)
def Sj (w:AF) (kf:Int->List Int->Kn) (a:Int):Nat->List Int->Bool
 | 0,p=>GJ kf a p||(DY kf a p||Vz w kf a p fun _=>false)
 | d+1,p=>GJ kf a p||(DY kf a p||Vz w kf a p fun s=>Sj w kf a d (p++[s]))
def XV {w:AF} {kf:Int->List Int->Kn} {a:Int} {p:List Int} {b:Nat}: ∀(l:List Int) (m:Nat),(l.foldl (fun m s=>if(kf a (p++[s])).Ab then m|||2 ^ (Bl w s).toNat else m) m).testBit b=true↔m.testBit b=true\/ ∃s∈l,(kf a (p++[s])).Ab=true/\b=(Bl w s).toNat
 | [],m=>by simp
 | x ::r,m=>by
   rw[List.foldl_cons,XV r];simp only[GM,exists_eq_or_imp];cases hn:(kf a (p++[x])).Ab
   .simp
   .rw[if_pos rfl,EC,E9,C0]
    simp only[true_and,or_assoc]
def eP {w:AF} {kf:Int->List Int->Kn} {a:Int} {p:List Int} {b:Nat}:(D2 w kf a p).testBit b=true↔(kf a p).BM.testBit b=true\/b=0\/ ∃s∈(kf a p).AG,(kf a (p++[s])).Ab=true/\b=(Bl w s).toNat:=by
 rw[D2,XV,EC,E9,C0,or_assoc]
def QE {w:AF} (hw:JN w) {ls:List Fact} (hl: ∀l∈ls,Dm w l) {a:Int} {p:List Int} {C C':Nat->Bool} {kid:Int->KW} (h: ∀b,3<=b->C b=C' b) (hT:TT w ls a p (.obj C kid)):TT w ls a p (.obj C' kid):=fun l k1 k2 q hq=>by
 rw[<-hT l k1 k2 q hq];cases q with
 | nil=>
   show Eb _ _=Eb _ _;simp only[Eb];by_cases h3:3<=(Ad l).1.cls
   .rw[h _ (by omega)]
   .rw[decide_eq_false h3,Bool.false_and,Bool.false_and]
 | cons s r=>
   have:=Lh hw ((hl l k1).path s (by rw[hq];simp));rw[Ni,Ni,h _ (by omega)]
def lg {w : AF} (hw:JN w) {ls:List Fact} (hl: ∀l∈ls,Dm w l) {a:Int} {p:List Int} {can:Int->Bool} (hcan: ∀s∈(kg ls a p).AG,(can s=true↔ ∃t,GW w t/\TT w ls a (p++[s]) t)) :
    Vz w (kg ls) a p can=true↔ ∃C kid,GW w (.obj C kid)/\TT w ls a p (.obj C kid):=by
 have hmb:=fun b=>eP (w:=w) (kf:=kg ls) (a:=a) (p:=p) (b:=b)
 have hcb:=fun b=>L7 hw.ord (D2 w (kg ls) a p) w.parents.length b (Hz _)
 obtain⟨-,-,-,c4,-,-⟩:=Kg (VM ls a p)
 have hmi: ∀b,(kg ls a p).BM.testBit b=true↔ ∃l∈ls,((Ad l).1.arg=a/\(Ad l).1.path=p)/\(Ad l).1.op=2/\(Ad l).2=false/\(Ad l).1.cls.toNat=b:=fun b=>by
  rw[c4,IK];constructor
  .rintro⟨l,h1,h2⟩
   exact⟨l,(Ik.1 h1).1,Eh.1 (Ik.1 h1).2,h2⟩
  .rintro⟨l,h1,h2,h3⟩
   exact⟨l,Ik.2 ⟨h1,Eh.2 h2⟩,h3⟩
 have hge: ∀b,b=1\/b=2->(Br (Bc w.parents) w.parents.length (D2 w (kg ls) a p)).testBit b=true->(D2 w (kg ls) a p).testBit b=true:=fun b hb h=>by
  rcases(hcb b).1 h with h|⟨d,h1,_,_,h2⟩
  .exact h
  .rcases h2 with h2|h2
   .omega
   .have:=Lf hw.ord d b h1 h2
    omega
 rw[Vz,A9,A9,Bool.not_eq_true',Bool.not_eq_true'];constructor
 .rintro⟨m1,m2,ho⟩
  have u0:(Br (Bc w.parents) w.parents.length (D2 w (kg ls) a p)).testBit 0=true:=(hcb 0).2 (.inl ((hmb 0).2 (.inr (.inl rfl))))
  have u1:(Br (Bc w.parents) w.parents.length (D2 w (kg ls) a p)).testBit 1=false:=by
   rw[<-Bool.not_eq_true];intro h;rw[hge 1 (.inl rfl) h]at m1;cases m1
  have u2:(Br (Bc w.parents) w.parents.length (D2 w (kg ls) a p)).testBit 2=false:=by
   rw[<-Bool.not_eq_true];intro h;rw[hge 2 (.inr rfl) h]at m2;cases m2
  obtain⟨kid,h1,h2⟩:=(Qz hw hl (OK:=GW w) trivial u0 u1 u2 hcan).1 ho;refine⟨_,kid,⟨fun c h3 hc q hq=>?_,h1⟩,h2⟩;have hqc:=hw.ord c q hq
  have hcl:c<3+w.parents.length:=by
   rcases Nat.lt_or_ge c (3+w.parents.length)with h'|h'
   .exact h'
   .rw[par,if_neg (by omega),C6,List.getElem?_eq_none (by omega)]at hq;cases hq
  have hup:HA w.parents c q.toNat=true:=by
   rw[FI hw.ord,E9,Ij];exact .inr ⟨q,hq,FQ hw.ord _⟩
  rcases(hcb c).1 hc with h|⟨d,k1,k2,k3,k4⟩
  .exact(hcb _).2 (.inr ⟨c,h3,hcl,h,.inr hup⟩)
  .refine(hcb _).2 (.inr ⟨d,k1,k2,k3,.inr ?_⟩)
   rcases k4 with k4|k4
   .omega
   .exact Km hw.ord _ _ _ k4 hup
 .rintro ⟨C,kid,⟨hC,hkid⟩,hT⟩
  have hleaf: ∀l∈ls,(Ad l).1.arg=a->(Ad l).1.path=p->((Ad l).1.op==2&&((Ad l).1.cls==0||(decide (3<=(Ad l).1.cls)&&C (Ad l).1.cls.toNat)))= !(Ad l).2:=fun l k1 k2 k3=>hT l k1 k2 [] (by rw[k3];simp)
  have hM: ∀b,(D2 w (kg ls) a p).testBit b=true->b=0\/3<=b/\C b=true:=fun b hb=>by
   rcases(hmb b).1 hb with h|h|⟨s,h1,h2,h3⟩
   .obtain⟨l,k1,⟨k2,k3⟩,ho,hb2,rfl⟩:=(hmi b).1 h
    have:=hleaf l k1 k2 k3;rw[hb2,Bool.not_false,A9,E9,A9,C0,C0,Cp]at this;rcases this.2 with e|⟨e1,e2⟩
    .left;omega
    .exact .inr ⟨by omega,e2⟩
   .exact .inl h
   .have hin:=Lh hw (iN hl h1)
    refine .inr ⟨by omega,?_⟩;rw[Kw,Bool.not_eq_true',<-Bool.not_eq_true]at h2;rcases Classical.em (C (Bl w s).toNat=true)with e|e
    .rw[h3];exact e
    .refine absurd (Ef.2 fun l k1 k2 q hq=>?_) h2
     have:=hT l k1 k2 (s::q) (by rw[hq];simp);rw[Bool.not_eq_true]at e;rw[Ni,e,Bool.false_and]at this;simpa using this.symm
  have hU: ∀b,(Br (Bc w.parents) w.parents.length (D2 w (kg ls) a p)).testBit b=true->b=0\/3<=b/\C b=true:=fun b hb=>by
   rcases(hcb b).1 hb with h|⟨d,k1,k2,k3,k4⟩
   .exact hM b h
   .rcases k4 with k4|k4
    .exact .inl k4
    .rcases hM d k3 with e|⟨_,e⟩
     .omega
     .exact .inr ⟨Lf hw.ord d b k1 k4,T2 hw.ord hC d b k1 e k4⟩
  have u0:(Br (Bc w.parents) w.parents.length (D2 w (kg ls) a p)).testBit 0=true:=(hcb 0).2 (.inl ((hmb 0).2 (.inr (.inl rfl))))
  have u1:(Br (Bc w.parents) w.parents.length (D2 w (kg ls) a p)).testBit 1=false:=by
   rw[<-Bool.not_eq_true];intro h;rcases hU 1 h with e|⟨e,_⟩<;>omega
  have u2:(Br (Bc w.parents) w.parents.length (D2 w (kg ls) a p)).testBit 2=false:=by
   rw[<-Bool.not_eq_true];intro h;rcases hU 2 h with e|⟨e,_⟩<;>omega
  refine⟨?_,?_,(Qz hw hl (OK:=GW w) trivial u0 u1 u2 hcan).2 ⟨kid,hkid,fun l k1 k2 q hq=>?_⟩⟩
  .rw[<-Bool.not_eq_true];intro h;rcases hM 1 h with e|⟨e,_⟩<;>omega
  .rw[<-Bool.not_eq_true];intro h;rcases hM 2 h with e|⟨e,_⟩<;>omega
  have hTl:=hT l k1 k2 q hq;cases q with
  | nil =>
    rw[Ez]at hq;have hcl:=(hl l k1).cls;have hlf:=hleaf l k1 k2 hq;show Eb _ _=_;simp only[Eb];cases hb:(Ad l).2
    .rw[hb,Bool.not_false,A9,C0]at hlf
     have hm:=(hcb _).2 (.inl ((hmb _).2 (.inl ((hmi _).2 ⟨l,k1,⟨k2,hq⟩,hlf.1,hb,rfl⟩))));rw[C0.2 hlf.1,hm,Ds,Bool.and_true];have:=hlf.2;rw[E9,A9]at this;rcases this with e|e
     .rw[e];rfl
     .rw[e.1];simp
    .rw [hb,Bool.not_true]at hlf
     rw[Bool.not_true];by_cases ho:(Ad l).1.op=2
     .rw [C0.2 ho,Ds,Bool.or_eq_false_iff]at hlf
      rw[C0.2 ho,Ds,hlf.1,Bool.false_or];cases hu:(Br (Bc w.parents) w.parents.length (D2 w (kg ls) a p)).testBit (Ad l).1.cls.toNat
      .simp
      .rcases hU _ hu with e|⟨e1,e2⟩
       .have hne:=beq_eq_false_iff_ne.1 hlf.1
        have:=hcl ho;omega
       .rw[e2,Bool.and_true]at hlf
        rw[hlf.2,Bool.false_and]
     .rw[beq_eq_false_iff_ne.2 ho];rfl
  | cons s r=>
    have hs:s∈(kg ls a p).AG:=(KD hl).2 ⟨l,k1,k2,r,hq⟩;have hin:=Lh hw (iN hl hs);rw[Ni]at hTl ⊢;cases hu:(Br (Bc w.parents) w.parents.length (D2 w (kg ls) a p)).testBit (Bl w s).toNat
    .have hnn:(kg ls a (p++[s])).Ab=false:=by
      rw[<-Bool.not_eq_true];intro hne;rw[(hcb _).2 (.inl ((hmb _).2 (.inr (.inr ⟨s,hs,hne,rfl⟩))))]at hu;cases hu
     rw[Kw,Bool.not_eq_false']at hnn;rw[Ef.1 hnn l k1 k2 r (by rw[hq];simp)];rfl
    .rcases hU _ hu with e|⟨_,e2⟩
     .omega
     .rw[e2,Ds]at hTl
      rw[Ds];exact hTl
def Xh {w:AF} (hw:JN w) {ls:List Fact} (hl: ∀l∈ls,Dm w l) (a:Int): ∀(d:Nat) (p:List Int),p.length+d=2->(Sj w (kg ls) a d p=true↔ ∃t,GW w t/\TT w ls a p t):=by
 have key: ∀(p:List Int) (can:Int->Bool),(∀s∈(kg ls a p).AG,(can s=true↔ ∃t,GW w t/\TT w ls a (p++[s]) t))->((GJ (kg ls) a p||(DY (kg ls) a p||Vz w (kg ls) a p can))=true↔ ∃t,GW w t/\TT w ls a p t):=fun p can hcan=>by
  rw[E9,E9,bg hw hl,XH hw hl,lg hw hl hcan];constructor
  .rintro(⟨m,h1,h2⟩|h|⟨C,kid,h1,h2⟩)
   .exact⟨_,h1,h2⟩
   .exact⟨.K8,trivial,h⟩
   .exact⟨_,h1,h2⟩
  .rintro⟨t,h1,h2⟩
   cases t with
   | int m=>exact .inl ⟨m,h1,h2⟩
   | K8=>exact .inr (.inl h2)
   | obj C kid=>exact .inr (.inr ⟨C,kid,h1,h2⟩)
 intro d
 induction d with
 | zero=>
   intro p hp;rw[Sj];refine key p _ fun s hs=>?_
   obtain⟨l,h1,h2,q,hq⟩:=(KD hl).1 hs;have:=(hl l h1).short;rw[hq]at this;simp at this;omega
 | succ d ih=>
   intro p hp;rw[Sj];exact key p _ fun s _=>ih (p++[s]) (by simp;omega)
def Vw (w:AF):KW->Prop
 | .int n=> -1000000000<=n/\n<=1000000000
 | .K8=>True
 | .obj C kid=>(∃c:Nat,3<=c/\c<3+w.parents.length/\ ∀b,C b=HA w.parents c b)/\ ∀s,Vw w (kid s)
def UO (w:AF) (t:KW) (c:Nat):Prop:=match t with
 | .int _=>c=1
 | .K8=>c=2
 | .obj C _=>3<=c/\c<3+w.parents.length/\ ∀b,C b=HA w.parents c b
def il {w:AF}: ∀t:KW,Vw w t-> ∃c,UO w t c/\1<=c/\c<3+w.parents.length
 | .int _,_=>⟨1,rfl,by omega,by omega⟩
 | .K8,_=>⟨2,rfl,by omega,by omega⟩
 | .obj C kid,⟨⟨c,h1,h2,h3⟩,_⟩=>⟨c,⟨h1,h2,h3⟩,by omega,h2⟩
def WH (w:AF) (kf:Int->List Int->Kn) (a:Int) (p:List Int) (can:Int->Bool) (c:Nat):Bool:=
 if c=1 then GJ kf a p else if c=2 then DY kf a p else Sh w kf a p ((Bc w.parents).getD c 0) can
def Sk (w:AF) (kf:Int->List Int->Kn) (a:Int):Nat->(Nat->Bool)->List Int->Bool
 | 0,fit,p=>(List.range (3+w.parents.length)).any fun c=>decide (1<=c)&&(fit c&&WH w kf a p (fun _=>false) c)
 | d+1,fit,p=>(List.range (3+w.parents.length)).any fun c=>decide (1<=c)&&(fit c&&WH w kf a p (fun s=>Sk w kf a d (fun _=>true) (p++[s])) c)
def Xd {w : AF} (hw:JN w) {ls:List Fact} (hl: ∀l∈ls,Dm w l) {a:Int} {p:List Int} {can:Int->Bool} (hcan: ∀s∈(kg ls a p).AG,(can s=true↔ ∃t,Vw w t/\TT w ls a (p++[s]) t)) {c:Nat} (h1:1<=c) (h2:c<3+w.parents.length) :
    WH w (kg ls) a p can c=true↔ ∃t,UO w t c/\Vw w t/\TT w ls a p t:=by
 rw[WH];split
 .rename_i e
  subst e;rw[bg hw hl];constructor
  .rintro⟨m,k1,k2⟩
   exact⟨.int m,rfl,k1,k2⟩
  .rintro⟨t,k0,k1,k2⟩
   cases t with
   | int m=>exact⟨m,k1,k2⟩
   | K8=>cases k0
   | obj C kid=>exact absurd k0.1 (by omega)
 .split
  .rename_i e
   subst e;rw[XH hw hl];constructor
   .intro k
    exact⟨.K8,rfl,trivial,k⟩
   .rintro⟨t,k0,k1,k2⟩
    cases t with
    | int m=>cases k0
    | K8=>exact k2
    | obj C kid=>exact absurd k0.1 (by omega)
  .rename_i e1 e2
   have hb:=fun b=>Ws hw.ord (b:=b) h2
   have h3:3<=c:=by omega
   have u0:((Bc w.parents).getD c 0).testBit 0=true:=by rw[hb];rfl
   have hno: ∀b,b=1\/b=2->((Bc w.parents).getD c 0).testBit b=false:=fun b hbb=>by
    rw[hb,<-Bool.not_eq_true,E9,C0];rintro(h|h)
    .omega
    .have:=Lf hw.ord c b h3 h
     omega
   rw[Qz hw hl (OK:=Vw w) trivial u0 (hno 1 (.inl rfl)) (hno 2 (.inr rfl)) hcan]
   have hagree: ∀b,3<=b->((Bc w.parents).getD c 0).testBit b=HA w.parents c b:=fun b hb3=>by
    rw[hb,beq_eq_false_iff_ne.2 (show b≠0 by omega),Bool.false_or]
   constructor
   .rintro⟨kid,k1,k2⟩
    exact⟨.obj (fun b=>HA w.parents c b) kid,⟨h3,h2,fun _=>rfl⟩,⟨⟨c,h3,h2,fun _=>rfl⟩,k1⟩,QE hw hl hagree k2⟩
   .rintro⟨t,k0,k1,k2⟩
    cases t with
    | int m=>exact absurd k0 (by simp only[UO];omega)
    | K8=>exact absurd k0 (by simp only[UO];omega)
    | obj C kid=>
      exact⟨kid,k1.2,QE hw hl (fun b hb3=>by rw[hagree b hb3,k0.2.2]) k2⟩
def NK {w:AF} (hw:JN w) {ls:List Fact} (hl: ∀l∈ls,Dm w l) (a:Int): ∀(d:Nat) (fit:Nat->Bool) (p:List Int),p.length+d=2->(Sk w (kg ls) a d fit p=true↔ ∃t c,UO w t c/\fit c=true/\Vw w t/\TT w ls a p t):=by
 have key: ∀(fit:Nat->Bool) (p:List Int) (can:Int->Bool),(∀s∈(kg ls a p).AG,(can s=true↔ ∃t,Vw w t/\TT w ls a (p++[s]) t))->(((List.range (3+w.parents.length)).any fun c=>decide (1<=c)&&(fit c&&WH w (kg ls) a p can c))=true↔ ∃t c,UO w t c/\fit c=true/\Vw w t/\TT w ls a p t):=fun fit p can hcan=>by
  rw[Ij];constructor
  .rintro⟨c,h1,h2⟩
   rw[A9,A9,Cp]at h2;obtain⟨t,k0,k1,k2⟩:=(Xd hw hl hcan h2.1 (List.mem_range.1 h1)).1 h2.2.2;exact⟨t,c,k0,h2.2.1,k1,k2⟩
  .rintro⟨t,c,k0,k1,k2,k3⟩
   have hc:1<=c/\c<3+w.parents.length:=by
    cases t with
    | int m=>have k0:c=1:=k0;omega
    | K8=>have k0:c=2:=k0;omega
    | obj C kid=>have:=k0.1;have:=k0.2.1;omega
   refine⟨c,List.mem_range.2 hc.2,?_⟩;rw[decide_eq_true hc.1,k1,(Xd hw hl hcan hc.1 hc.2).2 ⟨t,k0,k2,k3⟩];rfl
 intro d
 induction d with
 | zero=>
   intro fit p hp;rw[Sk];refine key fit p _ fun s hs=>?_
   obtain⟨l,h1,h2,q,hq⟩:=(KD hl).1 hs;have:=(hl l h1).short;rw[hq]at this;simp at this;omega
 | succ d ih=>
   intro fit p hp;rw[Sk];refine key fit p _ fun s _=>?_
   rw[ih (fun _=>true) (p++[s]) (by simp;omega)];constructor
   .rintro⟨t,c,_,_,k1,k2⟩
    exact⟨t,k1,k2⟩
   .rintro⟨t,k1,k2⟩
    obtain⟨c,k3,_⟩:=il t k1;exact⟨t,c,k3,rfl,k1,k2⟩
def Jr (cs:List Int) (a:Int) (c:Nat):Bool:=decide ((cs.length:Int)<=a)||cs.getD a.toNat 0==(c:Int)
def dI (w:AF) (cs:List Int) (ls:List Fact):Bool:=(BS 3).all fun a=>Sk w (kg ls) a 2 (Jr cs a) []
def nt (w:AF) (ls:List Fact):Bool:=(BS 3).all fun a=>Sj w (kg ls) a 2 []
def AAK (w:AF) (cs:List Int) (M:Int->KW):Prop:= ∀a,Vw w (M a)/\(0<=a->a<3-> ∃c,UO w (M a) c/\Jr cs a c=true)
def AAJ (w:AF) (M:Int->KW):Prop:= ∀a,GW w (M a)
def Wy {w:AF} (hw:JN w) {cs:List Int} {ls:List Fact} (hl: ∀l∈ls,Dm w l):dI w cs ls=true↔ ∃M:Int->KW,AAK w cs M/\ ∀l∈ls,F4 w M l:=by
 rw[dI,EG];constructor
 .intro h
  have hk: ∀a:Int,∃t,Vw w t/\(0<=a/\a<3->TT w ls a [] t/\ ∃c,UO w t c/\Jr cs a c=true):=fun a=>by
   rcases Classical.em (0<=a/\a<3)with e|e
   .obtain⟨t,c,k0,k1,k2,k3⟩:=(NK hw hl a 2 _ [] rfl).1 (h a (C9.2 e))
    exact⟨t,k2,fun _=>⟨k3,c,k0,k1⟩⟩
   .exact⟨.K8,trivial,fun k=>absurd k e⟩
  exact⟨fun a=>Classical.choose (hk a),fun a=>⟨(Classical.choose_spec (hk a)).1,fun h0 h1=>((Classical.choose_spec (hk a)).2 ⟨h0,h1⟩).2⟩,fun l k=>((Classical.choose_spec (hk (Ad l).1.arg)).2 (hl l k).arg).1 l k rfl _ rfl⟩
 .rintro⟨M,h1,h2⟩ a ha
  have ha:=C9.1 ha;obtain⟨c,k0,k1⟩:=(h1 a).2 ha.1 (by omega);refine(NK hw hl a 2 _ [] rfl).2 ⟨M a,c,k0,k1,(h1 a).1,fun l k1 k2 q hq=>?_⟩;have:=h2 l k1;rw[F4,k2]at this;rw[List.nil_append]at hq;rw[<-hq];exact this
def k7 {w:AF} (hw:JN w) {ls:List Fact} (hl: ∀l∈ls,Dm w l):nt w ls=true↔ ∃M:Int->KW,AAJ w M/\ ∀l∈ls,F4 w M l:=by
 show _↔ ∃M:Int->KW,(∀a,GW w (M a))/\_;rw[nt,EG,<-Mu hw hl,FW,EG];constructor
 .intro h a ha
  exact(KG hw hl a 2 [] rfl).2 ((Xh hw hl a 2 [] rfl).1 (h a ha))
 .intro h a ha
  exact(Xh hw hl a 2 [] rfl).2 ((KG hw hl a 2 [] rfl).1 (h a ha))
def stepOf (w:AF) (c:Int) (x:Fact×Bool):Bool:=(x.1.op==2&&Ju w.parents c x.1.cls)==x.2
def aE (w:AF) (ls:List Fact) (a:Int) (p:List Int) (can:Int->Bool) (c:Int):Bool:=
 (ls.filter (Fv a p)).all (fun l=> !stepOf w c (Ad l))&&(BR w.owner.length ls a p).all fun s=>if hasB w c s then can s else DF ls a (p++[s])
def PZ (w:AF) (ls:List Fact) (a:Int):Nat->List Int->Bool
 | 0,p=>((GI ls a p).isSome&&Da w.owner.length ls a p)||(E0 w.owner.length ls a p||(BS w.parents.length).any fun c=>aE w ls a p (fun _=>false) (3+c))
 | d+1,p=>((GI ls a p).isSome&&Da w.owner.length ls a p)||(E0 w.owner.length ls a p||(BS w.parents.length).any fun c=>aE w ls a p (fun s=>PZ w ls a d (p++[s])) (3+c))
def VC {w : AF} (hw:JN w) {ls:List Fact} (hl: ∀l∈ls,Dm w l) {a:Int} {p:List Int} {can:Int->Bool} (hcan: ∀s∈BR w.owner.length ls a p,(can s=true↔ ∃t,Vw w t/\TT w ls a (p++[s]) t)) {c:Int} (h3:3<=c) (hc:c<3+(w.parents.length:Int)) :
    aE w ls a p can c=true↔ ∃kid,(∀s,Vw w (kid s))/\TT w ls a p (.obj (fun b=>HA w.parents c.toNat b) kid):=by
 have hleaf: ∀l∈ls,∀kid,Eb (.obj (fun b=>HA w.parents c.toNat b) kid) (Ad l).1=((Ad l).1.op==2&&Ju w.parents c (Ad l).1.cls):=fun l hm kid=>by
  simp only[Eb];by_cases ho:(Ad l).1.op=2
  .have hcl:=(hl l hm).cls ho
   rw[C0.2 ho,Ds,Ds,Ju,decide_eq_true h3,Ds];by_cases hz:(Ad l).1.cls=0
   .rw[hz];simp
   rw[beq_eq_false_iff_ne.2 hz,Bool.false_or,Bool.false_or];by_cases h3c:3<=(Ad l).1.cls
   .rw[decide_eq_true h3c,Ds]
    by_cases he:c=(Ad l).1.cls
    .rw[<-he,FQ hw.ord];simp
    .rw[beq_eq_false_iff_ne.2 he,Bool.false_or]
   .rw[decide_eq_false h3c,Bool.false_and,beq_eq_false_iff_ne.2 (show c≠(Ad l).1.cls by omega),Bool.false_or]
    cases hb:HA w.parents c.toNat (Ad l).1.cls.toNat
    .rfl
    .have:=Lf hw.ord _ _ (by omega) hb
     omega
  .rw[beq_eq_false_iff_ne.2 ho];rfl
 have hhas: ∀s,0<=s/\s<(w.owner.length:Int)->hasB w c s=HA w.parents c.toNat (Bl w s).toNat:=fun s hs=>by
  have ho:=Lh hw hs;rw[hasB,Ju,decide_eq_true h3,Ds,beq_eq_false_iff_ne.2 (show Bl w s≠0 by omega),Bool.false_or,Ds];by_cases he:c=Bl w s
  .rw[<-he,FQ hw.ord];simp
  .rw[beq_eq_false_iff_ne.2 he,Bool.false_or]
 have hstep: ∀l∈ls,∀kid,(!stepOf w c (Ad l))=true↔Eb (.obj (fun b=>HA w.parents c.toNat b) kid) (Ad l).1= !(Ad l).2:=fun l hm kid=>by
  rw[hleaf l hm kid,stepOf];cases((Ad l).1.op==2&&Ju w.parents c (Ad l).1.cls)<;>cases(Ad l).2<;>decide
 rw[aE,A9,EG,EG];constructor
 .rintro⟨h1,h2⟩
  have hk: ∀s,∃t,Vw w t/\(s∈BR w.owner.length ls a p->hasB w c s=true->TT w ls a (p++[s]) t):=fun s=>by
   rcases Classical.em (s∈BR w.owner.length ls a p/\hasB w c s=true)with⟨e1,e2⟩|e
   .have:=h2 s e1
    rw[if_pos e2]at this;obtain⟨t,q1,q2⟩:=(hcan s e1).1 this;exact⟨t,q1,fun _ _=>q2⟩
   .exact⟨.K8,trivial,fun e1 e2=>absurd ⟨e1,e2⟩ e⟩
  refine⟨fun s=>Classical.choose (hk s),fun s=>(Classical.choose_spec (hk s)).1,fun l k1 k2 q hq=>?_⟩;cases q with
  | nil=>
    rw[Ez]at hq;exact(hstep l k1 _).1 (h1 l (Ik.2 ⟨k1,Eh.2 ⟨k2,hq⟩⟩))
  | cons s r=>
    have hs:s∈BR w.owner.length ls a p:=(Kq hl).2 ⟨l,k1,k2,r,hq⟩;have hin:=Fl hs;rw[Ni,<-hhas s hin];have hsp:=(Classical.choose_spec (hk s)).2;generalize Classical.choose (hk s)=t at hsp ⊢;cases hu:hasB w c s
    .have:=h2 s hs
     rw[hu,if_neg (by decide)]at this;rw[Ef.1 this l k1 k2 r (by rw[hq];simp)];rfl
    .rw[Ds]
     exact hsp hs hu l k1 k2 r (by rw[hq];simp)
 .rintro⟨kid,hkid,hT⟩
  refine⟨fun l hm=>?_,fun s hs=>?_⟩
  .obtain⟨k1,k2⟩:=Ik.1 hm
   obtain⟨k3,k4⟩:=Eh.1 k2;exact(hstep l k1 kid).2 (hT l k1 k3 [] (by rw[k4];simp))
  .have hin:=Fl hs
   cases hu:hasB w c s
   .rw[if_neg (by decide)]
    refine Ef.2 fun l k1 k2 q hq=>?_
    have:=hT l k1 k2 (s::q) (by rw[hq];simp);rw[Ni,<-hhas s hin,hu,Bool.false_and]at this;simpa using this.symm
   .rw[if_pos rfl]
    refine(hcan s hs).2 ⟨kid s,hkid s,fun l k1 k2 q hq=>?_⟩;have:=hT l k1 k2 (s::q) (by rw[hq];simp)
    rwa [Ni,<-hhas s hin,hu,Ds]at this
def Xi {w:AF} (hw:JN w) {ls:List Fact} (hl: ∀l∈ls,Dm w l) (a:Int): ∀(d:Nat) (p:List Int),p.length+d=2->(PZ w ls a d p=true↔ ∃t,Vw w t/\TT w ls a p t):=by
 have key: ∀(p:List Int) (can:Int->Bool),(∀s∈BR w.owner.length ls a p,(can s=true↔ ∃t,Vw w t/\TT w ls a (p++[s]) t))->((((GI ls a p).isSome&&Da w.owner.length ls a p)||(E0 w.owner.length ls a p||(BS w.parents.length).any fun c=>aE w ls a p can (3+c)))=true↔ ∃t,Vw w t/\TT w ls a p t):=fun p can hcan=>by
  rw[E9,E9,NC hl,Ks hl,Ij];constructor
  .rintro(⟨m,h1,h2⟩|h|⟨c,h1,h2⟩)
   .exact⟨.int m,h1,h2⟩
   .exact⟨.K8,trivial,h⟩
   .have:=C9.1 h1
    obtain⟨kid,k1,k2⟩:=(VC hw hl hcan (by omega) (by omega)).1 h2;exact⟨.obj (fun b=>HA w.parents (3+c).toNat b) kid,⟨⟨(3+c).toNat,by omega,by omega,fun _=>rfl⟩,k1⟩,k2⟩
  .rintro⟨t,h1,h2⟩
   cases t with
   | int m=>exact .inl ⟨m,h1,h2⟩
   | K8=>exact .inr (.inl h2)
   | obj C kid=>
     obtain⟨⟨c,k1,k2,k3⟩,k4⟩:=h1;refine .inr (.inr ⟨(c:Int) - 3,C9.2 (by omega),(VC hw hl hcan (by omega) (by omega)).2 ⟨kid,k4,?_⟩⟩);rw[show(3+((c:Int) - 3)).toNat=c by omega];exact QE hw hl (fun b _=>k3 b) h2
 intro d
 induction d with
 | zero=>
   intro p hp;rw[PZ];refine key p _ fun s hs=>?_
   rw[IV (m:=2) (fun l h=>(hl l h).short) (by omega)]at hs;cases hs
 | succ d ih=>
   intro p hp;rw[PZ];exact key p _ fun s _=>ih (p++[s]) (by simp;omega)
def dH (w:AF) (ls:List Fact) (cs:List Int) (a:Int):Bool:=
 if(cs.length:Int)<=a\/cs.getD a.toNat 0=0 then PZ w ls a 2 []else if cs.getD a.toNat 0=1 then(GI ls a []).isSome&&Da w.owner.length ls a []else if cs.getD a.toNat 0=2 then E0 w.owner.length ls a []else aE w ls a [] (fun s=>PZ w ls a 1 [s]) (cs.getD a.toNat 0)
def QI (w:AF) (cs:List Int) (ls:List Fact):Bool:=(BS 3).all (dH w ls cs)
def Wx {w : AF} (hw:JN w) {ls:List Fact} (hl: ∀l∈ls,Dm w l) {cs:List Int} (hcs: ∀c∈cs,1<=c/\c<3+(w.parents.length:Int)) {a:Int} (h0:0<=a):dH w ls cs a=true↔ ∃t c,UO w t c/\Jr cs a c=true/\Vw w t/\TT w ls a [] t:=by
 rw[dH];by_cases hle:(cs.length:Int)<=a
 .rw[if_pos (.inl hle),Xi hw hl a 2 [] rfl]
  have hf: ∀c,Jr cs a c=true:=fun c=>by rw[Jr,decide_eq_true hle];rfl
  constructor
  .rintro⟨t,k1,k2⟩
   obtain⟨c,k3,_⟩:=il t k1;exact⟨t,c,k3,hf c,k1,k2⟩
  .rintro⟨t,c,_,_,k1,k2⟩
   exact⟨t,k1,k2⟩
 .obtain ⟨x,hx⟩: ∃x,cs[a.toNat]? =some x:=⟨_,Cs (by omega)⟩
  have hxd:cs.getD a.toNat 0=x:=by rw[C6,hx];rfl
  have hxc:=hcs x (Bp hx);have hf: ∀c:Nat,Jr cs a c=true↔x=(c:Int):=fun c=>by rw[Jr,decide_eq_false hle,Bool.false_or,hxd,C0]
  rw[hxd,if_neg (by omega)];by_cases h1:x=1
  .rw[if_pos h1,NC hl]
   constructor
   .rintro⟨m,k1,k2⟩
    exact⟨.int m,1,rfl,(hf 1).2 h1,k1,k2⟩
   .rintro⟨t,c,k0,k1,k2,k3⟩
    have:=(hf c).1 k1;cases t with
    | int m=>exact⟨m,k2,k3⟩
    | K8=>have k0:c=2:=k0;omega
    | obj C kid=>have:=k0.1;omega
  .rw [if_neg h1]
   by_cases h2:x=2
   .rw[if_pos h2,Ks hl]
    constructor
    .intro k
     exact⟨.K8,2,rfl,(hf 2).2 h2,trivial,k⟩
    .rintro⟨t,c,k0,k1,k2,k3⟩
     have:=(hf c).1 k1;cases t with
     | int m=>have k0:c=1:=k0;omega
     | K8=>exact k3
     | obj C kid=>have:=k0.1;omega
   .rw [if_neg h2,VC hw hl (fun s _=>Xi hw hl a 1 [s] rfl) (by omega) (by omega)]
    constructor
    .rintro⟨kid,k1,k2⟩
     exact⟨.obj (fun b=>HA w.parents x.toNat b) kid,x.toNat,⟨by omega,by omega,fun _=>rfl⟩,(hf _).2 (by omega),⟨⟨x.toNat,by omega,by omega,fun _=>rfl⟩,k1⟩,k2⟩
    .rintro⟨t,c,k0,k1,k2,k3⟩
     have:=(hf c).1 k1;cases t with
     | int m=>have k0:c=1:=k0;omega
     | K8=>have k0:c=2:=k0;omega
     | obj C kid=>
       refine⟨kid,k2.2,QE hw hl (fun b _=>?_) k3⟩;rw[k0.2.2,show x.toNat=c by omega]
def ti {w:AF} (hw:JN w) {cs:List Int} (hcs: ∀c∈cs,1<=c/\c<3+(w.parents.length:Int)) {ls:List Fact} (hl: ∀l∈ls,Dm w l):dI w cs ls=QI w cs ls:=by
 rw[dI,QI,JK,EG,EG];constructor
 .intro h a ha
  exact(Wx hw hl hcs (C9.1 ha).1).2 ((NK hw hl a 2 _ [] rfl).1 (h a ha))
 .intro h a ha
  exact(NK hw hl a 2 _ [] rfl).2 ((Wx hw hl hcs (C9.1 ha).1).1 (h a ha))
end Go.Gl
namespace Go.Gl
open Go.Proofs
attribute [local irreducible] Au Am Ae AR AK AY AQ AS AJ AX AM AO Ao A0 Sat AU Ay Af W
def sA (w : AF) (ls:List Fact) (a:Int) (p:List Int) (c:Int) (can:Int->Bool) (hokL: ∀l∈ls,E3 l) (hln:ls.length<=1000000) (hw:JN w) (hcl:MV w ls) (hc3:3<=c) (hcn:c<3+(w.parents.length:Int)) (hp:p.length<50)
    (hcan: ∀s∈BR w.owner.length ls a p,Pure zP 351 [.a (FH w ls a (p++[s]) true)] (.b (can s))):Pure zP 359 [.a (FH w ls a p true),eI c] (.b (aE w ls a p can c)):=by
 refine Pure.fit (by kernel_rfl) fun hf=>?_
 have⟨h1,h2,h3,h4⟩:=GB hf.1;have hM:=Mx;have hwl:=hw.len;have c1:=aL w ls a p true hokL hln;have c2:=Qw w ls a p true hokL (by omega);have hfl:=Ou (Fv a p) ls
 have hfl2:(BR w.owner.length ls a p).length<=w.owner.length:=by
  have:=Ou (fun s=>ls.any (Yd a p s)) (BS w.owner.length);rw[DQ]at this;exact this
 have hok: ∀l∈ls.filter (Fv a p),E3 l:=fun l hl=>hokL l (Ik.1 hl).1
 have hclo: ∀l∈ls.filter (Fv a p),(Ad l).1.op=2->0<=(Ad l).1.cls/\(Ad l).1.cls<3+w.parents.length:=fun l hl=>hcl l (Ik.1 hl).1
 have hV:aE w ls a p can c=((ls.filter (Fv a p)).all (fun l=> !stepOf w c (Ad l))&&(BR w.owner.length ls a p).all fun s=>if hasB w c s then can s else DF ls a (p++[s])):=rfl;generalize aE w ls a p can c=R at *;generalize ls.filter (Fv a p)=os at *;have hin: ∀s∈BR w.owner.length ls a p,0<=s/\s<(w.owner.length:Int):=fun s h=>Fl h
 generalize BR w.owner.length ls a p=sl at *;refine vo kZ ?_;have hs:=Sn
 conv=>whnf
 repeat'((first|clear U K|apply st|(apply zk;intro K U)|refine zY ?_|refine zC ?_|fail)<;>conv=>whnf)
 refine B1 os.length (fun k (_:Unit)=>[(16,eI (A4 k))]) (fun _ _=>[]) (fun k _=>R=((os.drop k).all (fun l=> !stepOf w c (Ad l))&&sl.all fun s=>if hasB w c s then can s else DF ls a (p++[s]))) () rfl hV (hs.less (Jf _)) ?_;clear hs hV;rintro k - Z hk hn hs;rcases A8 os hk with⟨x,hx,hlt⟩|hke
 .rw [drop_cons hx,K5]at hn
  have c3:=Gw x (hok x (Bp hx));have hcx:=hclo x (Bp hx);generalize Ad x=y at *;obtain⟨f,b⟩:=y;dsimp only at c3 hcx hn;by_cases h2:f.op=2
  .have c4:=Xm w c f.cls (by omega) hw.ord (by omega) hcn (hcx h2).1 (hcx h2).2
   have e:stepOf w c (f,b)=(Ju w.parents c f.cls==b):=by
    show((f.op==2&&Ju w.parents c f.cls)==b)=_;rw[C0.2 h2,Ds]
   rw[e]at hn;clear e;cases hB:Ju w.parents c f.cls<;>cases b<;>rw[hB]at c4 hn
   all_goals
    conv=>whnf
    repeat'((first|clear U K|apply st|(apply zk;intro K U)|refine zY ?_|refine zs fun Z hs=>?_|refine zC ?_|(refine zb (fun hc=>?_) (fun hc=>?_)<;>try exact⟨⟩)|refine zo fun nn hnn Z hs=>?_|fail)<;>conv=>whnf)
    all_goals try(exfalso;simp[h2]at hc;done)
    all_goals first
     | exact AH (by rw[hn];rfl)
     | exact⟨hlt,(),rfl,by rw[hn];rfl,hs.less (Jf _)⟩
  .have e:stepOf w c (f,b)=(false==b):=by
    show((f.op==2&&Ju w.parents c f.cls)==b)=_;rw[beq_eq_false_iff_ne.2 h2,Bool.false_and]
   rw[e]at hn;clear e;cases b
   all_goals
    conv=>whnf
    repeat'((first|clear U K|apply st|(apply zk;intro K U)|refine zY ?_|refine zs fun Z hs=>?_|refine zC ?_|(refine zb (fun hc=>?_) (fun hc=>?_)<;>try exact⟨⟩)|refine zo fun nn hnn Z hs=>?_|fail)<;>conv=>whnf)
    all_goals try(exfalso;simp[h2]at hc;done)
    all_goals first
     | exact AH (by rw[hn];rfl)
     | exact⟨hlt,(),rfl,by rw[hn];rfl,hs.less (Jf _)⟩
 .rw [Ai hke,List.all_nil,Ds]at hn
  conv=>whnf
  repeat'((first|clear U K|apply st|(apply zk;intro K U)|refine zY ?_|refine zC ?_|fail)<;>conv=>whnf)
  clear hke hk;refine B1 sl.length (fun k (_:Unit)=>[(43,eI (A4 k))]) (fun _ _=>[]) (fun k _=>R=(sl.drop k).all fun s=>if hasB w c s then can s else DF ls a (p++[s])) () rfl hn hs ?_;clear hs hn;rintro k - Z hk hn hs;rcases A8 sl hk with⟨s,hsk,hlt⟩|hke
  .rw [drop_cons hsk,K5]at hn
   have hsm:=Bp hsk;have hi:=hin s hsm;have c5:=Ix w ls a p true s (by omega);have c6:=jW w c s hw (by omega) hcn hi.1 hi.2;have c7:=hcan s hsm;have c8:=VZ w ls a (p++[s]) true hokL;cases hA:hasB w c s<;>rw[hA]at c6 hn
   .rw [if_neg (by decide)]at hn
    cases hB:DF ls a (p++[s])<;>rw[hB]at c8 hn
    all_goals
     conv=>whnf
     repeat'((first|clear U K|apply st|(apply zk;intro K U)|refine zY ?_|refine zs fun Z hs=>?_|refine c5.use ?_|refine c6.use ?_|refine c8.use ?_|refine zo fun nn hnn Z hs=>?_|fail)<;>conv=>whnf)
     all_goals first
      | exact AH (by rw[hn];rfl)
      | exact⟨hlt,(),rfl,by rw[hn];rfl,hs.less (Jf _)⟩
   .rw [if_pos rfl]at hn
    cases hB:can s<;>rw[hB]at c7 hn
    all_goals
     conv=>whnf
     repeat'((first|clear U K|apply st|(apply zk;intro K U)|refine zY ?_|refine zs fun Z hs=>?_|refine c5.use ?_|refine c6.use ?_|refine c7.use ?_|refine zo fun nn hnn Z hs=>?_|fail)<;>conv=>whnf)
     all_goals first
      | exact AH (by rw[hn];rfl)
      | exact⟨hlt,(),rfl,by rw[hn];rfl,hs.less (Jf _)⟩
  .rw[Ai hke]at hn
   refine zz ?_;(repeat clear U K);repeat intro K U
   all_goals exact AH (by rw[hn];rfl)
def Qx {n k:Nat} (h:k<n):(BS n)[k]? =some (k:Int):=by
 rw[BS,Jm,List.getElem?_range h];rfl
def T5 (w : AF) (ls:List Fact) (a:Int) (p:List Int) (can:Int->Bool) (hokL: ∀l∈ls,E3 l) (hln:ls.length<=1000000) (hw:JN w) (hcl:MV w ls) (hsm:Hf ls) (hp:p.length<40)
    (hcan: ∀s∈BR w.owner.length ls a p,Pure zP 351 [.a (FH w ls a (p++[s]) true)] (.b (can s))):Pure zP 351 [.a (FH w ls a p true)] (.b (((GI ls a p).isSome&&Da w.owner.length ls a p)||(E0 w.owner.length ls a p||(BS w.parents.length).any fun c=>aE w ls a p can (3+c)))):=by
 have hM:=Mx;have hwl:=hw.len;have c1:=JB w ls a p true hokL hln (by omega) hsm;rw[P1]at c1;have c2:=Px w ls a p true hokL hln (by omega);have hO:=fun c h3 hn=>sA w ls a p c can hokL hln hw hcl h3 hn (by omega) hcan
 have e2:((EN w.parents).length:Int)=w.parents.length:=by simp
 cases hA:(GI ls a p).isSome&&Da w.owner.length ls a p<;>cases hB:E0 w.owner.length ls a p<;>rw[hA]at c1<;>rw[hB]at c2
 rotate_left
 .refine OD kZ ?_
  have hs:=Sn;exact zW
 .refine OD kZ ?_
  have hs:=Sn;exact zW
 .refine OD kZ ?_
  have hs:=Sn;exact zW
 .rw [Bool.false_or,Bool.false_or]
  generalize hR:((BS w.parents.length).any fun c=>aE w ls a p can (3+c))=R;refine OD kZ ?_;have hs:=Sn
  conv=>whnf
  repeat'((first|clear U K|apply st|(apply zk;intro K U)|refine zY ?_|refine zC ?_|fail)<;>conv=>whnf)
  refine B1 w.parents.length (fun k (_:Unit)=>[(24,eI (A4 k))]) (fun _ _=>[]) (fun k _=>R=((BS w.parents.length).drop k).any fun c=>aE w ls a p can (3+c)) () rfl hR.symm (hs.less (Jf _)) ?_;clear hs hR;rintro k - Z hk hn hs;have hck:A4 k=k:=Ag (by omega);by_cases hlt:k<w.parents.length
  .rw [drop_cons (Qx hlt),Pj]at hn
   have c3:=hO (3+(k:Int)) (by omega) (by omega);have hw3:IntKind.i64.wrap (3+A4 k)=3+(k:Int):=by rw[hck,wrap64 (by omega) (by omega)]
   rw[<-hw3]at c3;generalize hO':aE w ls a p can (3+(k:Int))=B at *;rw[hw3,hO']at c3;rw[<-hw3]at c3;cases B
   all_goals
    conv=>whnf
    repeat'((first|clear U K|apply st|(apply zk;intro K U)|refine zY ?_|(refine fc (fun x hx hlt hc=>?_) (fun hk hc=>?_)<;>(try rw[hc])<;>clear hc)|refine zC ?_|fail)<;>conv=>whnf)
    all_goals try(exfalso;omega)
    all_goals first
     | exact AH (by rw[hn];rfl)
     | exact⟨hlt,(),rfl,by rw[hn];rfl,hs.less (Jf _)⟩
  .rw[List.drop_of_length_le (by rw[DQ];omega)]at hn
   conv=>whnf
   repeat'((first|clear U K|apply st|(apply zk;intro K U)|refine zY ?_|(refine fc (fun x hx hlt hc=>?_) (fun hk hc=>?_)<;>(try rw[hc])<;>clear hc)|fail)<;>conv=>whnf)
   all_goals try(exfalso;omega)
   all_goals exact AH (by rw[hn];rfl)
def cS (w:AF) (ls:List Fact) (a:Int) (hokL: ∀l∈ls,E3 l) (hln:ls.length<=1000000) (hw:JN w) (hcl:MV w ls) (hsm:Hf ls) (hsh:N1 ls 2): ∀(d:Nat) (p:List Int),p.length+d=2->Pure zP 351 [.a (FH w ls a p true)] (.b (PZ w ls a d p)):=by
 intro d
 induction d with
 | zero=>
   intro p hp;rw[PZ];exact T5 w ls a p _ hokL hln hw hcl hsm (by omega) (by rw[IV hsh (by omega)];intro s hs;cases hs)
 | succ d ih=>
   intro p hp;rw[PZ];exact T5 w ls a p _ hokL hln hw hcl hsm (by omega) fun s _=>ih (p++[s]) (by simp;omega)
def oV (w : AF) (ls:List Fact) (cs:List Int) (g:Bool) (hokL: ∀l∈ls,E3 l) (hln:ls.length<=1000000) (hw:JN w) (hcl:MV w ls) (hsm:Hf ls) (hsh:N1 ls 2) (hcs: ∀c∈cs,1<=c/\c<3+(w.parents.length:Int)) (hc3:cs.length<=3) :
    Pure zP 334 [.a (Az w),.l (facts ls) false,.l (iL cs) g] (.b (QI w cs ls)):=by
 have hM:=Mx;have hT:QI w cs ls=(BS 3).all (dH w ls cs):=rfl;generalize QI w cs ls=R at *;refine wK kZ ?_;have hs:=Sn;refine zz ?_;(repeat clear U K);repeat intro K U
 refine B1 3 (fun k (_:Unit)=>[(7,eI (k:Int))]) (fun _ _=>[]) (fun k _=>R=((BS 3).drop k).all (dH w ls cs)) () rfl hT hs ?_;clear hs;rintro k - Z hk hn hs;rcases Nat.lt_or_ge k 3 with hlt|hge
 .rw [drop_cons (Qx hlt),K5]at hn
  have hwk:IntKind.i64.wrap ((k:Int)+1)=((k+1:Nat):Int):=by rw[wrap64 (by omega) (by omega)];omega
  have d1:=fun(_:Nat)=>cS w ls (k:Int) hokL hln hw hcl hsm hsh 2 [] rfl
  have d2:=JB w ls (k:Int) [] true hokL hln (by simp) hsm;rw[P1]at d2;have d3:=Px w ls (k:Int) [] true hokL hln (by simp);rw[dH]at hn;by_cases hle:(cs.length:Int)<=(k:Int)
  .rw [if_pos (.inl hle)]at hn
   generalize PZ w ls (k:Int) 2 []=B at *;cases B
   all_goals
    conv=>whnf
    repeat'((first|clear U K|apply st|(apply zk;intro K U)|refine zY ?_|refine zs fun Z hs=>?_|refine Pure.MI (d1 k) (.cons (.a (.cons (.refl _) (.cons (.refl _) (.cons (.refl _) (.cons (.refl _) (.cons FK (.cons (.refl _) .nil))))))) .nil) rfl ?_|(refine zb (fun hc=>?_) (fun hc=>?_)<;>try exact⟨⟩)|refine zo fun nn hnn Z hs=>?_|fail)<;>conv=>whnf)
    all_goals try(exfalso;simp at hc;omega)
    all_goals first
     | exact AH (by rw[hn];rfl)
     | exact⟨hlt,(),by rw[hwk];rfl,by rw[hn];rfl,hs.less (Jf _)⟩
  .obtain ⟨x,hx⟩: ∃x,cs[k]? =some x:=⟨_,Cs (by omega)⟩
   have hx2:cs[((k:Nat):Int).toNat]? =some x:=by rw[Fi];exact hx
   have hxd:cs.getD ((k:Nat):Int).toNat 0=x:=by rw[Fi,C6,hx];rfl
   have hxc:=hcs x (Bp hx);rw[hxd,if_neg (by omega)]at hn;have d4:=fun h3=>sA w ls (k:Int) [] x (fun s=>PZ w ls (k:Int) 1 [s]) hokL hln hw hcl h3 hxc.2 (by simp) fun s _=>cS w ls (k:Int) hokL hln hw hcl hsm hsh 1 [s] rfl
   by_cases h1:x=1
   .rw [if_pos h1]at hn
    generalize ((GI ls (k:Int) []).isSome&&Da w.owner.length ls (k:Int) [])=B at *;cases B
    all_goals
     conv=>whnf
     repeat'((first|clear U K|apply st|(apply zk;intro K U)|refine zY ?_|refine zs fun Z hs=>?_|refine Pure.MI d2 (.cons (.a (.cons (.refl _) (.cons (.refl _) (.cons (.refl _) (.cons (.refl _) (.cons FK (.cons (.refl _) .nil))))))) .nil) rfl ?_|(refine zb (fun hc=>?_) (fun hc=>?_)<;>try exact⟨⟩)|refine zo fun nn hnn Z hs=>?_|fail)<;>conv=>whnf)
     all_goals try(exfalso;simp at hc;omega)
     all_goals first
      | exact AH (by rw[hn];rfl)
      | exact⟨hlt,(),by rw[hwk];rfl,by rw[hn];rfl,hs.less (Jf _)⟩
   .rw [if_neg h1]at hn
    by_cases h2:x=2
    .rw [if_pos h2]at hn
     generalize E0 w.owner.length ls (k:Int) []=B at *;cases B
     all_goals
      conv=>whnf
      repeat'((first|clear U K|apply st|(apply zk;intro K U)|refine zY ?_|refine zs fun Z hs=>?_|refine Pure.MI d3 (.cons (.a (.cons (.refl _) (.cons (.refl _) (.cons (.refl _) (.cons (.refl _) (.cons FK (.cons (.refl _) .nil))))))) .nil) rfl ?_|(refine zb (fun hc=>?_) (fun hc=>?_)<;>try exact⟨⟩)|refine zo fun nn hnn Z hs=>?_|fail)<;>conv=>whnf)
      all_goals try(exfalso;simp at hc;omega)
      all_goals first
       | exact AH (by rw[hn];rfl)
       | exact⟨hlt,(),by rw[hwk];rfl,by rw[hn];rfl,hs.less (Jf _)⟩
    .rw [if_neg h2]at hn
     replace d4:=d4 (by omega);generalize aE w ls (k:Int) [] (fun s=>PZ w ls (k:Int) 1 [s]) x=B at *;cases B
     all_goals
      conv=>whnf
      repeat'((first|clear U K|apply st|(apply zk;intro K U)|refine zY ?_|refine zs fun Z hs=>?_|refine Pure.MI d4 (.cons (.a (.cons (.refl _) (.cons (.refl _) (.cons (.refl _) (.cons (.refl _) (.cons FK (.cons (.refl _) .nil))))))) (.cons (.refl _) .nil)) rfl ?_|(refine zb (fun hc=>?_) (fun hc=>?_)<;>try exact⟨⟩)|refine zo fun nn hnn Z hs=>?_|fail)<;>conv=>whnf)
      all_goals try(exfalso;simp at hc;omega)
      all_goals first
       | exact AH (by rw[hn];rfl)
       | exact⟨hlt,(),by rw[hwk];rfl,by rw[hn];rfl,hs.less (Jf _)⟩
 .rw[List.drop_of_length_le (by rw[DQ];omega)]at hn
  conv=>whnf
  repeat'((first|clear U K|apply st|(apply zk;intro K U)|refine zY ?_|(refine zb (fun hc=>?_) (fun hc=>?_)<;>try exact⟨⟩)|fail)<;>conv=>whnf)
  all_goals exact AH (by rw[hn];rfl)
end Go.Gl
namespace Go.Gl
open Go.Proofs
def WU (A B:List (List Fact)):List (List Fact):=A.flatMap fun x=>B.map fun y=>x++y
def Qd (f:Fact) (l:List (Bool->List (List Fact))) (c:Bool):List (List Fact):=
 if f.op=1 then(if c then []else [[]])else
 if f.op=5 then(l.getD 0 (fun _=>[])) (!c)else
 if f.op=6\/f.op=7 then(if c != (f.op==7)then l.getD 0 (fun _=>[]) c++l.getD 1 (fun _=>[]) c else WU (l.getD 0 (fun _=>[]) c) (l.getD 1 (fun _=>[]) c))else
 if c then [[EZ f]]else [[f]]
def Cb (f:Fact):Bool->List (List Fact):=f.H6 Qd
def K2 (f:Fact) (c:Bool):Cb f c=Qd f (f.kids.map Cb) c:=congrFun (Fact.Dw Qd f) c
def Fo {A B:List (List Fact)} {l:List Fact}:l∈WU A B↔ ∃x∈A,∃y∈B,l=x++y:=by
 simp only[WU,List.mem_flatMap,Il];constructor
 .rintro⟨x,hx,y,hy,rfl⟩
  exact⟨x,hx,y,hy,rfl⟩
 .rintro⟨x,hx,y,hy,rfl⟩
  exact⟨x,hx,y,hy,rfl⟩
def PO {w:AF} (f:Fact):Bb w f=true-> ∀c,∀l∈Cb f c,∀x∈l,DV w x:=by
 induction f using Fact.ind with
 | h f ih=>
   intro h c;have har:=Bn f h;have h':=h;rw[CO,A9,EG]at h';rw[K2,Qd];by_cases h1:f.op=1
   .rw[if_pos h1]
    cases c
    .rw[if_neg (by decide)]
     intro l hl x hx;simp at hl;subst hl;cases hx
    .rw[if_pos rfl]
     intro l hl;cases hl
   rw[if_neg h1];by_cases h5:f.op=5
   .obtain⟨a,ha,hb⟩:=FN har h5
    rw[if_pos h5,ha];exact ih a (by rw[ha];exact .head _) (h'.2 a (by rw[ha];exact .head _)) (!c)
   rw[if_neg h5];by_cases h6:f.op=6\/f.op=7
   .obtain⟨a,b,ha,hb1,hb2⟩:=FM har h6
    rw[if_pos h6,ha];have i1:=ih a (by rw[ha];exact .head _) (h'.2 a (by rw[ha];exact .head _)) c;have j1:=ih b (by rw[ha];exact .tail _ (.head _)) (h'.2 b (by rw[ha];exact .tail _ (.head _))) c;simp only[FA,List.map_nil,List.getD_cons_zero,List.getD_cons_succ];split
    .intro l hl
     rcases Dy.1 hl with hl|hl
     .exact i1 l hl
     .exact j1 l hl
    .intro l hl x hx
     obtain⟨y,hy,z,hz,rfl⟩:=Fo.1 hl;rcases Dy.1 hx with h|h
     .exact i1 y hy x h
     .exact j1 z hz x h
   .have hr:=C5 f h c
    rw[E5,Es,if_neg h1,if_neg h5,if_neg h6]at hr;rw[if_neg h6];exact hr
def SF (f:Fact):arity f=true-> ∀c,∀l∈Cb f c,l.length<=lv f:=by
 induction f using Fact.ind with
 | h f ih=>
   intro h c;rw[K2,J0,Qd,Yc];by_cases h1:f.op=1
   .have e5: ¬f.op=5:=by omega
    have e6: ¬(f.op=6\/f.op=7):=by omega
    rw[if_pos h1,if_neg e5,if_neg e6];cases c
    .rw[if_neg (by decide)]
     exact fun l hl=>by simp at hl;subst hl;simp
    .rw[if_pos rfl]
     exact fun l hl=>by cases hl
   rw[if_neg h1];by_cases h5:f.op=5
   .obtain⟨a,ha,hb⟩:=FN h h5
    rw[if_pos h5,if_pos h5,ha];exact ih a (by rw[ha];exact .head _) hb (!c)
   rw[if_neg h5,if_neg h5];by_cases h6:f.op=6\/f.op=7
   .obtain⟨a,b,ha,hb1,hb2⟩:=FM h h6
    rw[if_pos h6,if_pos h6,ha];simp only[FA,List.map_nil,List.getD_cons_zero,List.getD_cons_succ];have i2:=ih a (by rw[ha];exact .head _) hb1 c;have j2:=ih b (by rw[ha];exact .tail _ (.head _)) hb2 c;split
    .intro l hl
     rcases Dy.1 hl with hl|hl
     .have:=i2 l hl;omega
     .have:=j2 l hl;omega
    .intro l hl
     obtain⟨x,hx,y,hy,rfl⟩:=Fo.1 hl;have:=i2 x hx;have:=j2 y hy;rw[Nl];omega
   .rw[if_neg h6,if_neg h6]
    cases c
    .exact fun l hl=>by simp at hl;subst hl;simp
    .exact fun l hl=>by simp at hl;subst hl;simp
def SG {w : AF} {M:Int->KW} (f:Fact):Bb w f=true-> ∀c,(∃l∈Cb f c,∀x∈l,F4 w M x)↔UL w M f= !c:=by
 induction f using Fact.ind with
 | h f ih=>
   intro h c;have har:=Bn f h;have h':=h;rw[CO,A9,EG]at h';have hF:=E4 (M:=M) f h c;rw[E5,Es]at hF;rw[K2,Qd];by_cases h1:f.op=1
   .rw[if_pos h1]at hF ⊢
    exact hF
   rw[if_neg h1]at hF ⊢;by_cases h5:f.op=5
   .obtain⟨a,ha,hb⟩:=FN har h5
    have i1:=ih a (by rw[ha];exact .head _) (h'.2 a (by rw[ha];exact .head _)) (!c);have k1:=E4 (M:=M) a (h'.2 a (by rw[ha];exact .head _)) (!c);rw[if_pos h5,ha]at hF ⊢;exact(i1.trans k1.symm).trans hF
   rw[if_neg h5]at hF ⊢;by_cases h6:f.op=6\/f.op=7
   .obtain⟨a,b,ha,hb1,hb2⟩:=FM har h6
    have hna:=h'.2 a (by rw[ha];exact .head _);have hnb:=h'.2 b (by rw[ha];exact .tail _ (.head _));have i1:=(ih a (by rw[ha];exact .head _) hna c).trans (E4 (M:=M) a hna c).symm;have j1:=(ih b (by rw[ha];exact .tail _ (.head _)) hnb c).trans (E4 (M:=M) b hnb c).symm;rw[if_pos h6,ha]at hF ⊢;simp only[FA,List.map_nil,List.getD_cons_zero,List.getD_cons_succ]at hF ⊢;refine Iff.trans ?_ hF;split
    .constructor
     .rintro⟨l,hl,hx⟩
      rcases Dy.1 hl with hl|hl
      .obtain⟨m,h1,h2⟩:=i1.1 ⟨l,hl,hx⟩
       exact⟨m,Pk _ h1,h2⟩
      .obtain⟨m,h1,h2⟩:=j1.1 ⟨l,hl,hx⟩
       exact⟨m,Ov _ h1,h2⟩
     .rintro⟨l,hl,hx⟩
      rcases Dy.1 hl with hl|hl
      .obtain⟨m,h1,h2⟩:=i1.2 ⟨l,hl,hx⟩
       exact⟨m,Pk _ h1,h2⟩
      .obtain⟨m,h1,h2⟩:=j1.2 ⟨l,hl,hx⟩
       exact⟨m,Ov _ h1,h2⟩
    .constructor
     .rintro⟨l,hl,hx⟩
      obtain⟨y,hy,z,hz,rfl⟩:=Fo.1 hl;obtain⟨m,h1,h2⟩:=i1.1 ⟨y,hy,fun x h=>hx x (Pk _ h)⟩;obtain⟨n,h3,h4⟩:=j1.1 ⟨z,hz,fun x h=>hx x (Ov _ h)⟩;refine⟨Ca m n,?_,(NB m _ n).2 ⟨h2,h4⟩⟩;simp only[DX,List.mem_flatMap,Il];exact⟨m,h1,n,h3,rfl⟩
     .rintro⟨l,hl,hx⟩
      simp only[DX,List.mem_flatMap,Il]at hl;obtain⟨y,hy,z,hz,rfl⟩:=hl;rw[NB]at hx;obtain⟨m,h1,h2⟩:=i1.2 ⟨y,hy,hx.1⟩;obtain⟨n,h3,h4⟩:=j1.2 ⟨z,hz,hx.2⟩;refine⟨m++n,Fo.2 ⟨m,h1,n,h3,rfl⟩,fun x hx=>?_⟩;rcases Dy.1 hx with h|h
      .exact h2 x h
      .exact h4 x h
   .rw[if_neg h6]at hF ⊢
    exact hF
def Jh (tog:List Fact->Bool):List (List (List Fact))->List Fact->Bool
 | [],l=>tog l
 | cs::r,l=>tog l&&cs.any fun c=>Jh tog r (l++c)
def Qu {w:AF} {tog:List Fact->Bool} {OK:(Int->KW)->Prop} (htog: ∀l,(∀x∈l,DV w x)->(tog l=true↔ ∃M,OK M/\ ∀x∈l,F4 w M x)): ∀(css:List (List (List Fact))) (l:List Fact),(∀x∈l,DV w x)->(∀cs∈css,∀c∈cs,∀x∈c,DV w x)->
    (Jh tog css l=true↔ ∃M,OK M/\(∀x∈l,F4 w M x)/\ ∀cs∈css,∃c∈cs,∀x∈c,F4 w M x)
 | [],l,hl,_=>by
   rw[Jh,htog l hl];constructor
   .rintro⟨M,h1,h2⟩
    exact⟨M,h1,h2,fun _ h=>by cases h⟩
   .rintro⟨M,h1,h2,_⟩
    exact⟨M,h1,h2⟩
 | cs::r,l,hl,hcs=>by
   have ih:=fun c (hc:c∈cs)=>Qu htog r (l++c) (fun x hx=>(Dy.1 hx).elim (hl x) (hcs cs (.head _) c hc x)) (fun d hd=>hcs d (.tail _ hd))
   rw[Jh,A9,Ij];constructor
   .rintro⟨_,c,hc,h⟩
    obtain⟨M,h1,h2,h3⟩:=(ih c hc).1 h;refine⟨M,h1,fun x hx=>h2 x (Pk _ hx),fun d hd=>?_⟩;rcases GM.1 hd with rfl|hd
    .exact⟨c,hc,fun x hx=>h2 x (Ov _ hx)⟩
    .exact h3 d hd
   .rintro⟨M,h1,h2,h3⟩
    obtain⟨c,hc,h4⟩:=h3 cs (.head _);refine⟨(htog l hl).2 ⟨M,h1,h2⟩,c,hc,(ih c hc).2 ⟨M,h1,fun x hx=>(Dy.1 hx).elim (h2 x) (h4 x),fun d hd=>h3 d (.tail _ hd)⟩⟩
def QR (fs:List (Fact×Bool)):List (List (List Fact)):=fs.map fun x=>BE x.1 (!x.2)
def dS (fs:List (Fact×Bool)):List (List (List Fact)):=fs.map fun x=>Cb x.1 (!x.2)
def lG {w:AF} {tog:List Fact->Bool} {OK:(Int->KW)->Prop} (htog: ∀l,(∀x∈l,DV w x)->(tog l=true↔ ∃M,OK M/\ ∀x∈l,F4 w M x)) {fs:List (Fact×Bool)} (hn: ∀x∈fs,Bb w x.1=true) :
    Jh tog (QR fs) []=true↔ ∃M,OK M/\ ∀x∈fs,UL w M x.1=x.2:=by
 rw[Qu htog (QR fs) [] (fun _ h=>by cases h) (fun cs hcs=>by
  obtain⟨x,hx,rfl⟩:=Il.1 hcs
  exact C5 x.1 (hn x hx) _)]
 constructor
 .rintro⟨M,h1,_,h3⟩
  exact⟨M,h1,fun x hx=>by simpa using(E4 x.1 (hn x hx) (!x.2)).1 (h3 _ (Il.2 ⟨x,hx,rfl⟩))⟩
 .rintro⟨M,h1,h2⟩
  refine⟨M,h1,(fun _ h=>by cases h),fun cs hcs=>?_⟩;obtain⟨x,hx,rfl⟩:=Il.1 hcs;exact(E4 x.1 (hn x hx) (!x.2)).2 (by simpa using h2 x hx)
def lF {w:AF} {tog:List Fact->Bool} {OK:(Int->KW)->Prop} (htog: ∀l,(∀x∈l,DV w x)->(tog l=true↔ ∃M,OK M/\ ∀x∈l,F4 w M x)) {fs:List (Fact×Bool)} (hn: ∀x∈fs,Bb w x.1=true) :
    Jh tog (dS fs) []=true↔ ∃M,OK M/\ ∀x∈fs,UL w M x.1=x.2:=by
 rw[Qu htog (dS fs) [] (fun _ h=>by cases h) (fun cs hcs=>by
  obtain⟨x,hx,rfl⟩:=Il.1 hcs
  exact PO x.1 (hn x hx) _)]
 constructor
 .rintro⟨M,h1,_,h3⟩
  exact⟨M,h1,fun x hx=>by simpa using(SG x.1 (hn x hx) (!x.2)).1 (h3 _ (Il.2 ⟨x,hx,rfl⟩))⟩
 .rintro⟨M,h1,h2⟩
  refine⟨M,h1,(fun _ h=>by cases h),fun cs hcs=>?_⟩;obtain⟨x,hx,rfl⟩:=Il.1 hcs;exact(SG x.1 (hn x hx) (!x.2)).2 (by simpa using h2 x hx)
def GX (E:List Bool->Bool):Nat->List Bool->List (List Bool)
 | 0,pre=>if E pre then [pre]else []
 | k+1,pre=>if E pre then GX E k (pre++[false])++GX E k (pre++[true])else []
def L4 {E E':List Bool->Bool} (h: ∀l,E l=E' l): ∀(k:Nat) (pre:List Bool),GX E k pre=GX E' k pre
 | 0,pre=>by rw[GX,GX,h]
 | k+1,pre=>by rw[GX,GX,h,L4 h k,L4 h k]
def oK (tog:List Fact->Bool) (fs:List Fact) (bs:List Bool):Bool:=Jh tog (QR (fs.zip bs)) []
def GU (tog:List Fact->Bool) (fs:List Fact) (bs:List Bool):Bool:=Jh tog (dS (fs.zip bs)) []
def m4 {w:AF} {tog:List Fact->Bool} {OK:(Int->KW)->Prop} (htog: ∀l,(∀x∈l,DV w x)->(tog l=true↔ ∃M,OK M/\ ∀x∈l,F4 w M x)) {fs:List Fact} (hn: ∀f∈fs,Bb w f=true) (bs:List Bool) :
    oK tog fs bs=true↔ ∃M,OK M/\ ∀x∈fs.zip bs,UL w M x.1=x.2:=lG htog fun x hx=>hn x.1 (List.of_mem_zip hx).1
def fo {w:AF} {tog:List Fact->Bool} {OK:(Int->KW)->Prop} (htog: ∀l,(∀x∈l,DV w x)->(tog l=true↔ ∃M,OK M/\ ∀x∈l,F4 w M x)) {fs:List Fact} (hn: ∀f∈fs,Bb w f=true) (bs:List Bool) :
    GU tog fs bs=true↔ ∃M,OK M/\ ∀x∈fs.zip bs,UL w M x.1=x.2:=lF htog fun x hx=>hn x.1 (List.of_mem_zip hx).1
def R3 {p:Prog} (hok:ES p) {i j k:Int} (hi:BN p i=true) (hj:BN p j=true) (hk:BN p k=true) (h1:Gk p i j=true) (h2:Gk p j k=true):Gk p i k=true:=
 imp_trans hok.zj (hok.facts _ (Bp (CH hi))).1 (hok.facts _ (Bp (CH hj))).1 (hok.facts _ (Bp (CH hk))).1 h1 h2
def Z9 {p:Prog} {i j:Int}:Ax p i j=true↔Gk p i j=true/\Gk p j i=false:=by
 rw[Ax,A9,Bool.not_eq_true']
def SO {p:Prog} (i:Int):Ax p i i=false:=by
 rw[Ax];cases Gk p i i<;>rfl
def Vp {p:Prog} (hok:ES p) {i j k:Int} (hi:BN p i=true) (hj:BN p j=true) (hk:BN p k=true) (h1:Ax p i j=true) (h2:Ax p j k=true):Ax p i k=true:=by
 rw[Z9]at *;refine⟨R3 hok hi hj hk h1.1 h2.1,?_⟩;rw[<-Bool.not_eq_true];intro e;have:=R3 hok hk hi hj e h1.1;rw[h2.2]at this;cases this
end Go.Gl
namespace Go.Gl
open Go.Proofs
attribute [local irreducible] Au Am Ae AR AK AY AQ AS AJ AX AM AO Ao A0 Sat AU Ay Af W
def mS (g:FuncId) (fi ca:List V) (q:Int->Bool) (xs:List Int) (hpf: ∀y∈xs,Pure zP g (fi++[eI y]++ca) (.b (q y))) (f:Bool) (hxl:xs.length<=1000):Pure zP 170 [.l (iL xs) f,.f (.func g) fi ca] (.l (iL (xs.filter q)) true):=by
 refine Pure.of ?_;have hM:=Mx;refine yb kZ ?_;have hs:=Sn;refine zz ?_;(repeat clear U K);repeat intro K U
 refine B1 xs.length (fun k v=>[(5,v),(10,eI (A4 k))]) (fun k v=>[.own v 1 (iL ((xs.take k).filter q))]) (fun _ _=>True) (.l [] true) rfl trivial (D1 hs 1) ?_;clear hs;rintro k v Z hk - hs;have hfl:=Ou q (xs.take k);rw[Jl]at hfl;rcases A8 xs hk with⟨y,hy,hlt⟩|hke
 .have hpy:=hpf y (Bp hy)
  have hst:(xs.take (k+1)).filter q=if q y then(xs.take k).filter q++[y]else(xs.take k).filter q:=by
   rw[AN hy,List.filter_append];cases hp:q y<;>simp[hp]
  generalize (xs.take k).filter q=zl at *;have hll:zl.length<Aa/\(zl.length+1)*8<=140737488355328:=by omega
  conv=>whnf
  repeat'((first|clear U K|apply st|(apply zk;intro K U)|refine zY ?_|refine aq fun v Z hs hsl=>?_|refine BO (hpy.use ?_)|refine za (fun hc=>?_) fun hc=>?_|fail)<;>conv=>whnf)
  .rw[if_pos (by assumption)]at hst
   exact⟨hlt,_,rfl,trivial,by rw[hst];exact hs⟩
  .rw[if_neg (by simp[*])]at hst
   exact⟨hlt,_,rfl,trivial,by rw[hst];exact hs⟩
 .rw[Aq hke]at hs
  refine zz ?_;(repeat clear U K);repeat intro K U
  refine(Qo (xs.filter q) v (by have:=Ou q xs;omega)).use (rest:=[]) (by simpa using hs) ?_;clear hs;rintro r post Z ⟨rfl,rfl⟩ hs;refine zz ?_;(repeat clear U K);repeat intro K U
  exact AI (by rfl)
def AAn (x y:Int):Pure zP 311 [eI y,.rp [eI x]] (.b (y != x)):=by
 refine wh kZ ?_;have hs:=Sn;refine zz ?_;(repeat clear U K);repeat intro K U
 all_goals exact AH (by rfl)
def OJ (xs:List Int) (f:Bool) (x:Int) (hxl:xs.length<=1000):Pure zP 259 [.l (iL xs) f,eI x] (.l (iL (xs.filter (· != x))) true):=by
 have c1:=mS 311 [] [.rp [eI x]] (· != x) xs (fun y _=>AAn x y) f hxl;refine xd kZ ?_;have hs:=Sn
 conv=>whnf
 repeat'((first|clear U K|apply st|(apply zk;intro K U)|refine zC ?_|fail)<;>conv=>whnf)
 all_goals exact AH (by rfl)
def pb (l:List Int) (f kd:Bool):Pure zP 201 [.pn,.l (iL l) f,.b kd] (.b false):=by
 have c1:=uw l f;refine Y8 kZ ?_;have hs:=Sn;exact zW
def lQ {M:List Int} {x:Int} (h:M.contains x=false):QL M x=M++[x]:=by
 rw[QL,if_neg (by rw[h];decide)]
def uf (p : Prog) (L:Nat) (l:List Int) (f kd:Bool) (hl:l.length<=1000):Pure zP 201 [UI p L,.l (iL l) f,.b kd] (.b (GQ p l kd)):=by
 refine Pure.fit (by kernel_rfl) fun hf=>?_
 have hM:=Mx;have c1:=AA0 p L l f;cases hm:l.all (BN p)<;>rw[hm]at c1
 .have hb:GQ p l kd=false:=by
   rw[<-Bool.not_eq_true];intro h;rw[GQ,A9,EG]at h;rw[<-Bool.not_eq_true,EG]at hm;refine hm fun x hx=>?_
   have:=h.1 x hx;simp only[nc,A9]at this;exact this.1
  refine Y8 kZ ?_;have hs:=Sn
  conv=>whnf
  repeat'((first|clear U K|apply st|(apply zk;intro K U)|refine zY ?_|refine zC ?_|fail)<;>conv=>whnf)
  all_goals exact AH (by rw[hb])
 rw[EG]at hm;refine Y8 kZ ?_;have hs:=Sn
 conv=>whnf
 repeat'((first|clear U K|apply st|(apply zk;intro K U)|refine zY ?_|refine zC ?_|refine zo fun nn hnn Z hs=>?_|fail)<;>conv=>whnf)
 clear c1;replace hs:Sat Z [.map nn (UJ [])]:=hs;refine B1 l.length (fun i (_:Unit)=>[(17,eI (A4 i))]) (fun i _=>[.map nn (UJ (l.take i))]) (fun i _=>(∀k y,k<i->l[k]? =some y->nc p l kd y=true)/\(l.take i).Nodup) () rfl ⟨fun k y h=>by omega,by simp⟩ hs ?_;clear hs;rintro i - Z hi ⟨ho,hn⟩ hs;rcases A8 l hi with⟨x,hx,hlt⟩|hie
 .have hci : A4 i=i:=Ag (by omega)
  obtain⟨z,hz⟩: ∃z,l[0]? =some z:=⟨_,Cs (by omega)⟩
  have hz0:=CU hz;have hmx:=hm x (Bp hx);have hmz:=hm z (Bp hz);have hbad:=fun h=>eW (p:=p) (kd:=kd) hx h
  rw[nc,hz0]at hbad;have hxP:=CH hmx;have hzP:=CH hmz;have c2:=rO p L x z hmx hmz;have hxr:=hmx;have hzr:=hmz;simp only[BN,A9,Cp]at hxr hzr;cases hcon:(l.take i).contains x
  .have hne : ∀k y,k<i->l[k]? =some y->y≠x:=fun k y h h2 e=>by
    rw[<-Bool.not_eq_true,List.contains_iff_mem]at hcon;exact hcon (Bp (i:=k) (by rw[List.getElem?_take,if_pos h,h2,e]))
   have hnd:=Zd hx hn hne;have hput:=lQ hcon;rw[<-AN hx]at hput;by_cases hg:(Be p x).gen=(Be p z).gen
   .have hoxF:(!kd||Dr p x z)=true->nc p l kd x=true:=fun h=>by rw[nc,hz0,hmx,hg,h];simp
    cases hal:Dr p x z<;>rw[hal]at c2 hoxF<;>cases kd
    all_goals
     conv=>whnf
     repeat'((first|clear U K|apply st|(apply zk;intro K U)|refine zY ?_|refine c2.use ?_|(refine Kb hs 0 rfl rfl (IP _) ?_;rw[NA,hcon])|(refine Iz hs 0 rfl rfl (IP _) fun Z hs=>?_)|(refine zb (fun hc=>?_) (fun hc=>?_)<;>try exact⟨⟩)|fail)<;>conv=>whnf)
    all_goals first
     | exact AH (by rw[hbad (by simp[hal,hg])])
     | (exfalso;simp[hg]at hc;done)
     | (have hox:=hoxF rfl
        refine⟨hlt,(),rfl,⟨fun k' y' h h2=>?_,hnd⟩,?_⟩
        .rcases Nat.lt_or_ge k' i with h'|h'
         .exact ho k' y' h' h2
         .rw[show k'=i by omega,hx]at h2
          rw[<-Option.some.inj h2];exact hox
        .replace hs:Sat Z [.map nn (DZ (eI x) (.b true) (UJ (l.take i)))]:=hs
         rw[bZ,hput]at hs
         exact hs)
   .conv=>whnf
    repeat'((first|clear U K|apply st|(apply zk;intro K U)|refine zY ?_|(refine Kb hs 0 rfl rfl (IP _) ?_;rw[NA,hcon])|(refine zb (fun hc=>?_) (fun hc=>?_)<;>try exact⟨⟩)|fail)<;>conv=>whnf)
    all_goals first
     | exact AH (by rw[hbad (by simp[hg])])
     | (exfalso;have q:(Be p x).gen=(Be p z).gen:=(by assumption);exact hg q)
     | (exfalso;simp[hg]at hc;done)
  .obtain⟨k,hk⟩:=List.getElem?_of_mem (List.contains_iff_mem.1 hcon)
   rw[List.getElem?_take]at hk;split at hk
   .conv=>whnf
    repeat'((first|clear U K|apply st|(apply zk;intro K U)|refine zY ?_|(refine Kb hs 0 rfl rfl (IP _) ?_;rw[NA,hcon])|fail)<;>conv=>whnf)
    all_goals exact AH (by rw[eV hx hk (by assumption)])
   .cases hk
 .refine zz ?_;(repeat clear U K);repeat intro K U
  have hall:GQ p l kd=true:=by
   rw[GQ,A9,EG];refine⟨fun y hy=>?_,decide_eq_true (by rw[hie,List.take_length]at hn;exact hn)⟩;obtain⟨k,hk⟩:=List.getElem?_of_mem hy;exact ho k y (by rw[hie];exact(JL.1 hk).1) hk
  exact AH (by rw[hall])
def dV (M:List (Int×Int)) (x:Int×Int):List (Int×Int):=if M.contains x then M else M++[x]
def dW (p:Prog) (M:List (Int×Int)) (m n:Int):List (Int×Int):=if Gk p m n then dV (dV M (m,n)) (n,m)else dV M (m,n)
def R2 (p:Prog) (L:Nat) (m n:Int) (hk:ES p) (hgw:Ct (AL p)) (hfm: ∀x∈p.methods,DM (AL p) x.fact=true) (hm:BN p m=true) (hn:BN p n=true) (M:List (Int×Int)) :
    BQ zP 310 [UI p L,eI m,eI n] [.map L (LX p M)] fun r post=>r= .ret (.b (Gk p m n))/\post= [.map L (LX p (dV M (m,n)))]:=by
 intro Z hs;have hxm:=CH hm;have hxn:=CH hn;have hmm:=Bp hxm;have hmn:=Bp hxn;have hip:=gA (AL p) hgw (Be p m).fact (Be p n).fact (hfm _ hmm) (hfm _ hmn) (hk.facts _ hmm).1 (hk.facts _ hmn).1 (by have:=(hk.facts _ hmm).2;have:=(hk.facts _ hmn).2;omega);simp only[BN,A9,Cp]at hm hn;have hfd:=XL p (m,n) M;refine wi kZ ?_;cases hc:M.contains (m,n)
 .rw[hc,if_neg (by decide)]at hfd
  conv=>whnf
  repeat'((first|clear U K|apply st|(apply zk;intro K U)|refine zY ?_|refine zs fun Z hs=>?_|refine N6 hs 1 rfl rfl (Q4 _ _) hfd ?_|refine Iz hs 1 rfl rfl (Q4 _ _) fun Z hs=>?_|refine hip.use ?_|refine zo fun nn hnn Z hs=>?_|fail)<;>conv=>whnf)
  replace hs:Sat Z [.box nn [eI m,eI n],.map L (DZ (kM (m,n)) (.b (Gk p m n)) (LX p M))]:=hs;rw[bY p (m,n) M hc]at hs;exact AI ⟨_,⟨rfl,rfl⟩,by rw[dV,hc];exact hs.less (K6 _ _)⟩
 .rw[hc,if_pos rfl]at hfd
  conv=>whnf
  repeat'((first|clear U K|apply st|(apply zk;intro K U)|refine zY ?_|refine zs fun Z hs=>?_|refine N6 hs 1 rfl rfl (Q4 _ _) hfd ?_|refine zo fun nn hnn Z hs=>?_|fail)<;>conv=>whnf)
  exact AI ⟨_,⟨rfl,rfl⟩,by rw[dV,hc];exact hs.less (K6 _ _)⟩
def Xq (p:Prog) (L:Nat) (m n:Int) (hk:ES p) (hgw:Ct (AL p)) (hfm: ∀x∈p.methods,DM (AL p) x.fact=true) (hm:BN p m=true) (hn:BN p n=true) (M:List (Int×Int)) :
    BQ zP 258 [UI p L,eI m,eI n] [.map L (LX p M)] fun r post=>r= .ret (.b (Ax p m n))/\post= [.map L (LX p (dW p M m n))]:=by
 intro Z hs;have h1:=fun M=>R2 p L m n hk hgw hfm hm hn M
 have h2:=fun M=>R2 p L n m hk hgw hfm hn hm M
 unfold Ax dW;cases hb1:Gk p m n<;>cases hb2:Gk p n m<;>rw[hb1]at h1<;>rw[hb2]at h2
 all_goals
  refine xe kZ ?_
  conv=>whnf
  repeat'((first|clear U K|apply st|(apply zk;intro K U)|fail)<;>conv=>whnf)
  refine(h1 M).use (rest:=[]) (by simpa using hs) ?_;clear hs;rintro r post Z ⟨rfl,rfl⟩ hs;refine zz ?_;(repeat clear U K);repeat intro K U
 .exact AI ⟨_,⟨rfl,rfl⟩,hs⟩
 .exact AI ⟨_,⟨rfl,rfl⟩,hs⟩
 all_goals
  refine(h2 _).use (rest:=[]) (by simpa using hs) ?_;clear hs;rintro r post Z ⟨rfl,rfl⟩ hs;refine zz ?_;(repeat clear U K);repeat intro K U
  exact AI ⟨_,⟨rfl,rfl⟩,hs⟩
def Gc: ∀ {l:List Int} {i:Nat} {x:Int},l.Nodup->l[i]? =some x->l.filter (· != x)=l.eraseIdx i
 | y::r,0,x,hn,hx=>by
   obtain rfl:y=x:=by simpa using hx
   rw[List.nodup_cons]at hn;rw[List.filter_cons,if_neg (by simp),List.eraseIdx_cons_zero];exact List.filter_eq_self.2 fun z hz=>by rw[zrJ];rintro rfl;exact hn.1 hz
 | y::r,i+1,x,hn,hx=>by
   rw[List.nodup_cons]at hn;rw[zi]at hx;have hyx:y≠x:=fun e=>hn.1 (e ▸ Bp hx)
   rw[List.filter_cons,if_pos (by simpa using hyx),List.eraseIdx_cons_succ,Gc hn.2 hx]
def fM {A:Int->Int->Bool} {l:List Int} {i:Nat} (hi:i<l.length) (h:Ha A l i l.length=true) (hn: ∀j,j<i->Ha A l j l.length=false):Ep A l=some i:=by
 rw[Ep,List.find?_range_eq_some];exact⟨h,List.mem_range.2 hi,fun j hj=>by rw[hn j hj];rfl⟩
def fK {A:Int->Int->Bool} {l:List Int} (hn: ∀j,j<l.length->Ha A l j l.length=false):Ep A l=none:=by
 rw[Ep,List.find?_range_eq_none];exact fun j hj=>by rw[hn j hj];rfl
def oU {A:Int->Int->Bool} {l:List Int} {i k n:Nat} (hk:k<n) (h:(k==i||A (l.getD i 0) (l.getD k 0))=false):Ha A l i n=false:=by
 rw[Ha,<-Bool.not_eq_true,EG];intro h2;rw[h2 k (List.mem_range.2 hk)]at h;cases h
def lj {l:List Int} (hn:l.Nodup) {i k:Nat} {x y:Int} (hx:l[i]? =some x) (hy:l[k]? =some y) (h:k≠i):x≠y:=by
 rintro rfl;have hi:=(JL.1 hx)
 have hj:=(JL.1 hy)
 have:=(List.nodup_iff_pairwise_ne.1 hn)
 rw[List.pairwise_iff_getElem]at this;rcases Nat.lt_or_gt_of_ne h with h'|h'
 .exact this k i hj.1 hi.1 h' (by rw[hj.2,hi.2])
 .exact this i k hi.1 hj.1 h' (by rw[hj.2,hi.2])
def cO (p : Prog) (L:Nat) (l:List Int) (f:Bool) (hok:ES p) (hgw:Ct (AL p)) (hfm: ∀x∈p.methods,DM (AL p) x.fact=true) (hl:Uj p l) (hnd:l.Nodup) (M:List (Int×Int)) :
    BQ zP 183 [UI p L,.l (iL l) f] [.map L (LX p M)] fun r post=>r= .ret (.t [.l (iL (Bf (Ax p) l.length l).1) true,.b (Bf (Ax p) l.length l).2])/\ ∃M',post= [.map L (LX p M')]:=by
 intro Z hs;have hM:=Mx;refine yV kZ ?_;refine zz ?_;(repeat clear U K);repeat intro K U
 refine D7 (fun(x:List Int×Bool×V×List Int×List (Int×Int))=>x.1.length) (fun x=>[(1,.l (iL x.1) x.2.1),(6,x.2.2.1)]) (fun x=>[.own x.2.2.1 1 (iL x.2.2.2.1),.map L (LX p x.2.2.2.2)])
  (fun x=>(∀y∈x.1,BN p y=true)/\x.1.Nodup/\x.2.2.2.1.length+x.1.length<=16/\Bf (Ax p) l.length l=(x.2.2.2.1++(Bf (Ax p) x.1.length x.1).1,(Bf (Ax p) x.1.length x.1).2)) (l,f,.l [] true,[],M) rfl ⟨hl.F6,hnd,by simpa using hl.many,by simp⟩ (Cq hs 1) ?_
 clear hs;rintro⟨l',f',v,out,M⟩ Z ⟨hme,hn,hlen,hm⟩ hs;dsimp only at hme hn hlen hm hs;dsimp only;have hll:out.length<Aa/\(out.length+1)*8<=140737488355328:=by omega
 by_cases hz:l'.length=0
 .rw[hz]at hm
  simp only[Bf,Ez]at hm
  conv=>whnf
  repeat'((first|clear U K|apply st|(apply zk;intro K U)|refine zY ?_|(refine zb (fun hc=>?_) (fun hc=>?_)<;>try exact⟨⟩)|fail)<;>conv=>whnf)
  refine(Qo out v (by omega)).use (rest:=[_]) hs ?_;clear hs;rintro r post Z ⟨rfl,rfl⟩ hs;refine zz ?_;(repeat clear U K);repeat intro K U
  exact AI ⟨_,⟨by rw[hm],M,rfl⟩,hs⟩
 .obtain ⟨n,hnn⟩: ∃n,l'.length=n+1:=⟨l'.length - 1,by omega⟩
  have hne:l'.isEmpty=false:=by cases l' with
   | nil=>simp at hz
   | cons=>rfl
  rw[hnn,Bf]at hm
  conv=>whnf
  repeat'((first|clear U K|apply st|(apply zk;intro K U)|refine zY ?_|(refine zb (fun hc=>?_) (fun hc=>?_)<;>try exact⟨⟩)|fail)<;>conv=>whnf)
  refine B1 l'.length (fun i (_:List (Int×Int))=>[(16,eI (A4 i))]) (fun _ M=>[.own v 1 (iL out),.map L (LX p M)]) (fun i _=> ∀j,j<i->Ha (Ax p) l' j l'.length=false) M rfl (fun j h=>by omega) hs ?_;clear hs;rintro i M Z hi hno hs;rcases A8 l' hi with⟨x,hx,hlt⟩|hie
  .have hmx:=hme x (Bp hx)
   refine zz ?_;(repeat clear U K);repeat intro K U
   refine B1 l'.length (fun k (_:List (Int×Int))=>[(22,eI (A4 k))]) (fun _ M=>[.own v 1 (iL out),.map L (LX p M)]) (fun k _=>Ha (Ax p) l' i k=true) M rfl rfl hs ?_;clear hs;rintro k M Z hk htop hs;rcases A8 l' hk with⟨y,hy,hklt⟩|hke
   .have hmy:=hme y (Bp hy)
    have hsu:=TF (Ax p) l' i k;rw[CU hx,CU hy,htop,Ds]at hsu;by_cases hki:k=i
    .obtain rfl:x=y:=by
      rw[hki,hx]at hy;exact Option.some.inj hy
     conv=>whnf
     repeat'((first|clear U K|apply st|(apply zk;intro K U)|refine zY ?_|(refine zb (fun hc=>?_) (fun hc=>?_)<;>try exact⟨⟩)|fail)<;>conv=>whnf)
     exact⟨hklt,M,rfl,by rw[hsu,hki];simp,hs⟩
    .have hxy:=lj hn hx hy hki
     have c5:=Xq p L x y hok hgw hfm hmx hmy M;cases hah:Ax p x y<;>rw[hah]at c5
     all_goals
      conv=>whnf
      repeat'((first|clear U K|apply st|(apply zk;intro K U)|refine zY ?_|(refine zb (fun hc=>?_) (fun hc=>?_)<;>try exact⟨⟩)|fail)<;>conv=>whnf)
      refine c5.use (rest:=[_]) (hs.perm (.swap _ _ _)) ?_;clear hs;rintro r post Z ⟨rfl,rfl⟩ hs;refine zz ?_;(repeat clear U K);repeat intro K U
     .refine⟨hlt,_,rfl,fun j hj=>?_,hs.perm (.swap _ _ _)⟩
      rcases Nat.lt_or_ge j i with h'|h'
      .exact hno j h'
      .rw[show j=i by omega]
       exact oU hklt (by rw[CU hx,CU hy,hah];simpa using hki)
     .exact⟨hklt,_,rfl,by rw[hsu,hah];simp,hs.perm (.swap _ _ _)⟩
   .have c1:=OJ l' f' x (by omega)
    rw[Gc hn hx]at c1;have hel:=List.length_eraseIdx_of_lt hlt;rw[fM hlt (hke ▸ htop) hno]at hm;dsimp only at hm;rw[CU hx]at hm
    conv=>whnf
    repeat'((first|clear U K|apply st|(apply zk;intro K U)|refine zY ?_|refine aq fun v Z hs hsl=>?_|refine zC ?_|fail)<;>conv=>whnf)
    refine⟨(l'.eraseIdx i,true,v,out++[x],M),by dsimp only;omega,rfl,⟨fun y hy=>hme y (List.mem_of_mem_eraseIdx hy),hn.sublist (List.eraseIdx_sublist _ _),by simp;omega,?_⟩,hs⟩;dsimp only;rw[hm,hel,show l'.length - 1=n by omega];simp
  .rw[fK fun j hj=>hno j (by omega)]at hm
   dsimp only at hm;rw[hne,Ez]at hm;refine zz ?_;(repeat clear U K);repeat intro K U
   refine(Qo out v (by omega)).use (rest:=[_]) hs ?_;clear hs;rintro r post Z ⟨rfl,rfl⟩ hs;refine zz ?_;(repeat clear U K);repeat intro K U
   exact AI ⟨_,⟨by rw[hm];rfl,M,rfl⟩,hs⟩
def oY (p:Prog) (L:Nat) (m:Int) (hok:ES p) (hgw:Ct (AL p)) (hfm: ∀x∈p.methods,DM (AL p) x.fact=true) (hm:BN p m=true) :
    DG zP (.f (.func 263) [] [.rp [UI p L],.rp [eI m]]) eI (fun M=>[.map L (LX p M)]) (fun y M=>(Ax p y m,dW p M y m)) (fun y _=>BN p y=true):=by
 intro y M hy Z hs;refine BO ?_;show Au zP 263 ([]++[eI y]++[.rp [UI p L],.rp [eI m]]) Z _;refine xZ kZ ?_;refine zz ?_;(repeat clear U K);repeat intro K U
 refine(Xq p L y m hok hgw hfm hy hm M).use (rest:=[]) (by simpa using hs) ?_;clear hs;rintro r post Z ⟨rfl,rfl⟩ hs;refine zz ?_;(repeat clear U K);repeat intro K U
 exact As hs (List.sublist_append_left _ _) (.refl _) fun Z' hs'=>⟨rfl,hs'⟩
def Tt {S:Type} {stp:Int->S->Bool×S} {q:Int->Bool}: ∀(xs:List Int) (k:Nat) (s:S),(∀y∈xs,∀s,(stp y s).1=q y)->(Bv stp xs k s).1=match(List.range xs.length).find? fun i=>q (xs.getD i 0)with|some i=>((k+i:Nat):Int)|none=> -1
 | [],_,_,_=>rfl
 | y ::r,k,s,h=>by
   rw[Bv,h y (.head _)];have ih:=Tt r (k+1) (stp y s).2 fun z hz=>h z (.tail _ hz)
   rw[LF,List.range_succ_eq_map,List.find?_cons,List.getD_cons_zero];cases hq:q y
   .rw[if_neg (by decide),ih]
    simp only[List.find?_map,Function.comp_def,Nat.succ_eq_add_one,List.getD_cons_succ];cases(List.range r.length).find? fun i=>q (r.getD i 0)with
    | none=>rfl
    | some i=>simp only[Ya];congr 1;omega
   .rw[if_pos rfl];simp
def AAC (p:Prog) (l:List Int) (m:Int) (M:List (Int×Int)):List (Int×Int):=(Bv (fun y M=>(Ax p y m,dW p M y m)) l 0 M).2
def ak (p:Prog) (L nb:Nat) (l:List Int) (f:Bool) (hok:ES p) (hgw:Ct (AL p)) (hfm: ∀x∈p.methods,DM (AL p) x.fact=true) (hl: ∀x∈l,BN p x=true) :
    DG zP (.f (.func 262) [] [.p nb 0,.rp [UI p L]]) eI (fun M=>[.box nb [.l (iL l) f],.map L (LX p M)]) (fun m M=>(!(decide ((Bv (fun y M=>(Ax p y m,dW p M y m)) l 0 M).1≥0)),AAC p l m M)) (fun m _=>BN p m=true):=by
 intro m M hm Z hs;refine BO ?_;show Au zP 262 ([]++[eI m]++[.p nb 0,.rp [UI p L]]) Z _;refine xa kZ ?_;refine zz ?_;(repeat clear U K);repeat intro K U
 refine(G7 263 [] [.rp [UI p L],.rp [eI m]] (fun M=>[.map L (LX p M)]) _ _ (oY p L m hok hgw hfm hm) l f M (Hl fun y hy _=>hl y hy)).use (rest:=[_]) (hs.perm (.swap _ _ _)) ?_;clear hs;rintro r post Z ⟨rfl,rfl⟩ hs;refine zz ?_;(repeat clear U K);repeat intro K U
 exact As (hs.perm (.swap _ _ _)) (List.Sublist.refl _) (.refl _) fun Z' hs'=>⟨rfl,hs'⟩
def jJ {p:Prog} (hok:ES p): ∀(l:List Int),l≠[]->(∀x∈l,BN p x=true)-> ∃x∈l,∀y∈l,Ax p y x=false
 | [],h,_=>absurd rfl h
 | x ::r,_,h=>by
   by_cases hr:r= []
   .subst hr
    exact⟨x,.head _,fun y hy=>by rw[KV.1 hy];exact SO x⟩
   obtain⟨z,hz,hz2⟩:=jJ hok r hr fun y hy=>h y (.tail _ hy)
   cases hxz:Ax p x z
   .refine⟨z,.tail _ hz,fun y hy=>?_⟩
    rcases GM.1 hy with rfl|hy
    .exact hxz
    .exact hz2 y hy
   .refine⟨x,.head _,fun y hy=>?_⟩
    rcases GM.1 hy with rfl|hy
    .exact SO y
    .rw[<-Bool.not_eq_true]
     intro e;have:=Vp hok (h y (.tail _ hy)) (h x (.head _)) (h z (.tail _ hz)) e hxz;rw[hz2 y hy]at this;cases this
def Ta {p:Prog} (hok:ES p) {l:List Int} (hl:l≠[]) (h: ∀x∈l,BN p x=true): ∃i,Ns (Ax p) l=some i:=by
 obtain⟨x,hx,hx2⟩:=jJ hok l hl h;obtain⟨i,hi⟩:=List.getElem?_of_mem hx;cases hm:Ns (Ax p) l with
 | some i=>exact⟨i,rfl⟩
 | none=>
   rw[Ns,List.find?_range_eq_none]at hm;have h1:=hm i (JL.1 hi).1
   have h2:LZ (Ax p) l i l.length=true:=by
    rw[LZ,EG];intro k hk;rw[CU hi,hx2 _ (EL (List.mem_range.1 hk))];rfl
   rw[h2]at h1;cases h1
end Go.Gl
namespace Go.Gl
variable {P:Program} {Z:AE}
def zU {L:Nat} {args:List V} {Q:R->AE->Prop} (h:Ny P L args Z Q):Ao P (.f (.yield L) [] []) args Z Q:=h
def X2 {L:Nat} {E:Env} {ps:List Nat} {a b:AV} {args:List V} {l:List At} (hl:args.length=ps.length) (hs:Sat Z (.obj L (.loop .ready E (Bm P ps a b))::l)) {Q:R->AE->Prop}
    (h: ∀Z,Sat Z l->W P a (Cd (W P b fun ex env' Z'=>Z' L=none->Qp L E (Bm P ps a b) Q ex env' Z')) (Et ps args E) Z):Ny P L args Z Q:=
 L6 (hs.get (i:=0) rfl) hl (h _ hs.del)
end Go.Gl
namespace Go.Gl
open Go.Proofs
attribute [local irreducible] Au Am Ae AR AK AY AQ AS AJ AX AM AO Ao A0 Sat AU Ay Af W
def TD (xs:List Int) (f:Bool):Pure zP 261 [.l (iL xs) f] (.f (.func 312) [] [.rp [.l (iL xs) f]]):=by
 refine xb kZ ?_;have hs:=Sn;exact zW
def oT (xs:List Int) (f:Bool) (hxl:xs.length<=1000) {S:Type} {fn:Fn} {fi ca:List V} {H:S->List At} (Inv:Nat->S->Prop) {s:S} (h0:Inv 0 s)
    (hT: ∀(k:Nat) s y,xs[k]? =some y->Inv k s-> ∀Z:AE,Sat Z (H s)->Ao zP (.f fn fi ca) [eI y] Z fun r Z'=> ∃s',r= .ret (.b true)/\Inv (k+1) s'/\Sat Z' (H s')) (Z:AE) (hs:Sat Z (H s)) :
    Au zP 312 [.f fn fi ca,.rp [.l (iL xs) f]] Z fun r Z'=> ∃s',r= .ret (.t [])/\Inv xs.length s'/\Sat Z' (H s'):=by
 have hM:=Mx;refine wg kZ ?_;refine zz ?_;(repeat clear U K);repeat intro K U
 refine B1 xs.length (fun k (_:S)=>[(7,eI (A4 k))]) (fun _ s'=>H s') (fun k s'=>Inv k s') s rfl h0 hs ?_;clear hs;rintro k s' Z hk ho hs;rcases A8 xs hk with⟨y,hy,hlt⟩|hke
 .have hT':=hT k s' y hy ho
  refine zz ?_;(repeat clear U K);repeat intro K U
  refine(hT' Z hs).mono ?_;rintro r Z ⟨s2,rfl,hi2,hs⟩;refine zz ?_;(repeat clear U K);repeat intro K U
  exact⟨hlt,_,rfl,hi2,hs⟩
 .rw[hke]at ho
  refine zz ?_;(repeat clear U K);repeat intro K U
  exact AI ⟨_,rfl,ho,hs⟩
def fv (xs:List Int) (f:Bool) (hxl:xs.length<=1000):BQ zP 243 [.l [] true,.f (.func 312) [] [.rp [.l (iL xs) f]]] [] fun r post=> ∃v,r= .ret v/\post= [.own v 1 (iL xs)]/\((CC v).isSome=true\/(v= .l [] true/\xs= [])):=by
 intro Z hs;have hM:=Mx;refine xk kZ ?_
 conv=>whnf
 repeat'((first|clear U K|apply st|(apply zk;intro K U)|refine zo fun nn hnn Z hs=>?_|fail)<;>conv=>whnf)
 rename_i nb _ _ _;clear hnn
 revert hs
 generalize hE:([(2,V.p nb 0)]:Env)=E;generalize hk:Bm _ _ _ _=ok;intro hs;refine Au.mono (oT xs f hxl (fn:= .yield nn) (fi:=[]) (ca:=[]) (H:=fun s:V×List Int=> .obj nn (.loop .ready E ok):: [.box nb [s.1],.own s.1 1 (iL s.2)]) (fun k s=>s.2=xs.take k/\(1<=k->(CC s.1).isSome=true)/\(k=0->s.1= .l [] true)) (s:=(.l [] true,[])) ⟨rfl,fun h=>by omega,fun _=>rfl⟩ ?_ Z ((Cq hs 1).perm (Jy _ _ _ _))) ?_
 .clear hs
  subst hE hk;rintro k ⟨v,ys⟩ y hy ⟨h1,h2,h3⟩ Z hs;dsimp only at h1 h2 h3 hs;have hkl:k<xs.length:=(JL.1 hy).1;have hyl:ys.length=k:=by rw[h1,Jl];omega
  have hll:ys.length<Aa/\(ys.length+1)*8<=140737488355328:=by omega
  refine zU (X2 (l:=[.box nb [v],.own v 1 (iL ys)]) rfl hs ?_);clear hs;intro Z hs
  conv=>whnf
  repeat'((first|clear U K|apply st|(apply zk;intro K U)|refine zY ?_|refine zs fun Z hs=>?_|refine aq fun v Z hs hsl=>?_|fail)<;>conv=>whnf)
  intro hn;exact⟨(v,ys++[y]),rfl,⟨by rw[AN hy,h1],fun _=>hsl,fun h=>by omega⟩,hs.oM hn⟩
 .clear hs
  rintro r Z ⟨⟨v,ys⟩,rfl,⟨h1,h2,h3⟩,hs⟩;dsimp only at h1 h2 h3 hs;refine M3 hs fun Z hs=>?_
  refine zz ?_;(repeat clear U K);repeat intro K U
  rw[List.take_length]at h1;subst h1;refine As hs (K6 _ _) (.refl _) fun Z' hs'=>⟨_,⟨v,rfl,rfl,?_⟩,hs'⟩
  rcases Nat.eq_zero_or_pos ys.length with h|h
  .exact .inr ⟨h3 h,YW.1 h⟩
  .exact .inl (h2 h)
def fj (xs:List Int) (f:Bool) (hxl:xs.length<=1000):BQ zP 171 [.f (.func 312) [] [.rp [.l (iL xs) f]]] [] fun r post=> ∃v,r= .ret v/\post= [.own v 1 (iL xs)]/\((CC v).isSome=true\/(v= .l [] true/\xs= [])):=by
 intro Z hs;refine ya kZ ?_
 conv=>whnf
 repeat'((first|clear U K|apply st|(apply zk;intro K U)|fail)<;>conv=>whnf)
 refine(fv xs f hxl).use (rest:=[]) (by simpa using hs) ?_;clear hs;rintro r post Z ⟨v,rfl,rfl,hv⟩ hs;refine zz ?_;(repeat clear U K);repeat intro K U
 exact As hs (List.sublist_append_left _ _) (.refl _) fun Z' hs'=>⟨_,⟨v,rfl,rfl,hv⟩,hs'⟩
def TH (xs:List Int) (f:Bool) (hxl:xs.length<=1000):Pure zP 260 [.f (.func 312) [] [.rp [.l (iL xs) f]]] (.l (iL (xs.mergeSort Hy)) false):=by
 refine xc kZ ?_;have hs:=Sn
 conv=>whnf
 repeat'((first|clear U K|apply st|(apply zk;intro K U)|fail)<;>conv=>whnf)
 refine(fj xs f hxl).use (rest:=[]) (by simpa using hs) ?_;clear hs;rintro r post Z ⟨v,rfl,rfl,hv⟩ hs
 conv=>whnf
 repeat'((first|clear U K|apply st|(apply zk;intro K U)|fail)<;>conv=>whnf)
 refine(iA hv).use (rest:=[]) hs ?_;clear hs;rintro r post Z ⟨rfl,rfl⟩ hs;refine zz ?_;(repeat clear U K);repeat intro K U
 exact A7 (hs.GG 0 rfl)
def Tu {S:Type} {stp:Int->S->Bool×S} {q:Int->Bool}: ∀(xs:List Int) (k:Nat) (s:S),(∀y∈xs,∀s,(stp y s).1=q y)->decide ((Bv stp xs k s).1≥0)=xs.any q
 | [],_,_,_=>rfl
 | y ::r,k,s,h=>by
   rw[Bv,h y (.head _),Pj];cases hq:q y
   .rw[if_neg (by decide),Bool.false_or]
    exact Tu r (k+1) _ fun z hz=>h z (.tail _ hz)
   .rw[if_pos rfl,Bool.true_or]
    exact decide_eq_true (Int.natCast_nonneg k)
def du (l:List Int) (q:Int->Bool):(List.range l.length).all (fun j=> !q (l.getD j 0))= !l.any q:=by
 rw[JK,EG,Bool.not_eq_true',<-Bool.not_eq_true,Ij];constructor
 .rintro h ⟨x,hx,hq⟩
  obtain⟨i,hi⟩:=List.getElem?_of_mem hx;have:=h i (List.mem_range.2 (JL.1 hi).1);rw[CU hi,hq]at this;cases this
 .intro h j hj
  cases hq:q (l.getD j 0)
  .rfl
  .exact absurd ⟨_,EL (List.mem_range.1 hj),hq⟩ h
def cD {p:Prog} {l:List Int} {M:List (Int×Int)}:(Bv (fun(m:Int) (M:List (Int×Int))=>(!(decide ((Bv (fun y M=>(Ax p y m,dW p M y m)) l 0 M).1≥0)),AAC p l m M)) l 0 M).1=match Ns (Ax p) l with|some i=>((i:Nat):Int)|none=> -1:=by
 rw[Tt (q:=fun m=> !l.any fun y=>Ax p y m) l 0 M fun m _ s=>by dsimp only;rw[Tu (q:=fun y=>Ax p y m) l 0 s fun y _ s=>rfl]];rw[Ns,find_congr (g:=fun i=>LZ (Ax p) l i l.length) fun i _=>by rw[LZ,du l fun y=>Ax p y (l.getD i 0)]];cases(List.range l.length).find? fun i=>LZ (Ax p) l i l.length with
 | none=>rfl
 | some i=>simp
def ft (p:Prog) (L:Nat) (l:List Int) (f:Bool) (hok:ES p) (hgw:Ct (AL p)) (hfm: ∀x∈p.methods,DM (AL p) x.fact=true) (hl:Uj p l) (hnd:l.Nodup) (M:List (Int×Int)) :
    BQ zP 184 [UI p L,.l (iL l) f] [.map L (LX p M)] fun r post=>r= .ret (.l (iL (DN (Ax p) l.length (l.mergeSort Hy))) true)/\ ∃M',post= [.map L (LX p M')]:=by
 intro Z hs;have hM:=Mx;have h16:=hl.many;have hml:(l.mergeSort Hy).length=l.length:=List.length_mergeSort _;have c1:=TD l f;have c2:=TH l f (by omega);refine jr kZ ?_
 conv=>whnf
 repeat'((first|clear U K|apply st|(apply zk;intro K U)|refine zY ?_|refine zs fun Z hs=>?_|refine zC ?_|refine zo fun nn hnn Z hs=>?_|fail)<;>conv=>whnf)
 clear c1 c2 hnn
 refine D7 (fun(x:List Int×Bool×V×List Int×List (Int×Int))=>x.1.length) (fun x=>[(5,x.2.2.1)]) (fun x=>[.box nn [.l (iL x.1) x.2.1],.own x.2.2.1 1 (iL x.2.2.2.1),.map L (LX p x.2.2.2.2)])
  (fun x=>(∀y∈x.1,BN p y=true)/\x.1.Nodup/\x.2.2.2.1.length+x.1.length<=16/\DN (Ax p) l.length (l.mergeSort Hy)=x.2.2.2.1++DN (Ax p) x.1.length x.1) (l.mergeSort Hy,false,.l [] true,[],M) rfl ⟨fun y hy=>hl.F6 y (List.mem_mergeSort.1 hy),(List.mergeSort_perm l Hy).symm.nodup hnd,by simpa[hml]using h16,by simp[hml]⟩ ((Cq hs 1).perm (.swap _ _ _)) ?_
 clear hs;rintro⟨l',f',v,out,M⟩ Z ⟨hme,hn,hlen,hm⟩ hs;dsimp only at hme hn hlen hm hs;dsimp only;have hll:out.length<Aa/\(out.length+1)*8<=140737488355328:=by omega
 by_cases hz:l'.length=0
 .rw[hz]at hm
  simp only[DN,Ez]at hm
  conv=>whnf
  repeat'((first|clear U K|apply st|(apply zk;intro K U)|refine zY ?_|(refine zb (fun hc=>?_) (fun hc=>?_)<;>try exact⟨⟩)|fail)<;>conv=>whnf)
  refine(Qo out v (by omega)).use (rest:=[_,_]) (hs.perm (.swap _ _ _)) ?_;clear hs;rintro r post Z ⟨rfl,rfl⟩ hs;refine zz ?_;(repeat clear U K);repeat intro K U
  exact As hs (K6 _ _) (.refl _) fun Z' hs'=>⟨_,⟨by rw[hm],M,rfl⟩,hs'⟩
 .obtain⟨n,hnn⟩: ∃n,l'.length=n+1:=⟨l'.length - 1,by omega⟩
  have hne:l'≠[]:=fun e=>hz (by rw[e];rfl)
  obtain⟨i,hi⟩:=Ta hok hne hme;have hil:i<l'.length:=by simpa using List.mem_of_find?_eq_some hi
  obtain⟨x,hx⟩: ∃x,l'[i]? =some x:=⟨_,Cs hil⟩
  rw[hnn,DN,hi,Option.getD_some,CU hx]at hm;have c3:=OJ l' f' x (by omega);rw[Gc hn hx]at c3;have hel:=List.length_eraseIdx_of_lt hil
  conv=>whnf
  repeat'((first|clear U K|apply st|(apply zk;intro K U)|refine zY ?_|(refine zb (fun hc=>?_) (fun hc=>?_)<;>try exact⟨⟩)|fail)<;>conv=>whnf)
  refine(JJ 262 [] [.p nn 0,.rp [UI p L]] (fun M=>[.box nn [.l (iL l') f'],.map L (LX p M)]) _ _ (ak p L nn l' f' hok hgw hfm hme) l' f' M (Hl fun y hy _=>hme y hy)).use (rest:=[.own v 1 (iL out)]) (hs.perm (.cons _ (.swap _ _ _))) ?_;clear hs;rintro r post Z ⟨rfl,rfl⟩ hs;rw[cD,hi];generalize (Bv _ l' 0 M).2=M2 at hs;dsimp only
  conv=>whnf
  repeat'((first|clear U K|apply st|(apply zk;intro K U)|refine zY ?_|refine zs fun Z hs=>?_|refine aq fun v Z hs hsl=>?_|refine zC ?_|fail)<;>conv=>whnf)
  refine⟨(l'.eraseIdx i,true,v,out++[x],M2),by dsimp only;omega,rfl,⟨fun y hy=>hme y (List.mem_of_mem_eraseIdx hy),hn.sublist (List.eraseIdx_sublist _ _),by simp;omega,?_⟩,hs.perm (.cons _ (.swap _ _ _))⟩;dsimp only;rw[hm,hel,show l'.length - 1=n by omega];simp
def di: ∀ {l:List Int},l.Nodup->(l.mergeSort Hy).Pairwise (· < ·):=fun {l} h=>by
 have h1:=List.pairwise_mergeSort (le:=Hy) (fun a b c h1 h2=>by simp only[Hy,Cp]at *;omega) (fun a b=>by simp only[Hy,E9,Cp];omega) l;have h2:=List.nodup_iff_pairwise_ne.1 ((List.mergeSort_perm l Hy).symm.nodup h);exact(h1.and h2).imp fun⟨a,b⟩=>by simp only[Hy,Cp]at a;omega
def bj {x:Int}: ∀ {out:List Int},out.Pairwise (· < ·)->x∉out->(Hc x out).Pairwise (· < ·)
 | [],_,_=>by simp[Hc]
 | y ::r,h,hx=>by
   rw[List.pairwise_cons]at h;rw[GM,not_or]at hx;by_cases hy:y<x
   .have e:Hc x (y::r)=y::Hc x r:=by simp[Hc,List.takeWhile_cons,List.dropWhile_cons,hy]
    rw[e,List.pairwise_cons];refine⟨fun z hz=>?_,bj h.2 hx.2⟩;rcases Q7.1 hz with rfl|hz
    .exact hy
    .exact h.1 z hz
   .have e:Hc x (y::r)=x::y::r:=by simp[Hc,List.takeWhile_cons,List.dropWhile_cons,hy]
    rw[e,List.pairwise_cons,List.pairwise_cons];refine⟨fun z hz=>?_,h⟩;rcases GM.1 hz with rfl|hz
    .have:=hx.1;omega
    .have:=h.1 z hz
     have:=hx.1;omega
def XW: ∀(l out:List Int),out.Pairwise (· < ·)->l.Nodup->(∀x∈l,x∉out)->(l.foldl (fun out x=>Hc x out) out).Pairwise (· < ·)
 | [],_,h,_,_=>h
 | x::r,out,h,hn,hx=>by
   rw[List.nodup_cons]at hn;refine XW r _ (bj h (hx x (.head _))) hn.2 fun y hy hm=>?_
   rcases Q7.1 hm with rfl|hm
   .exact hn.1 hy
   .exact hx y (.tail _ hy) hm
def TI {l:List Int} (h:l.Nodup):l.mergeSort Hy=Cy l:=
 Ls (di h) (XW l [] .nil h fun x _ hm=>by cases hm) fun x=>by rw[List.mem_mergeSort,Kp]
end Go.Gl
namespace Go.Gl
open Go.Proofs
def zD {Z:AE} {l:List At} {i:Nat} {v:V} {sz:Nat} {es:List (List V)} (hs:Sat Z l) (hi:l[i]? =some (.own v sz es)) (he: ∀e∈es,e.length=sz) {K:V->AE->Prop} (hk: ∀v' Z',Sat Z' (l.set i (.own v' sz es))->((CC v').isSome=true\/(v'= .l es true/\v= .l es true))->K v' Z'):AQ Z sz v none (some (.i .i64 (es.length:Int))) (some (.i .i64 (es.length:Int))) K:=by
 rcases hs.get hi with⟨rfl,_⟩|⟨n,cap,rfl,hn⟩
 .refine⟨he,?_⟩
  simp only[Ow];refine⟨Int.le_refl _,Int.natCast_nonneg _,Int.le_refl _,trivial,?_⟩
  have hset:l.set i (.own (.l es true) sz es)=l:=by
   refine List.ext_getElem? fun j=>?_
   by_cases hj:i=j
   .subst hj
    rw[List.getElem?_set_self (JL.1 hi).1,hi]
   .rw[List.getElem?_set_ne hj]
  have:=hk (.l es true) Z (by rw[hset];exact hs) (.inr ⟨rfl,rfl⟩);simpa using this
 .unfold AQ
  simp only[Ow];refine⟨Int.le_refl _,Int.natCast_nonneg _,Int.le_refl _,trivial,trivial,trivial,?_⟩;rw[hn];refine⟨rfl,rfl,rfl,.inr (hk _ _ ?_ (.inl rfl))⟩;refine hs.change hi (fun b hb ha=>Fc hb fun m hm=>?_) (fun b hb ha m hm=>?_) (.inr ⟨n,es.length,rfl,DJ _ _ _⟩)
  .rw[Cm]
   intro e;subst e;exact ha m rfl hm
  .cases hm
   exact ha _ rfl
attribute [local irreducible] Au Am Ae AR AK AY AQ AS AJ AX AM AO Ao A0 Sat AU Ay Af W
def qy (xs:List Int) (v:V) (hl:xs.length<=Aa) (hv:(CC v).isSome=true\/(v= .l [] true/\xs= [])):BQ zP 242 [v] [.own v 1 (iL xs)] fun r post=> ∃v',r= .ret v'/\post= [.own v' 1 (iL xs)]/\((CC v').isSome=true\/(v'= .l [] true/\xs= [])):=by
 intro Z hs;have hg:=DL Bo xs;refine jn kZ ?_;refine zz ?_;(repeat clear U K);repeat intro K U
 refine zD (i:=0) hs rfl hg.1 fun v' Z hs hv'=>?_
 refine zz ?_;(repeat clear U K);repeat intro K U
 refine As hs (List.Sublist.refl _) (.refl _) fun Z' hs'=>⟨_,⟨v',rfl,rfl,?_⟩,hs'⟩
 rcases hv' with h|⟨h1,h2⟩
 .exact .inl h
 .rcases hv with h|⟨h3,h4⟩
  .rw[h2]at h;cases h
  .subst h4
   exact .inr ⟨h1,rfl⟩
def WW (xs ys:List Int) (k:Nat):Prop:=ys.length=xs.length/\ ∀t,t<xs.length->ys[t]? =if t<k\/xs.length - k<=t then xs[xs.length - 1 - t]? else xs[t]?
def uy (xs:List Int):WW xs xs 0:=⟨rfl,fun t ht=>by rw[if_neg (by omega)]⟩
def mI {xs ys:List Int} {k:Nat} (h:WW xs ys k) (hk:xs.length<=2*k+1):ys=xs.reverse:=by
 refine List.ext_getElem? fun t=>?_
 rcases Nat.lt_or_ge t xs.length with ht|ht
 .rw[h.2 t ht,List.getElem?_reverse ht]
  split
  .rfl
  .congr 1;omega
 .rw[List.getElem?_eq_none (by rw[h.1];exact ht),List.getElem?_eq_none (by rw[List.length_reverse];exact ht)]
def er {xs ys:List Int} {k:Nat} {a b:Int} (h:WW xs ys k) (hk:2*k+1<xs.length) (ha:ys[k]? =some a) (hb:ys[xs.length - 1 - k]? =some b):WW xs ((ys.set k b).set (xs.length - 1 - k) a) (k+1):=by
 have h1:=h.2 k (by omega);have h2:=h.2 (xs.length - 1 - k) (by omega);rw[if_neg (by omega),ha]at h1;rw[if_neg (by omega),hb]at h2;refine⟨by rw[List.length_set,List.length_set];exact h.1,fun t ht=>?_⟩;have hl:=h.1;by_cases e1:t=xs.length - 1 - k
 .subst e1
  rw[List.getElem?_set_self (by rw[List.length_set];omega),if_pos (by omega),show xs.length - 1 - (xs.length - 1 - k)=k by omega,h1]
 .rw[List.getElem?_set_ne (fun e=>e1 e.symm)]
  by_cases e2:t=k
  .subst e2
   rw[List.getElem?_set_self (by omega),if_pos (by omega),h2]
  .rw[List.getElem?_set_ne (fun e=>e2 e.symm),h.2 t ht]
   by_cases e3:t<k\/xs.length - k<=t
   .rw[if_pos e3,if_pos (by omega)]
   .rw[if_neg e3,if_neg (by omega)]
end Go.Gl
namespace Go.Gl
open Go.Proofs
attribute [local irreducible] Au Am Ae AR AK AY AQ AS AJ AX AM AO Ao A0 Sat AU Ay Af W
def dm (xs:List Int) (v:V) (hl:xs.length<=1000) (hv:(CC v).isSome=true\/(v= .l [] true/\xs= [])):BQ zP 185 [v] [.own v 1 (iL xs)] fun r post=>r= .ret (.t [])/\post= [.own v 1 (iL xs.reverse)]:=by
 intro Z hs;have hM:=Mx;have e0:((iL xs).length:Int)=xs.length:=by simp
 have hw0:IntKind.i64.wrap (((iL xs).length:Int) - 1)=(xs.length:Int) - 1:=by rw[e0,wrap64 (by omega) (by omega)]
 refine yU kZ ?_;refine zz ?_;(repeat clear U K);repeat intro K U
 refine D7 (fun(x:Int×Int×List Int)=>(x.2.1+1).toNat) (fun x=>[(2,eI x.1),(3,eI x.2.1)]) (fun x=>[.own v 1 (iL x.2.2)]) (fun x=> ∃k:Nat,x.1=k/\x.2.1=(xs.length:Int) - 1 - k/\2*k<=xs.length+1/\WW xs x.2.2 k) (0,IntKind.i64.wrap (((iL xs).length:Int) - 1),xs) rfl ⟨0,rfl,by rw[hw0];simp,by omega,uy xs⟩ hs ?_;clear hs;rintro⟨i,j,ys⟩ Z ⟨k,hi,hj,hk,hh⟩ hs;dsimp only at hi hj hh hs;dsimp only;have hyl:=hh.1;by_cases hij:i<j
 .have hsv:(CC v).isSome=true:=by
   rcases hv with h|⟨h1,h2⟩
   .exact h
   .rw[h2]at hj;simp at hj;omega
  have hwi:IntKind.i64.wrap (i+1)=i+1:=wrap64 (by omega) (by omega);have hwj:IntKind.i64.wrap (j - 1)=j - 1:=wrap64 (by omega) (by omega);obtain⟨a,ha⟩: ∃a,ys[i.toNat]? =some a:=⟨_,Cs (by omega)⟩
  obtain⟨b,hb⟩: ∃b,ys[j.toNat]? =some b:=⟨_,Cs (by omega)⟩
  conv=>whnf
  repeat'((first|clear U K|apply st|(apply zk;intro K U)|refine zY ?_|refine zs fun Z hs=>?_|refine oset (fun Z hs=>?_) (h1:=by rw[List.length_set];omega)|(refine zb (fun hc=>?_) (fun hc=>?_)<;>try exact⟨⟩)|fail)<;>conv=>whnf)
  have hik:i.toNat=k:=by omega
  have hjk:j.toNat=xs.length - 1 - k:=by omega
  refine⟨(IntKind.i64.wrap (i+1),IntKind.i64.wrap (j - 1),(ys.set i.toNat b).set j.toNat a),by dsimp only;rw[hwj];omega,rfl,⟨k+1,by dsimp only;rw[hwi];omega,by dsimp only;rw[hwj];omega,by omega,?_⟩,hs⟩;dsimp only;rw[hik]at ha ⊢;rw[hjk]at hb ⊢;exact er hh (by omega) ha hb
 .have he:=mI hh (by omega)
  conv=>whnf
  repeat'((first|clear U K|apply st|(apply zk;intro K U)|refine zY ?_|(refine zb (fun hc=>?_) (fun hc=>?_)<;>try exact⟨⟩)|fail)<;>conv=>whnf)
  subst he;exact As hs (List.Sublist.refl _) (.refl _) fun Z' hs'=>⟨_,⟨rfl,rfl⟩,hs'⟩
def Z8 (p:Prog) (L:Nat) (l:List Int) (f:Bool) (hok:ES p) (hgw:Ct (AL p)) (hfm: ∀x∈p.methods,DM (AL p) x.fact=true) (hl:Uj p l) (hnd:l.Nodup) (M:List (Int×Int)) :
    BQ zP 184 [UI p L,.l (iL l) f] [.map L (LX p M)] fun r post=> ∃v M',r= .ret v/\post= [.own v 1 (iL (DN (Ax p) l.length (l.mergeSort Hy))),.map L (LX p M')]/\((CC v).isSome=true\/(v= .l [] true/\DN (Ax p) l.length (l.mergeSort Hy)= [])):=by
 intro Z hs;have hM:=Mx;have h16:=hl.many;have hml:(l.mergeSort Hy).length=l.length:=List.length_mergeSort _;have c1:=TD l f;have c2:=TH l f (by omega);refine jr kZ ?_
 conv=>whnf
 repeat'((first|clear U K|apply st|(apply zk;intro K U)|refine zY ?_|refine zs fun Z hs=>?_|refine zC ?_|refine zo fun nn hnn Z hs=>?_|fail)<;>conv=>whnf)
 clear c1 c2 hnn
 refine D7 (fun(x:List Int×Bool×V×List Int×List (Int×Int))=>x.1.length) (fun x=>[(5,x.2.2.1)]) (fun x=>[.box nn [.l (iL x.1) x.2.1],.own x.2.2.1 1 (iL x.2.2.2.1),.map L (LX p x.2.2.2.2)])
  (fun x=>(∀y∈x.1,BN p y=true)/\x.1.Nodup/\x.2.2.2.1.length+x.1.length<=16/\DN (Ax p) l.length (l.mergeSort Hy)=x.2.2.2.1++DN (Ax p) x.1.length x.1/\((CC x.2.2.1).isSome=true\/(x.2.2.1= .l [] true/\x.2.2.2.1= []))) (l.mergeSort Hy,false,.l [] true,[],M) rfl ⟨fun y hy=>hl.F6 y (List.mem_mergeSort.1 hy),(List.mergeSort_perm l Hy).symm.nodup hnd,by simpa[hml]using h16,by simp[hml],.inr ⟨rfl,rfl⟩⟩ ((Cq hs 1).perm (.swap _ _ _)) ?_
 clear hs;rintro⟨l',f',v,out,M⟩ Z ⟨hme,hn,hlen,hm,hv⟩ hs;dsimp only at hme hn hlen hm hv hs;dsimp only;have hll:out.length<Aa/\(out.length+1)*8<=140737488355328:=by omega
 by_cases hz:l'.length=0
 .rw[hz]at hm
  simp only[DN,Ez]at hm
  conv=>whnf
  repeat'((first|clear U K|apply st|(apply zk;intro K U)|refine zY ?_|(refine zb (fun hc=>?_) (fun hc=>?_)<;>try exact⟨⟩)|fail)<;>conv=>whnf)
  refine(qy out v (by omega) hv).use (rest:=[_,_]) (hs.perm (.swap _ _ _)) ?_;clear hs;rintro r post Z ⟨v',rfl,rfl,hv'⟩ hs;refine zz ?_;(repeat clear U K);repeat intro K U
  rw[hm];exact As hs (.cons₂ _ (K6 _ _)) (.refl _) fun Z' hs'=>⟨_,⟨v',M,rfl,rfl,hv'⟩,hs'⟩
 .obtain⟨n,hnn⟩: ∃n,l'.length=n+1:=⟨l'.length - 1,by omega⟩
  have hne:l'≠[]:=fun e=>hz (by rw[e];rfl)
  obtain⟨i,hi⟩:=Ta hok hne hme;have hil:i<l'.length:=by simpa using List.mem_of_find?_eq_some hi
  obtain⟨x,hx⟩: ∃x,l'[i]? =some x:=⟨_,Cs hil⟩
  rw[hnn,DN,hi,Option.getD_some,CU hx]at hm;have c3:=OJ l' f' x (by omega);rw[Gc hn hx]at c3;have hel:=List.length_eraseIdx_of_lt hil
  conv=>whnf
  repeat'((first|clear U K|apply st|(apply zk;intro K U)|refine zY ?_|(refine zb (fun hc=>?_) (fun hc=>?_)<;>try exact⟨⟩)|fail)<;>conv=>whnf)
  refine(JJ 262 [] [.p nn 0,.rp [UI p L]] (fun M=>[.box nn [.l (iL l') f'],.map L (LX p M)]) _ _ (ak p L nn l' f' hok hgw hfm hme) l' f' M (Hl fun y hy _=>hme y hy)).use (rest:=[.own v 1 (iL out)]) (hs.perm (.cons _ (.swap _ _ _))) ?_;clear hs;rintro r post Z ⟨rfl,rfl⟩ hs;rw[cD,hi];generalize (Bv _ l' 0 M).2=M2 at hs;dsimp only
  conv=>whnf
  repeat'((first|clear U K|apply st|(apply zk;intro K U)|refine zY ?_|refine zs fun Z hs=>?_|refine aq fun v Z hs hsl=>?_|refine zC ?_|fail)<;>conv=>whnf)
  refine⟨(l'.eraseIdx i,true,v,out++[x],M2),by dsimp only;omega,rfl,⟨fun y hy=>hme y (List.mem_of_mem_eraseIdx hy),hn.sublist (List.eraseIdx_sublist _ _),by simp;omega,?_,.inl hsl⟩,hs.perm (.cons _ (.swap _ _ _))⟩;dsimp only;rw[hm,hel,show l'.length - 1=n by omega];simp
def se (g:FuncId) (fi ca:List V) (q:Int×Int->Bool):Prop:= ∀v,Pure zP g (fi++[.a (pI v)]++ca) (.b (q v))
def se.use {g:FuncId} {fi ca:List V} {q:Int×Int->Bool} (h:se g fi ca q) {v:Int×Int} {Z:AE} {k kp:V->AE->Prop} (hk:k (.b (q v)) Z):Ao zP (.f (.func g) fi ca) [.a (pI v)] Z (qk k kp):=BO ((h v).use hk)
end Go.Gl
namespace Go.Gl
variable {P:Program} {Z:AE}
def Au.O2 {f:FuncId} {args args':List V} {Z Z2:AE} {Q:R->AE->Prop} (h:Au P f args' Z2 Q) (hsub:Sub Z2 Z) (hf:DW Z Z2 args args'):Au P f args Z Q:=by
 refine⟨h.1,fun F w cs hR hv=>?_⟩;exact Calls.mono (h.2 F w cs (hR.drop hsub) ⟨by rw[hf.length];exact hv.1,hf.rel hR hsub (fun _ _ e=>e) hv.2⟩) fun e w' ⟨r,Z',hr,h1,h2,h3⟩=>⟨r,Z',hr,h1,h2,(CD.drop w hsub).trans h3⟩
def Pure.arg {f:FuncId} {args args':List V} {v:V} (h:Pure P f args' v) (hf:DW emp emp args args'):Pure P f args v:=Au.O2 h (Sub.refl _) hf
def Own.tX {v:V} {sz:Nat} {es es':List (List V)} (h:Own Z v sz es) (hR:Fa Z emp es es'):F3 Z emp v (.l es' false):=by
 rcases h with⟨rfl,_⟩|⟨n,cap,rfl,hn⟩
 .exact .l (fun h=>(by cases h)) hR
 .exact .arr hn rfl rfl hR
inductive dX (Z Z':AE):Env->Env->Prop
 | nil:dX Z Z' [] []
 | cons {k:Nat} {v v':V} {e e':Env}:F3 Z Z' v v'->dX Z Z' e e'->dX Z Z' ((k,v)::e) ((k,v')::e')
def dX.efz {Z Z':AE} {e e':Env} (h:dX Z Z' e e'):EFz Z Z' e e':=by
 induction h with
 | nil=>intro j v2 hv;cases hv
 | cons h1 h2 ih=>
   rename_i k v v' e e';intro j v2 hv;simp only[get]at hv ⊢;cases hb:Nat.beq k j with
   | true=>
     rw[hb]at hv;simp only[cond_true,JM]at hv ⊢;subst hv;exact⟨v,rfl,h1⟩
   | false=>
     rw[hb]at hv;simp only[cond_false]at hv ⊢;exact ih j v2 hv
def AA7 {env env2:Env} {K:Env->AE->Prop} {l:List At} (hs:Sat Z l) (i:Nat) {v:V} {sz:Nat} {es:List (List V)} (hi:l[i]? =some (.own v sz es))
    (he: ∀Z2,F3 Z Z2 v (.l es false)->dX Z Z2 env env2) (hk: ∀Z2,Sat Z2 (l.eraseIdx i)->K env2 Z2):Fz env Z K:=by
 obtain⟨Z2,h1,h2,h3⟩:=HI hs i hi;exact .inr ⟨env2,Z2,⟨fun n o2 ho=> .inl (h1 n o2 ho)⟩,(he Z2 h2).efz,hk Z2 h3⟩
def sqz {l:List Nat} {a b:AV} {Q:Ac->Env->AE->Prop} {env:Env} (h: ∀K:Env->AE->Prop,(∀env Z,(pk l env fun E=>Fz E Z (W P b Q))->K env Z)->W P a (Ac.andThen K Q) env Z):W P (.seq l a b) Q env Z:=zO h
end Go.Gl
namespace Go.Gl
open Go.Proofs
end Go.Gl
namespace Go.Gl
open Go.Proofs
attribute [local irreducible] Au Am Ae AR AK AY AQ AS AJ AX AM AO Ao A0 Sat AU Ay Af W
def pY {p:Prog} (h:(BX p).isSome=true) {x:Nx} (hx:x∈p.methods):(1<=x.kind/\x.kind<=4)/\DM (AL p) x.fact=true/\Bb (AL p) x.fact=true/\Gq x.fact<=p.Dx.getD x.gen.toNat 0:=by
 have:=(Gg h).2 x hx;simp only[QF,A9,Cp]at this;have hf:=this.2.2.2.2.1;simp only[DM,A9,Cp]at hf;exact⟨⟨this.1,this.2.1⟩,this.2.2.2.2.1,hf.2.2,this.2.2.2.2.2⟩
structure Pl where
 ar:List Int
 aG:Bool
 be:List Int
 pr:List Int
 prt:Bool
 af:List Int
abbrev plV (x:Pl) (g h:Bool):List V:=[.l (iL x.ar) g,.b x.aG,.l (iL x.be) g,.l (iL x.pr) g,.b x.prt,.l (iL x.af) h]
def CI (p:Prog) (l:List Int) (k:Int):List Int:=l.filter fun m=>(Be p m).kind==k
def zt:Pl:=⟨[],false,[],[],false,[]⟩
def ru (A:Int->Int->Bool) (p:Prog) (l:List Int):Pl:=
 ⟨(Bf A (CI p l 4).length (CI p l 4)).1,(Bf A (CI p l 4).length (CI p l 4)).2,DN A (CI p l 2).length (Cy (CI p l 2)),(Bf A (CI p l 1).length (CI p l 1)).1,(Bf A (CI p l 1).length (CI p l 1)).2,(DN A (CI p l 3).length (Cy (CI p l 3))).reverse⟩
def FG (A:Int->Int->Bool) (p:Prog) (l:List Int):Pl×Bool:=if(CI p l 1).isEmpty then(zt,false)else(ru A p l,true)
def oN (p:Prog) (l:List Int) (f:Bool) (kd:Int) (hm: ∀x∈l,BN p x=true) (hl:l.length<=16) (h16:p.methods.length<=16):Pure zP 274 [.a (BG p),.l (iL l) f,eI kd] (.l (iL (CI p l kd)) false):=by
 have hM:=Mx;refine xR kZ ?_;have hs:=Sn;refine zz ?_;(repeat clear U K);repeat intro K U
 refine B1 l.length (fun k v=>[(7,v),(8,eI (A4 k))]) (fun k v=>[.own v 1 (iL (CI p (l.take k) kd))]) (fun _ _=>True) (.l [] true) rfl trivial (D1 hs 1) ?_;clear hs;rintro k v Z hk - hs
 have hfl:(CI p (l.take k) kd).length<=16:=by
  have:=Ou (fun m=>(Be p m).kind==kd) (l.take k);rw[Jl]at this;simp only[CI];omega
 rcases A8 l hk with⟨x,hx,hlt⟩|hke
 .have hst:CI p (l.take (k+1)) kd=if(Be p x).kind==kd then CI p (l.take k) kd++[x]else CI p (l.take k) kd:=by
   rw[AN hx,CI,List.filter_append];cases hp:(Be p x).kind==kd<;>simp[CI,hp]
  have hmx:=hm x (Bp hx);have hxm:=CH hmx;simp only[BN,A9,Cp]at hmx;generalize CI p (l.take k) kd=zl at *;have hll:zl.length<Aa/\(zl.length+1)*8<=140737488355328:=by omega
  by_cases hkd:(Be p x).kind=kd
  .rw[if_pos (C0.2 hkd)]at hst
   conv=>whnf
   repeat'((first|clear U K|apply st|(apply zk;intro K U)|refine zY ?_|refine aq fun v Z hs hsl=>?_|(refine zb (fun hc=>?_) (fun hc=>?_)<;>try exact⟨⟩)|fail)<;>conv=>whnf)
   exact⟨hlt,_,rfl,trivial,by rw[hst];exact hs⟩
  .rw[if_neg (by simpa using hkd)]at hst
   conv=>whnf
   repeat'((first|clear U K|apply st|(apply zk;intro K U)|refine zY ?_|(refine zb (fun hc=>?_) (fun hc=>?_)<;>try exact⟨⟩)|fail)<;>conv=>whnf)
   exact⟨hlt,_,rfl,trivial,by rw[hst];exact hs⟩
 .rw[Aq hke]at hs
  refine zz ?_;(repeat clear U K);repeat intro K U
  exact A7 (hs.GG 0 rfl)
end Go.Gl
namespace Go.Gl
open Go.Proofs
structure QY (p:Prog) (l:List Int):Prop where
 F6: ∀x∈l,BN p x=true
 gen: ∀x∈l,∀y∈l,(Be p x).gen=(Be p y).gen
 nodup:l.Nodup
 many:l.length<=16
def HQ {p:Prog} {l:List Int} {k x:Int} (h:x∈CI p l k):x∈l/\(Be p x).kind=k:=by
 have:=Ik.1 h;exact⟨this.1,by simpa using this.2⟩
def bP {p:Prog} {l:List Int} {k:Int}:(CI p l k).length<=l.length:=Ou _ _
def QY.of {p:Prog} {l:List Int} (h:QY p l) (k:Int):Uj p (CI p l k)/\(CI p l k).Nodup:=by
 refine⟨⟨fun x hx=>h.F6 x (HQ hx).1,fun x hx y hy=>?_,Nat.le_trans bP h.many⟩,h.nodup.sublist (List.filter_sublist ..)⟩;rw[Dr,h.gen x (HQ hx).1 y (HQ hy).1,(HQ hx).2,(HQ hy).2];simp
def X8 {p:Prog} {l:List Int} {A B:Int->Int->Bool} (h:QY p l) (hq: ∀x∈l,∀y∈l,Dr p x y=true->A x y=B x y):FG A p l=FG B p l:=by
 have hk: ∀k,∀x∈CI p l k,∀y∈CI p l k,A x y=B x y:=fun k x hx y hy=>hq x (HQ hx).1 y (HQ hy).1 ((h.of k).1.alike x hx y hy)
 have hc: ∀k,Bf A (CI p l k).length (CI p l k)=Bf B (CI p l k).length (CI p l k):=fun k=>Nd _ _ (hk k)
 have hb: ∀k,DN A (CI p l k).length (Cy (CI p l k))=DN B (CI p l k).length (Cy (CI p l k)):=fun k=>SM _ _ fun x hx y hy=>hk k x (Kp.1 hx) y (Kp.1 hy)
 unfold FG ru;rw[hc 4,hc 1,hb 2,hb 3]
def Jg.sub {T:List (List Bool)} {l l':List Int} (h:Jg T l) (hs: ∀x∈l',x∈l) (hl:l'.length<=l.length):Jg T l':=⟨h.len,h.sq,fun x hx=>h.ins x (hs x hx),Nat.le_trans hl h.many⟩
attribute [local irreducible] Au Am Ae AR AK AY AQ AS AJ AX AM AO Ao A0 Sat AU Ay Af W
def lT (p:Prog) (T:List (List Bool)) (l:List Int) (f:Bool) (hG:QY p l) (h16:p.methods.length<=16) (hT:Jg T l) :
    Pure zP 202 [.a (BG p),rS T,.l (iL l) f] (.t [.a (plV (FG (Dt T) p l).1 (!(FG (Dt T) p l).2) (!(FG (Dt T) p l).2)),.b (FG (Dt T) p l).2]):=by
 have hM:=Mx;have c1:=oN p l f 1 hG.F6 hG.many h16;have c2:=oN p l f 2 hG.F6 hG.many h16;have c3:=oN p l f 3 hG.F6 hG.many h16;have c4:=oN p l f 4 hG.F6 hG.many h16;have htk: ∀k,Jg T (CI p l k):=fun k=>hT.sub (fun x hx=>(HQ hx).1) bP
 have hts: ∀k,Jg T (Cy (CI p l k)):=fun k=>(htk k).sub (fun x hx=>Kp.1 hx) (by rw[TJ];exact Hz _)
 have d1:=Xg T (CI p l 1) false (htk 1);have d4:=Xg T (CI p l 4) false (htk 4);have e2:=T8 T (CI p l 2) false (hts 2) (htk 2).many;have e3:=T8 T (CI p l 3) false (hts 3) (htk 3).many;rw[TJ]at e2 e3
 have hbl:(DN (Dt T) (CI p l 3).length (Cy (CI p l 3))).length<=16:=by
  have: ∀k l,(DN (Dt T) k l).length=k:=fun k=>by
   induction k with
   | zero=>intro l;rfl
   | succ k ih=>intro l;simp only[DN,LF,ih]
  rw[this];exact(htk 3).many
 have hpl:FG (Dt T) p l=if(CI p l 1).isEmpty then(zt,false)else(⟨(Bf (Dt T) (CI p l 4).length (CI p l 4)).1,(Bf (Dt T) (CI p l 4).length (CI p l 4)).2,DN (Dt T) (CI p l 2).length (Cy (CI p l 2)),(Bf (Dt T) (CI p l 1).length (CI p l 1)).1,(Bf (Dt T) (CI p l 1).length (CI p l 1)).2,(DN (Dt T) (CI p l 3).length (Cy (CI p l 3))).reverse⟩,true):=rfl
 rw[hpl];have hl1:=(htk 1).many;clear htk hts hpl;generalize DN (Dt T) (CI p l 3).length (Cy (CI p l 3))=xs at *;generalize DN (Dt T) (CI p l 2).length (Cy (CI p l 2))=bs at *;generalize Bf (Dt T) (CI p l 4).length (CI p l 4)=q4 at *;generalize Bf (Dt T) (CI p l 1).length (CI p l 1)=q1 at *;generalize CI p l 1=l1 at *;obtain⟨r4,t4⟩:=q4;obtain⟨r1,t1⟩:=q1;dsimp only at d1 d4;refine yI kZ ?_;have hs:=Sn;by_cases hz:l1.length=0
 .have he:l1.isEmpty=true:=by simpa using hz
  rw[he];exact zW
 .have he:l1.isEmpty=false:=by cases l1 with
   | nil=>simp at hz
   | cons=>rfl
  rw[he]
  conv=>whnf
  repeat'((first|clear U K|apply st|(apply zk;intro K U)|refine zY ?_|refine zs fun Z hs=>?_|refine c1.use ?_|refine c2.use ?_|refine c3.use ?_|refine c4.use ?_|refine d1.use ?_|refine d4.use ?_|refine e2.use ?_|refine e3.use ?_|(refine zb (fun hc=>?_) (fun hc=>?_)<;>try exact⟨⟩)|refine zo fun nn hnn Z hs=>?_|fail)<;>conv=>whnf)
  rename_i n6 _ _ _ _ _ _ _ _ _ _ _ _ _
  have hwl:IntKind.i64.wrap ((iL xs).length - 1)=(xs.length:Int) - 1:=by
   have e:((iL xs).length:Int)=xs.length:=by simp
   rw[e,wrap64 (by omega) (by omega)]
  refine D7 (fun x:Int×V=>(x.1+1).toNat) (fun x=>[(10,eI x.1)]) (fun x=>[.box nn [.l (iL r4) false,.b t4,.l (iL bs) false,.l (iL r1) false,.b t1,x.2],.box n6 [.l [] true,.b false,.l [] true,.l [] true,.b false,.l [] true],.own x.2 1 (iL ((xs.drop (x.1+1).toNat).reverse))]) (fun x=> -1<=x.1/\x.1<xs.length) (IntKind.i64.wrap ((iL xs).length - 1),.l [] true) rfl ?_ ?_ ?_
  .dsimp only
   rw[hwl];exact⟨by omega,by omega⟩
  .dsimp only
   rw[hwl,List.drop_of_length_le (by omega)];exact D1 hs 1
  clear hs hwl;rintro⟨i,v⟩ Z ⟨hi1,hi2⟩ hs;dsimp only at hi1 hi2 hs;dsimp only;by_cases hneg:i<0
  .obtain rfl:i= -1:=by omega
   rw[show((-1:Int)+1).toNat=0 from rfl,List.drop_zero]at hs
   conv=>whnf
   repeat'((first|clear U K|apply st|(apply zk;intro K U)|refine zY ?_|(refine zb (fun hc=>?_) (fun hc=>?_)<;>try exact⟨⟩)|fail)<;>conv=>whnf)
   have o1:=H4 hs 2 rfl;refine Ir hs 1 rfl rfl rfl (by simp[o1]) (by decide) fun Z hs=>?_
   clear o1;refine zz ?_;(repeat clear U K);repeat intro K U
   exact A7 (.t (.cons (.a (.cons (.refl _) (.cons (.refl _) (.cons (.refl _) (.cons (.refl _) (.cons (.refl _) (.cons (hs.GG 2 rfl) .nil))))))) (.cons (.refl _) .nil)))
  .have hpos:0<=i:=by omega
   obtain⟨x,hx⟩: ∃x,xs[i.toNat]? =some x:=⟨_,Cs (by omega)⟩
   have hd:(xs.drop i.toNat).reverse=(xs.drop (i+1).toNat).reverse++[x]:=by
    rw[drop_cons hx,List.reverse_cons,show(i+1).toNat=i.toNat+1 by omega]
   have hdl:((xs.drop (i+1).toNat).reverse).length<=16:=by
    rw[List.length_reverse,sj];omega
   generalize (xs.drop (i+1).toNat).reverse=zl at *;have hll:zl.length<Aa/\(zl.length+1)*8<=140737488355328:=by omega
   have hwi:IntKind.i64.wrap (i - 1)=i - 1:=wrap64 (by omega) (by omega)
   conv=>whnf
   repeat'((first|clear U K|apply st|(apply zk;intro K U)|refine zY ?_|refine zs fun Z hs=>?_|refine aq fun v Z hs hsl=>?_|(refine zb (fun hc=>?_) (fun hc=>?_)<;>try exact⟨⟩)|fail)<;>conv=>whnf)
   refine⟨(i - 1,v),by dsimp only;omega,by rw[hwi];rfl,⟨by dsimp only;omega,by dsimp only;omega⟩,?_⟩;dsimp only;rw[show(i - 1+1).toNat=i.toNat by omega,hd];exact hs
end Go.Gl
namespace Go.Gl
open Go.Proofs
attribute [local irreducible] Au Am Ae AR AK AY AQ AS AJ AX AM AO Ao A0 Sat AU Ay Af W
def lZ {p:Prog} {l:List Int} {k:Nat} {x:Int} (hx:l[k]? =some x) (kd:Int):CI p (l.take (k+1)) kd=if(Be p x).kind==kd then CI p (l.take k) kd++[x]else CI p (l.take k) kd:=by
 rw[AN hx,CI,List.filter_append];cases hp:(Be p x).kind==kd<;>simp[CI,hp]
def M8 {p:Prog} {l:List Int} {k:Nat} {kd:Int} (h:l.length<=16):(CI p (l.take k) kd).length<=16:=by
 have:=Ou (fun m=>(Be p m).kind==kd) (l.take k);rw[Jl]at this;simp only[CI];omega
def uE (p:Prog) (L:Nat) (l:List Int) (f:Bool) (h:(BX p).isSome=true) (hG:QY p l) (M:List (Int×Int)) :
    BQ zP 124 [UI p L,.l (iL l) f] [.map L (LX p M)] fun r post=>r= .ret (.t [.a (plV (FG (Ax p) p l).1 true (!(FG (Ax p) p l).2)),.b (FG (Ax p) p l).2])/\ ∃M',post= [.map L (LX p M')]:=by
 intro Z hs;have hM:=Mx;have hok:=look_ok h;have hgw:=aS h;have hfm:=qY h;have h16:=hG.many;have hm16:=hok.many;generalize hX:FG (Ax p) p l=X;refine y4 kZ ?_
 conv=>whnf
 repeat'((first|clear U K|apply st|(apply zk;intro K U)|refine zo fun nn hnn Z hs=>?_|fail)<;>conv=>whnf)
 rename_i n4 _ _ _;clear hnn;refine B1 l.length (fun k (_:V×V×V×V)=>[(13,eI (A4 k))]) (fun k x=>[.own x.1 1 (iL (CI p (l.take k) 1)),.own x.2.1 1 (iL (CI p (l.take k) 2)),.own x.2.2.1 1 (iL (CI p (l.take k) 3)),.own x.2.2.2 1 (iL (CI p (l.take k) 4)),.box nn [.l [] true,x.1,x.2.1,x.2.2.1,x.2.2.2],.box n4 [.l [] true,.b false,.l [] true,.l [] true,.b false,.l [] true],.map L (LX p M)]) (fun _ _=>True) (.l [] true,.l [] true,.l [] true,.l [] true) rfl trivial (Cq (Cq (Cq (Cq hs 1) 1) 1) 1) ?_;clear hs;rintro k ⟨v1,v2,v3,v4⟩ Z hk - hs;dsimp only at hs;dsimp only;rcases A8 l hk with⟨x,hx,hlt⟩|hke
 .have hmx:=hG.F6 x (Bp hx)
  have hxm:=CH hmx;obtain⟨hkr,-⟩:=pY h (Bp hxm);have hst:=lZ (p:=p) hx;simp only[BN,A9,Cp]at hmx;have l1:(CI p (l.take k) 1).length<=16:=M8 h16;have l2:(CI p (l.take k) 2).length<=16:=M8 h16;have l3:(CI p (l.take k) 3).length<=16:=M8 h16;have l4:(CI p (l.take k) 4).length<=16:=M8 h16;have s1:=hst 1;have s2:=hst 2;have s3:=hst 3;have s4:=hst 4;clear hst;generalize Be p x=y at *;generalize CI p (l.take k) 1=z1 at *;generalize CI p (l.take k) 2=z2 at *;generalize CI p (l.take k) 3=z3 at *;generalize CI p (l.take k) 4=z4 at *;obtain⟨kd,gn,fc,nd⟩:=y;dsimp only at hkr s1 s2 s3 s4;rcases(show kd=1\/kd=2\/kd=3\/kd=4 by omega)with rfl|rfl|rfl|rfl
  .rw[if_pos (beq_self_eq_true _)]at s1
   rw[if_neg (by decide)]at s2 s3 s4;have hll:z1.length<Aa/\(z1.length+1)*8<=140737488355328:=by omega
   clear l1 l2 l3 l4
   conv=>whnf
   repeat'((first|clear U K|apply st|(apply zk;intro K U)|refine zY ?_|refine zs fun Z hs=>?_|refine aq fun v Z hs hsl=>?_|refine iap (j:=1) ?_ (by decide) (by decide)|fail)<;>conv=>whnf)
   exact⟨hlt,(v,v2,v3,v4),rfl,trivial,by rw[s1,s2,s3,s4];exact hs⟩
  .rw[if_pos (beq_self_eq_true _)]at s2
   rw[if_neg (by decide)]at s1 s3 s4;have hll:z2.length<Aa/\(z2.length+1)*8<=140737488355328:=by omega
   clear l1 l2 l3 l4
   conv=>whnf
   repeat'((first|clear U K|apply st|(apply zk;intro K U)|refine zY ?_|refine zs fun Z hs=>?_|refine aq fun v Z hs hsl=>?_|refine iap (j:=2) ?_ (by decide) (by decide)|fail)<;>conv=>whnf)
   exact⟨hlt,(v1,v,v3,v4),rfl,trivial,by rw[s1,s2,s3,s4];exact hs⟩
  .rw[if_pos (beq_self_eq_true _)]at s3
   rw[if_neg (by decide)]at s1 s2 s4;have hll:z3.length<Aa/\(z3.length+1)*8<=140737488355328:=by omega
   clear l1 l2 l3 l4
   conv=>whnf
   repeat'((first|clear U K|apply st|(apply zk;intro K U)|refine zY ?_|refine zs fun Z hs=>?_|refine aq fun v Z hs hsl=>?_|refine iap (j:=3) ?_ (by decide) (by decide)|fail)<;>conv=>whnf)
   exact⟨hlt,(v1,v2,v,v4),rfl,trivial,by rw[s1,s2,s3,s4];exact hs⟩
  .rw[if_pos (beq_self_eq_true _)]at s4
   rw[if_neg (by decide)]at s1 s2 s3;have hll:z4.length<Aa/\(z4.length+1)*8<=140737488355328:=by omega
   clear l1 l2 l3 l4
   conv=>whnf
   repeat'((first|clear U K|apply st|(apply zk;intro K U)|refine zY ?_|refine zs fun Z hs=>?_|refine aq fun v Z hs hsl=>?_|refine iap (j:=4) ?_ (by decide) (by decide)|fail)<;>conv=>whnf)
   exact⟨hlt,(v1,v2,v3,v),rfl,trivial,by rw[s1,s2,s3,s4];exact hs⟩
 .rw [Aq hke]at hs
  obtain⟨o1,d1⟩:=hG.of 1;obtain⟨o2,d2⟩:=hG.of 2;obtain⟨o3,d3⟩:=hG.of 3;obtain⟨o4,d4⟩:=hG.of 4;have hpl:FG (Ax p) p l=if(CI p l 1).isEmpty then(zt,false)else(⟨(Bf (Ax p) (CI p l 4).length (CI p l 4)).1,(Bf (Ax p) (CI p l 4).length (CI p l 4)).2,DN (Ax p) (CI p l 2).length (Cy (CI p l 2)),(Bf (Ax p) (CI p l 1).length (CI p l 1)).1,(Bf (Ax p) (CI p l 1).length (CI p l 1)).2,(DN (Ax p) (CI p l 3).length (Cy (CI p l 3))).reverse⟩,true):=rfl
  rw[hpl]at hX;clear hpl;have e4:=fun M=>cO p L (CI p l 4) false hok hgw hfm o4 d4 M
  have e2:=fun M=>ft p L (CI p l 2) false hok hgw hfm o2 d2 M
  have e1:=fun M=>cO p L (CI p l 1) false hok hgw hfm o1 d1 M
  have e3:=fun M=>Z8 p L (CI p l 3) false hok hgw hfm o3 d3 M
  rw[TI d2]at e2;rw[TI d3]at e3;have hl1:=o1.many
  have hbl:(DN (Ax p) (CI p l 3).length (Cy (CI p l 3))).length<=16:=by
   have: ∀k l,(DN (Ax p) k l).length=k:=fun k=>by
    induction k with
    | zero=>intro l;rfl
    | succ k ih=>intro l;simp only[DN,LF,ih]
   rw[this];exact o3.many
  clear o1 o2 o3 o4 d1 d2 d3 d4 hG;generalize DN (Ax p) (CI p l 3).length (Cy (CI p l 3))=xs at *;generalize DN (Ax p) (CI p l 2).length (Cy (CI p l 2))=bs at *;generalize Bf (Ax p) (CI p l 4).length (CI p l 4)=q4 at *;generalize Bf (Ax p) (CI p l 1).length (CI p l 1)=q1 at *;generalize CI p l 1=l1 at *;generalize CI p l 2=l2 at *;generalize CI p l 3=l3 at *;generalize CI p l 4=l4 at *;obtain⟨r4,t4⟩:=q4;obtain⟨r1,t1⟩:=q1;dsimp only at e1 e4;by_cases hz:l1.length=0
  .have he:l1.isEmpty=true:=by simpa using hz
   rw[he,if_pos rfl]at hX;subst hX
   conv=>whnf
   repeat'((first|clear U K|apply st|(apply zk;intro K U)|refine zY ?_|(refine zb (fun hc=>?_) (fun hc=>?_)<;>try exact⟨⟩)|refine zo fun nn hnn Z hs=>?_|fail)<;>conv=>whnf)
   refine Ir hs 6 rfl rfl rfl (by simp) (by decide) fun Z hs=>?_
   refine zz ?_;(repeat clear U K);repeat intro K U
   refine WX hs 6 rfl ?_;refine zz ?_;(repeat clear U K);repeat intro K U
   exact As (hs.front (j:=7) rfl) (.cons₂ _ (Jf _)) (.refl _) fun Z' hs'=>⟨_,⟨rfl,M,rfl⟩,hs'⟩
  .have he:l1.isEmpty=false:=by cases l1 with
    | nil=>simp at hz
    | cons=>rfl
   rw[he,if_neg (by decide)]at hX;subst hX
   conv=>whnf
   repeat'((first|clear U K|apply st|(apply zk;intro K U)|refine zY ?_|(refine zb (fun hc=>?_) (fun hc=>?_)<;>try exact⟨⟩)|refine zo fun nn hnn Z hs=>?_|fail)<;>conv=>whnf)
   obtain⟨Z2,g1,g2,g3⟩:=HI hs 4 rfl;refine Au.O2 ((e4 M).use (rest:=_) (g3.front (j:=6) rfl) ?_) g1 (.cons (.refl _) (.cons g2 .nil));clear hs g1 g2 g3;rintro r post Z ⟨rfl,M,rfl⟩ hs
   conv=>whnf
   repeat'((first|clear U K|apply st|(apply zk;intro K U)|refine zY ?_|refine zs fun Z hs=>?_|fail)<;>conv=>whnf)
   obtain⟨Z2,g1,g2,g3⟩:=HI hs 3 rfl;refine Au.O2 ((e2 M).use (rest:=_) g3 ?_) g1 (.cons (.refl _) (.cons g2 .nil));clear hs g1 g2 g3;rintro r post Z ⟨rfl,M,rfl⟩ hs
   conv=>whnf
   repeat'((first|clear U K|apply st|(apply zk;intro K U)|refine zY ?_|refine zs fun Z hs=>?_|fail)<;>conv=>whnf)
   obtain⟨Z2,g1,g2,g3⟩:=HI hs 2 rfl;refine Au.O2 ((e1 M).use (rest:=_) g3 ?_) g1 (.cons (.refl _) (.cons g2 .nil));clear hs g1 g2 g3;rintro r post Z ⟨rfl,M,rfl⟩ hs
   conv=>whnf
   repeat'((first|clear U K|apply st|(apply zk;intro K U)|refine zY ?_|refine zs fun Z hs=>?_|fail)<;>conv=>whnf)
   obtain⟨Z2,g1,g2,g3⟩:=HI hs 2 rfl;refine Au.O2 ((e3 M).use (rest:=_) g3 ?_) g1 (.cons (.refl _) (.cons g2 .nil));clear hs g1 g2 g3;rintro r post Z ⟨v,M,rfl,rfl,hv⟩ hs
   conv=>whnf
   repeat'((first|clear U K|apply st|(apply zk;intro K U)|refine zY ?_|refine zs fun Z hs=>?_|fail)<;>conv=>whnf)
   refine(dm xs v (by omega) hv).use (rest:=_) hs ?_;clear hs;rintro r post Z ⟨rfl,rfl⟩ hs;refine zz ?_;(repeat clear U K);repeat intro K U
   have o1:=H4 hs 0 rfl;refine Ir hs 4 rfl rfl rfl (by simp[o1]) (by decide) fun Z hs=>?_
   clear o1;refine zz ?_;(repeat clear U K);repeat intro K U
   obtain⟨Z2,g1,g2,g3⟩:=HI hs 0 rfl;exact HW g1 (.t (.cons (.a (.cons (.refl _) (.cons (.refl _) (.cons (.refl _) (.cons (.refl _) (.cons (.refl _) (.cons g2 .nil))))))) (.cons (.refl _) .nil))) ⟨_,⟨rfl,M,rfl⟩,g3.less (.cons₂ _ (Jf _))⟩
def sf (g:FuncId) (fi ca:List V) (q:Ob->Bool):Prop:= ∀v,Pure zP g (fi++[.a (eOb v)]++ca) (.b (q v))
def sf.use {g:FuncId} {fi ca:List V} {q:Ob->Bool} (h:sf g fi ca q) {v:Ob} {Z:AE} {k kp:V->AE->Prop} (hk:k (.b (q v)) Z):Ao zP (.f (.func g) fi ca) [.a (eOb v)] Z (qk k kp):=BO ((h v).use hk)
end Go.Gl
namespace Go.Gl
open Go.Proofs
def bW {p:Prog} {l:List Int} (hok:ES p) (h:GQ p l false=true):QY p l:=by
 rw[GQ,A9,EG,Cp]at h;obtain⟨h1,h2⟩:=h
 have hm: ∀x∈l,BN p x=true/\(Be p x).gen=(Be p (l.getD 0 0)).gen:=fun x hx=>by
  have:=h1 x hx;simp only[nc,A9,C0]at this;exact⟨this.1,this.2.1⟩
 refine⟨fun x hx=>(hm x hx).1,fun x hx y hy=>(hm x hx).2.trans (hm y hy).2.symm,h2,Nat.le_trans (Q1 p.methods.length l h2 fun x hx=>?_) hok.many⟩;have:=(hm x hx).1;simp only[BN,A9,Cp]at this;omega
def iG (x:Pl×Bool):Pl×Int:=if x.2 then(x.1,0)else(zt,5)
def Ud (p:Prog) (l:List Int):Pl×Int:=if(BX p).isSome&&GQ p l false then iG (FG (Ax p) p l)else(zt,2)
abbrev plE (x:Pl×Int) (g:Bool):V:= .t [.a (plV x.1 g (x.2 != 0)),eI x.2]
attribute [local irreducible] Au Am Ae AR AK AY AQ AS AJ AX AM AO Ao A0 Sat AU Ay Af W
def zT (p:Prog) (l:List Int) (f:Bool) (hl:l.length<=1000):Pure zP 133 [.a (BG p),.l (iL l) f] (plE (Ud p l) true):=by
 refine Pure.of ?_;have hr:=lP p;generalize hX:Ud p l=X;rw[Ud]at hX;refine yy kZ ?_;have hs:=Sn
 conv=>whnf
 repeat'((first|clear U K|apply st|(apply zk;intro K U)|refine zY ?_|refine zo fun nn hnn Z hs=>?_|fail)<;>conv=>whnf)
 refine hr.use (rest:=_) hs ?_;clear hs;cases h:(BX p).isSome
 .have c1:=pb l f false
  rw[h,Bool.false_and,if_neg (by decide)]at hX;subst hX;rintro r post Z ⟨rfl,rfl⟩ hs
  conv=>whnf
  repeat'((first|clear U K|apply st|(apply zk;intro K U)|refine zY ?_|refine zs fun Z hs=>?_|refine zC ?_|fail)<;>conv=>whnf)
  exact AI (by rfl)
 .rintro r post Z ⟨L,rfl,rfl⟩ hs
  have c1:=uf p L l f false hl;cases hb:GQ p l false<;>rw[hb]at c1 hX
  .rw[Bool.and_false,if_neg (by decide)]at hX
   subst hX
   conv=>whnf
   repeat'((first|clear U K|apply st|(apply zk;intro K U)|refine zY ?_|refine zs fun Z hs=>?_|refine zC ?_|fail)<;>conv=>whnf)
   exact AI (by rfl)
  .have c3:=uE p L l f h (bW (look_ok h) hb) []
   rw[h,Bool.and_self,if_pos rfl]at hX;generalize FG (Ax p) p l=x at *;obtain⟨x,b⟩:=x;cases b
   all_goals
    subst hX
    conv=>whnf
    repeat'((first|clear U K|apply st|(apply zk;intro K U)|refine zY ?_|refine zC ?_|fail)<;>conv=>whnf)
    refine c3.use (rest:=_) hs ?_;clear hs;rintro r post Z ⟨rfl,M,rfl⟩ hs
    conv=>whnf
    repeat'((first|clear U K|apply st|(apply zk;intro K U)|refine zY ?_|refine zs fun Z hs=>?_|refine zo fun nn hnn Z hs=>?_|fail)<;>conv=>whnf)
    exact AI (by rfl)
end Go.Gl
namespace Go.Gl
open Go.Proofs
structure Wid (w w':AF) (ps:List Int):Prop where
 par:w'.parents=w.parents++[ps]
 own:w'.owner=w.owner++[3+(w.parents.length:Int)]
variable {w w':AF} {ps:List Int}
def Wid.ol (h:Wid w w' ps):w'.owner.length=w.owner.length+1:=by rw[h.own];simp
def Cz (ms:List Int) (bs:List Bool):List Int:=((ms.zip bs).filter fun x=>x.2).map fun x=>x.1
def AAx {w:AF} (hw:JN w): ∀l,(∀x∈l,DV w x)->(FW w l=true↔ ∃M,AAJ w M/\ ∀x∈l,F4 w M x):=fun l hl=>Mu hw fun x hx=>HR (hl x hx)
def AAy {w:AF} (hw:JN w) {cs:List Int} (hcs: ∀c∈cs,1<=c/\c<3+(w.parents.length:Int)): ∀l,(∀x∈l,DV w x)->(QI w cs l=true↔ ∃M,AAK w cs M/\ ∀x∈l,F4 w M x):=fun l hl=>by
 rw[<-ti hw hcs fun x hx=>HR (hl x hx)];exact Wy hw fun x hx=>HR (hl x hx)
def bT {n:Int}: ∀c∈([]:List Int),1<=c/\c<n:=fun _ h=>by cases h
structure Gro (w w':AF) (ps:List Int):Prop where
 par:w'.parents=w.parents++[ps]
 own:w'.owner=w.owner
section
variable {w w':AF} {ps:List Int}
def Gro.Bl (h:Gro w w' ps) (s:Int):Bl w' s=Bl w s:=by rw[Gl.Bl,Gl.Bl,h.own]
end
end Go.Gl
namespace Go.Gl
open Go.Proofs
attribute [local irreducible] Au Am Ae AR AK AY AQ AS AJ AX AM AO Ao A0 Sat AU Ay Af W
def dC (p:Prog) (gen:Int) (k:Nat):List Int:=(BS k).filter fun m=>(Be p m).gen==gen
def Ej (p:Prog) (gen:Int):List Int:=dC p gen p.methods.length
def XQ (p:Prog) (gen:Int) (k:Nat):dC p gen (k+1)=if(Be p (k:Int)).gen==gen then dC p gen k++[(k:Int)]else dC p gen k:=by
 rw[dC,KH,List.filter_append];cases hp:(Be p (k:Int)).gen==gen<;>simp[dC,hp]
def P5 (p:Prog) (gen:Int) (k:Nat):(dC p gen k).length<=k:=by
 have:=Ou (fun m=>(Be p m).gen==gen) (BS k)
 rwa [DQ]at this
def VP (p:Prog) (gen:Int) (m:Int):(Ej p gen).contains m=(BN p m&&(Be p m).gen==gen):=by
 rw[JK,List.contains_iff_mem,Ej,dC,Ik,C9,A9,BN];simp only[A9,Cp]
def bU {p:Prog} {k:Nat} {x:Nx} (hx:p.methods[k]? =some x):Be p (k:Int)=x:=by
 have hlt:=(JL.1 hx).1;have:=CH (p:=p) (m:=k) (by simp[BN];omega);rw[Fi,hx]at this;exact(Option.some.inj this).symm
def ga (p:Prog) (gen:Int) (l:List Int) (i:Nat):Bool:=BN p (l.getD i 0)&&((Be p (l.getD i 0)).gen==gen&& !(decide (0<i)&&decide (l.getD (i - 1) 0≥l.getD i 0)))
def Se (p:Prog) (gen:Int) (l:List Int):Bool:=(List.range l.length).all (ga p gen l)
def oj {p:Prog} {gen:Int} {l:List Int} (h: ∀i,i<l.length->ga p gen l i=true):Se p gen l=true:=by
 rw[Se,EG];exact fun i hi=>h i (List.mem_range.1 hi)
def av {p:Prog} {gen:Int} {l:List Int} (h:Se p gen l=true): ∀i (hi:i+1<l.length),l[i]<l[i+1]:=fun i hi=>by
 rw[Se,EG]at h;have:=h (i+1) (List.mem_range.2 hi);simp only[ga,A9,Bool.not_eq_true',Bool.and_eq_false_iff,decide_eq_false_iff_not,Nat.add_sub_cancel,C6,Cs hi,Cs (show i<l.length by omega),Option.getD_some]at this;omega
def W7 {p:Prog} {gen:Int} {l:List Int} (h:Se p gen l=true): ∀x∈l,BN p x=true/\(Be p x).gen=gen:=fun x hx=>by
 rw[Se,EG]at h;obtain⟨i,hi,rfl⟩:=List.mem_iff_getElem.1 hx;have:=h i (List.mem_range.2 hi);simp only[ga,A9,C6,Cs hi,Option.getD_some,C0]at this;exact⟨this.1,this.2.1⟩
def OP {p:Prog} {gen:Int} {l:List Int} (h:Se p gen l=true):GQ p l false=true:=by
 have hm:=W7 h;rw[GQ,A9,EG,Cp];refine⟨fun x hx=>?_,?_⟩
 .have h0:l.getD 0 0∈l:=by
   cases l with
   | nil=>cases hx
   | cons y r=>exact List.mem_cons_self ..
  rw[nc,(hm x hx).1,(hm x hx).2,(hm _ h0).2];simp
 .have hq: ∀(i d:Nat) (hd:i+d+1<l.length),l[i]<l[i+d+1]:=fun i d=>by
   induction d with
   | zero=>exact fun hd=>av h i hd
   | succ d ih=>exact fun hd=>Int.lt_trans (ih (by omega)) (av h (i+d+1) hd)
  have hp:List.Pairwise (· < ·) l:=List.pairwise_iff_getElem.2 fun i j hi hj hij=>by
   obtain⟨d,rfl⟩: ∃d,j=i+d+1:=⟨j - i - 1,by omega⟩
   exact hq i d hj
  exact hp.imp fun h e=>by omega
def lN {p:Prog} {gen:Int} {l:List Int} (h:Se p gen l=true):l.length<=p.methods.length:=by
 have h1:=OP h;rw[GQ,A9,Cp]at h1;refine Q1 p.methods.length l h1.2 fun x hx=>?_
 have:=(W7 h x hx).1;simp only[BN,A9,Cp]at this;omega
def FY (p:Prog) (gen:Int):Bool:=(BX p).isSome&&Yj p gen
def stO (x:Pl×Bool):Int:=if x.2 then(if x.1.ar.isEmpty&&(x.1.aG||x.1.pr.isEmpty)then 3 else if x.1.aG||x.1.prt then 2 else 1)else 4
def aD (p:Prog) (l:List Int):Int:=stO (FG (Ax p) p l)
def Xv (p:Prog) (gen:Int) (h16:p.methods.length<=16):Pure zP 89 [.a (BG p),eI gen] (.l (iL (Ej p gen)) false):=by
 refine Pure.fit (by kernel_rfl) fun hf=>?_
 have hP:=J3 hf.1;have hM:=Mx;refine ABD kZ ?_;have hs:=Sn;refine zz ?_;(repeat clear U K);repeat intro K U
 refine B1 p.methods.length (fun k v=>[(5,v),(11,eI (A4 k))]) (fun k v=>[.own v 1 (iL (dC p gen k))]) (fun _ _=>True) (.l [] true) rfl trivial (D1 hs 1) ?_;clear hs;rintro k v Z hk - hs;have hal:=P5 p gen k;rcases A8 p.methods hk with⟨x,hx,hlt⟩|hke
 .have hck:A4 k=k:=Ag (by omega)
  have hxe:=bU hx;have hst:=XQ p gen k;rw[hxe]at hst;generalize dC p gen k=zl at *;have hll:zl.length<Aa/\(zl.length+1)*8<=140737488355328:=by omega
  by_cases hg:x.gen=gen
  .rw[if_pos (C0.2 hg)]at hst
   conv=>whnf
   repeat'((first|clear U K|apply st|(apply zk;intro K U)|refine zY ?_|refine zs fun Z hs=>?_|refine aq fun v Z hs hsl=>?_|(refine zb (fun hc=>?_) (fun hc=>?_)<;>try exact⟨⟩)|refine zo fun nn hnn Z hs=>?_|fail)<;>conv=>whnf)
   exact⟨hlt,_,rfl,trivial,by rw[hst,<-hck];exact hs.less (K6 _ _)⟩
  .rw[if_neg (by simpa using hg)]at hst
   conv=>whnf
   repeat'((first|clear U K|apply st|(apply zk;intro K U)|refine zY ?_|refine zs fun Z hs=>?_|(refine zb (fun hc=>?_) (fun hc=>?_)<;>try exact⟨⟩)|refine zo fun nn hnn Z hs=>?_|fail)<;>conv=>whnf)
   exact⟨hlt,_,rfl,trivial,by rw[hst];exact hs.less (K6 _ _)⟩
 .rw[hke]at hs
  refine zz ?_;(repeat clear U K);repeat intro K U
  exact A7 (hs.GG 0 rfl)
def zV (p:Prog) (gen:Int):Pure zP 28 [.a (BG p),eI gen] (eI (if FY p gen then 0 else 2)):=by
 have c1:=uC p;have c2:=AA6 p gen;rw[FY];cases h1:(BX p).isSome<;>rw[h1]at c1<;>cases h2:Yj p gen<;>rw[h2]at c2
 all_goals
  refine ABV kZ ?_;have hs:=Sn;exact zW
def AAp (p:Prog) (gen:Int) (h16:p.methods.length<=16):Pure zP 64 [.a (BG p),eI gen] (eI (if(Ej p gen).length<=8 then 0 else 3)):=by
 have c1:=Xv p gen h16;have hl:=P5 p gen p.methods.length;rw[<-Ej]at hl;generalize Ej p gen=ms at *;have e1:((iL ms).length:Int)=ms.length:=by simp
 refine ABP kZ ?_;have hs:=Sn
 conv=>whnf
 repeat'((first|clear U K|apply st|(apply zk;intro K U)|refine zY ?_|refine zC ?_|(refine zd (fun hc=>?_) (fun hc=>?_)<;>try exact⟨⟩)|fail)<;>conv=>whnf)
 .exact AH (by rw[if_neg (by omega)])
 .exact AH (by rw[if_pos (by omega)])
end Go.Gl
namespace Go.Gl
open Go.Proofs
def Ut (p:Prog) (gen:Int):List Fact:=(Ej p gen).map fun m=>(Be p m).fact
def Jx (p:Prog) (gen:Int) (tog:List Fact->Bool):List (List Int×Int):=(GX (oK tog (Ut p gen)) (Ej p gen).length []).map fun bs=>(Cz (Ej p gen) bs,aD p (Cz (Ej p gen) bs))
end Go.Gl
namespace Go.Gl
open Go.Proofs
attribute [local irreducible] Au Am Ae AR AK AY AQ AS AJ AX AM AO Ao A0 Sat AU Ay Af W
abbrev z8 (p:Prog) (ms:List Int) (op:Bool) (cs:List Int) (g:Bool) (T:List (List Bool)):List V:=BG p++(Az (AL p)++[.l (iL ms) false,.b op,.l (iL cs) g,rS T])
structure gX (p:Prog) (ms:List Int) (op:Bool) (cs:List Int):Prop where
 ok:ES p
 F6: ∀m∈ms,BN p m=true
 s7:ms.length<=8
 cls:op=false->(∀c∈cs,1<=c/\c<3+((AL p).parents.length:Int))/\cs.length<=3
def Sd (p:Prog) (op:Bool) (cs:List Int) (l:List Fact):Bool:=if op then FW (AL p) l else QI (AL p) cs l
def O8 (p:Prog) (ms:List Int) (op:Bool) (cs:List Int) (g:Bool) (T:List (List Bool)) (h:gX p ms op cs) (l:List Fact) (hl: ∀x∈l,DV (AL p) x) (hln:l.length<=1000000):Pure zP 299 [.a (z8 p ms op cs g T),.l (facts l) false] (.b (Sd p op cs l)):=by
 obtain⟨q1,q2,q3,q4⟩:=IM hl;cases op
 .have hc:=h.cls rfl
  have c1:=oV (AL p) l cs g q1 hln h.ok.zj q2 q3 q4 hc.1 hc.2;refine ji kZ ?_;have hs:=Sn;exact zW
 .have c1:=O9 (AL p) l q1 hln h.ok.zj q2 q3 q4
  refine ji kZ ?_;have hs:=Sn;exact zW
abbrev V8 (p:Prog) (ms:List Int):List Fact:=ms.map fun m=>(Be p m).fact
def zF (p:Prog) (ms:List Int) (op:Bool) (cs:List Int) (g:Bool) (T:List (List Bool)) (h:gX p ms op cs) (bs:List Bool) (hbs:bs.length<=ms.length) (fb:Bool): ∀(d at_:Nat) (l:List Fact),at_+d=bs.length->(∀x∈l,DV (AL p) x)->l.length<=12*at_->
    Pure zP 240 [.a (z8 p ms op cs g T),.l (facts l) false,eI at_,.l (bL bs) fb] (.b (Jh (Sd p op cs) ((QR ((V8 p ms).zip bs)).drop at_) l)):=by
 have hM:=Mx;have hfew:=h.s7;have ebl:((bL bs).length:Int)=bs.length:=by simp
 intro d
 induction d with
 | zero=>
   intro at_ l hat hl hln;have c1:=O8 p ms op cs g T h l hl (by omega);have hz:(QR ((V8 p ms).zip bs)).drop at_= []:=List.drop_of_length_le (by simp[QR];omega);rw[hz,Jh];cases ht:Sd p op cs l<;>rw[ht]at c1
   all_goals
    refine Y6 kZ ?_;have hs:=Sn
    conv=>whnf
    repeat'((first|clear U K|apply st|(apply zk;intro K U)|refine zY ?_|refine zC ?_|(refine zb (fun hc=>?_) (fun hc=>?_)<;>try exact⟨⟩)|fail)<;>conv=>whnf)
    all_goals try(exfalso;simp at hc;omega)
    all_goals exact AH rfl
 | succ d ih=>
   intro at_ l hat hl hln;have c1:=O8 p ms op cs g T h l hl (by omega);obtain⟨m,hm⟩: ∃m,ms[at_]? =some m:=⟨_,Cs (by omega)⟩
   obtain⟨b,hb⟩: ∃b,bs[at_]? =some b:=⟨_,Cs (by omega)⟩
   have hmm:=h.F6 m (Bp hm);have hmP:=CH hmm;have hfa:=h.ok.facts _ (Bp hmP)
   have hzk:(QR ((V8 p ms).zip bs))[at_]? =some (BE (Be p m).fact (!b)):=by
    have hz:((V8 p ms).zip bs)[at_]? =some ((Be p m).fact,b):=List.getElem?_zip_eq_some.2 ⟨by rw[Jm,hm];rfl,hb⟩;rw[QR,Jm,hz];rfl
   rw[drop_cons hzk,Jh];cases ht:Sd p op cs l<;>rw[ht]at c1
   .refine Y6 kZ ?_
    have hs:=Sn;exact zW
   rw[Ds];have har:=Bn _ hfa.1;have hlits:=C5 _ hfa.1 (!b);have hcl:=EE _ har (!b);have hall:=kH _ har (by omega) (!b);have hp2:2 ^ lv (Be p m).fact<=2 ^ 12:=Nat.pow_le_pow_right (by omega) hfa.2;have hn':=hfa.2;simp only[BN,A9,Cp]at hmm;have hm2:ms[((at_:Nat):Int).toNat]? =some m:=by rw[Fi];exact hm
   have hb2:bs[((at_:Nat):Int).toNat]? =some b:=by rw[Fi];exact hb
   clear hfa har;refine Pure.of ?_;generalize hV:((BE (Be p m).fact (!b)).any fun c=>Jh (Sd p op cs) ((QR ((V8 p ms).zip bs)).drop (at_+1)) (l++c))=R;generalize Be p m=x at *;refine Y6 kZ ?_;have hs:=Sn
   conv=>whnf
   repeat'((first|clear U K|apply st|(apply zk;intro K U)|refine zY ?_|refine zC ?_|(refine zb (fun hc=>?_) (fun hc=>?_)<;>try exact⟨⟩)|fail)<;>conv=>whnf)
   all_goals try(exfalso;simp at hc;omega)
   refine hall.use (rest:=[]) (by simpa using hs) ?_;clear hs;rintro r post Z ⟨v,rfl,rfl⟩ hs;generalize BE x.fact (!b)=css at *;refine zz ?_;(repeat clear U K);repeat intro K U
   refine B1 css.length (fun k (_:Unit)=>[(37,eI (A4 k))]) (fun _ _=>[.own v 1 (nU css)]) (fun k _=>R=(css.drop k).any fun c=>Jh (Sd p op cs) ((QR ((V8 p ms).zip bs)).drop (at_+1)) (l++c)) () rfl hV.symm hs ?_;clear hs hV;rintro k - Z hk hR hs;rcases A8 css hk with⟨c,hck,hlt⟩|hke
   .rw[drop_cons hck,Pj]at hR
    have hcm:=Bp hck;have hcl2:=hcl.2 c hcm;have c2:=ih (at_+1) (l++c) (by omega) (fun y hy=>(Dy.1 hy).elim (hl y) (hlits c hcm y)) (by rw[Nl];omega);generalize Jh (Sd p op cs) ((QR ((V8 p ms).zip bs)).drop (at_+1)) (l++c)=B at *;have hwi:IntKind.i64.wrap ((at_:Int)+1)=((at_+1:Nat):Int):=by rw[wrap64 (by omega) (by omega)];omega
    rw[<-hwi]at c2;cases B
    all_goals
     refine zz ?_;(repeat clear U K);repeat intro K U
     refine Fe (Cq hs 6) 0 (xs:=([]:List Fact)) (ys:=l) (enc:=Fh) rfl (by simp only[List.length_nil];omega) Is fun v' Z hs=>?_
     refine zz ?_;(repeat clear U K);repeat intro K U
     refine Fe hs 0 (xs:=[]++l) (ys:=c) (enc:=Fh) rfl (by simp only[List.nil_append];omega) Is fun v' Z hs=>?_
     rw[List.nil_append]at hs
     conv=>whnf
     repeat'((first|apply st|refine zY ?_|refine rk ?_ ?_|exact fun s e=>by cases e;rfl|fail)<;>conv=>whnf)
     refine Pure.MI c2 (.cons (.refl _) (.cons (hs.GG 0 rfl) (.cons (.refl _) (.cons (.refl _) .nil)))) rfl ?_;refine zz ?_;(repeat clear U K);repeat intro K U
    .exact⟨hlt,(),rfl,by rw[hR];rfl,hs.less (K6 _ _)⟩
    .exact AI (by rw[hR];rfl)
   .rw[Ai hke]at hR
    refine zz ?_;(repeat clear U K);repeat intro K U
    all_goals exact AI (by rw[hR];rfl)
def iv (ar:List Int) (aG:Bool) (be pr:List Int) (prt:Bool) (af:List Int):stO (⟨ar,aG,be,pr,prt,af⟩,true)=if decide (ar.length=0)&&(aG||decide (pr.length=0))then 3 else if aG||prt then 2 else 1:=by
 rw[stO,if_pos rfl];cases ar<;>cases pr<;>simp
def lC (p:Prog) (T:List (List Bool)) (l:List Int) (f:Bool) (hG:QY p l) (h16:p.methods.length<=16) (hT:Jg T l):Pure zP 135 [.a (BG p),rS T,.l (iL l) f] (eI (stO (FG (Dt T) p l))):=by
 have c1:=lT p T l f hG h16 hT;generalize FG (Dt T) p l=x at *;obtain⟨⟨ar,aG,be,pr,prt,af⟩,b⟩:=x;dsimp only at c1;cases b
 .refine jt kZ ?_
  have hs:=Sn;exact zW
 rw[iv];cases ha:decide (ar.length=0)<;>cases hp:decide (pr.length=0)<;>cases aG<;>cases prt
 all_goals
  first|replace ha:=of_decide_eq_true ha|replace ha:=of_decide_eq_false ha
  first|replace hp:=of_decide_eq_true hp|replace hp:=of_decide_eq_false hp
  refine jt kZ ?_;have hs:=Sn;exact zW
end Go.Gl
