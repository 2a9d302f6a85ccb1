import Derived.Test.YtijbpgdmpejgoaaGreatV11
import Derived.Test.YtijbpgdmpejgoaaGreatV12
import Derived.Test.YtijbpgdmpejgoaaGreatV13
import Derived.Test.YtijbpgdmpejgoaaGreatV14
import Derived.Test.YtijbpgdmpejgoaaGreatV17
set_option linter.all false
noncomputable section
namespace Go.Gl
open Go.Proofs
inductive UU where
 | int (n:Int)
 | Y9
 | obj (AF:Nat→Bool) (kid:Int→UU)
def KW (w:AK):UU→Prop
 | .int n=> -1000000000≤n∧n≤1000000000
 | .Y9=>True
 | .obj AF kid=>(∀c,3≤c→AF c=true→ ∀q∈par w.parents c,AF q.toNat=true)∧ ∀s,KW w (kid s)
def Is (t:UU) (f:Fact):Bool:=match t with
 | .int n=>if f.op=2 then !decide (f.cls > 1)else if f.op=3 then decide (n<f.n)else decide (n=f.n)
 | .Y9=>f.op==2&&(f.cls==0||f.cls==2)
 | .obj AF _=>f.op==2&&(f.cls==0||(decide (3≤f.cls)&&AF f.cls.toNat))
def SR (w:AK):UU→List Int→Fact→Bool
 | t,[],f=>Is t f
 | .obj AF kid,s::r,f=>AF (CV w s).toNat&&SR w (kid s) r f
 | _,_::_,_=>false
structure Ia (w:AK) (l:Fact):Prop where
 op:(A1 l).1.op=2∨(A1 l).1.op=3∨(A1 l).1.op=4
 cls:(A1 l).1.op=2→0≤(A1 l).1.cls∧(A1 l).1.cls<3+w.parents.length
 arg:0≤(A1 l).1.arg∧(A1 l).1.arg<3
 path: ∀s∈(A1 l).1.path,(0:Int)≤s∧s<w.owner.length
 short:(A1 l).1.path.length≤2
theorem Wo {w:AK} {l:Fact} (h:Ib w l):Ia w l:=by
 obtain⟨-,hn,hl⟩:=HT h;have hlo:=Fz hl;have q:=I2 (w:=w) (l:=[l]) (fun x hx=>by rw[KN.1 hx];exact h);rw[Cg,BZ]at hn;have hn:=hn.1;simp only[DC,BZ,CX]at hn;obtain⟨ho,-,ha1,ha2,hp,-⟩:=hn;simp only[E3,BZ,Em,HF,CX]at hp;exact⟨hlo,q.2.1 l (.head _),⟨ha1,ha2⟩,fun s hs=>hp.1 s hs,hp.2⟩
def iP (t:Int×Int×List Int) (m:Int):Prop:=t.1≤m∧m≤t.2.1∧m∉t.2.2
theorem Xs {w:AK} {l:Fact} (hl:Ia w l) (t:Int×Int×List Int) (m:Int):(∃t',HD (A1 l) t=some t'∧iP t' m)↔iP t m∧Is (.int m) (A1 l).1= !(A1 l).2:=by
 have h1:=hl.op;generalize A1 l=x at *;obtain⟨f,b⟩:=x;obtain⟨lo,hi,no⟩:=t;simp only[HD,iP,Is]at *;rcases h1 with h|h|h
 ·rw[if_pos h,if_pos h]
  by_cases hc:f.cls > 1<;>cases b<;>simp[hc]
 ·have h2: ¬f.op=2:=by omega
  rw[if_neg h2,if_pos h,if_neg h2,if_pos h];cases b
  ·simp only[LY,if_false,IT,exists_eq_left',Bool.not_false,CX]
   split<;>constructor<;>rintro⟨h3,h4⟩
   ·exact⟨⟨h3,by omega,h4.2⟩,by omega⟩
   ·exact⟨h3.1,by omega,h3.2.2⟩
   ·exact⟨⟨h3,h4⟩,by omega⟩
   ·exact h3
  ·simp only[if_true,IT,exists_eq_left',Bool.not_true,decide_eq_false_iff_not]
   split<;>constructor<;>rintro⟨h3,h4⟩
   ·exact⟨⟨by omega,h4⟩,by omega⟩
   ·exact⟨by omega,h3.2⟩
   ·exact⟨⟨h3,h4⟩,by omega⟩
   ·exact h3
 ·have h2: ¬f.op=2:=by omega
  have h3: ¬f.op=3:=by omega
  rw[if_neg h2,if_neg h3,if_neg h2,if_neg h3];cases b
  ·simp only[LY,if_false,IT,exists_eq_left',Bool.not_false,CX]
   constructor
   ·rintro⟨h3,h4,h5⟩
    split at h3<;>split at h4<;>exact⟨⟨by omega,by omega,h5⟩,by omega⟩
   ·rintro⟨⟨h3,h4,h5⟩,rfl⟩
    refine⟨?_,?_,h5⟩
    ·split<;>omega
    ·split<;>omega
  ·simp only[if_true,IT,exists_eq_left',Bool.not_true,decide_eq_false_iff_not,Fk,KN,not_or]
   constructor
   ·rintro⟨h3,h4,h5,h6⟩
    exact⟨⟨h3,h4,h5⟩,h6⟩
   ·rintro⟨⟨h3,h4,h5⟩,h6⟩
    exact⟨h3,h4,h5,h6⟩
theorem JQ {w:AK} (m:Int): ∀(os:List Fact) (t:Int×Int×List Int),(∀l∈os,Ia w l)→((∃t',foldI os t=some t'∧iP t' m)↔iP t m∧ ∀l∈os,Is (.int m) (A1 l).1= !(A1 l).2)
 | [],t,_=>by simp[foldI]
 | x ::r,t,h=>by
   have h1:=Xs (h x (.head _)) t m;constructor
   ·rintro⟨t',h2,h3⟩
    rw[foldI,Option.bind_eq_some_iff]at h2;obtain⟨u,h4,h5⟩:=h2;obtain⟨h6,h7⟩:=(JQ m r u fun l hl=>h l (.tail _ hl)).1 ⟨t',h5,h3⟩;obtain⟨h8,h9⟩:=h1.1 ⟨u,h4,h6⟩;refine⟨h8,fun l hl=>?_⟩;rcases GB.1 hl with rfl|hl
    ·exact h9
    ·exact h7 l hl
   ·rintro⟨h2,h3⟩
    obtain⟨u,h4,h5⟩:=h1.2 ⟨h2,h3 x (.head _)⟩;obtain⟨t',h6,h7⟩:=(JQ m r u fun l hl=>h l (.tail _ hl)).2 ⟨h5,fun l hl=>h3 l (.tail _ hl)⟩;exact⟨t',by rw[foldI,h4];exact h6,h7⟩
theorem QB (t:Int×Int×List Int):(No t).isSome=true↔ ∃m,iP t m:=by
 obtain⟨lo,hi,no⟩:=t;rw[No,L4];constructor
 ·rintro⟨j,h1,h2⟩
  exact⟨lo+j,by simp only[iP]at *;omega,by simp only[]at *;omega,h2⟩
 ·rintro⟨m,h1,h2,h3⟩
  dsimp only at h1 h2 h3 ⊢;exact⟨(m - lo).toNat,by omega,by rw[show lo+((m - lo).toNat:Int)=m by omega];exact h3⟩
theorem Hs {a:Int} {p:List Int} {l:Fact}:Gp a p l=true↔(A1 l).1.arg=a∧(A1 l).1.path=p:=by
 rw[Gp,BZ,D1,D1]
theorem b9 {w:AK} {ls:List Fact} (hl: ∀l∈ls,Ia w l) (a:Int) (p:List Int):(Ic ls a p).isSome=true↔ ∃m,(-1000000000≤m∧m≤1000000000)∧ ∀l∈ls,(A1 l).1.arg=a→(A1 l).1.path=p→Is (.int m) (A1 l).1= !(A1 l).2:=by
 have hL: ∀l∈ls.filter (Gp a p),Ia w l:=fun l h=>hl l (JZ.1 h).1
 rw[Ic];constructor
 ·intro h
  cases hf:foldI (ls.filter (Gp a p)) t0 with
  | none=>rw[hf]at h;cases h
  | some t=>
    rw[hf]at h;obtain⟨m,hm⟩:=(QB t).1 h;obtain⟨h1,h2⟩:=(JQ m _ t0 hL).1 ⟨t,hf,hm⟩;exact⟨m,⟨h1.1,h1.2.1⟩,fun l h3 h4 h5=>h2 l (JZ.2 ⟨h3,Hs.2 ⟨h4,h5⟩⟩)⟩
 ·rintro⟨m,h1,h2⟩
  obtain⟨t,h3,h4⟩:=(JQ m (ls.filter (Gp a p)) t0 hL).2 ⟨⟨h1.1,h1.2,by simp[t0]⟩,fun l h=>by
   obtain⟨h5,h6⟩:=JZ.1 h
   exact h2 l h5 (Hs.1 h6).1 (Hs.1 h6).2⟩
  rw[h3];exact(QB t).2 ⟨m,h4⟩
theorem LC {ls:List Fact} {a:Int} {p:List Int}:ES ls a p=true↔ ∀l∈ls,(A1 l).1.arg=a→ ∀q,(A1 l).1.path=p++q→(A1 l).2=true:=by
 rw[ES,Em];constructor
 ·intro h l hl ha q hq
  have:=h l hl;rw[Fx]at this;rcases this with h1|h1
  ·exact h1
  ·rw[ha,hq]at h1
   have h2:B0 (p++q) p=true:=Cb.2 ⟨q,rfl⟩;simp[h2]at h1
 ·intro h l hl
  rw[Fx];by_cases h1:(A1 l).1.arg=a∧B0 (A1 l).1.path p=true
  ·obtain⟨q,hq⟩:=Cb.1 h1.2
   exact .inl (h l hl h1.1 q hq)
  ·right
   simp only[Bool.not_eq_true',Bool.and_eq_false_iff,beq_eq_false_iff_ne];rcases Classical.em ((A1 l).1.arg=a)with e|e
   ·exact .inr (by simpa[e]using h1)
   ·exact .inl e
theorem QD {w:AK} {ls:List Fact} (hl: ∀l∈ls,Ia w l) {a:Int} {p:List Int} {s:Int}:s∈Bt w.owner.length ls a p↔ ∃l∈ls,(A1 l).1.arg=a∧ ∃q,(A1 l).1.path=p++s::q:=by
 rw[Bt,JZ,JY,FR];constructor
 ·rintro⟨-,l,h1,h2⟩
  rw[V3,BZ,D1]at h2;obtain⟨q,hq⟩:=Cb.1 h2.2;exact⟨l,h1,h2.1,q,by rw[hq];simp⟩
 ·rintro⟨l,h1,h2,q,hq⟩
  refine⟨(hl l h1).path s (by rw[hq];simp),l,h1,?_⟩;rw[V3,BZ,D1];exact⟨h2,Cb.2 ⟨q,by rw[hq];simp⟩⟩
theorem Tb {w:AK} {ls:List Fact} (hl: ∀l∈ls,Ia w l) {a:Int} {p:List Int}:FI w.owner.length ls a p=true↔ ∀l∈ls,(A1 l).1.arg=a→ ∀s q,(A1 l).1.path=p++s::q→(A1 l).2=true:=by
 rw[FI,Em];constructor
 ·intro h l h1 h2 s q hq
  exact LC.1 (h s ((QD hl).2 ⟨l,h1,h2,q,hq⟩)) l h1 h2 q (by rw[hq];simp)
 ·intro h s _
  exact LC.2 fun l h1 h2 q hq=>h l h1 h2 s q (by rw[hq];simp)
theorem RP {w:AK} (hw:Ld w) {s:Int} (h:0≤s∧s<(w.owner.length:Int)):3≤CV w s∧CV w s<3+w.parents.length:=by
 have hs:s.toNat<w.owner.length:=by omega
 have:CV w s=w.owner[s.toNat]:=by rw[CV,DL,Cu hs];rfl
 rw[this];exact hw.own _ (List.getElem_mem hs)
def gG (t:BB) (AF:Nat→Bool):Prop:=(∀c,t.1.getD c false=true→c=0∨AF c=true)∧ ∀c,t.2.getD c false=true→c≠0∧AF c=false
def Q9 (t t':BB):Prop:=t.1.length=t'.1.length∧t.2.length=t'.2.length∧(∀c,t.1.getD c false=true→t'.1.getD c false=true)∧ ∀c,t.2.getD c false=true→t'.2.getD c false=true
theorem Q9.dY {t:BB}:Q9 t t:=⟨rfl,rfl,fun _ h=>h,fun _ h=>h⟩
theorem Q9.trans {t u v:BB} (h:Q9 t u) (k:Q9 u v):Q9 t v:=⟨h.1.trans k.1,h.2.1.trans k.2.1,fun c hc=>k.2.2.1 c (h.2.2.1 c hc),fun c hc=>k.2.2.2 c (h.2.2.2 c hc)⟩
theorem Ks {l:List Bool} {c b:Nat} (h:(l.set c true).getD b false=true):l.getD b false=true∨b=c:=by
 by_cases e:b=c
 ·exact .inr e
 ·rw[DL,List.getElem?_set_ne (fun h=>e h.symm),←DL]at h
  exact .inl h
theorem Ku {l:List Bool} {c b:Nat} (h:l.getD b false=true):(l.set c true).getD b false=true:=by
 by_cases e:c<l.length
 ·rw[EV e]
  split
  ·rfl
  ·exact h
 ·rw[List.set_eq_of_length_le (by omega)];exact h
theorem Kt {l:List Bool} {c:Nat} (h:c<l.length):(l.set c true).getD c false=true:=by
 rw[EV h,if_pos rfl]
theorem Q9.vN {t:BB} (c:Nat):Q9 t (t.1.set c true,t.2):=⟨by simp,rfl,fun _ h=>Ku h,fun _ h=>h⟩
theorem Q9.vM {t:BB} (c:Nat):Q9 t (t.1,t.2.set c true):=⟨rfl,by simp,fun _ h=>h,fun _ h=>Ku h⟩
def Ug (t:BB) (f:Fact) (b:Bool):Prop:=if f.op≠2∨f.cls=1∨f.cls=2 then b=true else if b then t.2.getD f.cls.toNat false=true else t.1.getD f.cls.toNat false=true
theorem Qw {t t':BB} (h:Q9 t t') {f:Fact} {b:Bool} (k:Ug t f b):Ug t' f b:=by
 unfold Ug at *;split
 ·rename_i h1;rw[if_pos h1]at k;exact k
 ·rename_i h1;rw[if_neg h1]at k
  split
  ·rename_i h2;rw[if_pos h2]at k;exact h.2.2.2 _ k
  ·rename_i h2;rw[if_neg h2]at k;exact h.2.2.1 _ k
theorem bG {w:AK} {l:Fact} (hl:Ia w l) {t t':BB} (hn:t.1.length=3+w.parents.length∧t.2.length=3+w.parents.length) (h:GC (A1 l) t=some t'):Q9 t t'∧Ug t' (A1 l).1 (A1 l).2:=by
 have hc:=hl.cls;generalize A1 l=x at *;obtain⟨f,b⟩:=x;simp only[GC,Ug]at *;split at h
 ·rename_i h1
  rw[if_pos h1];cases b
  ·cases h
  ·obtain rfl:=Option.some.inj h
   exact⟨Q9.dY,rfl⟩
 ·rename_i h1
  rw[if_neg h1]
  have h2:f.op=2:=by
   rcases Classical.em (f.op=2)with e|e
   ·exact e
   ·exact absurd (Or.inl e) h1
  have:=hc h2;cases b
  ·obtain rfl:=Option.some.inj h
   exact⟨.vN _,by rw[if_neg (by decide)];exact Kt (by omega)⟩
  ·obtain rfl:=Option.some.inj h
   exact⟨.vM _,by rw[if_pos rfl];exact Kt (by omega)⟩
theorem Xp {w:AK} {l:Fact} (hl:Ia w l) {t:BB} {AF:Nat→Bool} {kid:Int→UU} (hi:gG t AF) (h:Is (.obj AF kid) (A1 l).1= !(A1 l).2): ∃t',GC (A1 l) t=some t'∧gG t' AF:=by
 have hc:=hl.cls;generalize A1 l=x at *;obtain⟨f,b⟩:=x;simp only[GC,Is]at *;by_cases h1:f.op≠2∨f.cls=1∨f.cls=2
 ·rw[if_pos h1]
  have h2:(f.op==2&&(f.cls==0||(decide (3≤f.cls)&&AF f.cls.toNat)))=false:=by
   rcases h1 with h1|h1|h1
   ·simp[h1]
   ·simp[h1]
   ·simp[h1]
  rw[h2]at h;cases b
  ·cases h
  ·exact⟨t,rfl,hi⟩
 ·rw [if_neg h1]
  have h2:f.op=2:=by
   rcases Classical.em (f.op=2)with e|e
   ·exact e
   ·exact absurd (Or.inl e) h1
  have hr:=hc h2;have h3:f.cls≠1∧f.cls≠2:=⟨fun e=>h1 (.inr (.inl e)),fun e=>h1 (.inr (.inr e))⟩
  have h4:(f.op==2&&(f.cls==0||(decide (3≤f.cls)&&AF f.cls.toNat)))=(decide (f.cls=0)||AF f.cls.toNat):=by
   rw[h2];rcases Classical.em (f.cls=0)with e|e
   ·simp[e]
   ·have:3≤f.cls:=by omega
    simp[e,this]
  rw[h4]at h;cases b
  ·refine⟨_,rfl,fun c hh=>?_,hi.2⟩
   rcases Ks hh with hh|rfl
   ·exact hi.1 c hh
   ·simp only[Bool.not_false,Fx,CX]at h
    rcases h with h|h
    ·exact .inl (by omega)
    ·exact .inr h
  ·refine⟨_,rfl,hi.1,fun c hh=>?_⟩
   rcases Ks hh with hh|rfl
   ·exact hi.2 c hh
   ·simp only[Bool.not_true,Bool.or_eq_false_iff,decide_eq_false_iff_not]at h
    exact⟨by omega,h.2⟩
theorem OP {w:AK}: ∀(os:List Fact) {t t':BB},(∀l∈os,Ia w l)→(t.1.length=3+w.parents.length∧t.2.length=3+w.parents.length)→ED os t=some t'→Q9 t t'∧ ∀l∈os,Ug t' (A1 l).1 (A1 l).2
 | [],t,t',_,_,h=>by
   obtain rfl:=Option.some.inj h;exact⟨Q9.dY,fun l hl=>by cases hl⟩
 | x::r,t,t',hl,hn,h=>by
   rw[ED,Option.bind_eq_some_iff]at h;obtain⟨u,h1,h2⟩:=h;obtain⟨h3,h4⟩:=bG (hl x (.head _)) hn h1;obtain⟨h5,h6⟩:=OP r (fun l h=>hl l (.tail _ h)) ⟨by rw[←h3.1];exact hn.1,by rw[←h3.2.1];exact hn.2⟩ h2;refine⟨h3.trans h5,fun l h=>?_⟩;rcases GB.1 h with rfl|h
   ·exact Qw h5 h4
   ·exact h6 l h
theorem Qi {w:AK} {AF:Nat→Bool} {kid:Int→UU}: ∀(os:List Fact) {t:BB},(∀l∈os,Ia w l)→gG t AF→(∀l∈os,Is (.obj AF kid) (A1 l).1= !(A1 l).2)→ ∃t',ED os t=some t'∧gG t' AF
 | [],t,_,hi,_=>⟨t,rfl,hi⟩
 | x::r,t,hl,hi,h=>by
   obtain⟨u,h1,h2⟩:=Xp (hl x (.head _)) hi (h x (.head _));obtain⟨t',h3,h4⟩:=Qi r (fun l h=>hl l (.tail _ h)) h2 fun l hh=>h l (.tail _ hh)
   exact⟨t',by rw[ED,h1];exact h3,h4⟩
def ik (w:AK) (ls:List Fact) (a:Int) (p:List Int) (can:Int→Bool) (s:Int) (t:BB):Prop:=
 (ES ls a (p++[s])=false→t.1.getD (CV w s).toNat false=true∧can s=true)∧(can s=false→t.2.getD (CV w s).toNat false=true)
theorem OO {w:AK} (hw:Ld w) {ls:List Fact} {a:Int} {p:List Int} {can:Int→Bool}: ∀(sl:List Int) {t t':BB},(∀s∈sl,0≤s∧s<(w.owner.length:Int))→(t.1.length=3+w.parents.length∧t.2.length=3+w.parents.length)→Du w ls a p can sl t=some t'→Q9 t t'∧ ∀s∈sl,ik w ls a p can s t'
 | [],t,t',_,_,h=>by
   obtain rfl:=Option.some.inj h;exact⟨Q9.dY,fun l hl=>by cases hl⟩
 | s ::r,t,t',hs,hn,h=>by
   rw[Du,Option.bind_eq_some_iff]at h;obtain⟨u,h1,h2⟩:=h;have ho:=RP hw (hs s (.head _))
   have h3:Q9 t u∧ik w ls a p can s u:=by
    rw[IF]at h1;split at h1
    ·cases h1
    ·rename_i hne
     obtain rfl:=Option.some.inj h1;simp only[ik];cases hb:ES ls a (p++[s])<;>cases hc:can s
     ·simp[hb,hc]at hne
     ·exact⟨⟨by simp,rfl,fun c h=>Ku h,fun c h=>h⟩,fun _=>⟨Kt (by omega),rfl⟩,fun h=>(by cases h)⟩
     ·exact⟨⟨rfl,by simp,fun c h=>h,fun c h=>Ku h⟩,fun h=>(by cases h),fun _=>Kt (by omega)⟩
     ·exact⟨Q9.dY,fun h=>(by cases h),fun h=>(by cases h)⟩
   obtain⟨h5,h6⟩:=OO hw r (fun l h=>hs l (.tail _ h)) ⟨by rw[←h3.1.1];exact hn.1,by rw[←h3.1.2.1];exact hn.2⟩ h2;refine⟨h3.1.trans h5,fun l h=>?_⟩;rcases GB.1 h with rfl|h
   ·exact⟨fun hb=>⟨h5.2.2.1 _ (h3.2.1 hb).1,(h3.2.1 hb).2⟩,fun hc=>h5.2.2.2 _ (h3.2.2 hc)⟩
   ·exact h6 l h
theorem Qh {w:AK} (hw:Ld w) {ls:List Fact} {a:Int} {p:List Int} {can:Int→Bool} {AF:Nat→Bool}: ∀(sl:List Int) {t:BB},(∀s∈sl,0≤s∧s<(w.owner.length:Int))→gG t AF→
 (∀s∈sl,(ES ls a (p++[s])=false→AF (CV w s).toNat=true)∧(AF (CV w s).toNat=true→can s=true))→ ∃t',Du w ls a p can sl t=some t'∧gG t' AF
 | [],t,_,hi,_=>⟨t,rfl,hi⟩
 | s :: r, t,hs,hi,h=>by
   have ho:=RP hw (hs s (.head _));obtain⟨k1,k2⟩:=h s (.head _)
   have h1 : ∃u,IF w ls a p can s t=some u∧gG u AF:=by
    rw[IF];cases hb:ES ls a (p++[s])
    ·rw[k2 (k1 hb)]
     refine⟨_,rfl,fun c hh=>?_,hi.2⟩;rcases Ks hh with hh|rfl
     ·exact hi.1 c hh
     ·exact .inr (k1 hb)
    ·cases hc:can s
     ·refine⟨_,rfl,hi.1,fun c hh=>?_⟩
      rcases Ks hh with hh|rfl
      ·exact hi.2 c hh
      ·refine⟨by omega,?_⟩
       rw[←Bool.not_eq_true];intro e;rw[k2 e]at hc;cases hc
     ·exact⟨_,rfl,hi⟩
   obtain⟨u,h2,h3⟩:=h1;obtain⟨t',h4,h5⟩:=Qh hw r (fun l h=>hs l (.tail _ h)) h3 fun l hh=>h l (.tail _ hh)
   exact⟨t',by rw[Du,h2];exact h4,h5⟩
theorem eS {w:AK} {AF:Nat→Bool}:gG (tO w) AF:=by
 have: ∀c,(List.replicate (3+w.parents.length) false).getD c false=false:=fun c=>by
  rw[DL];cases h:(List.replicate (3+w.parents.length) false)[c]? with
  | none=>rfl
  | some b=>rw[List.eq_of_mem_replicate (B2 h)];rfl
 exact⟨fun c h=>absurd ((this c).symm.trans h) (by decide),fun c h=>absurd ((this c).symm.trans h) (by decide)⟩
theorem Yr {g:List (List Int)} (ho:ordered g) {AF:Nat→Bool} (hC: ∀c,3≤c→AF c=true→ ∀q∈par g c,AF q.toNat=true): ∀d b:Nat,3≤d→AF d=true→JV g d b=true→AF b=true:=by
 intro d
 induction d using Nat.strongRecOn with
 | _ d ih=>
   intro b h3 hd h;rw[E4 ho]at h;simp only[Fx,D1,JY]at h;rcases h with rfl|⟨p,hp,h⟩
   ·exact hd
   ·have:=ho d p hp
    exact ih p.toNat (by omega) b (by omega) (hC d h3 hd p hp) h
theorem bZ {w : AK} (hw : Ld w) {ls:List Fact} (hl: ∀l∈ls,Ia w l) {a:Int} {p:List Int} {can:Int→Bool} {T:Int→UU→Prop} (hcan: ∀s,s∈Bt w.owner.length ls a p→(can s=true↔ ∃t,KW w t∧T s t))
 (hT: ∀s t,T s t↔ ∀l∈ls,(A1 l).1.arg=a→ ∀q,(A1 l).1.path=p++s::q→SR w t q (A1 l).1= !(A1 l).2) :
 (Jo w ls a p can).isSome=true↔ ∃AF kid,KW w (.obj AF kid)∧ ∀l∈ls,(A1 l).1.arg=a→ ∀q,(A1 l).1.path=p++q→SR w (.obj AF kid) q (A1 l).1= !(A1 l).2:=by
 have hL: ∀l∈ls.filter (Gp a p),Ia w l:=fun l h=>hl l (JZ.1 h).1
 have hS: ∀s∈Bt w.owner.length ls a p,0≤s∧s<(w.owner.length:Int):=fun s h=>JM h
 have hn0:(tO w).1.length=3+w.parents.length∧(tO w).2.length=3+w.parents.length:=by simp[tO]
 constructor
 ·intro h
  rw[Jo]at h;cases h1:ED (ls.filter (Gp a p)) (tO w)with
  | none=>rw[h1]at h;cases h
  | some t=>
    rw[h1,Option.bind_some]at h;obtain⟨g1,g2⟩:=OP _ hL hn0 h1;have hn1:t.1.length=3+w.parents.length∧t.2.length=3+w.parents.length:=⟨by rw[←g1.1];exact hn0.1,by rw[←g1.2.1];exact hn0.2⟩
    cases h2:Du w ls a p can (Bt w.owner.length ls a p) t with
    | none=>rw[h2]at h;cases h
    | some u=>
      rw[h2,Option.bind_some,Sc]at h;obtain⟨g3,g4⟩:=OO hw _ hS hn1 h2;have hn2:u.1.length=3+w.parents.length∧u.2.length=3+w.parents.length:=⟨by rw[←g3.1];exact hn1.1,by rw[←g3.2.1];exact hn1.2⟩
      split at h
      ·cases h
      ·rename_i h0
       split at h
       ·cases h
       ·rename_i h3
        clear h;have hSl:(u.1.set 0 false).length=3+w.parents.length:=by simpa using hn2.1
        generalize hSd:B8 w.parents (3+w.parents.length) w.parents.length (u.1.set 0 false)=S at *
        have hin: ∀c,3≤c→u.1.getD c false=true→S.getD c false=true:=fun c hc h=>by
         rw[←hSd];refine I7 hw.ord hSl _ _ ?_;rw[DL,List.getElem?_set_ne (by omega),←DL];exact h
        have hdis: ∀c,S.getD c false=true→u.2.getD c false=true→False:=fun c k1 k2=>by
         have hc:c<3+w.parents.length:=by
          rcases Nat.lt_or_ge c (3+w.parents.length)with h|h
          ·exact h
          ·rw[DL,List.getElem?_eq_none (by omega)]at k2
           cases k2
         refine h3 (JY.2 ⟨c,List.mem_range.2 hc,?_⟩);rw[k1,k2];rfl
        have hkid: ∀s,∃t,KW w t∧((∃t,KW w t∧T s t)→T s t):=fun s=>by
         rcases Classical.em (∃t,KW w t∧T s t)with⟨t,k1,k2⟩|k
         ·exact⟨t,k1,fun _=>k2⟩
         ·exact⟨.Y9,trivial,fun h=>absurd h k⟩
        refine⟨fun c=>S.getD c false,fun s=>Classical.choose (hkid s),⟨fun c hc h q hq=>?_,fun s=>(Classical.choose_spec (hkid s)).1⟩,fun l h1 h2 q hq=>?_⟩
        ·change S.getD c false=true at h
         change S.getD q.toNat false=true
         have hcl:c<3+w.parents.length:=by
          rcases Nat.lt_or_ge c (3+w.parents.length)with h'|h'
          ·exact h'
          ·rw[DL,List.getElem?_eq_none (by rw[←hSd,Ek];omega)]at h
           cases h
         rw[←hSd]at h ⊢;exact G4 hw.ord hSl _ c (by omega) (by omega) h q hq
        ·cases q with
         | nil =>
           have k:=g2 l (JZ.2 ⟨h1,Hs.2 ⟨h2,by simpa using hq⟩⟩);have k:=Qw g3 k;have hc:=(hl l h1).cls;generalize A1 l=x at *;obtain⟨f,b⟩:=x;simp only[SR,Is,Ug]at *;by_cases e1:f.op≠2∨f.cls=1∨f.cls=2
           ·rw[if_pos e1]at k
            subst k;rcases e1 with e1|e1|e1
            ·simp[e1]
            ·simp[e1]
            ·simp[e1]
           ·rw [if_neg e1]at k
            have e2:f.op=2:=by
             rcases Classical.em (f.op=2)with e|e
             ·exact e
             ·exact absurd (Or.inl e) e1
            have hr:=hc e2;have e3:f.cls≠1∧f.cls≠2:=⟨fun e=>e1 (.inr (.inl e)),fun e=>e1 (.inr (.inr e))⟩
            rw[e2];rcases Classical.em (f.cls=0)with e|e
            ·rw[e]at k ⊢
             cases b
             ·rfl
             ·exfalso;exact h0 k
            ·have e4:(f.cls==0)=false:=by simpa using e
             have e5:decide (3≤f.cls)=true:=decide_eq_true (by omega);rw[e4,e5];cases b
             ·rw[if_neg (by decide)]at k
              rw[hin _ (by omega) k];rfl
             ·rw[if_pos rfl]at k
              have:S.getD f.cls.toNat false=false:=by
               rw[←Bool.not_eq_true];exact fun e=>hdis _ e k
              rw[this];rfl
         | cons s q=>
           have hs:s∈Bt w.owner.length ls a p:=(QD hl).2 ⟨l,h1,h2,q,hq⟩;have hso:=RP hw (hS s hs);obtain⟨k1,k2⟩:=g4 s hs;simp only[SR];cases hm:S.getD (CV w s).toNat false
           ·rw[Bool.false_and]
            cases hb:ES ls a (p++[s])
            ·have:=hin _ (by omega) (k1 hb).1
             rw[hm]at this;cases this
            ·rw[LC.1 hb l h1 h2 q (by rw[hq];simp)];rfl
           ·rw[Fm]
            cases hc:can s
            ·exact absurd (k2 hc) fun e=>hdis _ hm e
            ·exact(hT s _).1 ((Classical.choose_spec (hkid s)).2 ((hcan s hs).1 hc)) l h1 h2 q hq
 ·rintro ⟨AF,kid,⟨hC,U⟩,h⟩
  obtain⟨t,h1,h2⟩:=Qi (AF:=AF) (kid:=kid) (ls.filter (Gp a p)) (t:=tO w) hL eS fun l k=>by
   obtain⟨k1,k2⟩:=JZ.1 k;obtain⟨k3,k4⟩:=Hs.1 k2;exact h l k1 k3 [] (by simpa using k4)
  obtain ⟨u,h3,h4⟩:=Qh hw (AF:=AF) (can:=can) (ls:=ls) (a:=a) (p:=p) (Bt w.owner.length ls a p) (t:=t) hS h2 fun s hs=>by
   constructor
   ·intro hb
    cases e:AF (CV w s).toNat
    ·rw[LC.2 fun l k1 k2 q hq=>by
      have:=h l k1 k2 (s::q) (by rw[hq];simp);simp only[SR,e,Bool.false_and]at this
      simpa using this.symm]at hb
     cases hb
    ·rfl
   ·intro e
    refine(hcan s hs).2 ⟨kid s,U s,(hT s _).2 fun l k1 k2 q hq=>?_⟩;have:=h l k1 k2 (s::q) hq;simpa only[SR,e,Fm]using this
  rw[Jo,h1,Option.bind_some,h3,Option.bind_some,Sc]
  have h0:u.2.getD 0 false=false:=by
   rw[←Bool.not_eq_true];exact fun e=>(h4.2 0 e).1 rfl
  rw[h0,if_neg (by decide),if_neg]
  ·rfl
  ·rw [JY]
   rintro⟨c,-,hc⟩;rw[BZ]at hc;have q1:=(OP _ hL hn0 h1).1;have q2:=(OO hw _ hS ⟨by rw[←q1.1];exact hn0.1,by rw[←q1.2.1];exact hn0.2⟩ h3).1;have hlen:(u.1.set 0 false).length=3+w.parents.length:=by rw[List.length_set,←q2.1,←q1.1];exact hn0.1
   obtain⟨d,k1,k2⟩:=F5 hw.ord hlen _ _ hc.1
   have hd0:d≠0:=by
    rintro rfl;rw[DL,List.getElem?_set_self (by rw[List.length_set]at hlen;omega)]at k1;cases k1
   rw[DL,List.getElem?_set_ne (fun e=>hd0 e.symm),←DL]at k1;have hCd:AF d=true:=(h4.1 d k1).resolve_left hd0
   have hCc:AF c=true:=by
    rcases Nat.lt_or_ge d 3 with hd|hd
    ·rw[E4 hw.ord,show par w.parents d= [] from if_pos hd]at k2
     simp only[List.any_nil,Bool.or_false,D1]at k2;subst k2;exact hCd
    ·exact Yr hw.ord hC d c hd hCd k2
   have:=(h4.2 c hc.2).2;rw[hCc]at this;cases this
def TT (w:AK) (ls:List Fact) (a:Int) (p:List Int) (t:UU):Prop:= ∀l∈ls,(A1 l).1.arg=a→ ∀q,(A1 l).1.path=p++q→SR w t q (A1 l).1= !(A1 l).2
theorem YD {w:AK} {ls:List Fact} (hl: ∀l∈ls,Ia w l) {a:Int} {p:List Int}:HI w.owner.length ls a p=true↔TT w ls a p .Y9:=by
 rw[HI,BZ,Em,Tb hl];constructor
 ·rintro⟨h1,h2⟩ l k1 k2 q hq
  cases q with
  | nil=>
    have:=h1 l (JZ.2 ⟨k1,Hs.2 ⟨k2,by simpa using hq⟩⟩);simp only[SR,Is,IG]at *
    revert this
    cases((A1 l).1.op==2&&((A1 l).1.cls==0||(A1 l).1.cls==2))<;>cases(A1 l).2<;>decide
  | cons s q=>simp[SR,h2 l k1 k2 s q hq]
 ·intro h
  refine⟨fun l k=>?_,fun l k1 k2 s q hq=>?_⟩
  ·obtain⟨k1,k2⟩:=JZ.1 k
   obtain⟨k3,k4⟩:=Hs.1 k2;have:=h l k1 k3 [] (by simpa using k4);simp only[SR,Is,IG]at *
   revert this
   cases((A1 l).1.op==2&&((A1 l).1.cls==0||(A1 l).1.cls==2))<;>cases(A1 l).2<;>decide
  ·have:=h l k1 k2 (s::q) hq
   simpa[SR]using this.symm
theorem cA {w:AK} {ls:List Fact} (hl: ∀l∈ls,Ia w l) {a:Int} {p:List Int}:((Ic ls a p).isSome&&FI w.owner.length ls a p)=true↔ ∃m,KW w (.int m)∧TT w ls a p (.int m):=by
 rw[BZ,Tb hl,b9 hl];constructor
 ·rintro⟨⟨m,h1,h2⟩,h3⟩
  refine⟨m,h1,fun l k1 k2 q hq=>?_⟩;cases q with
  | nil=>exact h2 l k1 k2 (by simpa using hq)
  | cons s q=>simp[SR,h3 l k1 k2 s q hq]
 ·rintro⟨m,h1,h2⟩
  refine⟨⟨m,h1,fun l k1 k2 k3=>h2 l k1 k2 [] (by simpa using k3)⟩,fun l k1 k2 s q hq=>?_⟩;have:=h2 l k1 k2 (s::q) hq;simpa[SR]using this.symm
theorem XL {w:AK} (hw:Ld w) {ls:List Fact} (hl: ∀l∈ls,Ia w l) {a:Int} {p:List Int} {can:Int→Bool} (hcan: ∀s,s∈Bt w.owner.length ls a p→(can s=true↔ ∃t,KW w t∧TT w ls a (p++[s]) t)) :
 (((Ic ls a p).isSome&&FI w.owner.length ls a p)||(HI w.owner.length ls a p||(Jo w ls a p can).isSome))=true↔ ∃t,KW w t∧TT w ls a p t:=by
 rw[Fx,Fx,cA hl,YD hl,bZ hw hl (T:=fun s t=>TT w ls a (p++[s]) t) hcan fun s t=>by simp only[TT,SS,List.singleton_append]];constructor
 ·rintro(⟨m,h1,h2⟩|h|⟨AF,kid,h1,h2⟩)
  ·exact⟨_,h1,h2⟩
  ·exact⟨.Y9,trivial,h⟩
  ·exact⟨_,h1,h2⟩
 ·rintro⟨t,h1,h2⟩
  cases t with
  | int m=>exact .inl ⟨m,h1,h2⟩
  | Y9=>exact .inr (.inl h2)
  | obj AF kid=>exact .inr (.inr ⟨AF,kid,h1,h2⟩)
theorem OT {w:AK} (hw:Ld w) {ls:List Fact} (hl: ∀l∈ls,Ia w l) (a:Int): ∀(d:Nat) (p:List Int),p.length+d=2→(KY w ls a d p=true↔ ∃t,KW w t∧TT w ls a p t)
 | 0,p,hp=>by
   rw[KY];refine XL hw hl fun s hs=>?_
   rw[L6 (m:=2) (fun l h=>(hl l h).short) (by omega)]at hs;cases hs
 | d+1,p,hp=>by
   rw[KY];exact XL hw hl fun s hs=>OT hw hl a d (p++[s]) (by simp;omega)
def RD (w:AK) (M:Int→UU) (l:Fact):Prop:=SR w (M (A1 l).1.arg) (A1 l).1.path (A1 l).1= !(A1 l).2
theorem S6 {w:AK} (hw:Ld w) {ls:List Fact} (hl: ∀l∈ls,Ia w l):Gs w ls=true↔ ∃M:Int→UU,(∀a,KW w (M a))∧ ∀l∈ls,RD w M l:=by
 rw[Gs,Em];constructor
 ·intro h
  have hk: ∀a:Int,∃t,KW w t∧(0≤a∧a<3→TT w ls a [] t):=fun a=>by
   rcases Classical.em (0≤a∧a<3)with e|e
   ·obtain⟨t,h1,h2⟩:=(OT hw hl a 2 [] rfl).1 (h a (FR.2 e))
    exact⟨t,h1,fun _=>h2⟩
   ·exact⟨.Y9,trivial,fun k=>absurd k e⟩
  exact⟨fun a=>Classical.choose (hk a),fun a=>(Classical.choose_spec (hk a)).1,fun l k=>(Classical.choose_spec (hk (A1 l).1.arg)).2 (hl l k).arg l k rfl _ rfl⟩
 ·rintro⟨M,h1,h2⟩ a _
  refine(OT hw hl a 2 [] rfl).2 ⟨M a,h1 a,fun l k1 k2 q hq=>?_⟩;have:=h2 l k1;rw[RD,k2]at this;rw[List.nil_append]at hq;rw[←hq];exact this
def ov (w:AK) (M:Int→UU) (f:Fact) (l:List Bool):Bool:=
 if f.op=1 then true else if f.op=5 then !l.getD 0 false else if f.op=6 then l.getD 0 false&&l.getD 1 false else if f.op=7 then l.getD 0 false||l.getD 1 false else SR w (M f.arg) f.path f
def V4 (w:AK) (M:Int→UU) (f:Fact):Bool:=f.HC (ov w M)
theorem Uu (w:AK) (M:Int→UU) (f:Fact):V4 w M f=ov w M f (f.kids.map (V4 w M)):=Fact.Dj (ov w M) f
theorem TS (a:List Fact) (Q:Fact→Prop): ∀b:List Fact,(∀x∈CW a b,Q x)↔(∀x∈a,Q x)∧ ∀x∈b,Q x:=by
 intro b
 induction b generalizing a with
 | nil=>simp[CW]
 | cons y r ih=>
   rw[CW,ih];split
   ·rename_i h
    obtain⟨z,h1,h2⟩:=JY.1 h;have:=(L7 y z).1 h2;subst this;simp only[List.forall_mem_cons];constructor
    ·rintro⟨h3,h4⟩;exact⟨h3,h3 _ h1,h4⟩
    ·rintro⟨h3,_,h4⟩;exact⟨h3,h4⟩
   ·simp only[List.forall_mem_append,List.forall_mem_cons,List.forall_mem_nil]
    constructor
    ·rintro⟨⟨h1,h2,_⟩,h3⟩;exact⟨h1,h2,h3⟩
    ·rintro⟨h1,h2,h3⟩;exact⟨⟨h1,h2,fun _ h=>by cases h⟩,h3⟩
theorem Qr {w:AK} {M:Int→UU} (f:Fact):Bi w f=true→ ∀c,(∃l∈BS f c,∀x∈l,RD w M x)↔V4 w M f= !c:=by
 induction f using Fact.ind with
 | h f ih=>
   intro h c;have har:=C1 f h;have h':=h;rw[Cg,BZ,Em]at h';rw[F8,FN,Uu,ov];by_cases h1:f.op=1
   ·rw[if_pos h1,if_pos h1]
    cases c<;>simp
   rw[if_neg h1,if_neg h1];by_cases h5:f.op=5
   ·obtain⟨a,ha,hb⟩:=Hy har h5
    rw[if_pos h5,if_pos h5,ha];have:=ih a (by rw[ha];exact .head _) (h'.2 a (by rw[ha];exact .head _)) (!c);simp only[FC,List.map_nil,List.getD_cons_zero];rw[this];cases V4 w M a<;>cases c<;>decide
   rw[if_neg h5,if_neg h5];by_cases h6:f.op=6∨f.op=7
   ·obtain⟨a,b,ha,hb1,hb2⟩:=Hw har h6
    rw[if_pos h6,ha];have i1:=ih a (by rw[ha];exact .head _) (h'.2 a (by rw[ha];exact .head _)) c;have j1:=ih b (by rw[ha];exact .tail _ (.head _)) (h'.2 b (by rw[ha];exact .tail _ (.head _))) c;simp only[FC,List.map_nil,List.getD_cons_zero,List.getD_cons_succ]
    have happ:(∃l∈BS a c++BS b c,∀x∈l,RD w M x)↔V4 w M a= !c∨V4 w M b= !c:=by
     rw[←i1,←j1];constructor
     ·rintro⟨l,hl,hx⟩
      rcases Fk.1 hl with hl|hl
      ·exact .inl ⟨l,hl,hx⟩
      ·exact .inr ⟨l,hl,hx⟩
     ·rintro(⟨l,hl,hx⟩|⟨l,hl,hx⟩)
      ·exact⟨l,PU _ hl,hx⟩
      ·exact⟨l,PX _ hl,hx⟩
    have hprod:(∃l∈Dr (BS a c) (BS b c),∀x∈l,RD w M x)↔V4 w M a= !c∧V4 w M b= !c:=by
     rw[←i1,←j1];simp only[Dr,List.mem_flatMap,Lc];constructor
     ·rintro⟨l,⟨y,hy,z,hz,rfl⟩,hx⟩
      rw[TS]at hx;exact⟨⟨y,hy,hx.1⟩,z,hz,hx.2⟩
     ·rintro⟨⟨y,hy,h1⟩,z,hz,h2⟩
      exact⟨_,⟨y,hy,z,hz,rfl⟩,(TS y _ z).2 ⟨h1,h2⟩⟩
    rcases h6 with h6|h6
    ·rw[if_pos h6,h6]
     cases c
     ·rw[if_neg (by decide),hprod]
      simp
     ·rw[if_pos (by decide),happ]
      simp only[Bool.not_true,Bool.and_eq_false_iff]
    ·rw[if_neg (by omega: ¬f.op=6),if_pos h6,h6]
     cases c
     ·rw[if_pos (by decide),happ]
      simp
     ·rw[if_neg (by decide),hprod]
      simp only[Bool.not_true,Bool.or_eq_false_iff]
   ·rw[if_neg h6,if_neg (fun e=>h6 (.inl e)),if_neg (fun e=>h6 (.inr e))]
    have e1:RD w M f↔SR w (M f.arg) f.path f=true:=by rw[RD,A1,if_neg h5];exact Iff.rfl
    have e2:RD w M (FZ f)↔SR w (M f.arg) f.path f=false:=by
     rw[RD,show A1 (FZ f)=(f,true) from rfl];exact Iff.rfl
    cases c
    ·simp[e1]
    ·simp[e2]
theorem bR {w:AK} (hw:Ld w) {f:Fact} (hn:Bi w f=true):Pb w f=true↔ ∃M:Int→UU,(∀a,KW w (M a))∧V4 w M f=true:=by
 rw[Pb,JY];constructor
 ·rintro⟨l,h1,h2⟩
  obtain⟨M,h3,h4⟩:=(S6 hw fun x hx=>Wo (Ew f hn false l h1 x hx)).1 h2;exact⟨M,h3,(Qr f hn false).1 ⟨l,h1,h4⟩⟩
 ·rintro⟨M,h1,h2⟩
  obtain⟨l,h3,h4⟩:=(Qr f hn false).2 h2;exact⟨l,h3,(S6 hw fun x hx=>Wo (Ew f hn false l h3 x hx)).2 ⟨M,h1,h4⟩⟩
theorem OJ {w:AK} (hw:Ld w) {a b:Fact} (ha:Bi w a=true) (hb:Bi w b=true):RG w a b=true↔ ∀M:Int→UU,(∀x,KW w (M x))→V4 w M a=true→V4 w M b=true:=by
 have he: ∀M,V4 w M (M3 a (FZ b))=(V4 w M a&& !V4 w M b):=fun M=>by
  rw[Uu];simp only[ov,M3,Fact.op,Fact.kids,FC,List.map_nil,List.getD_cons_zero,List.getD_cons_succ];rw[Uu w M (FZ b)];simp[ov,FZ,Fact.op,Fact.kids]
 rw[RG,Bool.not_eq_true',←Bool.not_eq_true,bR hw (OD ha hb)];constructor
 ·intro h M h1 h2
  rw[←Bool.not_eq_false];exact fun h3=>h ⟨M,h1,by rw[he,h2,h3];rfl⟩
 ·rintro h ⟨M,h1,h2⟩
  rw[he,BZ]at h2;rw[h M h1 h2.1]at h2;simp at h2
theorem imp_trans {w:AK} (hw:Ld w) {a b c:Fact} (ha:Bi w a=true) (hb:Bi w b=true) (hc:Bi w c=true) (h1:RG w a b=true) (h2:RG w b c=true):RG w a c=true:=
 (OJ hw ha hc).2 fun M hM h=>(OJ hw hb hc).1 h2 M hM ((OJ hw ha hb).1 h1 M hM h)
theorem PA {p:Prog} (hok:DF p) {i j k:Int} (hi:A0 p i=true) (hj:A0 p j=true) (hk:A0 p k=true) (h1:Dc p i j=true) (h2:Dc p j k=true):Dc p i k=true:=
 imp_trans hok.oy (hok.facts _ (B2 (Bs hi))).1 (hok.facts _ (B2 (Bs hj))).1 (hok.facts _ (B2 (Bs hk))).1 h1 h2
theorem V0 {p:Prog} {i j:Int}:Ag p i j=true↔Dc p i j=true∧Dc p j i=false:=by
 rw[Ag,BZ,Bool.not_eq_true']
theorem PO {p:Prog} (i:Int):Ag p i i=false:=by
 rw[Ag];cases Dc p i i<;>rfl
theorem SL {p:Prog} (hok:DF p) {i j k:Int} (hi:A0 p i=true) (hj:A0 p j=true) (hk:A0 p k=true) (h1:Ag p i j=true) (h2:Ag p j k=true):Ag p i k=true:=by
 rw[V0]at *;refine⟨PA hok hi hj hk h1.1 h2.1,?_⟩;rw[←Bool.not_eq_true];intro e;have:=PA hok hk hi hj e h1.1;rw[h2.2]at this;cases this
theorem bV {p:Prog} {gen kind:Int} {i j:Nat}:IY p gen kind i j=true↔((BG p i).gen=gen∧(BG p i).kind=kind)∧((BG p j).gen=gen∧(BG p j).kind=kind)∧Ag p i j=true:=by
 simp only[IY,Bw,BZ,D1];constructor
 ·rintro⟨h1,h2,⟨h3,h4⟩,h5⟩
  exact⟨⟨h1,h2⟩,⟨by rw[←h3,h1],by rw[←h4,h2]⟩,h5⟩
 ·rintro⟨⟨h1,h2⟩,⟨h3,h4⟩,h5⟩
  exact⟨h1,h2,⟨by rw[h1,h3],by rw[h2,h4]⟩,h5⟩
theorem dw {p:Prog} {gen:Int} {i j:Nat} (h:SP p gen i j=true):((BG p i).gen=gen∧(BG p j).gen=gen)∧(BG p i).kind=(BG p j).kind∧Dc p i j=true∧Dc p j i=true:=by
 simp only[SP,Bw,BZ,D1]at h;obtain⟨-,h1,⟨h2,h3⟩,h4,h5⟩:=h;exact⟨⟨h1,by rw[←h2,h1]⟩,h3,h4,h5⟩
end Go.Gl
namespace Go.Gl
open Go.Proofs
attribute [local irreducible] BL A4 Aj AW AM Ai AV AX AN Ah AS AU A8 BJ Sat Ac BF Ak W
theorem dz (p:Prog) (L:Nat) (m:Int) (hok:DF p) (hgw:CR (AP p)) (hfm: ∀x∈p.methods,Ce (AP p) x.fact=true) (hm:A0 p m=true) :
 DD Tryz.prog (.f (.func 105) [] [.rp [Fs p L],.rp [eI m]]) eI (fun M=>[.map L (FK p M)]) (fun y M=>(Ag p y m,Nk p M y m)) (fun y _=>A0 p y=true):=by
 intro y M hy σ hs;refine Bp ?_;show BL Tryz.prog 105 ([]++[eI y]++[.rp [Fs p L],.rp [eI m]]) σ _;refine nq nb ?_
 conv=>whnf
 repeat'((first|apply st|(apply sq;intro K U)|(apply si;intro A B Y Z)|(apply Y;clear Z B Y A)|(apply U;clear U K)|fail)<;>conv=>whnf)
 refine(OZ p L y m hok hgw hfm hy hm M).use (rest:=[]) (by simpa using hs) ?_;clear hs;rintro r post σ ⟨rfl,rfl⟩ hs
 conv=>whnf
 repeat'((first|apply st|(apply Y;clear Z B Y A)|(apply U;clear U K)|fail)<;>conv=>whnf)
 exact Ao hs (List.sublist_append_left _ _) (.refl _) fun σ' hs'=>⟨rfl,hs'⟩
theorem Ql {S:Type} {stp:Int→S→Bool×S} {q:Int→Bool}: ∀(xs:List Int) (k:Nat) (s:S),(∀y∈xs,∀s,(stp y s).1=q y)→(Bn stp xs k s).1=match(List.range xs.length).find? fun i=>q (xs.getD i 0)with|some i=>((k+i:Nat):Int)|none=> -1
 | [],_,_,_=>rfl
 | y ::r,k,s,h=>by
   rw[Bn,h y (.head _)];have ih:=Ql r (k+1) (stp y s).2 fun z hz=>h z (.tail _ hz)
   rw[LX,List.range_succ_eq_map,List.find?_cons,List.getD_cons_zero];cases hq:q y
   ·rw[if_neg (by decide),ih]
    simp only[List.find?_map,Function.comp_def,Nat.succ_eq_add_one,List.getD_cons_succ];cases(List.range r.length).find? fun i=>q (r.getD i 0)with
    | none=>rfl
    | some i=>simp only[UW];congr 1;omega
   ·rw[if_pos rfl];simp
def o8 (p:Prog) (l:List Int) (m:Int) (M:List (Int×Int)):List (Int×Int):=(Bn (fun y M=>(Ag p y m,Nk p M y m)) l 0 M).2
theorem WO (p:Prog) (L nQ:Nat) (l:List Int) (f:Bool) (hok:DF p) (hgw:CR (AP p)) (hfm: ∀x∈p.methods,Ce (AP p) x.fact=true) (hl: ∀x∈l,A0 p x=true) :
 DD Tryz.prog (.f (.func 104) [] [.p nQ 0,.rp [Fs p L]]) eI (fun M=>[.box nQ [.l (iL l) f],.map L (FK p M)]) (fun m M=>(!(decide ((Bn (fun y M=>(Ag p y m,Nk p M y m)) l 0 M).1≥0)),o8 p l m M)) (fun m _=>A0 p m=true):=by
 intro m M hm σ hs;refine Bp ?_;show BL Tryz.prog 104 ([]++[eI m]++[.p nQ 0,.rp [Fs p L]]) σ _;refine nt nb ?_
 conv=>whnf
 repeat'((first|(apply sq;intro K U)|(apply si;intro A B Y Z)|(apply Y;clear Z B Y A)|(apply U;clear U K)|refine ld ?_|fail)<;>conv=>whnf)
 refine(GU 105 [] [.rp [Fs p L],.rp [eI m]] (fun M=>[.map L (FK p M)]) _ _ (dz p L m hok hgw hfm hm) l f M (Gz fun y hy _=>hl y hy)).use (rest:=[_]) (hs.perm (.swap _ _ _)) ?_;clear hs;rintro r post σ ⟨rfl,rfl⟩ hs
 conv=>whnf
 repeat'((first|apply st|(apply Y;clear Z B Y A)|(apply U;clear U K)|fail)<;>conv=>whnf)
 exact Ao (hs.perm (.swap _ _ _)) (List.Sublist.refl _) (.refl _) fun σ' hs'=>⟨rfl,hs'⟩
theorem Zu {p:Prog} (hok:DF p): ∀(l:List Int),l≠[]→(∀x∈l,A0 p x=true)→ ∃x∈l,∀y∈l,Ag p y x=false
 | [],h,_=>absurd rfl h
 | x ::r,_,h=>by
   by_cases hr:r= []
   ·subst hr
    exact⟨x,.head _,fun y hy=>by rw[KN.1 hy];exact PO x⟩
   obtain⟨z,hz,hz2⟩:=Zu hok r hr fun y hy=>h y (.tail _ hy)
   cases hxz:Ag p x z
   ·refine⟨z,.tail _ hz,fun y hy=>?_⟩
    rcases GB.1 hy with rfl|hy
    ·exact hxz
    ·exact hz2 y hy
   ·refine⟨x,.head _,fun y hy=>?_⟩
    rcases GB.1 hy with rfl|hy
    ·exact PO y
    ·rw[←Bool.not_eq_true]
     intro e;have:=SL hok (h y (.tail _ hy)) (h x (.head _)) (h z (.tail _ hz)) e hxz;rw[hz2 y hy]at this;cases this
theorem QS {p:Prog} (hok:DF p) {l:List Int} (hl:l≠[]) (h: ∀x∈l,A0 p x=true): ∃i,Lj (Ag p) l=some i:=by
 obtain⟨x,hx,hx2⟩:=Zu hok l hl h;obtain⟨i,hi⟩:=List.getElem?_of_mem hx;cases hm:Lj (Ag p) l with
 | some i=>exact⟨i,rfl⟩
 | none=>
   rw[Lj,List.find?_range_eq_none]at hm;have h1:=hm i (Hi.1 hi).1
   have h2:Jq (Ag p) l i l.length=true:=by
    rw[Jq,Em];intro k hk;rw[CG hi,hx2 _ (D9 (List.mem_range.1 hk))];rfl
   rw[h2]at h1;cases h1
end Go.Gl
namespace Go.Gl
variable {P:Program} {σ:AH}
theorem aw {L:Nat} {args:List V} {Q:R→AH→Prop} (h:Nl P L args σ Q):A8 P (.f (.yield L) [] []) args σ Q:=h
theorem Ev {L:Nat} {E:Env} {ps:List Nat} {a b:AJ} {args:List V} {l:List At} (hl:args.length=ps.length) (hs:Sat σ (.obj L (.loop .ready E (B7 P ps a b))::l)) {Q:R→AH→Prop}
 (h: ∀σ,Sat σ l→W P a (DI (W P b fun ex env' σ'=>σ' L=none→Ra L E (B7 P ps a b) Q ex env' σ')) (J3 ps args E) σ):Nl P L args σ Q:=
 PK (hs.get (i:=0) rfl) hl (h _ hs.del)
end Go.Gl
namespace Go.Gl
open Go.Proofs
attribute [local irreducible] BL A4 Aj AW AM Ai AV AX AN Ah AS AU A8 BJ Sat Ac BF Ak W
theorem P8 (xs:List Int) (f:Bool):Pure Tryz.prog 102 [.l (iL xs) f] (.f (.func 136) [] [.rp [.l (iL xs) f]]):=by
 refine nu nb ?_;have hs:=Sn
 conv=>whnf
 repeat'((first|apply st|(apply sq;intro K U)|(apply si;intro A B Y Z)|(apply Y;clear Z B Y A)|(apply U;clear U K)|fail)<;>conv=>whnf)
 all_goals exact AI rfl
theorem dt (xs:List Int) (f:Bool) (hxl:xs.length≤1000) {S:Type} {fn:Fn} {fi ca:List V} {H:S→List At} (Inv:Nat→S→Prop) {s:S} (h0:Inv 0 s)
 (hT: ∀(k:Nat) s y,xs[k]? =some y→Inv k s→ ∀σ:AH,Sat σ (H s)→A8 Tryz.prog (.f fn fi ca) [eI y] σ fun r σ'=> ∃s',r= .ret (.b true)∧Inv (k+1) s'∧Sat σ' (H s')) (σ:AH) (hs:Sat σ (H s)) :
 BL Tryz.prog 136 [.f fn fi ca,.rp [.l (iL xs) f]] σ fun r σ'=> ∃s',r= .ret (.t [])∧Inv xs.length s'∧Sat σ' (H s'):=by
 have hM:=Mx;refine nD nb ?_
 conv=>whnf
 repeat'((first|apply st|(apply sq;intro K U)|(apply si;intro A B Y Z)|(apply Y;clear Z B Y A)|(apply U;clear U K)|fail)<;>conv=>whnf)
 refine B4 xs.length (fun k (_:S)=>[(7,eI (A6 k))]) (fun _ s'=>H s') (fun k s'=>Inv k s') s rfl h0 hs ?_;clear hs;rintro k s' σ hk ho hs;rcases BH xs hk with⟨y,hy,hlt⟩|hke
 ·have hT':=hT k s' y hy ho
  conv=>whnf
  repeat'((first|apply st|(apply sq;intro K U)|(apply si;intro A B Y Z)|(apply Y;clear Z B Y A)|(apply U;clear U K)|refine⟨rfl,?_⟩|refine ix ?_|(refine CS (fun hc=>?_)<;>(try rw[hc])<;>clear hc)|fail)<;>conv=>whnf)
  refine(hT' σ hs).mono ?_;rintro r σ ⟨s2,rfl,hi2,hs⟩
  conv=>whnf
  repeat'((first|apply st|(apply si;intro A B Y Z)|(apply Y;clear Z B Y A)|(apply U;clear U K)|refine⟨rfl,?_⟩|refine D2 ?_|fail)<;>conv=>whnf)
  exact⟨hlt,_,rfl,hi2,hs⟩
 ·rw[hke]at ho
  conv=>whnf
  repeat'((first|apply st|(apply sq;intro K U)|(apply si;intro A B Y Z)|(apply Y;clear Z B Y A)|(apply U;clear U K)|refine⟨rfl,?_⟩|(refine Dh (fun hc=>?_)<;>(try rw[hc])<;>clear hc)|clear U K)<;>conv=>whnf)
  exact AO ⟨_,rfl,ho,hs⟩
theorem Y0 (xs:List Int) (f:Bool) (hxl:xs.length≤1000):Bh Tryz.prog 118 [.l [] true,.f (.func 136) [] [.rp [.l (iL xs) f]]] [] fun r post=> ∃v,r= .ret v∧post= [.own v 1 (iL xs)]∧((B6 v).isSome=true∨(v= .l [] true∧xs= [])):=by
 intro σ hs;have hM:=Mx;refine aK nb ?_
 conv=>whnf
 repeat'((first|apply st|(apply sq;intro K U)|(apply si;intro A B Y Z)|(apply Y;clear Z B Y A)|(apply U;clear U K)|(intro nn hnn;generalize hg:BC _ nn _=σ;refine Cm hg fun hs=>?_;clear hg)|fail)<;>conv=>whnf)
 rename_i nb _ _ _;clear hnn
 revert hs
 generalize hE:([(2,V.p nb 0)]:Env)=E;generalize hk:B7 _ _ _ _=ok;intro hs;refine BL.mono (dt xs f hxl (fn:= .yield nn) (fi:=[]) (ca:=[]) (H:=fun s:V×List Int=> .obj nn (.loop .ready E ok):: [.box nb [s.1],.own s.1 1 (iL s.2)]) (fun k s=>s.2=xs.take k∧(1≤k→(B6 s.1).isSome=true)∧(k=0→s.1= .l [] true)) (s:=(.l [] true,[])) ⟨rfl,fun h=>by omega,fun _=>rfl⟩ ?_ σ ((Cv hs 1).perm (II _ _ _ _))) ?_
 ·clear hs
  subst hE hk;rintro k ⟨v,ys⟩ y hy ⟨h1,h2,h3⟩ σ hs;dsimp only at h1 h2 h3 hs;have hkl:k<xs.length:=(Hi.1 hy).1;have hyl:ys.length=k:=by rw[h1,LW];omega
  have hll:ys.length<Ad∧(ys.length+1)*8≤140737488355328:=by omega
  refine aw (Ev (l:=[.box nb [v],.own v 1 (iL ys)]) rfl hs ?_);clear hs;intro σ hs
  conv=>whnf
  repeat'((first|apply st|(apply si;intro A B Y Z)|(apply Y;clear Z B Y A)|refine ld ?_|refine FB fun σ hs=>?_|refine aq fun v σ hs hsl=>?_|clear U K)<;>conv=>whnf)
  intro hn;exact⟨(v,ys++[y]),rfl,⟨by rw[AR hy,h1],fun _=>hsl,fun h=>by omega⟩,hs.Js hn⟩
 ·clear hs
  rintro r σ ⟨⟨v,ys⟩,rfl,⟨h1,h2,h3⟩,hs⟩;dsimp only at h1 h2 h3 hs;refine Fh hs fun σ hs=>?_
  conv=>whnf
  repeat'((first|apply st|(apply sq;intro K U)|(apply si;intro A B Y Z)|(apply Y;clear Z B Y A)|(apply U;clear U K)|refine ld ?_|fail)<;>conv=>whnf)
  rw[List.take_length]at h1;subst h1;refine Ao hs (Jn _ _) (.refl _) fun σ' hs'=>⟨_,⟨v,rfl,rfl,?_⟩,hs'⟩
  rcases Nat.eq_zero_or_pos ys.length with h|h
  ·exact .inr ⟨h3 h,dD.1 h⟩
  ·exact .inl (h2 h)
theorem Yo (xs:List Int) (f:Bool) (hxl:xs.length≤1000):Bh Tryz.prog 84 [.f (.func 136) [] [.rp [.l (iL xs) f]]] [] fun r post=> ∃v,r= .ret v∧post= [.own v 1 (iL xs)]∧((B6 v).isSome=true∨(v= .l [] true∧xs= [])):=by
 intro σ hs;refine gk nb ?_
 conv=>whnf
 repeat'((first|(apply sq;intro K U)|(apply si;intro A B Y Z)|(apply Y;clear Z B Y A)|(apply U;clear U K)|fail)<;>conv=>whnf)
 refine(Y0 xs f hxl).use (rest:=[]) (by simpa using hs) ?_;clear hs;rintro r post σ ⟨v,rfl,rfl,hv⟩ hs
 conv=>whnf
 repeat'((first|apply st|(apply Y;clear Z B Y A)|(apply U;clear U K)|fail)<;>conv=>whnf)
 exact Ao hs (List.sublist_append_left _ _) (.refl _) fun σ' hs'=>⟨_,⟨v,rfl,rfl,hv⟩,hs'⟩
theorem QC (xs:List Int) (f:Bool) (hxl:xs.length≤1000):Pure Tryz.prog 101 [.f (.func 136) [] [.rp [.l (iL xs) f]]] (.l (iL (xs.mergeSort G5)) false):=by
 refine nv nb ?_;have hs:=Sn
 conv=>whnf
 repeat'((first|(apply sq;intro K U)|(apply si;intro A B Y Z)|(apply Y;clear Z B Y A)|(apply U;clear U K)|fail)<;>conv=>whnf)
 refine(Yo xs f hxl).use (rest:=[]) (by simpa using hs) ?_;clear hs;rintro r post σ ⟨v,rfl,rfl,hv⟩ hs
 conv=>whnf
 repeat'((first|(apply sq;intro K U)|(apply si;intro A B Y Z)|(apply Y;clear Z B Y A)|(apply U;clear U K)|fail)<;>conv=>whnf)
 refine(ZS hv).use (rest:=[]) hs ?_;clear hs;rintro r post σ ⟨rfl,rfl⟩ hs
 conv=>whnf
 repeat'((first|apply st|(apply sq;intro K U)|(apply si;intro A B Y Z)|(apply Y;clear Z B Y A)|(apply U;clear U K)|fail)<;>conv=>whnf)
 exact BV (hs.NC 0 rfl)
theorem Qm {S:Type} {stp:Int→S→Bool×S} {q:Int→Bool}: ∀(xs:List Int) (k:Nat) (s:S),(∀y∈xs,∀s,(stp y s).1=q y)→decide ((Bn stp xs k s).1≥0)=xs.any q
 | [],_,_,_=>rfl
 | y ::r,k,s,h=>by
   rw[Bn,h y (.head _),Q6];cases hq:q y
   ·rw[if_neg (by decide),Bool.false_or]
    exact Qm r (k+1) _ fun z hz=>h z (.tail _ hz)
   ·rw[if_pos rfl,Bool.true_or]
    exact decide_eq_true (Int.natCast_nonneg k)
theorem X2 (l:List Int) (q:Int→Bool):(List.range l.length).all (fun j=> !q (l.getD j 0))= !l.any q:=by
 rw[Lb,Em,Bool.not_eq_true',←Bool.not_eq_true,JY];constructor
 ·rintro h ⟨x,hx,hq⟩
  obtain⟨i,hi⟩:=List.getElem?_of_mem hx;have:=h i (List.mem_range.2 (Hi.1 hi).1);rw[CG hi,hq]at this;cases this
 ·intro h j hj
  cases hq:q (l.getD j 0)
  ·rfl
  ·exact absurd ⟨_,D9 (List.mem_range.1 hj),hq⟩ h
theorem XB {p:Prog} {l:List Int} {M:List (Int×Int)}:(Bn (fun(m:Int) (M:List (Int×Int))=>(!(decide ((Bn (fun y M=>(Ag p y m,Nk p M y m)) l 0 M).1≥0)),o8 p l m M)) l 0 M).1=match Lj (Ag p) l with|some i=>((i:Nat):Int)|none=> -1:=by
 rw[Ql (q:=fun m=> !l.any fun y=>Ag p y m) l 0 M fun m _ s=>by dsimp only;rw[Qm (q:=fun y=>Ag p y m) l 0 s fun y _ s=>rfl]];rw[Lj,find_congr (g:=fun i=>Jq (Ag p) l i l.length) fun i _=>by rw[Jq,X2 l fun y=>Ag p y (l.getD i 0)]];cases(List.range l.length).find? fun i=>Jq (Ag p) l i l.length with
 | none=>rfl
 | some i=>simp
set_option maxHeartbeats 4000000 in
theorem Qu (p:Prog) (L:Nat) (l:List Int) (f:Bool) (hok:DF p) (hgw:CR (AP p)) (hfm: ∀x∈p.methods,Ce (AP p) x.fact=true) (hl:Jx p l) (hnd:l.Nodup) (M:List (Int×Int)) :
 Bh Tryz.prog 69 [Fs p L,.l (iL l) f] [.map L (FK p M)] fun r post=>r= .ret (.l (iL (DB (Ag p) l.length (l.mergeSort G5))) true)∧ ∃M',post= [.map L (FK p M')]:=by
 intro σ hs;have hM:=Mx;have h16:=hl.many;have hml:(l.mergeSort G5).length=l.length:=List.length_mergeSort _;have c1:=P8 l f;have c2:=QC l f (by omega);refine gq nb ?_
 conv=>whnf
 repeat'((first|apply st|(apply sq;intro K U)|(apply si;intro A B Y Z)|(apply Y;clear Z B Y A)|(apply U;clear U K)|refine ld ?_|refine FB fun σ hs=>?_|refine Pure.use c1 ?_|refine Pure.use c2 ?_|(intro nn hnn;generalize hg:BC _ nn _=σ;refine Cm hg fun hs=>?_;clear hg)|fail)<;>conv=>whnf)
 clear c1 c2 hnn
 refine EF (fun(x:List Int×Bool×V×List Int×List (Int×Int))=>x.1.length) (fun x=>[(5,x.2.2.1)]) (fun x=>[.box nn [.l (iL x.1) x.2.1],.own x.2.2.1 1 (iL x.2.2.2.1),.map L (FK p x.2.2.2.2)])
  (fun x=>(∀y∈x.1,A0 p y=true)∧x.1.Nodup∧x.2.2.2.1.length+x.1.length≤16∧DB (Ag p) l.length (l.mergeSort G5)=x.2.2.2.1++DB (Ag p) x.1.length x.1) (l.mergeSort G5,false,.l [] true,[],M) rfl ⟨fun y hy=>hl.HK y (List.mem_mergeSort.1 hy),(List.mergeSort_perm l G5).symm.nodup hnd,by simpa[hml]using h16,by simp[hml]⟩ ((Cv hs 1).perm (.swap _ _ _)) ?_
 clear hs;rintro⟨l',f',v,out,M⟩ σ ⟨hme,hn,hlen,hm⟩ hs;dsimp only at hme hn hlen hm hs;dsimp only;have hll:out.length<Ad∧(out.length+1)*8≤140737488355328:=by omega
 by_cases hz:l'.length=0
 ·rw[hz]at hm
  simp only[DB,Hj]at hm
  conv=>whnf
  repeat'((first|apply st|(apply sq;intro K U)|(apply si;intro A B Y Z)|(apply Y;clear Z B Y A)|(apply U;clear U K)|refine⟨rfl,?_⟩|refine ld ?_|(constructor<;>intro hc<;>(try rw[hc])<;>(replace hc:=bp hc)<;>(try simp(disch:=omega) only[BE,wrap64,AL]at hc)<;>try(exfalso;omega))|clear U K)<;>conv=>whnf)
  refine(N3 out v (by omega)).use (rest:=[_,_]) (hs.perm (.swap _ _ _)) ?_;clear hs;rintro r post σ ⟨rfl,rfl⟩ hs
  conv=>whnf
  repeat'((first|apply st|(apply Y;clear Z B Y A)|(apply U;clear U K)|fail)<;>conv=>whnf)
  exact Ao hs (Jn _ _) (.refl _) fun σ' hs'=>⟨_,⟨by rw[hm],M,rfl⟩,hs'⟩
 ·obtain⟨n,hnn⟩: ∃n,l'.length=n+1:=⟨l'.length - 1,by omega⟩
  have hne:l'≠[]:=fun e=>hz (by rw[e];rfl)
  obtain⟨i,hi⟩:=QS hok hne hme;have hil:i<l'.length:=by simpa using List.mem_of_find?_eq_some hi
  obtain⟨x,hx⟩: ∃x,l'[i]? =some x:=⟨_,Cu hil⟩
  rw[hnn,DB,hi,Option.getD_some,CG hx]at hm;have c3:=Lz l' f' x (by omega);rw[F4 hn hx]at c3;have hel:=List.length_eraseIdx_of_lt hil
  conv=>whnf
  repeat'((first|apply st|(apply sq;intro K U)|(apply si;intro A B Y Z)|(apply Y;clear Z B Y A)|(apply U;clear U K)|refine⟨rfl,?_⟩|refine ld ?_|(constructor<;>intro hc<;>(try rw[hc])<;>(replace hc:=bp hc)<;>(try simp(disch:=omega) only[BE,wrap64,AL]at hc)<;>try(exfalso;omega))|fail)<;>conv=>whnf)
  refine(ID 104 [] [.p nn 0,.rp [Fs p L]] (fun M=>[.box nn [.l (iL l') f'],.map L (FK p M)]) _ _ (WO p L nn l' f' hok hgw hfm hme) l' f' M (Gz fun y hy _=>hme y hy)).use (rest:=[.own v 1 (iL out)]) (hs.perm (.cons _ (.swap _ _ _))) ?_;clear hs;rintro r post σ ⟨rfl,rfl⟩ hs;rw[XB,hi];generalize (Bn _ l' 0 M).2=M2 at hs;dsimp only
  conv=>whnf
  repeat'((first|apply st|(apply sq;intro K U)|(apply si;intro A B Y Z)|(apply Y;clear Z B Y A)|(apply U;clear U K)|refine F6 ?_|refine ld ?_|refine FB fun σ hs=>?_|refine aq fun v σ hs hsl=>?_|refine Pure.use c3 ?_|clear U K)<;>conv=>whnf)
  refine⟨(l'.eraseIdx i,true,v,out++[x],M2),by dsimp only;omega,rfl,⟨fun y hy=>hme y (List.mem_of_mem_eraseIdx hy),hn.sublist (List.eraseIdx_sublist _ _),by simp;omega,?_⟩,hs.perm (.cons _ (.swap _ _ _))⟩;dsimp only;rw[hm,hel,show l'.length - 1=n by omega];simp
theorem Xw: ∀ {l:List Int},l.Nodup→(l.mergeSort G5).Pairwise (· < ·):=fun {l} h=>by
 have h1:=List.pairwise_mergeSort (le:=G5) (fun a b c h1 h2=>by simp only[G5,CX]at *;omega) (fun a b=>by simp only[G5,Fx,CX];omega) l;have h2:=List.nodup_iff_pairwise_ne.1 ((List.mergeSort_perm l G5).symm.nodup h);exact(h1.and h2).imp fun⟨a,b⟩=>by simp only[G5,CX]at a;omega
theorem Wv {x:Int}: ∀ {out:List Int},out.Pairwise (· < ·)→x∉out→(Gw x out).Pairwise (· < ·)
 | [],_,_=>by simp[Gw]
 | y ::r,h,hx=>by
   rw[List.pairwise_cons]at h;rw[GB,not_or]at hx;by_cases hy:y<x
   ·have e:Gw x (y::r)=y::Gw x r:=by simp[Gw,List.takeWhile_cons,List.dropWhile_cons,hy]
    rw[e,List.pairwise_cons];refine⟨fun z hz=>?_,Wv h.2 hx.2⟩;rcases OI.1 hz with rfl|hz
    ·exact hy
    ·exact h.1 z hz
   ·have e:Gw x (y::r)=x::y::r:=by simp[Gw,List.takeWhile_cons,List.dropWhile_cons,hy]
    rw[e,List.pairwise_cons,List.pairwise_cons];refine⟨fun z hz=>?_,h⟩;rcases GB.1 hz with rfl|hz
    ·have:=hx.1;omega
    ·have:=h.1 z hz
     have:=hx.1;omega
theorem TY: ∀(l out:List Int),out.Pairwise (· < ·)→l.Nodup→(∀x∈l,x∉out)→(l.foldl (fun out x=>Gw x out) out).Pairwise (· < ·)
 | [],_,h,_,_=>h
 | x::r,out,h,hn,hx=>by
   rw[List.nodup_cons]at hn;refine TY r _ (Wv h (hx x (.head _))) hn.2 fun y hy hm=>?_
   rcases OI.1 hm with rfl|hm
   ·exact hn.1 hy
   ·exact hx y (.tail _ hy) hm
theorem L5 {l:List Int} (h:l.Nodup):l.mergeSort G5=Cd l:=
 J6 (Xw h) (TY l [] .nil h fun x _ hm=>by cases hm) fun x=>by rw[List.mem_mergeSort,D8]
theorem Yx (p:Prog) (l:List Int) (f:Bool) (hl:l.length≤1000):Pure Tryz.prog 33 [.a (BK p),.l (iL l) f] (.t [.l (iL (C0 p l).1) true,eI (C0 p l).2]):=by
 refine Pure.of ?_;have hr:=GK p;refine qj nb ?_;have hs:=Sn
 conv=>whnf
 repeat'((first|apply st|(apply sq;intro K U)|(apply si;intro A B Y Z)|(apply Y;clear Z B Y A)|(apply U;clear U K)|refine⟨nb,?_⟩|fail)<;>conv=>whnf)
 refine hr.use (rest:=[]) (by simpa using hs) ?_;clear hs;cases h:(BO p).isSome
 ·have c1:=Ro l f true
  rintro r post σ ⟨rfl,rfl⟩ hs
  conv=>whnf
  repeat'((first|apply st|(apply sq;intro K U)|(apply si;intro A B Y Z)|(apply Y;clear Z B Y A)|(apply U;clear U K)|refine E0 ?_|refine Pure.use c1 ?_|clear U K)<;>conv=>whnf)
  exact AO (by simp[C0,h])
 ·rintro r post σ ⟨L,rfl,rfl⟩ hs
  have c1:=Um p L l f true hl;have hok:=look_ok h;cases h2:DU p l true<;>rw[h2]at c1
  ·conv=>whnf
   repeat'((first|apply st|(apply sq;intro K U)|(apply si;intro A B Y Z)|(apply Y;clear Z B Y A)|(apply U;clear U K)|refine E0 ?_|refine Pure.use c1 ?_|clear U K)<;>conv=>whnf)
   exact AO (by simp[C0,h,h2])
  ·have ho:=K1 hok h2
   conv=>whnf
   repeat'((first|apply st|(apply sq;intro K U)|(apply si;intro A B Y Z)|(apply Y;clear Z B Y A)|(apply U;clear U K)|refine D2 ?_|refine Pure.use c1 ?_|fail)<;>conv=>whnf)
   refine(Qu p L l f hok (MX h) (JG h) ho.1 ho.2 []).use (rest:=[]) hs ?_;clear hs;rintro r post σ ⟨rfl,M',rfl⟩ hs
   conv=>whnf
   repeat'((first|apply st|(apply Y;clear Z B Y A)|(apply U;clear U K)|fail)<;>conv=>whnf)
   exact AO (by simp[C0,h,h2,L5 ho.2])
def Ed (p:Prog) (os:List Ob) (gen:Int) (args:List (Int×Int)):Bool:=
 (BO p).isSome&&(IJ (AP p) os&&(Nf p gen&&(decide ((args.length:Int)=p.DA.getD gen.toNat 0)&&args.all (Cn os.length))))
def RH (os:List Ob) (v:Int×Int):Int:=if v.1=1 then 1 else if v.1=2 then 2 else(os.getD v.2.toNat (0,[])).1
end Go.Gl
namespace Go.Gl
open Go.Proofs
theorem n9 {σ:AH} {l:List At} {i:Nat} {v:V} {sz:Nat} {es:List (List V)} (hs:Sat σ l) (hi:l[i]? =some (.own v sz es)) (he: ∀e∈es,e.length=sz) {K:V→AH→Prop} (hk: ∀v' σ',Sat σ' (l.set i (.own v' sz es))→((B6 v').isSome=true∨(v'= .l es true∧v= .l es true))→K v' σ'):AV σ sz v none (some (.i .i64 (es.length:Int))) (some (.i .i64 (es.length:Int))) K:=by
 rcases hs.get hi with⟨rfl,_⟩|⟨n,cap,rfl,hn⟩
 ·refine⟨he,?_⟩
  simp only[ND];refine⟨Int.le_refl _,Int.natCast_nonneg _,Int.le_refl _,trivial,?_⟩
  have hset:l.set i (.own (.l es true) sz es)=l:=by
   refine List.ext_getElem? fun j=>?_
   by_cases hj:i=j
   ·subst hj
    rw[List.getElem?_set_self (Hi.1 hi).1,hi]
   ·rw[List.getElem?_set_ne hj]
  have:=hk (.l es true) σ (by rw[hset];exact hs) (.inr ⟨rfl,rfl⟩);simpa using this
 ·unfold AV
  simp only[ND];refine⟨Int.le_refl _,Int.natCast_nonneg _,Int.le_refl _,trivial,trivial,trivial,?_⟩;rw[hn];refine⟨rfl,rfl,rfl,.inr (hk _ _ ?_ (.inl rfl))⟩;refine hs.change hi (fun b hb ha=>FE hb fun m hm=>?_) (fun b hb ha m hm=>?_) (.inr ⟨n,es.length,rfl,ET _ _ _⟩)
  ·rw[C4]
   intro e;subst e;exact ha m rfl hm
  ·cases hm
   exact ha _ rfl
attribute [local irreducible] BL A4 Aj AW AM Ai AV AX AN Ah AS AU A8 BJ Sat Ac BF Ak W
theorem fj (xs:List Int) (v:V) (hl:xs.length≤Ad) (hv:(B6 v).isSome=true∨(v= .l [] true∧xs= [])):Bh Tryz.prog 99 [v] [.own v 1 (iL xs)] fun r post=> ∃v',r= .ret v'∧post= [.own v' 1 (iL xs)]∧((B6 v').isSome=true∨(v'= .l [] true∧xs= [])):=by
 intro σ hs;have hg:=Cl Bq xs;refine gi nb ?_
 conv=>whnf
 repeat'((first|(apply sq;intro K U)|(apply si;intro A B Y Z)|(apply Y;clear Z B Y A)|(apply U;clear U K)|refine lo ?_|fail)<;>conv=>whnf)
 refine n9 (i:=0) hs rfl hg.1 fun v' σ hs hv'=>?_
 conv=>whnf
 repeat'((first|apply st|(apply Y;clear Z B Y A)|(apply U;clear U K)|fail)<;>conv=>whnf)
 refine Ao hs (List.Sublist.refl _) (.refl _) fun σ' hs'=>⟨_,⟨v',rfl,rfl,?_⟩,hs'⟩
 rcases hv' with h|⟨h1,h2⟩
 ·exact .inl h
 ·rcases hv with h|⟨h3,h4⟩
  ·rw[h2]at h;cases h
  ·subst h4
   exact .inr ⟨h1,rfl⟩
def Sq (xs ys:List Int) (k:Nat):Prop:=ys.length=xs.length∧ ∀t,t<xs.length→ys[t]? =if t<k∨xs.length - k≤t then xs[xs.length - 1 - t]? else xs[t]?
theorem jz (xs:List Int):Sq xs xs 0:=⟨rfl,fun t ht=>by rw[if_neg (by omega)]⟩
theorem cG {xs ys:List Int} {k:Nat} (h:Sq xs ys k) (hk:xs.length≤2*k+1):ys=xs.reverse:=by
 refine List.ext_getElem? fun t=>?_
 rcases Nat.lt_or_ge t xs.length with ht|ht
 ·rw[h.2 t ht,List.getElem?_reverse ht]
  split
  ·rfl
  ·congr 1;omega
 ·rw[List.getElem?_eq_none (by rw[h.1];exact ht),List.getElem?_eq_none (by rw[List.length_reverse];exact ht)]
theorem YR {xs ys:List Int} {k:Nat} {a b:Int} (h:Sq xs ys k) (hk:2*k+1<xs.length) (ha:ys[k]? =some a) (hb:ys[xs.length - 1 - k]? =some b):Sq xs ((ys.set k b).set (xs.length - 1 - k) a) (k+1):=by
 have h1:=h.2 k (by omega);have h2:=h.2 (xs.length - 1 - k) (by omega);rw[if_neg (by omega),ha]at h1;rw[if_neg (by omega),hb]at h2;refine⟨by rw[List.length_set,List.length_set];exact h.1,fun t ht=>?_⟩;have hl:=h.1;by_cases e1:t=xs.length - 1 - k
 ·subst e1
  rw[List.getElem?_set_self (by rw[List.length_set];omega),if_pos (by omega),show xs.length - 1 - (xs.length - 1 - k)=k by omega,h1]
 ·rw[List.getElem?_set_ne (fun e=>e1 e.symm)]
  by_cases e2:t=k
  ·subst e2
   rw[List.getElem?_set_self (by omega),if_pos (by omega),h2]
  ·rw[List.getElem?_set_ne (fun e=>e2 e.symm),h.2 t ht]
   by_cases e3:t<k∨xs.length - k≤t
   ·rw[if_pos e3,if_pos (by omega)]
   ·rw[if_neg e3,if_neg (by omega)]
end Go.Gl
namespace Go.Gl
open Go.Proofs
attribute [local irreducible] BL A4 Aj AW AM Ai AV AX AN Ah AS AU A8 BJ Sat Ac BF Ak W
set_option maxHeartbeats 1000000 in
theorem Xz (xs:List Int) (v:V) (hl:xs.length≤1000) (hv:(B6 v).isSome=true∨(v= .l [] true∧xs= [])):Bh Tryz.prog 82 [v] [.own v 1 (iL xs)] fun r post=>r= .ret (.t [])∧post= [.own v 1 (iL xs.reverse)]:=by
 intro σ hs;have hM:=Mx;have e0:((iL xs).length:Int)=xs.length:=by simp
 have hw0:IntKind.i64.wrap (((iL xs).length:Int) - 1)=(xs.length:Int) - 1:=by rw[e0,wrap64 (by omega) (by omega)]
 refine qI nb ?_
 conv=>whnf
 repeat'((first|apply st|(apply sq;intro K U)|(apply si;intro A B Y Z)|(apply Y;clear Z B Y A)|(apply U;clear U K)|refine⟨rfl,?_⟩|refine lo ?_|fail)<;>conv=>whnf)
 refine EF (fun(x:Int×Int×List Int)=>(x.2.1+1).toNat) (fun x=>[(2,eI x.1),(3,eI x.2.1)]) (fun x=>[.own v 1 (iL x.2.2)]) (fun x=> ∃k:Nat,x.1=k∧x.2.1=(xs.length:Int) - 1 - k∧2*k≤xs.length+1∧Sq xs x.2.2 k) (0,IntKind.i64.wrap (((iL xs).length:Int) - 1),xs) rfl ⟨0,rfl,by rw[hw0];simp,by omega,jz xs⟩ hs ?_;clear hs;rintro⟨i,j,ys⟩ σ ⟨k,hi,hj,hk,hh⟩ hs;dsimp only at hi hj hh hs;dsimp only;have hyl:=hh.1;by_cases hij:i<j
 ·have hsv:(B6 v).isSome=true:=by
   rcases hv with h|⟨h1,h2⟩
   ·exact h
   ·rw[h2]at hj;simp at hj;omega
  have hwi:IntKind.i64.wrap (i+1)=i+1:=wrap64 (by omega) (by omega);have hwj:IntKind.i64.wrap (j - 1)=j - 1:=wrap64 (by omega) (by omega);obtain⟨a,ha⟩: ∃a,ys[i.toNat]? =some a:=⟨_,Cu (by omega)⟩
  obtain⟨b,hb⟩: ∃b,ys[j.toNat]? =some b:=⟨_,Cu (by omega)⟩
  conv=>whnf
  repeat'((first|apply st|(apply sq;intro K U)|(apply si;intro A B Y Z)|(apply Y;clear Z B Y A)|(apply U;clear U K)|apply dr|refine⟨rfl,?_⟩|refine oi ?_|refine xa ?_|refine NX ?_|refine oset fun σ hs=>?_|refine oset (fun σ hs=>?_) (h1:=by rw[List.length_set];omega)|(constructor<;>intro hc<;>(try rw[hc])<;>(replace hc:=bp hc)<;>try(exfalso;omega))|fail)<;>conv=>whnf)
  have hik:i.toNat=k:=by omega
  have hjk:j.toNat=xs.length - 1 - k:=by omega
  refine⟨(IntKind.i64.wrap (i+1),IntKind.i64.wrap (j - 1),(ys.set i.toNat b).set j.toNat a),by dsimp only;rw[hwj];omega,rfl,⟨k+1,by dsimp only;rw[hwi];omega,by dsimp only;rw[hwj];omega,by omega,?_⟩,hs⟩;dsimp only;rw[hik]at ha ⊢;rw[hjk]at hb ⊢;exact YR hh (by omega) ha hb
 ·have he:=cG hh (by omega)
  conv=>whnf
  repeat'((first|apply st|(apply sq;intro K U)|(apply si;intro A B Y Z)|(apply Y;clear Z B Y A)|(apply U;clear U K)|refine⟨rfl,?_⟩|(constructor<;>intro hc<;>(try rw[hc])<;>(replace hc:=bp hc)<;>try(exfalso;omega))|clear U K)<;>conv=>whnf)
  subst he;exact Ao hs (List.Sublist.refl _) (.refl _) fun σ' hs'=>⟨_,⟨rfl,rfl⟩,hs'⟩
set_option maxHeartbeats 4000000 in
theorem Vw (p:Prog) (L:Nat) (l:List Int) (f:Bool) (hok:DF p) (hgw:CR (AP p)) (hfm: ∀x∈p.methods,Ce (AP p) x.fact=true) (hl:Jx p l) (hnd:l.Nodup) (M:List (Int×Int)) :
 Bh Tryz.prog 69 [Fs p L,.l (iL l) f] [.map L (FK p M)] fun r post=> ∃v M',r= .ret v∧post= [.own v 1 (iL (DB (Ag p) l.length (l.mergeSort G5))),.map L (FK p M')]∧((B6 v).isSome=true∨(v= .l [] true∧DB (Ag p) l.length (l.mergeSort G5)= [])):=by
 intro σ hs;have hM:=Mx;have h16:=hl.many;have hml:(l.mergeSort G5).length=l.length:=List.length_mergeSort _;have c1:=P8 l f;have c2:=QC l f (by omega);refine gq nb ?_
 conv=>whnf
 repeat'((first|apply st|(apply sq;intro K U)|(apply si;intro A B Y Z)|(apply Y;clear Z B Y A)|(apply U;clear U K)|refine ld ?_|refine FB fun σ hs=>?_|refine Pure.use c1 ?_|refine Pure.use c2 ?_|(intro nn hnn;generalize hg:BC _ nn _=σ;refine Cm hg fun hs=>?_;clear hg)|fail)<;>conv=>whnf)
 clear c1 c2 hnn
 refine EF (fun(x:List Int×Bool×V×List Int×List (Int×Int))=>x.1.length) (fun x=>[(5,x.2.2.1)]) (fun x=>[.box nn [.l (iL x.1) x.2.1],.own x.2.2.1 1 (iL x.2.2.2.1),.map L (FK p x.2.2.2.2)])
  (fun x=>(∀y∈x.1,A0 p y=true)∧x.1.Nodup∧x.2.2.2.1.length+x.1.length≤16∧DB (Ag p) l.length (l.mergeSort G5)=x.2.2.2.1++DB (Ag p) x.1.length x.1∧((B6 x.2.2.1).isSome=true∨(x.2.2.1= .l [] true∧x.2.2.2.1= []))) (l.mergeSort G5,false,.l [] true,[],M) rfl ⟨fun y hy=>hl.HK y (List.mem_mergeSort.1 hy),(List.mergeSort_perm l G5).symm.nodup hnd,by simpa[hml]using h16,by simp[hml],.inr ⟨rfl,rfl⟩⟩ ((Cv hs 1).perm (.swap _ _ _)) ?_
 clear hs;rintro⟨l',f',v,out,M⟩ σ ⟨hme,hn,hlen,hm,hv⟩ hs;dsimp only at hme hn hlen hm hv hs;dsimp only;have hll:out.length<Ad∧(out.length+1)*8≤140737488355328:=by omega
 by_cases hz:l'.length=0
 ·rw[hz]at hm
  simp only[DB,Hj]at hm
  conv=>whnf
  repeat'((first|apply st|(apply sq;intro K U)|(apply si;intro A B Y Z)|(apply Y;clear Z B Y A)|(apply U;clear U K)|refine⟨rfl,?_⟩|refine ld ?_|(constructor<;>intro hc<;>(try rw[hc])<;>(replace hc:=bp hc)<;>(try simp(disch:=omega) only[BE,wrap64,AL]at hc)<;>try(exfalso;omega))|clear U K)<;>conv=>whnf)
  refine(fj out v (by omega) hv).use (rest:=[_,_]) (hs.perm (.swap _ _ _)) ?_;clear hs;rintro r post σ ⟨v',rfl,rfl,hv'⟩ hs
  conv=>whnf
  repeat'((first|apply st|(apply Y;clear Z B Y A)|(apply U;clear U K)|fail)<;>conv=>whnf)
  rw[hm];exact Ao hs (.cons₂ _ (Jn _ _)) (.refl _) fun σ' hs'=>⟨_,⟨v',M,rfl,rfl,hv'⟩,hs'⟩
 ·obtain⟨n,hnn⟩: ∃n,l'.length=n+1:=⟨l'.length - 1,by omega⟩
  have hne:l'≠[]:=fun e=>hz (by rw[e];rfl)
  obtain⟨i,hi⟩:=QS hok hne hme;have hil:i<l'.length:=by simpa using List.mem_of_find?_eq_some hi
  obtain⟨x,hx⟩: ∃x,l'[i]? =some x:=⟨_,Cu hil⟩
  rw[hnn,DB,hi,Option.getD_some,CG hx]at hm;have c3:=Lz l' f' x (by omega);rw[F4 hn hx]at c3;have hel:=List.length_eraseIdx_of_lt hil
  conv=>whnf
  repeat'((first|apply st|(apply sq;intro K U)|(apply si;intro A B Y Z)|(apply Y;clear Z B Y A)|(apply U;clear U K)|refine⟨rfl,?_⟩|refine ld ?_|(constructor<;>intro hc<;>(try rw[hc])<;>(replace hc:=bp hc)<;>(try simp(disch:=omega) only[BE,wrap64,AL]at hc)<;>try(exfalso;omega))|fail)<;>conv=>whnf)
  refine(ID 104 [] [.p nn 0,.rp [Fs p L]] (fun M=>[.box nn [.l (iL l') f'],.map L (FK p M)]) _ _ (WO p L nn l' f' hok hgw hfm hme) l' f' M (Gz fun y hy _=>hme y hy)).use (rest:=[.own v 1 (iL out)]) (hs.perm (.cons _ (.swap _ _ _))) ?_;clear hs;rintro r post σ ⟨rfl,rfl⟩ hs;rw[XB,hi];generalize (Bn _ l' 0 M).2=M2 at hs;dsimp only
  conv=>whnf
  repeat'((first|apply st|(apply sq;intro K U)|(apply si;intro A B Y Z)|(apply Y;clear Z B Y A)|(apply U;clear U K)|refine F6 ?_|refine ld ?_|refine FB fun σ hs=>?_|refine aq fun v σ hs hsl=>?_|refine Pure.use c3 ?_|clear U K)<;>conv=>whnf)
  refine⟨(l'.eraseIdx i,true,v,out++[x],M2),by dsimp only;omega,rfl,⟨fun y hy=>hme y (List.mem_of_mem_eraseIdx hy),hn.sublist (List.eraseIdx_sublist _ _),by simp;omega,?_,.inl hsl⟩,hs.perm (.cons _ (.swap _ _ _))⟩;dsimp only;rw[hm,hel,show l'.length - 1=n by omega];simp
theorem Yq (os:List Ob) (f:Bool) (v:Int×Int):Pure Tryz.prog 79 [.a (pI v),.rp [.l (os.map Ii) f]] (.b (Cn os.length v)):=by
 have e3:((os.map Ii).length:Int)=os.length:=by simp
 have c1:Pure Tryz.prog 80 [.a (pI v),eI ((os.map Ii).length:Int)] (.b (Cn os.length v)):=by rw[e3];exact dq v os.length
 refine qK nb ?_;have hs:=Sn
 conv=>whnf
 repeat'((first|apply st|(apply sq;intro K U)|(apply si;intro A B Y Z)|(apply Y;clear Z B Y A)|(apply U;clear U K)|refine⟨nb,?_⟩|refine Pure.use c1 ?_|fail)<;>conv=>whnf)
 all_goals exact AI rfl
theorem fl (xs:List (Int×Int)) (v:V) (hl:xs.length≤Ad):Bh Tryz.prog 114 [v] [.own v 2 (pP xs)] fun r post=>r= .ret (.l (pP xs) true)∧post= []:=by
 intro σ hs;have hg:=Cl N2 xs;refine na nb ?_
 conv=>whnf
 repeat'((first|(apply sq;intro K U)|(apply si;intro A B Y Z)|(apply Y;clear Z B Y A)|(apply U;clear U K)|refine lo ?_|fail)<;>conv=>whnf)
 refine WG (i:=0) hs rfl hg.1 (by simpa using hl) fun σ hs=>?_
 conv=>whnf
 repeat'((first|apply st|(apply Y;clear Z B Y A)|(apply U;clear U K)|fail)<;>conv=>whnf)
 exact Ao hs (List.Sublist.refl _) (.refl _) fun σ' hs'=>⟨_,⟨rfl,rfl⟩,hs'⟩
theorem cN (os:List Ob) (f:Bool) (xs:List (Int×Int)) (g:Bool) (hxl:xs.length≤1000):Pure Tryz.prog 78 [.l (pP xs) g,.f (.func 79) [] [.rp [.l (os.map Ii) f]]] (.l (pP (xs.filter (Cn os.length))) true):=by
 refine Pure.of ?_;have hM:=Mx;refine qL nb ?_;have hs:=Sn
 conv=>whnf
 repeat'((first|apply st|(apply sq;intro K U)|(apply si;intro A B Y Z)|(apply Y;clear Z B Y A)|(apply U;clear U K)|fail)<;>conv=>whnf)
 refine B4 xs.length (fun k v=>[(5,v),(10,eI (A6 k))]) (fun k v=>[.own v 2 (pP ((xs.take k).filter (Cn os.length)))]) (fun _ _=>True) (.l [] true) rfl trivial (Ey hs 2) ?_;clear hs;rintro k v σ hk - hs;have hfl:=LV (Cn os.length) (xs.take k);rw[LW]at hfl;rcases BH xs hk with⟨y,hy,hlt⟩|hke
 ·have hst:(xs.take (k+1)).filter (Cn os.length)=if Cn os.length y then(xs.take k).filter (Cn os.length)++[y]else(xs.take k).filter (Cn os.length):=by
   rw[AR hy,List.filter_append];cases hp:Cn os.length y<;>simp[hp]
  generalize (xs.take k).filter (Cn os.length)=zs at *;have hll:zs.length<Ad∧(zs.length+1)*16≤140737488355328:=by omega
  have c1:=Yq os f y;cases hvy:Cn os.length y<;>rw[hvy]at c1 hst
  ·conv=>whnf
   repeat'((first|apply st|(apply sq;intro K U)|(apply si;intro A B Y Z)|(apply Y;clear Z B Y A)|(apply U;clear U K)|refine⟨rfl,?_⟩|refine⟨nb,?_⟩|refine ix ?_|refine ld ?_|refine Dm fun σ hs=>?_|(refine CS (fun hc=>?_)<;>(try rw[hc])<;>clear hc)|refine Bp (Pure.use c1 ?_)|(intro nn hnn;generalize hg:BC _ nn _=σ;refine Cm hg fun hs=>?_;clear hg)|clear U K)<;>conv=>whnf)
   exact⟨hlt,_,rfl,trivial,by rw[hst];exact hs.less (Jn _ _)⟩
  ·conv=>whnf
   repeat'((first|apply st|(apply sq;intro K U)|(apply si;intro A B Y Z)|(apply Y;clear Z B Y A)|(apply U;clear U K)|refine⟨rfl,?_⟩|refine⟨nb,?_⟩|refine ix ?_|refine ld ?_|refine Dm fun σ hs=>?_|(refine CS (fun hc=>?_)<;>(try rw[hc])<;>clear hc)|refine Bp (Pure.use c1 ?_)|refine aq (enc:=pI) (x:=((_:Int),(_:Int))) (fun v σ hs hsl=>?_) (hg:=N2)|(intro nn hnn;generalize hg:BC _ nn _=σ;refine Cm hg fun hs=>?_;clear hg)|clear U K)<;>conv=>whnf)
   exact⟨hlt,_,rfl,trivial,by rw[hst];exact hs.less (Jn _ _)⟩
 ·rw[Ar hke]at hs
  conv=>whnf
  repeat'((first|apply st|(apply sq;intro K U)|(apply si;intro A B Y Z)|(apply Y;clear Z B Y A)|(apply U;clear U K)|refine⟨rfl,?_⟩|(refine Dh (fun hc=>?_)<;>(try rw[hc])<;>clear hc)|clear U K)<;>conv=>whnf)
  refine(fl (xs.filter (Cn os.length)) v (by have:=LV (Cn os.length) xs;omega)).use (rest:=[]) (by simpa using hs) ?_;clear hs;rintro r post σ ⟨rfl,rfl⟩ hs
  conv=>whnf
  repeat'((first|apply st|(apply Y;clear Z B Y A)|(apply U;clear U K)|fail)<;>conv=>whnf)
  exact AO (by rfl)
theorem Xv (f:Fact):Nw f=true→Pure Tryz.prog 116 [.a (xF f)] (eI (DM f)):=by
 induction f using Fact.ind with
 | h f ih=>
   intro ha;refine Pure.fit (by kernel_rfl) fun hf=>?_
   have⟨h2,h3,h4⟩:=IM hf.1;have hM:=Mx;rw[LF]at ha;simp only[BZ,CX,List.all_map,Em]at ha;have c1:=NN f;refine nZ nb ?_;have hs:=Sn;by_cases hlf:Br f=true
   ·rw [hlf]at c1
    have hw:IntKind.i64.wrap (f.arg+1)=f.arg+1:=wrap64 (by omega) (by omega)
    conv=>whnf
    repeat'((first|apply st|(apply sq;intro K U)|(apply si;intro A B Y Z)|(apply Y;clear Z B Y A)|(apply U;clear U K)|refine⟨rfl,?_⟩|refine⟨nb,?_⟩|refine Pure.use c1 ?_|fail)<;>conv=>whnf)
    all_goals
     refine B4 f.kids.length (fun k (_:Unit)=>[(3,eI (((f.kids.take k).map DM).foldl HA (if Br f then f.arg+1 else 0))),(14,eI (A6 k))]) (fun _ _=>[]) (fun _ _=>True) () (by rw[hw,if_pos hlf];rfl) trivial hs ?_;clear hs;rintro k - σ hk - hs;rcases BH f.kids hk with⟨x,hx,hlt⟩|hke
     ·have hxs:=ih x (B2 hx) (ha.2 x (B2 hx))
      conv=>whnf
      repeat'((first|apply st|(apply sq;intro K U)|(apply si;intro A B Y Z)|(apply Y;clear Z B Y A)|(apply U;clear U K)|refine⟨rfl,?_⟩|refine⟨nb,?_⟩|refine NB ?_|refine ld ?_|refine Dm fun σ hs=>?_|(refine CS (fun hc=>?_)<;>(try rw[hc])<;>clear hc)|(intro nn hnn;generalize hg:BC _ nn _=σ;refine Cm hg fun hs=>?_;clear hg)|refine Pure.use (by assumption) ?_|clear U K)<;>conv=>whnf)
      exact⟨hlt,(),by rw[Ee _ _ _ hx];rfl,trivial,hs.take 0⟩
     ·conv=>whnf
      repeat'((first|apply st|(apply sq;intro K U)|(apply si;intro A B Y Z)|(apply Y;clear Z B Y A)|(apply U;clear U K)|refine⟨rfl,?_⟩|(refine Dh (fun hc=>?_)<;>(try rw[hc])<;>clear hc)|clear U K)<;>conv=>whnf)
      exact AI (by rw[Ar hke,←D7])
   ·rw [Bool.not_eq_true]at hlf
    rw[hlf]at c1;have hlf2: ¬Br f=true:=by rw[hlf];decide
    conv=>whnf
    repeat'((first|apply st|(apply sq;intro K U)|(apply si;intro A B Y Z)|(apply Y;clear Z B Y A)|(apply U;clear U K)|refine⟨nb,?_⟩|refine Pure.use c1 ?_|fail)<;>conv=>whnf)
    all_goals
     refine B4 f.kids.length (fun k (_:Unit)=>[(3,eI (((f.kids.take k).map DM).foldl HA (if Br f then f.arg+1 else 0))),(14,eI (A6 k))]) (fun _ _=>[]) (fun _ _=>True) () (by rw[if_neg hlf2];rfl) trivial hs ?_;clear hs;rintro k - σ hk - hs;rcases BH f.kids hk with⟨x,hx,hlt⟩|hke
     ·have hxs:=ih x (B2 hx) (ha.2 x (B2 hx))
      conv=>whnf
      repeat'((first|apply st|(apply sq;intro K U)|(apply si;intro A B Y Z)|(apply Y;clear Z B Y A)|(apply U;clear U K)|refine⟨rfl,?_⟩|refine⟨nb,?_⟩|refine NB ?_|refine ld ?_|refine Dm fun σ hs=>?_|(refine CS (fun hc=>?_)<;>(try rw[hc])<;>clear hc)|(intro nn hnn;generalize hg:BC _ nn _=σ;refine Cm hg fun hs=>?_;clear hg)|refine Pure.use (by assumption) ?_|clear U K)<;>conv=>whnf)
      exact⟨hlt,(),by rw[Ee _ _ _ hx];rfl,trivial,hs.take 0⟩
     ·conv=>whnf
      repeat'((first|apply st|(apply sq;intro K U)|(apply si;intro A B Y Z)|(apply Y;clear Z B Y A)|(apply U;clear U K)|refine⟨rfl,?_⟩|(refine Dh (fun hc=>?_)<;>(try rw[hc])<;>clear hc)|clear U K)<;>conv=>whnf)
      exact AI (by rw[Ar hke,←D7])
theorem Sz (v:Int×Int) (n:Int):Pure Tryz.prog 149 [.a (pI v),eI n] (.b (Cn n v)):=by
 obtain⟨k,x⟩:=v;refine mu nb ?_;have hs:=Sn
 conv=>whnf
 repeat'((first|apply st|(apply sq;intro K U)|(apply si;intro A B Y Z)|(apply Y;clear Z B Y A)|(apply U;clear U K)|refine⟨rfl,?_⟩|(constructor<;>intro hc<;>(try rw[hc])<;>(replace hc:=bp hc)<;>(try simp(disch:=omega) only[BE,wrap64,AL]at hc))|clear U K)<;>conv=>whnf)
 all_goals exact AI (by simp[Cn, *]<;>omega)
theorem Vs (os:List Ob) (f:Bool) (v:Int×Int):Pure Tryz.prog 148 [.a (pI v),.rp [.l (os.map Ii) f]] (.b (Cn os.length v)):=by
 have e3:((os.map Ii).length:Int)=os.length:=by simp
 have c1:Pure Tryz.prog 149 [.a (pI v),eI ((os.map Ii).length:Int)] (.b (Cn os.length v)):=by rw[e3];exact Sz v os.length
 refine mw nb ?_;have hs:=Sn
 conv=>whnf
 repeat'((first|apply st|(apply sq;intro K U)|(apply si;intro A B Y Z)|(apply Y;clear Z B Y A)|(apply U;clear U K)|refine⟨nb,?_⟩|refine Pure.use c1 ?_|fail)<;>conv=>whnf)
 all_goals exact AI rfl
def Nx (g:FuncId) (fi ca:List V) (q:Int×Int→Bool):Prop:= ∀v,Pure Tryz.prog g (fi++[.a (pI v)]++ca) (.b (q v))
theorem Nx.use {g:FuncId} {fi ca:List V} {q:Int×Int→Bool} (h:Nx g fi ca q) {v:Int×Int} {σ:AH} {k kp:V→AH→Prop} (hk:k (.b (q v)) σ):A8 Tryz.prog (.f (.func g) fi ca) [.a (pI v)] σ (qk k kp):=Bp ((h v).use hk)
theorem Vp {g:FuncId} {fi ca:List V} {q:Int×Int→Bool} (hpf:Nx g fi ca q) (v:Int×Int):Pure Tryz.prog 191 [.a (pI v),.rp [.f (.func g) fi ca]] (.b (!q v)):=by
 refine mA nb ?_;have hs:=Sn
 conv=>whnf
 repeat'((first|apply st|(apply sq;intro K U)|(apply si;intro A B Y Z)|(apply Y;clear Z B Y A)|(apply U;clear U K)|refine⟨nb,?_⟩|refine Nx.use hpf ?_|fail)<;>conv=>whnf)
 all_goals exact AI rfl
def Ni {α:Type} (q:α→Bool):List α→Nat→Int
 | [],_=> -1
 | v::r,k=>if q v then Ni q r (k+1)else k
theorem OU {α:Type} (q:α→Bool): ∀(l:List α) (k:Nat),decide (Ni q l k≥0)= !l.all q
 | [],_=>rfl
 | v ::r,k=>by
   rw[Ni,NA];cases q v
   ·rw[if_neg (by decide),Bool.false_and]
    exact decide_eq_true (Int.natCast_nonneg k)
   ·rw[if_pos rfl,Fm]
    exact OU q r (k+1)
theorem cC {g:FuncId} {fi ca:List V} {q:Int×Int→Bool} (hpf:Nx g fi ca q) (l:List (Int×Int)) (b:Bool):Pure Tryz.prog 239 [.l (pP l) b,.f (.func 191) [] [.rp [.f (.func g) fi ca]]] (eI (Ni q l 0)):=by
 refine Pure.fit (by kernel_rfl) fun hf=>?_
 have hl:l.length≤Ad:=by
  have:=hf.1;simp only[Fq,BE]at this;exact this.1
 have hM:=Mx;refine lG nb ?_;have hs:=Sn
 conv=>whnf
 repeat'((first|apply st|(apply sq;intro K U)|(apply si;intro A B Y Z)|(apply Y;clear Z B Y A)|(apply U;clear U K)|fail)<;>conv=>whnf)
 refine B4 l.length (fun k (_:Unit)=>[(8,eI (A6 k))]) (fun _ _=>[]) (fun k _=>Ni q l 0=Ni q (l.drop k) k) () rfl rfl hs ?_;clear hs;rintro k - σ hk hn hs;have hck:A6 k=k:=AL (by omega);rcases BH l hk with⟨x,hx,hlt⟩|hke
 ·have c1:=Vp hpf x
  rw[drop_cons hx,Ni]at hn;cases hv:q x<;>rw[hv]at c1 hn
  ·conv=>whnf
   repeat'((first|apply st|(apply sq;intro K U)|(apply si;intro A B Y Z)|(apply Y;clear Z B Y A)|(apply U;clear U K)|refine⟨rfl,?_⟩|refine⟨nb,?_⟩|refine ix ?_|refine E0 ?_|(refine CS (fun hc=>?_)<;>(try rw[hc])<;>clear hc)|refine Bp (Pure.use c1 ?_)|clear U K)<;>conv=>whnf)
   exact AI (by rw[hn,if_neg (by decide),hck])
  ·conv=>whnf
   repeat'((first|apply st|(apply sq;intro K U)|(apply si;intro A B Y Z)|(apply Y;clear Z B Y A)|(apply U;clear U K)|refine⟨rfl,?_⟩|refine⟨nb,?_⟩|refine ix ?_|refine D2 ?_|(refine CS (fun hc=>?_)<;>(try rw[hc])<;>clear hc)|refine Bp (Pure.use c1 ?_)|clear U K)<;>conv=>whnf)
   exact⟨hlt,(),rfl,by rw[hn,if_pos rfl],hs⟩
 ·conv=>whnf
  repeat'((first|apply st|(apply sq;intro K U)|(apply si;intro A B Y Z)|(apply Y;clear Z B Y A)|(apply U;clear U K)|refine⟨rfl,?_⟩|(refine Dh (fun hc=>?_)<;>(try rw[hc])<;>clear hc)|clear U K)<;>conv=>whnf)
  exact AI (by rw[hn,Al hke];rfl)
theorem UK {g:FuncId} {fi ca:List V} {q:Int×Int→Bool} (hpf:Nx g fi ca q) (l:List (Int×Int)) (b:Bool):Pure Tryz.prog 190 [.l (pP l) b,.f (.func 191) [] [.rp [.f (.func g) fi ca]]] (.b (!l.all q)):=by
 have c1:=cC hpf l b;refine mB nb ?_;have hs:=Sn
 conv=>whnf
 repeat'((first|apply st|(apply sq;intro K U)|(apply si;intro A B Y Z)|(apply Y;clear Z B Y A)|(apply U;clear U K)|refine⟨rfl,?_⟩|refine Pure.use c1 ?_|fail)<;>conv=>whnf)
 all_goals exact AI (by rw[←OU q l 0])
theorem aV {g:FuncId} {fi ca:List V} {q:Int×Int→Bool} (hpf:Nx g fi ca q) (l:List (Int×Int)) (b:Bool):Pure Tryz.prog 147 [.l (pP l) b,.f (.func g) fi ca] (.b (l.all q)):=by
 have c1:=UK hpf l b;refine mz nb ?_;have hs:=Sn
 conv=>whnf
 repeat'((first|apply st|(apply sq;intro K U)|(apply si;intro A B Y Z)|(apply Y;clear Z B Y A)|(apply U;clear U K)|refine Pure.use c1 ?_|fail)<;>conv=>whnf)
 all_goals exact AI (by rw[Bool.not_not])
theorem Z3 (w:AK) (hw:CR w) (c s:Int) (hc0:3≤c) (hc1:c<3+w.parents.length) (hs0:0≤s) (hs1:s<w.owner.length):Pure Tryz.prog 192 [.rp (wC w (CE w.parents)),eI c,eI s] (.b (((CE w.parents).getD c.toNat 0).testBit (CV w s).toNat)):=by
 have hM:=Mx;have hwp:=hw.1.1;have hol:=hw.2.1;have hu:ot (CE w.parents):=HP _ _ (by have:=hw.1.1;omega);have hul:(CE w.parents).length=3+w.parents.length:=Er _ _;obtain⟨o,ho⟩: ∃o,w.owner[s.toNat]? =some o:=⟨_,Cu (by omega)⟩
 have hoi:CV w s=o:=by rw[CV,DL,ho];rfl
 have hor:=hw.2.2 o (B2 ho);generalize CE w.parents=us at *
 have hup:(List.drop (c.toNat*1) (List.drop 2 (wC w us)))[0]? =some (eU (us.getD c.toNat 0)):=by
  rw[dE,dE,←V6 w us (i:=c.toNat) (by omega)];congr 1;omega
 rw[hoi]
 have c1:Pure Tryz.prog 152 [eU (us.getD c.toNat 0),eI o] (.b ((us.getD c.toNat 0).testBit o.toNat)):=by
  have:=N0 (us.getD c.toNat 0) o.toNat (Lp hu _) (by omega)
  rwa [Int.toNat_of_nonneg (by omega)]at this
 refine l9 nb ?_;have hs:=Sn
 conv=>whnf
 repeat'((first|apply st|(apply sq;intro K U)|(apply si;intro A B Y Z)|(apply Y;clear Z B Y A)|(apply U;clear U K)|apply dr|refine o0 ?_|fail)<;>conv=>whnf)
 rw[hup]
 conv=>whnf
 repeat'((first|apply st|(apply Y;clear Z B Y A)|(apply U;clear U K)|apply dr|refine F6 ?_|refine Pure.use c1 ?_|fail)<;>conv=>whnf)
 all_goals exact AI rfl
theorem Ww {w:AK} (hw:CR w) (hw2:Ld w) {c s:Int} (hc0:3≤c) (hc1:c<3+w.parents.length) (hs0:0≤s) (hs1:s<w.owner.length):hasB w c s=((CE w.parents).getD c.toNat 0).testBit (CV w s).toNat:=by
 have ho:=RP hw2 ⟨hs0,hs1⟩;rw[N7 hw2.ord (by omega),hasB,decide_eq_true hc0,Fm,M0,decide_eq_true hc0,Fm];have e0:(CV w s==0)=false:=by rw[beq_eq_false_iff_ne];omega
 have e1:((CV w s).toNat==0)=false:=by rw[beq_eq_false_iff_ne];omega
 rw[e0,e1,Bool.false_or];by_cases h:c=CV w s
 ·rw[←h,Fg hw2.ord];simp
 ·rw[beq_eq_false_iff_ne.2 h,Bool.false_or]
theorem TC (w:AK) (c:Int) (hw:CR w) (hw2:Ld w) (hc0:3≤c) (hc1:c<3+w.parents.length):Pure Tryz.prog 188 [.rp (wC w (CE w.parents)),eI c] (.l (iL (Dd w c)) false):=by
 have hM:=Mx;have hol:=hw2.iX;refine mD nb ?_;have hs:=Sn
 conv=>whnf
 repeat'((first|apply st|(apply sq;intro K U)|(apply si;intro A B Y Z)|(apply Y;clear Z B Y A)|(apply U;clear U K)|fail)<;>conv=>whnf)
 refine B4 w.owner.length (fun k v=>[(5,v),(13,eI (A6 k))]) (fun k v=>[.own v 1 (iL ((Bu k).filter (hasB w c)))]) (fun _ _=>True) (.l [] true) rfl trivial (Ey Sat.nil 1) ?_;clear hs;rintro k v σ hk - hs;have hfl:=LV (hasB w c) (Bu k);rw[Eh]at hfl;rcases BH w.owner hk with⟨s,hso,hlt⟩|hke
 ·have hck:A6 k=k:=AL (by omega)
  have c1:Pure Tryz.prog 192 [.rp (wC w (CE w.parents)),eI c,eI (A6 k)] (.b (hasB w c k)):=by rw[hck,Ww hw hw2 hc0 hc1 (by omega) (by omega)];exact Z3 w hw c k hc0 hc1 (by omega) (by omega)
  have hst:(Bu (k+1)).filter (hasB w c)=if hasB w c k then(Bu k).filter (hasB w c)++[(k:Int)]else(Bu k).filter (hasB w c):=by
   rw[Gm,List.filter_append];cases hp:hasB w c k<;>simp[hp]
  generalize (Bu k).filter (hasB w c)=zs at *;have hll:zs.length<Ad∧(zs.length+1)*8≤140737488355328:=by omega
  cases hh:hasB w c k<;>rw[hh]at c1 hst
  ·conv=>whnf
   repeat'((first|apply st|(apply sq;intro K U)|(apply si;intro A B Y Z)|(apply Y;clear Z B Y A)|(apply U;clear U K)|refine⟨rfl,?_⟩|(refine CS (fun hc=>?_)<;>(try rw[hc])<;>clear hc)|refine Pure.use c1 ?_|clear U K)<;>conv=>whnf)
   exact⟨hlt,_,rfl,trivial,by rw[hst];exact hs⟩
  ·conv=>whnf
   repeat'((first|apply st|(apply sq;intro K U)|(apply si;intro A B Y Z)|(apply Y;clear Z B Y A)|(apply U;clear U K)|refine⟨rfl,?_⟩|refine aq fun v σ hs hsl=>?_|(refine CS (fun hc=>?_)<;>(try rw[hc])<;>clear hc)|refine Pure.use c1 ?_|clear U K)<;>conv=>whnf)
   exact⟨hlt,_,rfl,trivial,by rw[hst,←hck];exact hs⟩
 ·rw[hke]at hs
  conv=>whnf
  repeat'((first|apply st|(apply sq;intro K U)|(apply si;intro A B Y Z)|(apply Y;clear Z B Y A)|(apply U;clear U K)|refine⟨rfl,?_⟩|(refine Dh (fun hc=>?_)<;>(try rw[hc])<;>clear hc)|clear U K)<;>conv=>whnf)
  exact BV (hs.NC 0 rfl)
end Go.Gl
namespace Go.Gl
variable {P:Program} {σ:AH}
theorem BL.P0 {f:FuncId} {args args':List V} {σ σ2:AH} {Q:R→AH→Prop} (h:BL P f args' σ2 Q) (hsub:Sub σ2 σ) (hf:Dq σ σ2 args args'):BL P f args σ Q:=by
 refine⟨h.1,fun Λ w cs G hv=>?_⟩;exact Calls.mono (h.2 Λ w cs (G.drop hsub) ⟨by rw[hf.length];exact hv.1,hf.rel G hsub (fun _ _ e=>e) hv.2⟩) fun e w' ⟨r,σ',hr,h1,h2,h3⟩=>⟨r,σ',hr,h1,h2,(CL.drop w hsub).trans h3⟩
theorem Pure.arg {f:FuncId} {args args':List V} {v:V} (h:Pure P f args' v) (hf:Dq emp emp args args'):Pure P f args v:=BL.P0 h (Sub.refl _) hf
theorem Own.pF {v:V} {sz:Nat} {es es':List (List V)} (h:Own σ v sz es) (G:Fo σ emp es es'):Gq σ emp v (.l es' false):=by
 rcases h with⟨rfl,_⟩|⟨n,cap,rfl,hn⟩
 ·exact .l (fun h=>(by cases h)) G
 ·exact .arr hn rfl rfl G
theorem ON {α:Type} {e e':α→List V} (h: ∀x,Dq σ emp (e x) (e' x)): ∀xs:List α,Fo σ emp (xs.map e) (xs.map e')
 | []=> .nil
 | x::r=> .cons (h x) (ON h r)
end Go.Gl
