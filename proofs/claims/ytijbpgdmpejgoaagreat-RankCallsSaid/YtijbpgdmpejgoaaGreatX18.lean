import Derived.Test.YtijbpgdmpejgoaaGreatX11
import Derived.Test.YtijbpgdmpejgoaaGreatX12
import Derived.Test.YtijbpgdmpejgoaaGreatX13
import Derived.Test.YtijbpgdmpejgoaaGreatX14
import Derived.Test.YtijbpgdmpejgoaaGreatX17
set_option linter.all false
set_option linter.defProp false
noncomputable section
namespace Go.Gl
open Go.Proofs
inductive UX where
 | int (n:Int)
 | Y5
 | obj (AF:Nat→Bool) (kid:Int→UX)
def KW (w:AK):UX→Prop
 | .int n=> -1000000000≤n∧n≤1000000000
 | .Y5=>True
 | .obj AF kid=>(∀c,3≤c→AF c=true→ ∀q∈par w.parents c,AF q.toNat=true)∧ ∀s,KW w (kid s)
def Is (t:UX) (f:Fact):Bool:=match t with
 | .int n=>if f.op=2 then !decide (f.cls > 1)else if f.op=3 then decide (n<f.n)else decide (n=f.n)
 | .Y5=>f.op==2&&(f.cls==0||f.cls==2)
 | .obj AF _=>f.op==2&&(f.cls==0||(decide (3≤f.cls)&&AF f.cls.toNat))
def SR (w:AK):UX→List Int→Fact→Bool
 | t,[],f=>Is t f
 | .obj AF kid,s::r,f=>AF (CV w s).toNat&&SR w (kid s) r f
 | _,_::_,_=>false
structure Ib (w:AK) (l:Fact):Prop where
 op:(A2 l).1.op=2∨(A2 l).1.op=3∨(A2 l).1.op=4
 cls:(A2 l).1.op=2→0≤(A2 l).1.cls∧(A2 l).1.cls<3+w.parents.length
 arg:0≤(A2 l).1.arg∧(A2 l).1.arg<3
 path: ∀s∈(A2 l).1.path,(0:Int)≤s∧s<w.owner.length
 short:(A2 l).1.path.length≤2
def Wo {w:AK} {l:Fact} (h:Ic w l):Ib w l:=by
 obtain⟨-,hn,hl⟩:=HW h;have hlo:=F0 hl;have q:=I4 (w:=w) (l:=[l]) (fun x hx=>by rw[KM.1 hx];exact h);rw[Ci,BZ]at hn;have hn:=hn.1;simp only[DC,BZ,CY]at hn;obtain⟨ho,-,ha1,ha2,hp,-⟩:=hn;simp only[E3,BZ,E0,HH,CY]at hp;exact⟨hlo,q.2.1 l (.head _),⟨ha1,ha2⟩,fun s hs=>hp.1 s hs,hp.2⟩
def iI (t:Int×Int×List Int) (m:Int):Prop:=t.1≤m∧m≤t.2.1∧m∉t.2.2
def Xo {w:AK} {l:Fact} (hl:Ib w l) (t:Int×Int×List Int) (m:Int):(∃t',HG (A2 l) t=some t'∧iI t' m)↔iI t m∧Is (.int m) (A2 l).1= !(A2 l).2:=by
 have h1:=hl.op;generalize A2 l=x at *;obtain⟨f,b⟩:=x;obtain⟨lo,hi,no⟩:=t;simp only[HG,iI,Is]at *;rcases h1 with h|h|h
 ·rw[if_pos h,if_pos h]
  by_cases hc:f.cls > 1<;>cases b<;>simp[hc]
 ·have h2: ¬f.op=2:=by omega
  rw[if_neg h2,if_pos h,if_neg h2,if_pos h];cases b
  ·simp only[Lb,if_false,IU,exists_eq_left',Bool.not_false,CY]
   split<;>constructor<;>rintro⟨h3,h4⟩
   ·exact⟨⟨h3,by omega,h4.2⟩,by omega⟩
   ·exact⟨h3.1,by omega,h3.2.2⟩
   ·exact⟨⟨h3,h4⟩,by omega⟩
   ·exact h3
  ·simp only[if_true,IU,exists_eq_left',Bool.not_true,decide_eq_false_iff_not]
   split<;>constructor<;>rintro⟨h3,h4⟩
   ·exact⟨⟨by omega,h4⟩,by omega⟩
   ·exact⟨by omega,h3.2⟩
   ·exact⟨⟨h3,h4⟩,by omega⟩
   ·exact h3
 ·have h2: ¬f.op=2:=by omega
  have h3: ¬f.op=3:=by omega
  rw[if_neg h2,if_neg h3,if_neg h2,if_neg h3];cases b
  ·simp only[Lb,if_false,IU,exists_eq_left',Bool.not_false,CY]
   constructor
   ·rintro⟨h3,h4,h5⟩
    split at h3<;>split at h4<;>exact⟨⟨by omega,by omega,h5⟩,by omega⟩
   ·rintro⟨⟨h3,h4,h5⟩,rfl⟩
    refine⟨?_,?_,h5⟩
    ·split<;>omega
    ·split<;>omega
  ·simp only[if_true,IU,exists_eq_left',Bool.not_true,decide_eq_false_iff_not,Fo,KM,not_or]
   constructor
   ·rintro⟨h3,h4,h5,h6⟩
    exact⟨⟨h3,h4,h5⟩,h6⟩
   ·rintro⟨⟨h3,h4,h5⟩,h6⟩
    exact⟨h3,h4,h5,h6⟩
def JQ {w:AK} (m:Int): ∀(os:List Fact) (t:Int×Int×List Int),(∀l∈os,Ib w l)→((∃t',foldI os t=some t'∧iI t' m)↔iI t m∧ ∀l∈os,Is (.int m) (A2 l).1= !(A2 l).2)
 | [],t,_=>by simp[foldI]
 | x ::r,t,h=>by
   have h1:=Xo (h x (.head _)) t m;constructor
   ·rintro⟨t',h2,h3⟩
    rw[foldI,Option.bind_eq_some_iff]at h2;obtain⟨u,h4,h5⟩:=h2;obtain⟨h6,h7⟩:=(JQ m r u fun l hl=>h l (.tail _ hl)).1 ⟨t',h5,h3⟩;obtain⟨h8,h9⟩:=h1.1 ⟨u,h4,h6⟩;refine⟨h8,fun l hl=>?_⟩;rcases GB.1 hl with rfl|hl
    ·exact h9
    ·exact h7 l hl
   ·rintro⟨h2,h3⟩
    obtain⟨u,h4,h5⟩:=h1.2 ⟨h2,h3 x (.head _)⟩;obtain⟨t',h6,h7⟩:=(JQ m r u fun l hl=>h l (.tail _ hl)).2 ⟨h5,fun l hl=>h3 l (.tail _ hl)⟩;exact⟨t',by rw[foldI,h4];exact h6,h7⟩
def QB (t:Int×Int×List Int):(Nk t).isSome=true↔ ∃m,iI t m:=by
 obtain⟨lo,hi,no⟩:=t;rw[Nk,L9];constructor
 ·rintro⟨j,h1,h2⟩
  exact⟨lo+j,by simp only[iI]at *;omega,by simp only[]at *;omega,h2⟩
 ·rintro⟨m,h1,h2,h3⟩
  dsimp only at h1 h2 h3 ⊢;exact⟨(m - lo).toNat,by omega,by rw[show lo+((m - lo).toNat:Int)=m by omega];exact h3⟩
def Ht {a:Int} {p:List Int} {l:Fact}:Gs a p l=true↔(A2 l).1.arg=a∧(A2 l).1.path=p:=by
 rw[Gs,BZ,Dn,Dn]
def bq {w:AK} {ls:List Fact} (hl: ∀l∈ls,Ib w l) (a:Int) (p:List Int):(Ie ls a p).isSome=true↔ ∃m,(-1000000000≤m∧m≤1000000000)∧ ∀l∈ls,(A2 l).1.arg=a→(A2 l).1.path=p→Is (.int m) (A2 l).1= !(A2 l).2:=by
 have hL: ∀l∈ls.filter (Gs a p),Ib w l:=fun l h=>hl l (JZ.1 h).1
 rw[Ie];constructor
 ·intro h
  cases hf:foldI (ls.filter (Gs a p)) t0 with
  | none=>rw[hf]at h;cases h
  | some t=>
    rw[hf]at h;obtain⟨m,hm⟩:=(QB t).1 h;obtain⟨h1,h2⟩:=(JQ m _ t0 hL).1 ⟨t,hf,hm⟩;exact⟨m,⟨h1.1,h1.2.1⟩,fun l h3 h4 h5=>h2 l (JZ.2 ⟨h3,Ht.2 ⟨h4,h5⟩⟩)⟩
 ·rintro⟨m,h1,h2⟩
  obtain⟨t,h3,h4⟩:=(JQ m (ls.filter (Gs a p)) t0 hL).2 ⟨⟨h1.1,h1.2,by simp[t0]⟩,fun l h=>by
   obtain⟨h5,h6⟩:=JZ.1 h
   exact h2 l h5 (Ht.1 h6).1 (Ht.1 h6).2⟩
  rw[h3];exact(QB t).2 ⟨m,h4⟩
def LF {ls:List Fact} {a:Int} {p:List Int}:ER ls a p=true↔ ∀l∈ls,(A2 l).1.arg=a→ ∀q,(A2 l).1.path=p++q→(A2 l).2=true:=by
 rw[ER,E0];constructor
 ·intro h l hl ha q hq
  have:=h l hl;rw[Fz]at this;rcases this with h1|h1
  ·exact h1
  ·rw[ha,hq]at h1
   have h2:Bx (p++q) p=true:=Ce.2 ⟨q,rfl⟩;simp[h2]at h1
 ·intro h l hl
  rw[Fz];by_cases h1:(A2 l).1.arg=a∧Bx (A2 l).1.path p=true
  ·obtain⟨q,hq⟩:=Ce.1 h1.2
   exact .inl (h l hl h1.1 q hq)
  ·right
   simp only[Bool.not_eq_true',Bool.and_eq_false_iff,beq_eq_false_iff_ne];rcases Classical.em ((A2 l).1.arg=a)with e|e
   ·exact .inr (by simpa[e]using h1)
   ·exact .inl e
def QF {w:AK} {ls:List Fact} (hl: ∀l∈ls,Ib w l) {a:Int} {p:List Int} {s:Int}:s∈Bs w.owner.length ls a p↔ ∃l∈ls,(A2 l).1.arg=a∧ ∃q,(A2 l).1.path=p++s::q:=by
 rw[Bs,JZ,JY,FT];constructor
 ·rintro⟨-,l,h1,h2⟩
  rw[V3,BZ,Dn]at h2;obtain⟨q,hq⟩:=Ce.1 h2.2;exact⟨l,h1,h2.1,q,by rw[hq];simp⟩
 ·rintro⟨l,h1,h2,q,hq⟩
  refine⟨(hl l h1).path s (by rw[hq];simp),l,h1,?_⟩;rw[V3,BZ,Dn];exact⟨h2,Ce.2 ⟨q,by rw[hq];simp⟩⟩
def Te {w:AK} {ls:List Fact} (hl: ∀l∈ls,Ib w l) {a:Int} {p:List Int}:FJ w.owner.length ls a p=true↔ ∀l∈ls,(A2 l).1.arg=a→ ∀s q,(A2 l).1.path=p++s::q→(A2 l).2=true:=by
 rw[FJ,E0];constructor
 ·intro h l h1 h2 s q hq
  exact LF.1 (h s ((QF hl).2 ⟨l,h1,h2,q,hq⟩)) l h1 h2 q (by rw[hq];simp)
 ·intro h s _
  exact LF.2 fun l h1 h2 q hq=>h l h1 h2 s q (by rw[hq];simp)
def RP {w:AK} (hw:Ja w) {s:Int} (h:0≤s∧s<(w.owner.length:Int)):3≤CV w s∧CV w s<3+w.parents.length:=by
 have hs:s.toNat<w.owner.length:=by omega
 have:CV w s=w.owner[s.toNat]:=by rw[CV,DK,Ct hs];rfl
 rw[this];exact hw.own _ (List.getElem_mem hs)
def gD (t:BB) (AF:Nat→Bool):Prop:=(∀c,t.1.getD c false=true→c=0∨AF c=true)∧ ∀c,t.2.getD c false=true→c≠0∧AF c=false
def RA (t t':BB):Prop:=t.1.length=t'.1.length∧t.2.length=t'.2.length∧(∀c,t.1.getD c false=true→t'.1.getD c false=true)∧ ∀c,t.2.getD c false=true→t'.2.getD c false=true
def RA.dN {t:BB}:RA t t:=⟨rfl,rfl,fun _ h=>h,fun _ h=>h⟩
def RA.trans {t u v:BB} (h:RA t u) (k:RA u v):RA t v:=⟨h.1.trans k.1,h.2.1.trans k.2.1,fun c hc=>k.2.2.1 c (h.2.2.1 c hc),fun c hc=>k.2.2.2 c (h.2.2.2 c hc)⟩
def Kv {l:List Bool} {c b:Nat} (h:(l.set c true).getD b false=true):l.getD b false=true∨b=c:=by
 by_cases e:b=c
 ·exact .inr e
 ·rw[DK,List.getElem?_set_ne (fun h=>e h.symm),←DK]at h
  exact .inl h
def Kx {l:List Bool} {c b:Nat} (h:l.getD b false=true):(l.set c true).getD b false=true:=by
 by_cases e:c<l.length
 ·rw[EU e]
  split
  ·rfl
  ·exact h
 ·rw[List.set_eq_of_length_le (by omega)];exact h
def Kw {l:List Bool} {c:Nat} (h:c<l.length):(l.set c true).getD c false=true:=by
 rw[EU h,if_pos rfl]
def RA.vW {t:BB} (c:Nat):RA t (t.1.set c true,t.2):=⟨by simp,rfl,fun _ h=>Kx h,fun _ h=>h⟩
def RA.vV {t:BB} (c:Nat):RA t (t.1,t.2.set c true):=⟨rfl,by simp,fun _ h=>h,fun _ h=>Kx h⟩
def Uf (t:BB) (f:Fact) (b:Bool):Prop:=if f.op≠2∨f.cls=1∨f.cls=2 then b=true else if b then t.2.getD f.cls.toNat false=true else t.1.getD f.cls.toNat false=true
def Qw {t t':BB} (h:RA t t') {f:Fact} {b:Bool} (k:Uf t f b):Uf t' f b:=by
 unfold Uf at *;split
 ·rename_i h1;rw[if_pos h1]at k;exact k
 ·rename_i h1;rw[if_neg h1]at k
  split
  ·rename_i h2;rw[if_pos h2]at k;exact h.2.2.2 _ k
  ·rename_i h2;rw[if_neg h2]at k;exact h.2.2.1 _ k
def az {w:AK} {l:Fact} (hl:Ib w l) {t t':BB} (hn:t.1.length=3+w.parents.length∧t.2.length=3+w.parents.length) (h:GF (A2 l) t=some t'):RA t t'∧Uf t' (A2 l).1 (A2 l).2:=by
 have hc:=hl.cls;generalize A2 l=x at *;obtain⟨f,b⟩:=x;simp only[GF,Uf]at *;split at h
 ·rename_i h1
  rw[if_pos h1];cases b
  ·cases h
  ·obtain rfl:=Option.some.inj h
   exact⟨RA.dN,rfl⟩
 ·rename_i h1
  rw[if_neg h1]
  have h2:f.op=2:=by
   rcases Classical.em (f.op=2)with e|e
   ·exact e
   ·exact absurd (Or.inl e) h1
  have:=hc h2;cases b
  ·obtain rfl:=Option.some.inj h
   exact⟨.vW _,by rw[if_neg (by decide)];exact Kw (by omega)⟩
  ·obtain rfl:=Option.some.inj h
   exact⟨.vV _,by rw[if_pos rfl];exact Kw (by omega)⟩
def Xl {w:AK} {l:Fact} (hl:Ib w l) {t:BB} {AF:Nat→Bool} {kid:Int→UX} (hi:gD t AF) (h:Is (.obj AF kid) (A2 l).1= !(A2 l).2): ∃t',GF (A2 l) t=some t'∧gD t' AF:=by
 have hc:=hl.cls;generalize A2 l=x at *;obtain⟨f,b⟩:=x;simp only[GF,Is]at *;by_cases h1:f.op≠2∨f.cls=1∨f.cls=2
 ·rw[if_pos h1]
  have h2:(f.op==2&&(f.cls==0||(decide (3≤f.cls)&&AF f.cls.toNat)))=false:=by
   rcases h1 with h1|h1|h1
   ·simp[h1]
   ·simp[h1]
   ·simp[h1]
  rw[h2]at h;cases b
  ·cases h
  ·exact⟨t,rfl,hi⟩
 ·rw [if_neg h1]
  have h2:f.op=2:=by
   rcases Classical.em (f.op=2)with e|e
   ·exact e
   ·exact absurd (Or.inl e) h1
  have hr:=hc h2;have h3:f.cls≠1∧f.cls≠2:=⟨fun e=>h1 (.inr (.inl e)),fun e=>h1 (.inr (.inr e))⟩
  have h4:(f.op==2&&(f.cls==0||(decide (3≤f.cls)&&AF f.cls.toNat)))=(decide (f.cls=0)||AF f.cls.toNat):=by
   rw[h2];rcases Classical.em (f.cls=0)with e|e
   ·simp[e]
   ·have:3≤f.cls:=by omega
    simp[e,this]
  rw[h4]at h;cases b
  ·refine⟨_,rfl,fun c hh=>?_,hi.2⟩
   rcases Kv hh with hh|rfl
   ·exact hi.1 c hh
   ·simp only[Bool.not_false,Fz,CY]at h
    rcases h with h|h
    ·exact .inl (by omega)
    ·exact .inr h
  ·refine⟨_,rfl,hi.1,fun c hh=>?_⟩
   rcases Kv hh with hh|rfl
   ·exact hi.2 c hh
   ·simp only[Bool.not_true,Bool.or_eq_false_iff,decide_eq_false_iff_not]at h
    exact⟨by omega,h.2⟩
def ON {w:AK}: ∀(os:List Fact) {t t':BB},(∀l∈os,Ib w l)→(t.1.length=3+w.parents.length∧t.2.length=3+w.parents.length)→EB os t=some t'→RA t t'∧ ∀l∈os,Uf t' (A2 l).1 (A2 l).2
 | [],t,t',_,_,h=>by
   obtain rfl:=Option.some.inj h;exact⟨RA.dN,fun l hl=>by cases hl⟩
 | x::r,t,t',hl,hn,h=>by
   rw[EB,Option.bind_eq_some_iff]at h;obtain⟨u,h1,h2⟩:=h;obtain⟨h3,h4⟩:=az (hl x (.head _)) hn h1;obtain⟨h5,h6⟩:=ON r (fun l h=>hl l (.tail _ h)) ⟨by rw[←h3.1];exact hn.1,by rw[←h3.2.1];exact hn.2⟩ h2;refine⟨h3.trans h5,fun l h=>?_⟩;rcases GB.1 h with rfl|h
   ·exact Qw h5 h4
   ·exact h6 l h
def Qi {w:AK} {AF:Nat→Bool} {kid:Int→UX}: ∀(os:List Fact) {t:BB},(∀l∈os,Ib w l)→gD t AF→(∀l∈os,Is (.obj AF kid) (A2 l).1= !(A2 l).2)→ ∃t',EB os t=some t'∧gD t' AF
 | [],t,_,hi,_=>⟨t,rfl,hi⟩
 | x::r,t,hl,hi,h=>by
   obtain⟨u,h1,h2⟩:=Xl (hl x (.head _)) hi (h x (.head _));obtain⟨t',h3,h4⟩:=Qi r (fun l h=>hl l (.tail _ h)) h2 fun l hh=>h l (.tail _ hh)
   exact⟨t',by rw[EB,h1];exact h3,h4⟩
def ia (w:AK) (ls:List Fact) (a:Int) (p:List Int) (can:Int→Bool) (s:Int) (t:BB):Prop:=
 (ER ls a (p++[s])=false→t.1.getD (CV w s).toNat false=true∧can s=true)∧(can s=false→t.2.getD (CV w s).toNat false=true)
def OM {w:AK} (hw:Ja w) {ls:List Fact} {a:Int} {p:List Int} {can:Int→Bool}: ∀(sl:List Int) {t t':BB},(∀s∈sl,0≤s∧s<(w.owner.length:Int))→(t.1.length=3+w.parents.length∧t.2.length=3+w.parents.length)→Du w ls a p can sl t=some t'→RA t t'∧ ∀s∈sl,ia w ls a p can s t'
 | [],t,t',_,_,h=>by
   obtain rfl:=Option.some.inj h;exact⟨RA.dN,fun l hl=>by cases hl⟩
 | s ::r,t,t',hs,hn,h=>by
   rw[Du,Option.bind_eq_some_iff]at h;obtain⟨u,h1,h2⟩:=h;have ho:=RP hw (hs s (.head _))
   have h3:RA t u∧ia w ls a p can s u:=by
    rw[IH]at h1;split at h1
    ·cases h1
    ·rename_i hne
     obtain rfl:=Option.some.inj h1;simp only[ia];cases hb:ER ls a (p++[s])<;>cases hc:can s
     ·simp[hb,hc]at hne
     ·exact⟨⟨by simp,rfl,fun c h=>Kx h,fun c h=>h⟩,fun _=>⟨Kw (by omega),rfl⟩,fun h=>(by cases h)⟩
     ·exact⟨⟨rfl,by simp,fun c h=>h,fun c h=>Kx h⟩,fun h=>(by cases h),fun _=>Kw (by omega)⟩
     ·exact⟨RA.dN,fun h=>(by cases h),fun h=>(by cases h)⟩
   obtain⟨h5,h6⟩:=OM hw r (fun l h=>hs l (.tail _ h)) ⟨by rw[←h3.1.1];exact hn.1,by rw[←h3.1.2.1];exact hn.2⟩ h2;refine⟨h3.1.trans h5,fun l h=>?_⟩;rcases GB.1 h with rfl|h
   ·exact⟨fun hb=>⟨h5.2.2.1 _ (h3.2.1 hb).1,(h3.2.1 hb).2⟩,fun hc=>h5.2.2.2 _ (h3.2.2 hc)⟩
   ·exact h6 l h
def Qh {w : AK} (hw:Ja w) {ls:List Fact} {a:Int} {p:List Int} {can:Int→Bool} {AF:Nat→Bool}: ∀(sl:List Int) {t:BB},(∀s∈sl,0≤s∧s<(w.owner.length:Int))→gD t AF→
    (∀s∈sl,(ER ls a (p++[s])=false→AF (CV w s).toNat=true)∧(AF (CV w s).toNat=true→can s=true))→ ∃t',Du w ls a p can sl t=some t'∧gD t' AF
 | [],t,_,hi,_=>⟨t,rfl,hi⟩
 | s :: r, t,hs,hi,h=>by
   have ho:=RP hw (hs s (.head _));obtain⟨k1,k2⟩:=h s (.head _)
   have h1 : ∃u,IH w ls a p can s t=some u∧gD u AF:=by
    rw[IH];cases hb:ER ls a (p++[s])
    ·rw[k2 (k1 hb)]
     refine⟨_,rfl,fun c hh=>?_,hi.2⟩;rcases Kv hh with hh|rfl
     ·exact hi.1 c hh
     ·exact .inr (k1 hb)
    ·cases hc:can s
     ·refine⟨_,rfl,hi.1,fun c hh=>?_⟩
      rcases Kv hh with hh|rfl
      ·exact hi.2 c hh
      ·refine⟨by omega,?_⟩
       rw[←Bool.not_eq_true];intro e;rw[k2 e]at hc;cases hc
     ·exact⟨_,rfl,hi⟩
   obtain⟨u,h2,h3⟩:=h1;obtain⟨t',h4,h5⟩:=Qh hw r (fun l h=>hs l (.tail _ h)) h3 fun l hh=>h l (.tail _ hh)
   exact⟨t',by rw[Du,h2];exact h4,h5⟩
def eJ {w:AK} {AF:Nat→Bool}:gD (tO w) AF:=by
 have: ∀c,(List.replicate (3+w.parents.length) false).getD c false=false:=fun c=>by
  rw[DK];cases h:(List.replicate (3+w.parents.length) false)[c]? with
  | none=>rfl
  | some b=>rw[List.eq_of_mem_replicate (B1 h)];rfl
 exact⟨fun c h=>absurd ((this c).symm.trans h) (by decide),fun c h=>absurd ((this c).symm.trans h) (by decide)⟩
def Yp {g:List (List Int)} (ho:ordered g) {AF:Nat→Bool} (hC: ∀c,3≤c→AF c=true→ ∀q∈par g c,AF q.toNat=true): ∀d b:Nat,3≤d→AF d=true→JV g d b=true→AF b=true:=by
 intro d
 induction d using Nat.strongRecOn with
 | _ d ih=>
   intro b h3 hd h;rw[E4 ho]at h;simp only[Fz,Dn,JY]at h;rcases h with rfl|⟨p,hp,h⟩
   ·exact hd
   ·have:=ho d p hp
    exact ih p.toNat (by omega) b (by omega) (hC d h3 hd p hp) h
def bR {w : AK} (hw : Ja w) {ls:List Fact} (hl: ∀l∈ls,Ib w l) {a:Int} {p:List Int} {can:Int→Bool} {T:Int→UX→Prop} (hcan: ∀s,s∈Bs w.owner.length ls a p→(can s=true↔ ∃t,KW w t∧T s t))
    (hT: ∀s t,T s t↔ ∀l∈ls,(A2 l).1.arg=a→ ∀q,(A2 l).1.path=p++s::q→SR w t q (A2 l).1= !(A2 l).2) :
    (Jq w ls a p can).isSome=true↔ ∃AF kid,KW w (.obj AF kid)∧ ∀l∈ls,(A2 l).1.arg=a→ ∀q,(A2 l).1.path=p++q→SR w (.obj AF kid) q (A2 l).1= !(A2 l).2:=by
 have hL: ∀l∈ls.filter (Gs a p),Ib w l:=fun l h=>hl l (JZ.1 h).1
 have hS: ∀s∈Bs w.owner.length ls a p,0≤s∧s<(w.owner.length:Int):=fun s h=>JM h
 have hn0:(tO w).1.length=3+w.parents.length∧(tO w).2.length=3+w.parents.length:=by simp[tO]
 constructor
 ·intro h
  rw[Jq]at h;cases h1:EB (ls.filter (Gs a p)) (tO w)with
  | none=>rw[h1]at h;cases h
  | some t=>
    rw[h1,Option.bind_some]at h;obtain⟨g1,g2⟩:=ON _ hL hn0 h1;have hn1:t.1.length=3+w.parents.length∧t.2.length=3+w.parents.length:=⟨by rw[←g1.1];exact hn0.1,by rw[←g1.2.1];exact hn0.2⟩
    cases h2:Du w ls a p can (Bs w.owner.length ls a p) t with
    | none=>rw[h2]at h;cases h
    | some u=>
      rw[h2,Option.bind_some,Sc]at h;obtain⟨g3,g4⟩:=OM hw _ hS hn1 h2;have hn2:u.1.length=3+w.parents.length∧u.2.length=3+w.parents.length:=⟨by rw[←g3.1];exact hn1.1,by rw[←g3.2.1];exact hn1.2⟩
      split at h
      ·cases h
      ·rename_i h0
       split at h
       ·cases h
       ·rename_i h3
        clear h;have hSl:(u.1.set 0 false).length=3+w.parents.length:=by simpa using hn2.1
        generalize hSd:B8 w.parents (3+w.parents.length) w.parents.length (u.1.set 0 false)=S at *
        have hin: ∀c,3≤c→u.1.getD c false=true→S.getD c false=true:=fun c hc h=>by
         rw[←hSd];refine I9 hw.ord hSl _ _ ?_;rw[DK,List.getElem?_set_ne (by omega),←DK];exact h
        have hdis: ∀c,S.getD c false=true→u.2.getD c false=true→False:=fun c k1 k2=>by
         have hc:c<3+w.parents.length:=by
          rcases Nat.lt_or_ge c (3+w.parents.length)with h|h
          ·exact h
          ·rw[DK,List.getElem?_eq_none (by omega)]at k2
           cases k2
         refine h3 (JY.2 ⟨c,List.mem_range.2 hc,?_⟩);rw[k1,k2];rfl
        have hkid: ∀s,∃t,KW w t∧((∃t,KW w t∧T s t)→T s t):=fun s=>by
         rcases Classical.em (∃t,KW w t∧T s t)with⟨t,k1,k2⟩|k
         ·exact⟨t,k1,fun _=>k2⟩
         ·exact⟨.Y5,trivial,fun h=>absurd h k⟩
        refine⟨fun c=>S.getD c false,fun s=>Classical.choose (hkid s),⟨fun c hc h q hq=>?_,fun s=>(Classical.choose_spec (hkid s)).1⟩,fun l h1 h2 q hq=>?_⟩
        ·change S.getD c false=true at h
         change S.getD q.toNat false=true
         have hcl:c<3+w.parents.length:=by
          rcases Nat.lt_or_ge c (3+w.parents.length)with h'|h'
          ·exact h'
          ·rw[DK,List.getElem?_eq_none (by rw[←hSd,Eh];omega)]at h
           cases h
         rw[←hSd]at h ⊢;exact G8 hw.ord hSl _ c (by omega) (by omega) h q hq
        ·cases q with
         | nil =>
           have k:=g2 l (JZ.2 ⟨h1,Ht.2 ⟨h2,by simpa using hq⟩⟩);have k:=Qw g3 k;have hc:=(hl l h1).cls;generalize A2 l=x at *;obtain⟨f,b⟩:=x;simp only[SR,Is,Uf]at *;by_cases e1:f.op≠2∨f.cls=1∨f.cls=2
           ·rw[if_pos e1]at k
            subst k;rcases e1 with e1|e1|e1
            ·simp[e1]
            ·simp[e1]
            ·simp[e1]
           ·rw [if_neg e1]at k
            have e2:f.op=2:=by
             rcases Classical.em (f.op=2)with e|e
             ·exact e
             ·exact absurd (Or.inl e) e1
            have hr:=hc e2;have e3:f.cls≠1∧f.cls≠2:=⟨fun e=>e1 (.inr (.inl e)),fun e=>e1 (.inr (.inr e))⟩
            rw[e2];rcases Classical.em (f.cls=0)with e|e
            ·rw[e]at k ⊢
             cases b
             ·rfl
             ·exfalso;exact h0 k
            ·have e4:(f.cls==0)=false:=by simpa using e
             have e5:decide (3≤f.cls)=true:=decide_eq_true (by omega);rw[e4,e5];cases b
             ·rw[if_neg (by decide)]at k
              rw[hin _ (by omega) k];rfl
             ·rw[if_pos rfl]at k
              have:S.getD f.cls.toNat false=false:=by
               rw[←Bool.not_eq_true];exact fun e=>hdis _ e k
              rw[this];rfl
         | cons s q=>
           have hs:s∈Bs w.owner.length ls a p:=(QF hl).2 ⟨l,h1,h2,q,hq⟩;have hso:=RP hw (hS s hs);obtain⟨k1,k2⟩:=g4 s hs;simp only[SR];cases hm:S.getD (CV w s).toNat false
           ·rw[Bool.false_and]
            cases hb:ER ls a (p++[s])
            ·have:=hin _ (by omega) (k1 hb).1
             rw[hm]at this;cases this
            ·rw[LF.1 hb l h1 h2 q (by rw[hq];simp)];rfl
           ·rw[Ey]
            cases hc:can s
            ·exact absurd (k2 hc) fun e=>hdis _ hm e
            ·exact(hT s _).1 ((Classical.choose_spec (hkid s)).2 ((hcan s hs).1 hc)) l h1 h2 q hq
 ·rintro ⟨AF,kid,⟨hC,U⟩,h⟩
  obtain⟨t,h1,h2⟩:=Qi (AF:=AF) (kid:=kid) (ls.filter (Gs a p)) (t:=tO w) hL eJ fun l k=>by
   obtain⟨k1,k2⟩:=JZ.1 k;obtain⟨k3,k4⟩:=Ht.1 k2;exact h l k1 k3 [] (by simpa using k4)
  obtain ⟨u,h3,h4⟩:=Qh hw (AF:=AF) (can:=can) (ls:=ls) (a:=a) (p:=p) (Bs w.owner.length ls a p) (t:=t) hS h2 fun s hs=>by
   constructor
   ·intro hb
    cases e:AF (CV w s).toNat
    ·rw[LF.2 fun l k1 k2 q hq=>by
      have:=h l k1 k2 (s::q) (by rw[hq];simp);simp only[SR,e,Bool.false_and]at this
      simpa using this.symm]at hb
     cases hb
    ·rfl
   ·intro e
    refine(hcan s hs).2 ⟨kid s,U s,(hT s _).2 fun l k1 k2 q hq=>?_⟩;have:=h l k1 k2 (s::q) hq;simpa only[SR,e,Ey]using this
  rw[Jq,h1,Option.bind_some,h3,Option.bind_some,Sc]
  have h0:u.2.getD 0 false=false:=by
   rw[←Bool.not_eq_true];exact fun e=>(h4.2 0 e).1 rfl
  rw[h0,if_neg (by decide),if_neg]
  ·rfl
  ·rw [JY]
   rintro⟨c,-,hc⟩;rw[BZ]at hc;have q1:=(ON _ hL hn0 h1).1;have q2:=(OM hw _ hS ⟨by rw[←q1.1];exact hn0.1,by rw[←q1.2.1];exact hn0.2⟩ h3).1;have hlen:(u.1.set 0 false).length=3+w.parents.length:=by rw[List.length_set,←q2.1,←q1.1];exact hn0.1
   obtain⟨d,k1,k2⟩:=F6 hw.ord hlen _ _ hc.1
   have hd0:d≠0:=by
    rintro rfl;rw[DK,List.getElem?_set_self (by rw[List.length_set]at hlen;omega)]at k1;cases k1
   rw[DK,List.getElem?_set_ne (fun e=>hd0 e.symm),←DK]at k1;have hCd:AF d=true:=(h4.1 d k1).resolve_left hd0
   have hCc:AF c=true:=by
    rcases Nat.lt_or_ge d 3 with hd|hd
    ·rw[E4 hw.ord,show par w.parents d= [] from if_pos hd]at k2
     simp only[List.any_nil,Bool.or_false,Dn]at k2;subst k2;exact hCd
    ·exact Yp hw.ord hC d c hd hCd k2
   have:=(h4.2 c hc.2).2;rw[hCc]at this;cases this
def TT (w:AK) (ls:List Fact) (a:Int) (p:List Int) (t:UX):Prop:= ∀l∈ls,(A2 l).1.arg=a→ ∀q,(A2 l).1.path=p++q→SR w t q (A2 l).1= !(A2 l).2
def X9 {w:AK} {ls:List Fact} (hl: ∀l∈ls,Ib w l) {a:Int} {p:List Int}:HL w.owner.length ls a p=true↔TT w ls a p .Y5:=by
 rw[HL,BZ,E0,Te hl];constructor
 ·rintro⟨h1,h2⟩ l k1 k2 q hq
  cases q with
  | nil=>
    have:=h1 l (JZ.2 ⟨k1,Ht.2 ⟨k2,by simpa using hq⟩⟩);simp only[SR,Is,II]at *
    revert this
    cases((A2 l).1.op==2&&((A2 l).1.cls==0||(A2 l).1.cls==2))<;>cases(A2 l).2<;>decide
  | cons s q=>simp[SR,h2 l k1 k2 s q hq]
 ·intro h
  refine⟨fun l k=>?_,fun l k1 k2 s q hq=>?_⟩
  ·obtain⟨k1,k2⟩:=JZ.1 k
   obtain⟨k3,k4⟩:=Ht.1 k2;have:=h l k1 k3 [] (by simpa using k4);simp only[SR,Is,II]at *
   revert this
   cases((A2 l).1.op==2&&((A2 l).1.cls==0||(A2 l).1.cls==2))<;>cases(A2 l).2<;>decide
  ·have:=h l k1 k2 (s::q) hq
   simpa[SR]using this.symm
def br {w:AK} {ls:List Fact} (hl: ∀l∈ls,Ib w l) {a:Int} {p:List Int}:((Ie ls a p).isSome&&FJ w.owner.length ls a p)=true↔ ∃m,KW w (.int m)∧TT w ls a p (.int m):=by
 rw[BZ,Te hl,bq hl];constructor
 ·rintro⟨⟨m,h1,h2⟩,h3⟩
  refine⟨m,h1,fun l k1 k2 q hq=>?_⟩;cases q with
  | nil=>exact h2 l k1 k2 (by simpa using hq)
  | cons s q=>simp[SR,h3 l k1 k2 s q hq]
 ·rintro⟨m,h1,h2⟩
  refine⟨⟨m,h1,fun l k1 k2 k3=>h2 l k1 k2 [] (by simpa using k3)⟩,fun l k1 k2 s q hq=>?_⟩;have:=h2 l k1 k2 (s::q) hq;simpa[SR]using this.symm
def XI {w:AK} (hw:Ja w) {ls:List Fact} (hl: ∀l∈ls,Ib w l) {a:Int} {p:List Int} {can:Int→Bool} (hcan: ∀s,s∈Bs w.owner.length ls a p→(can s=true↔ ∃t,KW w t∧TT w ls a (p++[s]) t)) :
    (((Ie ls a p).isSome&&FJ w.owner.length ls a p)||(HL w.owner.length ls a p||(Jq w ls a p can).isSome))=true↔ ∃t,KW w t∧TT w ls a p t:=by
 rw[Fz,Fz,br hl,X9 hl,bR hw hl (T:=fun s t=>TT w ls a (p++[s]) t) hcan fun s t=>by simp only[TT,SS,List.singleton_append]];constructor
 ·rintro(⟨m,h1,h2⟩|h|⟨AF,kid,h1,h2⟩)
  ·exact⟨_,h1,h2⟩
  ·exact⟨.Y5,trivial,h⟩
  ·exact⟨_,h1,h2⟩
 ·rintro⟨t,h1,h2⟩
  cases t with
  | int m=>exact .inl ⟨m,h1,h2⟩
  | Y5=>exact .inr (.inl h2)
  | obj AF kid=>exact .inr (.inr ⟨AF,kid,h1,h2⟩)
def OQ {w:AK} (hw:Ja w) {ls:List Fact} (hl: ∀l∈ls,Ib w l) (a:Int): ∀(d:Nat) (p:List Int),p.length+d=2→(KY w ls a d p=true↔ ∃t,KW w t∧TT w ls a p t)
 | 0,p,hp=>by
   rw[KY];refine XI hw hl fun s hs=>?_
   rw[MA (m:=2) (fun l h=>(hl l h).short) (by omega)]at hs;cases hs
 | d+1,p,hp=>by
   rw[KY];exact XI hw hl fun s hs=>OQ hw hl a d (p++[s]) (by simp;omega)
def RG (w:AK) (M:Int→UX) (l:Fact):Prop:=SR w (M (A2 l).1.arg) (A2 l).1.path (A2 l).1= !(A2 l).2
def S8 {w:AK} (hw:Ja w) {ls:List Fact} (hl: ∀l∈ls,Ib w l):Gv w ls=true↔ ∃M:Int→UX,(∀a,KW w (M a))∧ ∀l∈ls,RG w M l:=by
 rw[Gv,E0];constructor
 ·intro h
  have hk: ∀a:Int,∃t,KW w t∧(0≤a∧a<3→TT w ls a [] t):=fun a=>by
   rcases Classical.em (0≤a∧a<3)with e|e
   ·obtain⟨t,h1,h2⟩:=(OQ hw hl a 2 [] rfl).1 (h a (FT.2 e))
    exact⟨t,h1,fun _=>h2⟩
   ·exact⟨.Y5,trivial,fun k=>absurd k e⟩
  exact⟨fun a=>Classical.choose (hk a),fun a=>(Classical.choose_spec (hk a)).1,fun l k=>(Classical.choose_spec (hk (A2 l).1.arg)).2 (hl l k).arg l k rfl _ rfl⟩
 ·rintro⟨M,h1,h2⟩ a _
  refine(OQ hw hl a 2 [] rfl).2 ⟨M a,h1 a,fun l k1 k2 q hq=>?_⟩;have:=h2 l k1;rw[RG,k2]at this;rw[List.nil_append]at hq;rw[←hq];exact this
def ov (w:AK) (M:Int→UX) (f:Fact) (l:List Bool):Bool:=
 if f.op=1 then true else if f.op=5 then !l.getD 0 false else if f.op=6 then l.getD 0 false&&l.getD 1 false else if f.op=7 then l.getD 0 false||l.getD 1 false else SR w (M f.arg) f.path f
def V4 (w:AK) (M:Int→UX) (f:Fact):Bool:=f.HF (ov w M)
def Ur (w:AK) (M:Int→UX) (f:Fact):V4 w M f=ov w M f (f.kids.map (V4 w M)):=Fact.Dk (ov w M) f
def TV (a:List Fact) (Q:Fact→Prop): ∀b:List Fact,(∀x∈CX a b,Q x)↔(∀x∈a,Q x)∧ ∀x∈b,Q x:=by
 intro b
 induction b generalizing a with
 | nil=>simp[CX]
 | cons y r ih=>
   rw[CX,ih];split
   ·rename_i h
    obtain⟨z,h1,h2⟩:=JY.1 h;have:=(MB y z).1 h2;subst this;simp only[List.forall_mem_cons];constructor
    ·rintro⟨h3,h4⟩;exact⟨h3,h3 _ h1,h4⟩
    ·rintro⟨h3,_,h4⟩;exact⟨h3,h4⟩
   ·simp only[List.forall_mem_append,List.forall_mem_cons,List.forall_mem_nil]
    constructor
    ·rintro⟨⟨h1,h2,_⟩,h3⟩;exact⟨h1,h2,h3⟩
    ·rintro⟨h1,h2,h3⟩;exact⟨⟨h1,h2,fun _ h=>by cases h⟩,h3⟩
def Qr {w : AK} {M:Int→UX} (f:Fact):Bi w f=true→ ∀c,(∃l∈BS f c,∀x∈l,RG w M x)↔V4 w M f= !c:=by
 induction f using Fact.ind with
 | h f ih=>
   intro h c;have har:=C3 f h;have h':=h;rw[Ci,BZ,E0]at h';rw[F8,FO,Ur,ov];by_cases h1:f.op=1
   ·rw[if_pos h1,if_pos h1]
    cases c<;>simp
   rw[if_neg h1,if_neg h1];by_cases h5:f.op=5
   ·obtain⟨a,ha,hb⟩:=H0 har h5
    rw[if_pos h5,if_pos h5,ha];have:=ih a (by rw[ha];exact .head _) (h'.2 a (by rw[ha];exact .head _)) (!c);simp only[FC,List.map_nil,List.getD_cons_zero];rw[this];cases V4 w M a<;>cases c<;>decide
   rw[if_neg h5,if_neg h5];by_cases h6:f.op=6∨f.op=7
   ·obtain⟨a,b,ha,hb1,hb2⟩:=Hz har h6
    rw[if_pos h6,ha];have i1:=ih a (by rw[ha];exact .head _) (h'.2 a (by rw[ha];exact .head _)) c;have j1:=ih b (by rw[ha];exact .tail _ (.head _)) (h'.2 b (by rw[ha];exact .tail _ (.head _))) c;simp only[FC,List.map_nil,List.getD_cons_zero,List.getD_cons_succ]
    have happ:(∃l∈BS a c++BS b c,∀x∈l,RG w M x)↔V4 w M a= !c∨V4 w M b= !c:=by
     rw[←i1,←j1];constructor
     ·rintro⟨l,hl,hx⟩
      rcases Fo.1 hl with hl|hl
      ·exact .inl ⟨l,hl,hx⟩
      ·exact .inr ⟨l,hl,hx⟩
     ·rintro(⟨l,hl,hx⟩|⟨l,hl,hx⟩)
      ·exact⟨l,PU _ hl,hx⟩
      ·exact⟨l,NW _ hl,hx⟩
    have hprod:(∃l∈Dr (BS a c) (BS b c),∀x∈l,RG w M x)↔V4 w M a= !c∧V4 w M b= !c:=by
     rw[←i1,←j1];simp only[Dr,List.mem_flatMap,Lf];constructor
     ·rintro⟨l,⟨y,hy,z,hz,rfl⟩,hx⟩
      rw[TV]at hx;exact⟨⟨y,hy,hx.1⟩,z,hz,hx.2⟩
     ·rintro⟨⟨y,hy,h1⟩,z,hz,h2⟩
      exact⟨_,⟨y,hy,z,hz,rfl⟩,(TV y _ z).2 ⟨h1,h2⟩⟩
    rcases h6 with h6|h6
    ·rw[if_pos h6,h6]
     cases c
     ·rw[if_neg (by decide),hprod]
      simp
     ·rw[if_pos (by decide),happ]
      simp only[Bool.not_true,Bool.and_eq_false_iff]
    ·rw[if_neg (by omega: ¬f.op=6),if_pos h6,h6]
     cases c
     ·rw[if_pos (by decide),happ]
      simp
     ·rw[if_neg (by decide),hprod]
      simp only[Bool.not_true,Bool.or_eq_false_iff]
   ·rw[if_neg h6,if_neg (fun e=>h6 (.inl e)),if_neg (fun e=>h6 (.inr e))]
    have e1:RG w M f↔SR w (M f.arg) f.path f=true:=by rw[RG,A2,if_neg h5];exact Iff.rfl
    have e2:RG w M (Fb f)↔SR w (M f.arg) f.path f=false:=by
     rw[RG,show A2 (Fb f)=(f,true) from rfl];exact Iff.rfl
    cases c
    ·simp[e1]
    ·simp[e2]
def bI {w:AK} (hw:Ja w) {f:Fact} (hn:Bi w f=true):PY w f=true↔ ∃M:Int→UX,(∀a,KW w (M a))∧V4 w M f=true:=by
 rw[PY,JY];constructor
 ·rintro⟨l,h1,h2⟩
  obtain⟨M,h3,h4⟩:=(S8 hw fun x hx=>Wo (Eu f hn false l h1 x hx)).1 h2;exact⟨M,h3,(Qr f hn false).1 ⟨l,h1,h4⟩⟩
 ·rintro⟨M,h1,h2⟩
  obtain⟨l,h3,h4⟩:=(Qr f hn false).2 h2;exact⟨l,h3,(S8 hw fun x hx=>Wo (Eu f hn false l h3 x hx)).2 ⟨M,h1,h4⟩⟩
def OH {w:AK} (hw:Ja w) {a b:Fact} (ha:Bi w a=true) (hb:Bi w b=true):RJ w a b=true↔ ∀M:Int→UX,(∀x,KW w (M x))→V4 w M a=true→V4 w M b=true:=by
 have he: ∀M,V4 w M (M6 a (Fb b))=(V4 w M a&& !V4 w M b):=fun M=>by
  rw[Ur];simp only[ov,M6,Fact.op,Fact.kids,FC,List.map_nil,List.getD_cons_zero,List.getD_cons_succ];rw[Ur w M (Fb b)];simp[ov,Fb,Fact.op,Fact.kids]
 rw[RJ,Bool.not_eq_true',←Bool.not_eq_true,bI hw (OB ha hb)];constructor
 ·intro h M h1 h2
  rw[←Bool.not_eq_false];exact fun h3=>h ⟨M,h1,by rw[he,h2,h3];rfl⟩
 ·rintro h ⟨M,h1,h2⟩
  rw[he,BZ]at h2;rw[h M h1 h2.1]at h2;simp at h2
def imp_trans {w:AK} (hw:Ja w) {a b c:Fact} (ha:Bi w a=true) (hb:Bi w b=true) (hc:Bi w c=true) (h1:RJ w a b=true) (h2:RJ w b c=true):RJ w a c=true:=
 (OH hw ha hc).2 fun M hM h=>(OH hw hb hc).1 h2 M hM ((OH hw ha hb).1 h1 M hM h)
def O7 {p:Prog} (hok:Dv p) {i j k:Int} (hi:A7 p i=true) (hj:A7 p j=true) (hk:A7 p k=true) (h1:Df p i j=true) (h2:Df p j k=true):Df p i k=true:=
 imp_trans hok.iB (hok.facts _ (B1 (B0 hi))).1 (hok.facts _ (B1 (B0 hj))).1 (hok.facts _ (B1 (B0 hk))).1 h1 h2
def V1 {p:Prog} {i j:Int}:Am p i j=true↔Df p i j=true∧Df p j i=false:=by
 rw[Am,BZ,Bool.not_eq_true']
def PM {p:Prog} (i:Int):Am p i i=false:=by
 rw[Am];cases Df p i i<;>rfl
def SL {p:Prog} (hok:Dv p) {i j k:Int} (hi:A7 p i=true) (hj:A7 p j=true) (hk:A7 p k=true) (h1:Am p i j=true) (h2:Am p j k=true):Am p i k=true:=by
 rw[V1]at *;refine⟨O7 hok hi hj hk h1.1 h2.1,?_⟩;rw[←Bool.not_eq_true];intro e;have:=O7 hok hk hi hj e h1.1;rw[h2.2]at this;cases this
def bN {p:Prog} {gen kind:Int} {i j:Nat}:IZ p gen kind i j=true↔((BJ p i).gen=gen∧(BJ p i).kind=kind)∧((BJ p j).gen=gen∧(BJ p j).kind=kind)∧Am p i j=true:=by
 simp only[IZ,B3,BZ,Dn];constructor
 ·rintro⟨h1,h2,⟨h3,h4⟩,h5⟩
  exact⟨⟨h1,h2⟩,⟨by rw[←h3,h1],by rw[←h4,h2]⟩,h5⟩
 ·rintro⟨⟨h1,h2⟩,⟨h3,h4⟩,h5⟩
  exact⟨h1,h2,⟨by rw[h1,h3],by rw[h2,h4]⟩,h5⟩
def di {p:Prog} {gen:Int} {i j:Nat} (h:SP p gen i j=true):((BJ p i).gen=gen∧(BJ p j).gen=gen)∧(BJ p i).kind=(BJ p j).kind∧Df p i j=true∧Df p j i=true:=by
 simp only[SP,B3,BZ,Dn]at h;obtain⟨-,h1,⟨h2,h3⟩,h4,h5⟩:=h;exact⟨⟨h1,by rw[←h2,h1]⟩,h3,h4,h5⟩
end Go.Gl
namespace Go.Gl
open Go.Proofs
attribute [local irreducible] BL A5 Aj AW AN Ai AV AX AO Ah AS AU BA BK Sat Ad BH Al W
def dm (p:Prog) (L:Nat) (m:Int) (hok:Dv p) (hgw:CS (AM p)) (hfm: ∀x∈p.methods,Cg (AM p) x.fact=true) (hm:A7 p m=true) :
    DD Tryz.prog (.f (.func 105) [] [.rp [Fu p L],.rp [eI m]]) eI (fun M=>[.map L (FL p M)]) (fun y M=>(Am p y m,Ni p M y m)) (fun y _=>A7 p y=true):=by
 intro y M hy σ hs;refine Bp ?_;show BL Tryz.prog 105 ([]++[eI y]++[.rp [Fu p L],.rp [eI m]]) σ _;refine nq kZ ?_
 conv=>whnf
 repeat'((first|apply st|(apply sq;intro K U)|(apply si;intro A B Y Z)|(apply Y;clear Z B Y A)|(apply U;clear U K)|fail)<;>conv=>whnf)
 refine(OV p L y m hok hgw hfm hy hm M).use (rest:=[]) (by simpa using hs) ?_;clear hs;rintro r post σ ⟨rfl,rfl⟩ hs
 conv=>whnf
 repeat'((first|apply st|(apply Y;clear Z B Y A)|(apply U;clear U K)|fail)<;>conv=>whnf)
 exact Ap hs (List.sublist_append_left _ _) (.refl _) fun σ' hs'=>⟨rfl,hs'⟩
def Ql {S:Type} {stp:Int→S→Bool×S} {q:Int→Bool}: ∀(xs:List Int) (k:Nat) (s:S),(∀y∈xs,∀s,(stp y s).1=q y)→(Bo stp xs k s).1=match(List.range xs.length).find? fun i=>q (xs.getD i 0)with|some i=>((k+i:Nat):Int)|none=> -1
 | [],_,_,_=>rfl
 | y ::r,k,s,h=>by
   rw[Bo,h y (.head _)];have ih:=Ql r (k+1) (stp y s).2 fun z hz=>h z (.tail _ hz)
   rw[La,List.range_succ_eq_map,List.find?_cons,List.getD_cons_zero];cases hq:q y
   ·rw[if_neg (by decide),ih]
    simp only[List.find?_map,Function.comp_def,Nat.succ_eq_add_one,List.getD_cons_succ];cases(List.range r.length).find? fun i=>q (r.getD i 0)with
    | none=>rfl
    | some i=>simp only[UY];congr 1;omega
   ·rw[if_pos rfl];simp
def o7 (p:Prog) (l:List Int) (m:Int) (M:List (Int×Int)):List (Int×Int):=(Bo (fun y M=>(Am p y m,Ni p M y m)) l 0 M).2
def WO (p:Prog) (L nb:Nat) (l:List Int) (f:Bool) (hok:Dv p) (hgw:CS (AM p)) (hfm: ∀x∈p.methods,Cg (AM p) x.fact=true) (hl: ∀x∈l,A7 p x=true) :
    DD Tryz.prog (.f (.func 104) [] [.p nb 0,.rp [Fu p L]]) eI (fun M=>[.box nb [.l (iL l) f],.map L (FL p M)]) (fun m M=>(!(decide ((Bo (fun y M=>(Am p y m,Ni p M y m)) l 0 M).1≥0)),o7 p l m M)) (fun m _=>A7 p m=true):=by
 intro m M hm σ hs;refine Bp ?_;show BL Tryz.prog 104 ([]++[eI m]++[.p nb 0,.rp [Fu p L]]) σ _;refine nt kZ ?_
 conv=>whnf
 repeat'((first|(apply sq;intro K U)|(apply si;intro A B Y Z)|(apply Y;clear Z B Y A)|(apply U;clear U K)|refine ld ?_|fail)<;>conv=>whnf)
 refine(GW 105 [] [.rp [Fu p L],.rp [eI m]] (fun M=>[.map L (FL p M)]) _ _ (dm p L m hok hgw hfm hm) l f M (G3 fun y hy _=>hl y hy)).use (rest:=[_]) (hs.perm (.swap _ _ _)) ?_;clear hs;rintro r post σ ⟨rfl,rfl⟩ hs
 conv=>whnf
 repeat'((first|apply st|(apply Y;clear Z B Y A)|(apply U;clear U K)|fail)<;>conv=>whnf)
 exact Ap (hs.perm (.swap _ _ _)) (List.Sublist.refl _) (.refl _) fun σ' hs'=>⟨rfl,hs'⟩
def Zp {p:Prog} (hok:Dv p): ∀(l:List Int),l≠[]→(∀x∈l,A7 p x=true)→ ∃x∈l,∀y∈l,Am p y x=false
 | [],h,_=>absurd rfl h
 | x ::r,_,h=>by
   by_cases hr:r= []
   ·subst hr
    exact⟨x,.head _,fun y hy=>by rw[KM.1 hy];exact PM x⟩
   obtain⟨z,hz,hz2⟩:=Zp hok r hr fun y hy=>h y (.tail _ hy)
   cases hxz:Am p x z
   ·refine⟨z,.tail _ hz,fun y hy=>?_⟩
    rcases GB.1 hy with rfl|hy
    ·exact hxz
    ·exact hz2 y hy
   ·refine⟨x,.head _,fun y hy=>?_⟩
    rcases GB.1 hy with rfl|hy
    ·exact PM y
    ·rw[←Bool.not_eq_true]
     intro e;have:=SL hok (h y (.tail _ hy)) (h x (.head _)) (h z (.tail _ hz)) e hxz;rw[hz2 y hy]at this;cases this
def QU {p:Prog} (hok:Dv p) {l:List Int} (hl:l≠[]) (h: ∀x∈l,A7 p x=true): ∃i,Ln (Am p) l=some i:=by
 obtain⟨x,hx,hx2⟩:=Zp hok l hl h;obtain⟨i,hi⟩:=List.getElem?_of_mem hx;cases hm:Ln (Am p) l with
 | some i=>exact⟨i,rfl⟩
 | none=>
   rw[Ln,List.find?_range_eq_none]at hm;have h1:=hm i (Hk.1 hi).1
   have h2:Jr (Am p) l i l.length=true:=by
    rw[Jr,E0];intro k hk;rw[CP hi,hx2 _ (D9 (List.mem_range.1 hk))];rfl
   rw[h2]at h1;cases h1
end Go.Gl
namespace Go.Gl
variable {P:Program} {σ:AH}
def ah {L:Nat} {args:List V} {Q:R→AH→Prop} (h:Nj P L args σ Q):BA P (.f (.yield L) [] []) args σ Q:=h
def Es {L:Nat} {E:Env} {ps:List Nat} {a b:AJ} {args:List V} {l:List At} (hl:args.length=ps.length) (hs:Sat σ (.obj L (.loop .ready E (B7 P ps a b))::l)) {Q:R→AH→Prop}
    (h: ∀σ,Sat σ l→W P a (DI (W P b fun ex env' σ'=>σ' L=none→Rb L E (B7 P ps a b) Q ex env' σ')) (J3 ps args E) σ):Nj P L args σ Q:=
 PH (hs.get (i:=0) rfl) hl (h _ hs.del)
end Go.Gl
namespace Go.Gl
open Go.Proofs
attribute [local irreducible] BL A5 Aj AW AN Ai AV AX AO Ah AS AU BA BK Sat Ad BH Al W
def P8 (xs:List Int) (f:Bool):Pure Tryz.prog 102 [.l (iL xs) f] (.f (.func 136) [] [.rp [.l (iL xs) f]]):=by
 refine nu kZ ?_;have hs:=Sn
 conv=>whnf
 repeat'((first|apply st|(apply sq;intro K U)|(apply si;intro A B Y Z)|(apply Y;clear Z B Y A)|(apply U;clear U K)|fail)<;>conv=>whnf)
 all_goals exact AI rfl
def df (xs:List Int) (f:Bool) (hxl:xs.length≤1000) {S:Type} {fn:Fn} {fi ca:List V} {H:S→List At} (Inv:Nat→S→Prop) {s:S} (h0:Inv 0 s)
    (hT: ∀(k:Nat) s y,xs[k]? =some y→Inv k s→ ∀σ:AH,Sat σ (H s)→BA Tryz.prog (.f fn fi ca) [eI y] σ fun r σ'=> ∃s',r= .ret (.b true)∧Inv (k+1) s'∧Sat σ' (H s')) (σ:AH) (hs:Sat σ (H s)) :
    BL Tryz.prog 136 [.f fn fi ca,.rp [.l (iL xs) f]] σ fun r σ'=> ∃s',r= .ret (.t [])∧Inv xs.length s'∧Sat σ' (H s'):=by
 have hM:=Mx;refine nB kZ ?_
 conv=>whnf
 repeat'((first|apply st|(apply sq;intro K U)|(apply si;intro A B Y Z)|(apply Y;clear Z B Y A)|(apply U;clear U K)|fail)<;>conv=>whnf)
 refine B4 xs.length (fun k (_:S)=>[(7,eI (A3 k))]) (fun _ s'=>H s') (fun k s'=>Inv k s') s rfl h0 hs ?_;clear hs;rintro k s' σ hk ho hs;rcases BE xs hk with⟨y,hy,hlt⟩|hke
 ·have hT':=hT k s' y hy ho
  conv=>whnf
  repeat'((first|apply st|(apply sq;intro K U)|(apply si;intro A B Y Z)|(apply Y;clear Z B Y A)|(apply U;clear U K)|refine⟨rfl,?_⟩|refine ix ?_|(refine CA (fun hc=>?_)<;>(try rw[hc])<;>clear hc)|fail)<;>conv=>whnf)
  refine(hT' σ hs).mono ?_;rintro r σ ⟨s2,rfl,hi2,hs⟩
  conv=>whnf
  repeat'((first|apply st|(apply si;intro A B Y Z)|(apply Y;clear Z B Y A)|(apply U;clear U K)|refine⟨rfl,?_⟩|refine D2 ?_|fail)<;>conv=>whnf)
  exact⟨hlt,_,rfl,hi2,hs⟩
 ·rw[hke]at ho
  conv=>whnf
  repeat'((first|apply st|(apply sq;intro K U)|(apply si;intro A B Y Z)|(apply Y;clear Z B Y A)|(apply U;clear U K)|refine⟨rfl,?_⟩|(refine DU (fun hc=>?_)<;>(try rw[hc])<;>clear hc)|clear U K)<;>conv=>whnf)
  exact AR ⟨_,rfl,ho,hs⟩
def Yw (xs:List Int) (f:Bool) (hxl:xs.length≤1000):Bj Tryz.prog 118 [.l [] true,.f (.func 136) [] [.rp [.l (iL xs) f]]] [] fun r post=> ∃v,r= .ret v∧post= [.own v 1 (iL xs)]∧((B6 v).isSome=true∨(v= .l [] true∧xs= [])):=by
 intro σ hs;have hM:=Mx;refine aF kZ ?_
 conv=>whnf
 repeat'((first|apply st|(apply sq;intro K U)|(apply si;intro A B Y Z)|(apply Y;clear Z B Y A)|(apply U;clear U K)|(intro nn hnn;generalize hg:A6 _ nn _=σ;refine CW hg fun hs=>?_;clear hg)|fail)<;>conv=>whnf)
 rename_i nb _ _ _;clear hnn
 revert hs
 generalize hE:([(2,V.p nb 0)]:Env)=E;generalize hk:B7 _ _ _ _=ok;intro hs;refine BL.mono (df xs f hxl (fn:= .yield nn) (fi:=[]) (ca:=[]) (H:=fun s:V×List Int=> .obj nn (.loop .ready E ok):: [.box nb [s.1],.own s.1 1 (iL s.2)]) (fun k s=>s.2=xs.take k∧(1≤k→(B6 s.1).isSome=true)∧(k=0→s.1= .l [] true)) (s:=(.l [] true,[])) ⟨rfl,fun h=>by omega,fun _=>rfl⟩ ?_ σ ((Cx hs 1).perm (IK _ _ _ _))) ?_
 ·clear hs
  subst hE hk;rintro k ⟨v,ys⟩ y hy ⟨h1,h2,h3⟩ σ hs;dsimp only at h1 h2 h3 hs;have hkl:k<xs.length:=(Hk.1 hy).1;have hyl:ys.length=k:=by rw[h1,LZ];omega
  have hll:ys.length<Ac∧(ys.length+1)*8≤140737488355328:=by omega
  refine ah (Es (l:=[.box nb [v],.own v 1 (iL ys)]) rfl hs ?_);clear hs;intro σ hs
  conv=>whnf
  repeat'((first|apply st|(apply si;intro A B Y Z)|(apply Y;clear Z B Y A)|refine ld ?_|refine FB fun σ hs=>?_|refine aq fun v σ hs hsl=>?_|clear U K)<;>conv=>whnf)
  intro hn;exact⟨(v,ys++[y]),rfl,⟨by rw[AQ hy,h1],fun _=>hsl,fun h=>by omega⟩,hs.Ju hn⟩
 ·clear hs
  rintro r σ ⟨⟨v,ys⟩,rfl,⟨h1,h2,h3⟩,hs⟩;dsimp only at h1 h2 h3 hs;refine Fk hs fun σ hs=>?_
  conv=>whnf
  repeat'((first|apply st|(apply sq;intro K U)|(apply si;intro A B Y Z)|(apply Y;clear Z B Y A)|(apply U;clear U K)|refine ld ?_|fail)<;>conv=>whnf)
  rw[List.take_length]at h1;subst h1;refine Ap hs (Jp _ _) (.refl _) fun σ' hs'=>⟨_,⟨v,rfl,rfl,?_⟩,hs'⟩
  rcases Nat.eq_zero_or_pos ys.length with h|h
  ·exact .inr ⟨h3 h,cz.1 h⟩
  ·exact .inl (h2 h)
def Ym (xs:List Int) (f:Bool) (hxl:xs.length≤1000):Bj Tryz.prog 84 [.f (.func 136) [] [.rp [.l (iL xs) f]]] [] fun r post=> ∃v,r= .ret v∧post= [.own v 1 (iL xs)]∧((B6 v).isSome=true∨(v= .l [] true∧xs= [])):=by
 intro σ hs;refine gb kZ ?_
 conv=>whnf
 repeat'((first|(apply sq;intro K U)|(apply si;intro A B Y Z)|(apply Y;clear Z B Y A)|(apply U;clear U K)|fail)<;>conv=>whnf)
 refine(Yw xs f hxl).use (rest:=[]) (by simpa using hs) ?_;clear hs;rintro r post σ ⟨v,rfl,rfl,hv⟩ hs
 conv=>whnf
 repeat'((first|apply st|(apply Y;clear Z B Y A)|(apply U;clear U K)|fail)<;>conv=>whnf)
 exact Ap hs (List.sublist_append_left _ _) (.refl _) fun σ' hs'=>⟨_,⟨v,rfl,rfl,hv⟩,hs'⟩
def QC (xs:List Int) (f:Bool) (hxl:xs.length≤1000):Pure Tryz.prog 101 [.f (.func 136) [] [.rp [.l (iL xs) f]]] (.l (iL (xs.mergeSort G9)) false):=by
 refine nv kZ ?_;have hs:=Sn
 conv=>whnf
 repeat'((first|(apply sq;intro K U)|(apply si;intro A B Y Z)|(apply Y;clear Z B Y A)|(apply U;clear U K)|fail)<;>conv=>whnf)
 refine(Ym xs f hxl).use (rest:=[]) (by simpa using hs) ?_;clear hs;rintro r post σ ⟨v,rfl,rfl,hv⟩ hs
 conv=>whnf
 repeat'((first|(apply sq;intro K U)|(apply si;intro A B Y Z)|(apply Y;clear Z B Y A)|(apply U;clear U K)|fail)<;>conv=>whnf)
 refine(ZO hv).use (rest:=[]) hs ?_;clear hs;rintro r post σ ⟨rfl,rfl⟩ hs
 conv=>whnf
 repeat'((first|apply st|(apply sq;intro K U)|(apply si;intro A B Y Z)|(apply Y;clear Z B Y A)|(apply U;clear U K)|fail)<;>conv=>whnf)
 exact BO (hs.MV 0 rfl)
def Qm {S:Type} {stp:Int→S→Bool×S} {q:Int→Bool}: ∀(xs:List Int) (k:Nat) (s:S),(∀y∈xs,∀s,(stp y s).1=q y)→decide ((Bo stp xs k s).1≥0)=xs.any q
 | [],_,_,_=>rfl
 | y ::r,k,s,h=>by
   rw[Bo,h y (.head _),Q7];cases hq:q y
   ·rw[if_neg (by decide),Bool.false_or]
    exact Qm r (k+1) _ fun z hz=>h z (.tail _ hz)
   ·rw[if_pos rfl,Bool.true_or]
    exact decide_eq_true (Int.natCast_nonneg k)
def Xy (l:List Int) (q:Int→Bool):(List.range l.length).all (fun j=> !q (l.getD j 0))= !l.any q:=by
 rw[Le,E0,Bool.not_eq_true',←Bool.not_eq_true,JY];constructor
 ·rintro h ⟨x,hx,hq⟩
  obtain⟨i,hi⟩:=List.getElem?_of_mem hx;have:=h i (List.mem_range.2 (Hk.1 hi).1);rw[CP hi,hq]at this;cases this
 ·intro h j hj
  cases hq:q (l.getD j 0)
  ·rfl
  ·exact absurd ⟨_,D9 (List.mem_range.1 hj),hq⟩ h
def W9 {p:Prog} {l:List Int} {M:List (Int×Int)}:(Bo (fun(m:Int) (M:List (Int×Int))=>(!(decide ((Bo (fun y M=>(Am p y m,Ni p M y m)) l 0 M).1≥0)),o7 p l m M)) l 0 M).1=match Ln (Am p) l with|some i=>((i:Nat):Int)|none=> -1:=by
 rw[Ql (q:=fun m=> !l.any fun y=>Am p y m) l 0 M fun m _ s=>by dsimp only;rw[Qm (q:=fun y=>Am p y m) l 0 s fun y _ s=>rfl]];rw[Ln,find_congr (g:=fun i=>Jr (Am p) l i l.length) fun i _=>by rw[Jr,Xy l fun y=>Am p y (l.getD i 0)]];cases(List.range l.length).find? fun i=>Jr (Am p) l i l.length with
 | none=>rfl
 | some i=>simp
set_option maxHeartbeats 4000000 in
def Yt (p:Prog) (L:Nat) (l:List Int) (f:Bool) (hok:Dv p) (hgw:CS (AM p)) (hfm: ∀x∈p.methods,Cg (AM p) x.fact=true) (hl:Ny p l) (hnd:l.Nodup) (M:List (Int×Int)) :
    Bj Tryz.prog 69 [Fu p L,.l (iL l) f] [.map L (FL p M)] fun r post=>r= .ret (.l (iL (DM (Am p) l.length (l.mergeSort G9))) true)∧ ∃M',post= [.map L (FL p M')]:=by
 intro σ hs;have hM:=Mx;have h16:=hl.many;have hml:(l.mergeSort G9).length=l.length:=List.length_mergeSort _;have c1:=P8 l f;have c2:=QC l f (by omega);refine gi kZ ?_
 conv=>whnf
 repeat'((first|apply st|(apply sq;intro K U)|(apply si;intro A B Y Z)|(apply Y;clear Z B Y A)|(apply U;clear U K)|refine ld ?_|refine FB fun σ hs=>?_|refine c1.use ?_|refine c2.use ?_|(intro nn hnn;generalize hg:A6 _ nn _=σ;refine CW hg fun hs=>?_;clear hg)|fail)<;>conv=>whnf)
 clear c1 c2 hnn
 refine ED (fun(x:List Int×Bool×V×List Int×List (Int×Int))=>x.1.length) (fun x=>[(5,x.2.2.1)]) (fun x=>[.box nn [.l (iL x.1) x.2.1],.own x.2.2.1 1 (iL x.2.2.2.1),.map L (FL p x.2.2.2.2)])
  (fun x=>(∀y∈x.1,A7 p y=true)∧x.1.Nodup∧x.2.2.2.1.length+x.1.length≤16∧DM (Am p) l.length (l.mergeSort G9)=x.2.2.2.1++DM (Am p) x.1.length x.1) (l.mergeSort G9,false,.l [] true,[],M) rfl ⟨fun y hy=>hl.Iq y (List.mem_mergeSort.1 hy),(List.mergeSort_perm l G9).symm.nodup hnd,by simpa[hml]using h16,by simp[hml]⟩ ((Cx hs 1).perm (.swap _ _ _)) ?_
 clear hs;rintro⟨l',f',v,out,M⟩ σ ⟨hme,hn,hlen,hm⟩ hs;dsimp only at hme hn hlen hm hs;dsimp only;have hll:out.length<Ac∧(out.length+1)*8≤140737488355328:=by omega
 by_cases hz:l'.length=0
 ·rw[hz]at hm
  simp only[DM,Hj]at hm
  conv=>whnf
  repeat'((first|apply st|(apply sq;intro K U)|(apply si;intro A B Y Z)|(apply Y;clear Z B Y A)|(apply U;clear U K)|refine⟨rfl,?_⟩|refine ld ?_|(constructor<;>intro hc<;>(try rw[hc])<;>(replace hc:=bp hc)<;>(try simp(disch:=omega) only[BD,wrap64,AL]at hc)<;>try(exfalso;omega))|clear U K)<;>conv=>whnf)
  refine(N2 out v (by omega)).use (rest:=[_,_]) (hs.perm (.swap _ _ _)) ?_;clear hs;rintro r post σ ⟨rfl,rfl⟩ hs
  conv=>whnf
  repeat'((first|apply st|(apply Y;clear Z B Y A)|(apply U;clear U K)|fail)<;>conv=>whnf)
  exact Ap hs (Jp _ _) (.refl _) fun σ' hs'=>⟨_,⟨by rw[hm],M,rfl⟩,hs'⟩
 ·obtain⟨n,hnn⟩: ∃n,l'.length=n+1:=⟨l'.length - 1,by omega⟩
  have hne:l'≠[]:=fun e=>hz (by rw[e];rfl)
  obtain⟨i,hi⟩:=QU hok hne hme;have hil:i<l'.length:=by simpa using List.mem_of_find?_eq_some hi
  obtain⟨x,hx⟩: ∃x,l'[i]? =some x:=⟨_,Ct hil⟩
  rw[hnn,DM,hi,Option.getD_some,CP hx]at hm;have c3:=L5 l' f' x (by omega);rw[F5 hn hx]at c3;have hel:=List.length_eraseIdx_of_lt hil
  conv=>whnf
  repeat'((first|apply st|(apply sq;intro K U)|(apply si;intro A B Y Z)|(apply Y;clear Z B Y A)|(apply U;clear U K)|refine⟨rfl,?_⟩|refine ld ?_|(constructor<;>intro hc<;>(try rw[hc])<;>(replace hc:=bp hc)<;>(try simp(disch:=omega) only[BD,wrap64,AL]at hc)<;>try(exfalso;omega))|fail)<;>conv=>whnf)
  refine(IG 104 [] [.p nn 0,.rp [Fu p L]] (fun M=>[.box nn [.l (iL l') f'],.map L (FL p M)]) _ _ (WO p L nn l' f' hok hgw hfm hme) l' f' M (G3 fun y hy _=>hme y hy)).use (rest:=[.own v 1 (iL out)]) (hs.perm (.cons _ (.swap _ _ _))) ?_;clear hs;rintro r post σ ⟨rfl,rfl⟩ hs;rw[W9,hi];generalize (Bo _ l' 0 M).2=M2 at hs;dsimp only
  conv=>whnf
  repeat'((first|apply st|(apply sq;intro K U)|(apply si;intro A B Y Z)|(apply Y;clear Z B Y A)|(apply U;clear U K)|refine FE ?_|refine ld ?_|refine FB fun σ hs=>?_|refine aq fun v σ hs hsl=>?_|refine c3.use ?_|clear U K)<;>conv=>whnf)
  refine⟨(l'.eraseIdx i,true,v,out++[x],M2),by dsimp only;omega,rfl,⟨fun y hy=>hme y (List.mem_of_mem_eraseIdx hy),hn.sublist (List.eraseIdx_sublist _ _),by simp;omega,?_⟩,hs.perm (.cons _ (.swap _ _ _))⟩;dsimp only;rw[hm,hel,show l'.length - 1=n by omega];simp
def Xs: ∀ {l:List Int},l.Nodup→(l.mergeSort G9).Pairwise (· < ·):=fun {l} h=>by
 have h1:=List.pairwise_mergeSort (le:=G9) (fun a b c h1 h2=>by simp only[G9,CY]at *;omega) (fun a b=>by simp only[G9,Fz,CY];omega) l;have h2:=List.nodup_iff_pairwise_ne.1 ((List.mergeSort_perm l G9).symm.nodup h);exact(h1.and h2).imp fun⟨a,b⟩=>by simp only[G9,CY]at a;omega
def Wt {x:Int}: ∀ {out:List Int},out.Pairwise (· < ·)→x∉out→(G0 x out).Pairwise (· < ·)
 | [],_,_=>by simp[G0]
 | y ::r,h,hx=>by
   rw[List.pairwise_cons]at h;rw[GB,not_or]at hx;by_cases hy:y<x
   ·have e:G0 x (y::r)=y::G0 x r:=by simp[G0,List.takeWhile_cons,List.dropWhile_cons,hy]
    rw[e,List.pairwise_cons];refine⟨fun z hz=>?_,Wt h.2 hx.2⟩;rcases OG.1 hz with rfl|hz
    ·exact hy
    ·exact h.1 z hz
   ·have e:G0 x (y::r)=x::y::r:=by simp[G0,List.takeWhile_cons,List.dropWhile_cons,hy]
    rw[e,List.pairwise_cons,List.pairwise_cons];refine⟨fun z hz=>?_,h⟩;rcases GB.1 hz with rfl|hz
    ·have:=hx.1;omega
    ·have:=h.1 z hz
     have:=hx.1;omega
def Tb: ∀(l out:List Int),out.Pairwise (· < ·)→l.Nodup→(∀x∈l,x∉out)→(l.foldl (fun out x=>G0 x out) out).Pairwise (· < ·)
 | [],_,h,_,_=>h
 | x::r,out,h,hn,hx=>by
   rw[List.nodup_cons]at hn;refine Tb r _ (Wt h (hx x (.head _))) hn.2 fun y hy hm=>?_
   rcases OG.1 hm with rfl|hm
   ·exact hn.1 hy
   ·exact hx y (.tail _ hy) hm
def QD {l:List Int} (h:l.Nodup):l.mergeSort G9=Cw l:=
 J6 (Xs h) (Tb l [] .nil h fun x _ hm=>by cases hm) fun x=>by rw[List.mem_mergeSort,JL]
def Cy (p:Prog) (os:List Ob) (gen:Int) (args:List (Int×Int)):Bool:=
 (BX p).isSome&&(Fe (AM p) os&&(Jt p gen&&(decide ((args.length:Int)=p.Cz.getD gen.toNat 0)&&args.all (Bz os.length))))
set_option maxHeartbeats 1000000 in
def fj (p:Prog) (os:List Ob) (f:Bool) (gen:Int) (args:List (Int×Int)) (g:Bool):Pure Tryz.prog 24 [.a (BV p),.l (os.map Fa) f,eI gen,.l (pP args) g] (.b (Cy p os gen args)):=by
 refine Pure.fit (by kernel_rfl) fun hf=>?_
 have⟨p1,p2,p3,p4⟩:=GI hf.1;have F:=Jg hf.1;have hM:=Mx;have c1:=jE p;cases h1:(BX p).isSome<;>rw[h1]at c1
 ·refine Sv kZ ?_
  have hs:=Sn
  conv=>whnf
  repeat'((first|apply st|(apply sq;intro K U)|(apply si;intro A B Y Z)|(apply Y;clear Z B Y A)|(apply U;clear U K)|refine⟨kZ,?_⟩|refine c1.use ?_|fail)<;>conv=>whnf)
  all_goals exact AI (by simp[Cy,h1])
 have hok:=look_ok h1;have c2:=Kj p F hok.ZW hok.AT;have c3:=jM (AM p) os f hok.iB;cases h2:Fe (AM p) os<;>rw[h2]at c3
 ·refine Sv kZ ?_
  have hs:=Sn
  conv=>whnf
  repeat'((first|apply st|(apply sq;intro K U)|(apply si;intro A B Y Z)|(apply Y;clear Z B Y A)|(apply U;clear U K)|refine⟨kZ,?_⟩|refine D2 ?_|refine c1.use ?_|refine c2.use ?_|refine c3.use ?_|fail)<;>conv=>whnf)
  all_goals exact AI (by simp[Cy,h1,h2])
 have c4:=px p gen;cases h3:Jt p gen<;>rw[h3]at c4
 ·refine Sv kZ ?_
  have hs:=Sn
  conv=>whnf
  repeat'((first|apply st|(apply sq;intro K U)|(apply si;intro A B Y Z)|(apply Y;clear Z B Y A)|(apply U;clear U K)|refine⟨kZ,?_⟩|refine E2 ?_|refine D2 ?_|refine c1.use ?_|refine c2.use ?_|refine c3.use ?_|refine c4.use ?_|fail)<;>conv=>whnf)
  all_goals exact AI (by simp[Cy,h1,h2,h3])
 have hg:=h3;simp only[Jt,BZ,CY]at hg;obtain⟨x,hx⟩: ∃x,p.Cz[gen.toNat]? =some x:=⟨_,Ct (by omega)⟩
 have hxd:p.Cz.getD gen.toNat 0=x:=by rw[DK,hx];rfl
 have e3:((os.map Fa).length:Int)=os.length:=by simp
 have c5:Pure Tryz.prog 63 [.l (pP args) g,eI ((os.map Fa).length:Int)] (.b (args.all (Bz os.length))):=by rw[e3];exact Zh args g os.length
 have e:Cy p os gen args=(decide ((args.length:Int)=x)&&args.all (Bz os.length)):=by simp only[Cy,h1,h2,h3,hxd,Ey]
 rw[e];by_cases he:(args.length:Int)=x
 ·rw[decide_eq_true he,Ey]
  refine Sv kZ ?_;have hs:=Sn
  conv=>whnf
  repeat'((first|apply st|(apply sq;intro K U)|(apply si;intro A B Y Z)|(apply Y;clear Z B Y A)|(apply U;clear U K)|refine⟨rfl,?_⟩|refine⟨kZ,?_⟩|refine FE ?_|refine E2 ?_|refine c1.use ?_|refine c2.use ?_|refine c3.use ?_|refine c4.use ?_|refine c5.use ?_|(constructor<;>intro hc<;>(try rw[hc])<;>(replace hc:=bp hc)<;>(try simp(disch:=omega) only[BD,wrap64,AL]at hc))|fail)<;>conv=>whnf)
  all_goals first
   | exact AI rfl
   | (exfalso;simp[he]at hc;done)
 ·rw[decide_eq_false he,Bool.false_and]
  refine Sv kZ ?_;have hs:=Sn
  conv=>whnf
  repeat'((first|apply st|(apply sq;intro K U)|(apply si;intro A B Y Z)|(apply Y;clear Z B Y A)|(apply U;clear U K)|refine⟨rfl,?_⟩|refine⟨kZ,?_⟩|refine FE ?_|refine E2 ?_|refine c1.use ?_|refine c2.use ?_|refine c3.use ?_|refine c4.use ?_|refine c5.use ?_|(constructor<;>intro hc<;>(try rw[hc])<;>(replace hc:=bp hc)<;>(try simp(disch:=omega) only[BD,wrap64,AL]at hc))|fail)<;>conv=>whnf)
  all_goals first
   | (exfalso;simp[he]at hc;done)
   | exact AI rfl
def Ij (os:List Ob) (v:Int×Int):Int:=if v.1=1 then 1 else if v.1=2 then 2 else(os.getD v.2.toNat (0,[])).1
def Vw (os:List Ob) (f:Bool) (v:Int×Int) (hv:Bz os.length v=true):Pure Tryz.prog 121 [.l (os.map Fa) f,.a (pI v)] (.i .i64 (Ij os v)):=by
 refine Pure.fit (by kernel_rfl) fun hf=>?_
 have hM:=Mx
 have hol:os.length≤Ac:=by
  have:=hf.1;simp only[EZ,BD]at this;exact this.1
 obtain⟨k,n⟩:=v;refine nU kZ ?_;have hs:=Sn;by_cases h1:k=1
 ·conv=>whnf
  repeat'((first|apply st|(apply sq;intro K U)|(apply si;intro A B Y Z)|(apply Y;clear Z B Y A)|(apply U;clear U K)|refine⟨rfl,?_⟩|(constructor<;>intro hc<;>(try rw[hc])<;>(replace hc:=bp hc)<;>(try simp(disch:=omega) only[BD,wrap64,AL]at hc)<;>try(exfalso;omega))|clear U K)<;>conv=>whnf)
  all_goals exact AI (by simp[Ij,h1])
 by_cases h2:k=2
 ·conv=>whnf
  repeat'((first|apply st|(apply sq;intro K U)|(apply si;intro A B Y Z)|(apply Y;clear Z B Y A)|(apply U;clear U K)|refine⟨rfl,?_⟩|(constructor<;>intro hc<;>(try rw[hc])<;>(replace hc:=bp hc)<;>(try simp(disch:=omega) only[BD,wrap64,AL]at hc)<;>try(exfalso;omega))|clear U K)<;>conv=>whnf)
  all_goals exact AI (by simp[Ij,h1,h2])
 ·have hn:0≤n∧n<os.length:=by
   simp only[Bz,if_neg h1,if_neg h2]at hv;split at hv
   ·simpa using hv
   ·cases hv
  obtain⟨x,hx⟩: ∃x,os[n.toNat]? =some x:=⟨_,Ct (by omega)⟩
  have hxd:os.getD n.toNat (0,[])=x:=by rw[DK,hx];rfl
  conv=>whnf
  repeat'((first|apply st|(apply sq;intro K U)|(apply si;intro A B Y Z)|(apply Y;clear Z B Y A)|(apply U;clear U K)|refine⟨rfl,?_⟩|refine FE ?_|(constructor<;>intro hc<;>(try rw[hc])<;>(replace hc:=bp hc)<;>(try simp(disch:=omega) only[BD,wrap64,AL]at hc)<;>try(exfalso;omega))|fail)<;>conv=>whnf)
  all_goals exact AI (by rw[Ij,if_neg h1,if_neg h2,hxd])
end Go.Gl
namespace Go.Gl
open Go.Proofs
def n9 {σ:AH} {l:List At} {i:Nat} {v:V} {sz:Nat} {es:List (List V)} (hs:Sat σ l) (hi:l[i]? =some (.own v sz es)) (he: ∀e∈es,e.length=sz) {K:V→AH→Prop} (hk: ∀v' σ',Sat σ' (l.set i (.own v' sz es))→((B6 v').isSome=true∨(v'= .l es true∧v= .l es true))→K v' σ'):AV σ sz v none (some (.i .i64 (es.length:Int))) (some (.i .i64 (es.length:Int))) K:=by
 rcases hs.get hi with⟨rfl,_⟩|⟨n,cap,rfl,hn⟩
 ·refine⟨he,?_⟩
  simp only[ND];refine⟨Int.le_refl _,Int.natCast_nonneg _,Int.le_refl _,trivial,?_⟩
  have hset:l.set i (.own (.l es true) sz es)=l:=by
   refine List.ext_getElem? fun j=>?_
   by_cases hj:i=j
   ·subst hj
    rw[List.getElem?_set_self (Hk.1 hi).1,hi]
   ·rw[List.getElem?_set_ne hj]
  have:=hk (.l es true) σ (by rw[hset];exact hs) (.inr ⟨rfl,rfl⟩);simpa using this
 ·unfold AV
  simp only[ND];refine⟨Int.le_refl _,Int.natCast_nonneg _,Int.le_refl _,trivial,trivial,trivial,?_⟩;rw[hn];refine⟨rfl,rfl,rfl,.inr (hk _ _ ?_ (.inl rfl))⟩;refine hs.change hi (fun b hb ha=>FF hb fun m hm=>?_) (fun b hb ha m hm=>?_) (.inr ⟨n,es.length,rfl,ES _ _ _⟩)
  ·rw[C5]
   intro e;subst e;exact ha m rfl hm
  ·cases hm
   exact ha _ rfl
attribute [local irreducible] BL A5 Aj AW AN Ai AV AX AO Ah AS AU BA BK Sat Ad BH Al W
def fY (xs:List Int) (v:V) (hl:xs.length≤Ac) (hv:(B6 v).isSome=true∨(v= .l [] true∧xs= [])):Bj Tryz.prog 99 [v] [.own v 1 (iL xs)] fun r post=> ∃v',r= .ret v'∧post= [.own v' 1 (iL xs)]∧((B6 v').isSome=true∨(v'= .l [] true∧xs= [])):=by
 intro σ hs;have hg:=Cn Bq xs;refine gZ kZ ?_
 conv=>whnf
 repeat'((first|(apply sq;intro K U)|(apply si;intro A B Y Z)|(apply Y;clear Z B Y A)|(apply U;clear U K)|refine lo ?_|fail)<;>conv=>whnf)
 refine n9 (i:=0) hs rfl hg.1 fun v' σ hs hv'=>?_
 conv=>whnf
 repeat'((first|apply st|(apply Y;clear Z B Y A)|(apply U;clear U K)|fail)<;>conv=>whnf)
 refine Ap hs (List.Sublist.refl _) (.refl _) fun σ' hs'=>⟨_,⟨v',rfl,rfl,?_⟩,hs'⟩
 rcases hv' with h|⟨h1,h2⟩
 ·exact .inl h
 ·rcases hv with h|⟨h3,h4⟩
  ·rw[h2]at h;cases h
  ·subst h4
   exact .inr ⟨h1,rfl⟩
def Sr (xs ys:List Int) (k:Nat):Prop:=ys.length=xs.length∧ ∀t,t<xs.length→ys[t]? =if t<k∨xs.length - k≤t then xs[xs.length - 1 - t]? else xs[t]?
def jw (xs:List Int):Sr xs xs 0:=⟨rfl,fun t ht=>by rw[if_neg (by omega)]⟩
def b6 {xs ys:List Int} {k:Nat} (h:Sr xs ys k) (hk:xs.length≤2*k+1):ys=xs.reverse:=by
 refine List.ext_getElem? fun t=>?_
 rcases Nat.lt_or_ge t xs.length with ht|ht
 ·rw[h.2 t ht,List.getElem?_reverse ht]
  split
  ·rfl
  ·congr 1;omega
 ·rw[List.getElem?_eq_none (by rw[h.1];exact ht),List.getElem?_eq_none (by rw[List.length_reverse];exact ht)]
def YP {xs ys:List Int} {k:Nat} {a b:Int} (h:Sr xs ys k) (hk:2*k+1<xs.length) (ha:ys[k]? =some a) (hb:ys[xs.length - 1 - k]? =some b):Sr xs ((ys.set k b).set (xs.length - 1 - k) a) (k+1):=by
 have h1:=h.2 k (by omega);have h2:=h.2 (xs.length - 1 - k) (by omega);rw[if_neg (by omega),ha]at h1;rw[if_neg (by omega),hb]at h2;refine⟨by rw[List.length_set,List.length_set];exact h.1,fun t ht=>?_⟩;have hl:=h.1;by_cases e1:t=xs.length - 1 - k
 ·subst e1
  rw[List.getElem?_set_self (by rw[List.length_set];omega),if_pos (by omega),show xs.length - 1 - (xs.length - 1 - k)=k by omega,h1]
 ·rw[List.getElem?_set_ne (fun e=>e1 e.symm)]
  by_cases e2:t=k
  ·subst e2
   rw[List.getElem?_set_self (by omega),if_pos (by omega),h2]
  ·rw[List.getElem?_set_ne (fun e=>e2 e.symm),h.2 t ht]
   by_cases e3:t<k∨xs.length - k≤t
   ·rw[if_pos e3,if_pos (by omega)]
   ·rw[if_neg e3,if_neg (by omega)]
end Go.Gl
namespace Go.Gl
open Go.Proofs
attribute [local irreducible] BL A5 Aj AW AN Ai AV AX AO Ah AS AU BA BK Sat Ad BH Al W
set_option maxHeartbeats 1000000 in
def Xv (xs:List Int) (v:V) (hl:xs.length≤1000) (hv:(B6 v).isSome=true∨(v= .l [] true∧xs= [])):Bj Tryz.prog 82 [v] [.own v 1 (iL xs)] fun r post=>r= .ret (.t [])∧post= [.own v 1 (iL xs.reverse)]:=by
 intro σ hs;have hM:=Mx;have e0:((iL xs).length:Int)=xs.length:=by simp
 have hw0:IntKind.i64.wrap (((iL xs).length:Int) - 1)=(xs.length:Int) - 1:=by rw[e0,wrap64 (by omega) (by omega)]
 refine qO kZ ?_
 conv=>whnf
 repeat'((first|apply st|(apply sq;intro K U)|(apply si;intro A B Y Z)|(apply Y;clear Z B Y A)|(apply U;clear U K)|refine⟨rfl,?_⟩|refine lo ?_|fail)<;>conv=>whnf)
 refine ED (fun(x:Int×Int×List Int)=>(x.2.1+1).toNat) (fun x=>[(2,eI x.1),(3,eI x.2.1)]) (fun x=>[.own v 1 (iL x.2.2)]) (fun x=> ∃k:Nat,x.1=k∧x.2.1=(xs.length:Int) - 1 - k∧2*k≤xs.length+1∧Sr xs x.2.2 k) (0,IntKind.i64.wrap (((iL xs).length:Int) - 1),xs) rfl ⟨0,rfl,by rw[hw0];simp,by omega,jw xs⟩ hs ?_;clear hs;rintro⟨i,j,ys⟩ σ ⟨k,hi,hj,hk,hh⟩ hs;dsimp only at hi hj hh hs;dsimp only;have hyl:=hh.1;by_cases hij:i<j
 ·have hsv:(B6 v).isSome=true:=by
   rcases hv with h|⟨h1,h2⟩
   ·exact h
   ·rw[h2]at hj;simp at hj;omega
  have hwi:IntKind.i64.wrap (i+1)=i+1:=wrap64 (by omega) (by omega);have hwj:IntKind.i64.wrap (j - 1)=j - 1:=wrap64 (by omega) (by omega);obtain⟨a,ha⟩: ∃a,ys[i.toNat]? =some a:=⟨_,Ct (by omega)⟩
  obtain⟨b,hb⟩: ∃b,ys[j.toNat]? =some b:=⟨_,Ct (by omega)⟩
  conv=>whnf
  repeat'((first|apply st|(apply sq;intro K U)|(apply si;intro A B Y Z)|(apply Y;clear Z B Y A)|(apply U;clear U K)|apply dr|refine⟨rfl,?_⟩|refine oi ?_|refine xm ?_|refine NX ?_|refine oset fun σ hs=>?_|refine oset (fun σ hs=>?_) (h1:=by rw[List.length_set];omega)|(constructor<;>intro hc<;>(try rw[hc])<;>(replace hc:=bp hc)<;>try(exfalso;omega))|fail)<;>conv=>whnf)
  have hik:i.toNat=k:=by omega
  have hjk:j.toNat=xs.length - 1 - k:=by omega
  refine⟨(IntKind.i64.wrap (i+1),IntKind.i64.wrap (j - 1),(ys.set i.toNat b).set j.toNat a),by dsimp only;rw[hwj];omega,rfl,⟨k+1,by dsimp only;rw[hwi];omega,by dsimp only;rw[hwj];omega,by omega,?_⟩,hs⟩;dsimp only;rw[hik]at ha ⊢;rw[hjk]at hb ⊢;exact YP hh (by omega) ha hb
 ·have he:=b6 hh (by omega)
  conv=>whnf
  repeat'((first|apply st|(apply sq;intro K U)|(apply si;intro A B Y Z)|(apply Y;clear Z B Y A)|(apply U;clear U K)|refine⟨rfl,?_⟩|(constructor<;>intro hc<;>(try rw[hc])<;>(replace hc:=bp hc)<;>try(exfalso;omega))|clear U K)<;>conv=>whnf)
  subst he;exact Ap hs (List.Sublist.refl _) (.refl _) fun σ' hs'=>⟨_,⟨rfl,rfl⟩,hs'⟩
set_option maxHeartbeats 4000000 in
def Vx (p:Prog) (L:Nat) (l:List Int) (f:Bool) (hok:Dv p) (hgw:CS (AM p)) (hfm: ∀x∈p.methods,Cg (AM p) x.fact=true) (hl:Ny p l) (hnd:l.Nodup) (M:List (Int×Int)) :
    Bj Tryz.prog 69 [Fu p L,.l (iL l) f] [.map L (FL p M)] fun r post=> ∃v M',r= .ret v∧post= [.own v 1 (iL (DM (Am p) l.length (l.mergeSort G9))),.map L (FL p M')]∧((B6 v).isSome=true∨(v= .l [] true∧DM (Am p) l.length (l.mergeSort G9)= [])):=by
 intro σ hs;have hM:=Mx;have h16:=hl.many;have hml:(l.mergeSort G9).length=l.length:=List.length_mergeSort _;have c1:=P8 l f;have c2:=QC l f (by omega);refine gi kZ ?_
 conv=>whnf
 repeat'((first|apply st|(apply sq;intro K U)|(apply si;intro A B Y Z)|(apply Y;clear Z B Y A)|(apply U;clear U K)|refine ld ?_|refine FB fun σ hs=>?_|refine c1.use ?_|refine c2.use ?_|(intro nn hnn;generalize hg:A6 _ nn _=σ;refine CW hg fun hs=>?_;clear hg)|fail)<;>conv=>whnf)
 clear c1 c2 hnn
 refine ED (fun(x:List Int×Bool×V×List Int×List (Int×Int))=>x.1.length) (fun x=>[(5,x.2.2.1)]) (fun x=>[.box nn [.l (iL x.1) x.2.1],.own x.2.2.1 1 (iL x.2.2.2.1),.map L (FL p x.2.2.2.2)])
  (fun x=>(∀y∈x.1,A7 p y=true)∧x.1.Nodup∧x.2.2.2.1.length+x.1.length≤16∧DM (Am p) l.length (l.mergeSort G9)=x.2.2.2.1++DM (Am p) x.1.length x.1∧((B6 x.2.2.1).isSome=true∨(x.2.2.1= .l [] true∧x.2.2.2.1= []))) (l.mergeSort G9,false,.l [] true,[],M) rfl ⟨fun y hy=>hl.Iq y (List.mem_mergeSort.1 hy),(List.mergeSort_perm l G9).symm.nodup hnd,by simpa[hml]using h16,by simp[hml],.inr ⟨rfl,rfl⟩⟩ ((Cx hs 1).perm (.swap _ _ _)) ?_
 clear hs;rintro⟨l',f',v,out,M⟩ σ ⟨hme,hn,hlen,hm,hv⟩ hs;dsimp only at hme hn hlen hm hv hs;dsimp only;have hll:out.length<Ac∧(out.length+1)*8≤140737488355328:=by omega
 by_cases hz:l'.length=0
 ·rw[hz]at hm
  simp only[DM,Hj]at hm
  conv=>whnf
  repeat'((first|apply st|(apply sq;intro K U)|(apply si;intro A B Y Z)|(apply Y;clear Z B Y A)|(apply U;clear U K)|refine⟨rfl,?_⟩|refine ld ?_|(constructor<;>intro hc<;>(try rw[hc])<;>(replace hc:=bp hc)<;>(try simp(disch:=omega) only[BD,wrap64,AL]at hc)<;>try(exfalso;omega))|clear U K)<;>conv=>whnf)
  refine(fY out v (by omega) hv).use (rest:=[_,_]) (hs.perm (.swap _ _ _)) ?_;clear hs;rintro r post σ ⟨v',rfl,rfl,hv'⟩ hs
  conv=>whnf
  repeat'((first|apply st|(apply Y;clear Z B Y A)|(apply U;clear U K)|fail)<;>conv=>whnf)
  rw[hm];exact Ap hs (.cons₂ _ (Jp _ _)) (.refl _) fun σ' hs'=>⟨_,⟨v',M,rfl,rfl,hv'⟩,hs'⟩
 ·obtain⟨n,hnn⟩: ∃n,l'.length=n+1:=⟨l'.length - 1,by omega⟩
  have hne:l'≠[]:=fun e=>hz (by rw[e];rfl)
  obtain⟨i,hi⟩:=QU hok hne hme;have hil:i<l'.length:=by simpa using List.mem_of_find?_eq_some hi
  obtain⟨x,hx⟩: ∃x,l'[i]? =some x:=⟨_,Ct hil⟩
  rw[hnn,DM,hi,Option.getD_some,CP hx]at hm;have c3:=L5 l' f' x (by omega);rw[F5 hn hx]at c3;have hel:=List.length_eraseIdx_of_lt hil
  conv=>whnf
  repeat'((first|apply st|(apply sq;intro K U)|(apply si;intro A B Y Z)|(apply Y;clear Z B Y A)|(apply U;clear U K)|refine⟨rfl,?_⟩|refine ld ?_|(constructor<;>intro hc<;>(try rw[hc])<;>(replace hc:=bp hc)<;>(try simp(disch:=omega) only[BD,wrap64,AL]at hc)<;>try(exfalso;omega))|fail)<;>conv=>whnf)
  refine(IG 104 [] [.p nn 0,.rp [Fu p L]] (fun M=>[.box nn [.l (iL l') f'],.map L (FL p M)]) _ _ (WO p L nn l' f' hok hgw hfm hme) l' f' M (G3 fun y hy _=>hme y hy)).use (rest:=[.own v 1 (iL out)]) (hs.perm (.cons _ (.swap _ _ _))) ?_;clear hs;rintro r post σ ⟨rfl,rfl⟩ hs;rw[W9,hi];generalize (Bo _ l' 0 M).2=M2 at hs;dsimp only
  conv=>whnf
  repeat'((first|apply st|(apply sq;intro K U)|(apply si;intro A B Y Z)|(apply Y;clear Z B Y A)|(apply U;clear U K)|refine FE ?_|refine ld ?_|refine FB fun σ hs=>?_|refine aq fun v σ hs hsl=>?_|refine c3.use ?_|clear U K)<;>conv=>whnf)
  refine⟨(l'.eraseIdx i,true,v,out++[x],M2),by dsimp only;omega,rfl,⟨fun y hy=>hme y (List.mem_of_mem_eraseIdx hy),hn.sublist (List.eraseIdx_sublist _ _),by simp;omega,?_,.inl hsl⟩,hs.perm (.cons _ (.swap _ _ _))⟩;dsimp only;rw[hm,hel,show l'.length - 1=n by omega];simp
def Yo (os:List Ob) (f:Bool) (v:Int×Int):Pure Tryz.prog 79 [.a (pI v),.rp [.l (os.map Fa) f]] (.b (Bz os.length v)):=by
 have e3:((os.map Fa).length:Int)=os.length:=by simp
 have c1:Pure Tryz.prog 80 [.a (pI v),eI ((os.map Fa).length:Int)] (.b (Bz os.length v)):=by rw[e3];exact de v os.length
 refine qQ kZ ?_;have hs:=Sn
 conv=>whnf
 repeat'((first|apply st|(apply sq;intro K U)|(apply si;intro A B Y Z)|(apply Y;clear Z B Y A)|(apply U;clear U K)|refine⟨kZ,?_⟩|refine c1.use ?_|fail)<;>conv=>whnf)
 all_goals exact AI rfl
def fb (xs:List (Int×Int)) (v:V) (hl:xs.length≤Ac):Bj Tryz.prog 114 [v] [.own v 2 (pP xs)] fun r post=>r= .ret (.l (pP xs) true)∧post= []:=by
 intro σ hs;have hg:=Cn N1 xs;refine na kZ ?_
 conv=>whnf
 repeat'((first|(apply sq;intro K U)|(apply si;intro A B Y Z)|(apply Y;clear Z B Y A)|(apply U;clear U K)|refine lo ?_|fail)<;>conv=>whnf)
 refine WG (i:=0) hs rfl hg.1 (by simpa using hl) fun σ hs=>?_
 conv=>whnf
 repeat'((first|apply st|(apply Y;clear Z B Y A)|(apply U;clear U K)|fail)<;>conv=>whnf)
 exact Ap hs (List.Sublist.refl _) (.refl _) fun σ' hs'=>⟨_,⟨rfl,rfl⟩,hs'⟩
def cE (os:List Ob) (f:Bool) (xs:List (Int×Int)) (g:Bool) (hxl:xs.length≤1000):Pure Tryz.prog 78 [.l (pP xs) g,.f (.func 79) [] [.rp [.l (os.map Fa) f]]] (.l (pP (xs.filter (Bz os.length))) true):=by
 refine Pure.of ?_;have hM:=Mx;refine qR kZ ?_;have hs:=Sn
 conv=>whnf
 repeat'((first|apply st|(apply sq;intro K U)|(apply si;intro A B Y Z)|(apply Y;clear Z B Y A)|(apply U;clear U K)|fail)<;>conv=>whnf)
 refine B4 xs.length (fun k v=>[(5,v),(10,eI (A3 k))]) (fun k v=>[.own v 2 (pP ((xs.take k).filter (Bz os.length)))]) (fun _ _=>True) (.l [] true) rfl trivial (EM hs 2) ?_;clear hs;rintro k v σ hk - hs;have hfl:=KN (Bz os.length) (xs.take k);rw[LZ]at hfl;rcases BE xs hk with⟨y,hy,hlt⟩|hke
 ·have hst:(xs.take (k+1)).filter (Bz os.length)=if Bz os.length y then(xs.take k).filter (Bz os.length)++[y]else(xs.take k).filter (Bz os.length):=by
   rw[AQ hy,List.filter_append];cases hp:Bz os.length y<;>simp[hp]
  generalize (xs.take k).filter (Bz os.length)=zs at *;have hll:zs.length<Ac∧(zs.length+1)*16≤140737488355328:=by omega
  have c1:=Yo os f y;cases hvy:Bz os.length y<;>rw[hvy]at c1 hst
  ·conv=>whnf
   repeat'((first|apply st|(apply sq;intro K U)|(apply si;intro A B Y Z)|(apply Y;clear Z B Y A)|(apply U;clear U K)|refine⟨rfl,?_⟩|refine⟨kZ,?_⟩|refine ix ?_|refine ld ?_|refine DB fun σ hs=>?_|(refine CA (fun hc=>?_)<;>(try rw[hc])<;>clear hc)|refine Bp (c1.use ?_)|(intro nn hnn;generalize hg:A6 _ nn _=σ;refine CW hg fun hs=>?_;clear hg)|clear U K)<;>conv=>whnf)
   exact⟨hlt,_,rfl,trivial,by rw[hst];exact hs.less (Jp _ _)⟩
  ·conv=>whnf
   repeat'((first|apply st|(apply sq;intro K U)|(apply si;intro A B Y Z)|(apply Y;clear Z B Y A)|(apply U;clear U K)|refine⟨rfl,?_⟩|refine⟨kZ,?_⟩|refine ix ?_|refine ld ?_|refine DB fun σ hs=>?_|(refine CA (fun hc=>?_)<;>(try rw[hc])<;>clear hc)|refine Bp (c1.use ?_)|refine aq (enc:=pI) (x:=((_:Int),(_:Int))) (fun v σ hs hsl=>?_) (hg:=N1)|(intro nn hnn;generalize hg:A6 _ nn _=σ;refine CW hg fun hs=>?_;clear hg)|clear U K)<;>conv=>whnf)
   exact⟨hlt,_,rfl,trivial,by rw[hst];exact hs.less (Jp _ _)⟩
 ·rw[Au hke]at hs
  conv=>whnf
  repeat'((first|apply st|(apply sq;intro K U)|(apply si;intro A B Y Z)|(apply Y;clear Z B Y A)|(apply U;clear U K)|refine⟨rfl,?_⟩|(refine DU (fun hc=>?_)<;>(try rw[hc])<;>clear hc)|clear U K)<;>conv=>whnf)
  refine(fb (xs.filter (Bz os.length)) v (by have:=KN (Bz os.length) xs;omega)).use (rest:=[]) (by simpa using hs) ?_;clear hs;rintro r post σ ⟨rfl,rfl⟩ hs
  conv=>whnf
  repeat'((first|apply st|(apply Y;clear Z B Y A)|(apply U;clear U K)|fail)<;>conv=>whnf)
  exact AR (by rfl)
def Xr (f : Fact):Nt f=true→Pure Tryz.prog 116 [.a (xF f)] (eI (DF f)):=by
 induction f using Fact.ind with
 | h f ih=>
   intro ha;refine Pure.fit (by kernel_rfl) fun hf=>?_
   have⟨h2,h3,h4⟩:=HO hf.1;have hM:=Mx;rw[LH]at ha;simp only[BZ,CY,List.all_map,E0]at ha;have c1:=NM f;refine nZ kZ ?_;have hs:=Sn;by_cases hlf:Br f=true
   ·rw [hlf]at c1
    have hw:IntKind.i64.wrap (f.arg+1)=f.arg+1:=wrap64 (by omega) (by omega)
    conv=>whnf
    repeat'((first|apply st|(apply sq;intro K U)|(apply si;intro A B Y Z)|(apply Y;clear Z B Y A)|(apply U;clear U K)|refine⟨rfl,?_⟩|refine⟨kZ,?_⟩|refine c1.use ?_|fail)<;>conv=>whnf)
    all_goals
     refine B4 f.kids.length (fun k (_:Unit)=>[(3,eI (((f.kids.take k).map DF).foldl HC (if Br f then f.arg+1 else 0))),(14,eI (A3 k))]) (fun _ _=>[]) (fun _ _=>True) () (by rw[hw,if_pos hlf];rfl) trivial hs ?_;clear hs;rintro k - σ hk - hs;rcases BE f.kids hk with⟨x,hx,hlt⟩|hke
     ·have hxs:=ih x (B1 hx) (ha.2 x (B1 hx))
      conv=>whnf
      repeat'((first|apply st|(apply sq;intro K U)|(apply si;intro A B Y Z)|(apply Y;clear Z B Y A)|(apply U;clear U K)|refine⟨rfl,?_⟩|refine⟨kZ,?_⟩|refine Lg ?_|refine ld ?_|refine DB fun σ hs=>?_|(refine CA (fun hc=>?_)<;>(try rw[hc])<;>clear hc)|(intro nn hnn;generalize hg:A6 _ nn _=σ;refine CW hg fun hs=>?_;clear hg)|refine Pure.use (by assumption) ?_|clear U K)<;>conv=>whnf)
      exact⟨hlt,(),by rw[Ec _ _ _ hx];rfl,trivial,hs.take 0⟩
     ·conv=>whnf
      repeat'((first|apply st|(apply sq;intro K U)|(apply si;intro A B Y Z)|(apply Y;clear Z B Y A)|(apply U;clear U K)|refine⟨rfl,?_⟩|(refine DU (fun hc=>?_)<;>(try rw[hc])<;>clear hc)|clear U K)<;>conv=>whnf)
      exact AI (by rw[Au hke,←D8])
   ·rw [Bool.not_eq_true]at hlf
    rw[hlf]at c1;have hlf2: ¬Br f=true:=by rw[hlf];decide
    conv=>whnf
    repeat'((first|apply st|(apply sq;intro K U)|(apply si;intro A B Y Z)|(apply Y;clear Z B Y A)|(apply U;clear U K)|refine⟨kZ,?_⟩|refine c1.use ?_|fail)<;>conv=>whnf)
    all_goals
     refine B4 f.kids.length (fun k (_:Unit)=>[(3,eI (((f.kids.take k).map DF).foldl HC (if Br f then f.arg+1 else 0))),(14,eI (A3 k))]) (fun _ _=>[]) (fun _ _=>True) () (by rw[if_neg hlf2];rfl) trivial hs ?_;clear hs;rintro k - σ hk - hs;rcases BE f.kids hk with⟨x,hx,hlt⟩|hke
     ·have hxs:=ih x (B1 hx) (ha.2 x (B1 hx))
      conv=>whnf
      repeat'((first|apply st|(apply sq;intro K U)|(apply si;intro A B Y Z)|(apply Y;clear Z B Y A)|(apply U;clear U K)|refine⟨rfl,?_⟩|refine⟨kZ,?_⟩|refine Lg ?_|refine ld ?_|refine DB fun σ hs=>?_|(refine CA (fun hc=>?_)<;>(try rw[hc])<;>clear hc)|(intro nn hnn;generalize hg:A6 _ nn _=σ;refine CW hg fun hs=>?_;clear hg)|refine Pure.use (by assumption) ?_|clear U K)<;>conv=>whnf)
      exact⟨hlt,(),by rw[Ec _ _ _ hx];rfl,trivial,hs.take 0⟩
     ·conv=>whnf
      repeat'((first|apply st|(apply sq;intro K U)|(apply si;intro A B Y Z)|(apply Y;clear Z B Y A)|(apply U;clear U K)|refine⟨rfl,?_⟩|(refine DU (fun hc=>?_)<;>(try rw[hc])<;>clear hc)|clear U K)<;>conv=>whnf)
      exact AI (by rw[Au hke,←D8])
def S1 (v:Int×Int) (n:Int):Pure Tryz.prog 149 [.a (pI v),eI n] (.b (Bz n v)):=by
 obtain⟨k,x⟩:=v;refine mq kZ ?_;have hs:=Sn
 conv=>whnf
 repeat'((first|apply st|(apply sq;intro K U)|(apply si;intro A B Y Z)|(apply Y;clear Z B Y A)|(apply U;clear U K)|refine⟨rfl,?_⟩|(constructor<;>intro hc<;>(try rw[hc])<;>(replace hc:=bp hc)<;>(try simp(disch:=omega) only[BD,wrap64,AL]at hc))|clear U K)<;>conv=>whnf)
 all_goals exact AI (by simp[Bz, *]<;>omega)
def Vs (os:List Ob) (f:Bool) (v:Int×Int):Pure Tryz.prog 148 [.a (pI v),.rp [.l (os.map Fa) f]] (.b (Bz os.length v)):=by
 have e3:((os.map Fa).length:Int)=os.length:=by simp
 have c1:Pure Tryz.prog 149 [.a (pI v),eI ((os.map Fa).length:Int)] (.b (Bz os.length v)):=by rw[e3];exact S1 v os.length
 refine mr kZ ?_;have hs:=Sn
 conv=>whnf
 repeat'((first|apply st|(apply sq;intro K U)|(apply si;intro A B Y Z)|(apply Y;clear Z B Y A)|(apply U;clear U K)|refine⟨kZ,?_⟩|refine c1.use ?_|fail)<;>conv=>whnf)
 all_goals exact AI rfl
def Nu (g:FuncId) (fi ca:List V) (q:Int×Int→Bool):Prop:= ∀v,Pure Tryz.prog g (fi++[.a (pI v)]++ca) (.b (q v))
def Nu.use {g:FuncId} {fi ca:List V} {q:Int×Int→Bool} (h:Nu g fi ca q) {v:Int×Int} {σ:AH} {k kp:V→AH→Prop} (hk:k (.b (q v)) σ):BA Tryz.prog (.f (.func g) fi ca) [.a (pI v)] σ (qk k kp):=Bp ((h v).use hk)
def Vp {g:FuncId} {fi ca:List V} {q:Int×Int→Bool} (hpf:Nu g fi ca q) (v:Int×Int):Pure Tryz.prog 191 [.a (pI v),.rp [.f (.func g) fi ca]] (.b (!q v)):=by
 refine l8 kZ ?_;have hs:=Sn
 conv=>whnf
 repeat'((first|apply st|(apply sq;intro K U)|(apply si;intro A B Y Z)|(apply Y;clear Z B Y A)|(apply U;clear U K)|refine⟨kZ,?_⟩|refine Nu.use hpf ?_|fail)<;>conv=>whnf)
 all_goals exact AI rfl
def Nf {α:Type} (q:α→Bool):List α→Nat→Int
 | [],_=> -1
 | v::r,k=>if q v then Nf q r (k+1)else k
def OR {α:Type} (q:α→Bool): ∀(l:List α) (k:Nat),decide (Nf q l k≥0)= !l.all q
 | [],_=>rfl
 | v ::r,k=>by
   rw[Nf,MU];cases q v
   ·rw[if_neg (by decide),Bool.false_and]
    exact decide_eq_true (Int.natCast_nonneg k)
   ·rw[if_pos rfl,Ey]
    exact OR q r (k+1)
def bu {g:FuncId} {fi ca:List V} {q:Int×Int→Bool} (hpf:Nu g fi ca q) (l:List (Int×Int)) (b:Bool):Pure Tryz.prog 239 [.l (pP l) b,.f (.func 191) [] [.rp [.f (.func g) fi ca]]] (eI (Nf q l 0)):=by
 refine Pure.fit (by kernel_rfl) fun hf=>?_
 have hl:l.length≤Ac:=by
  have:=hf.1;simp only[EZ,BD]at this;exact this.1
 have hM:=Mx;refine lE kZ ?_;have hs:=Sn
 conv=>whnf
 repeat'((first|apply st|(apply sq;intro K U)|(apply si;intro A B Y Z)|(apply Y;clear Z B Y A)|(apply U;clear U K)|fail)<;>conv=>whnf)
 refine B4 l.length (fun k (_:Unit)=>[(8,eI (A3 k))]) (fun _ _=>[]) (fun k _=>Nf q l 0=Nf q (l.drop k) k) () rfl rfl hs ?_;clear hs;rintro k - σ hk hn hs;have hck:A3 k=k:=AL (by omega);rcases BE l hk with⟨x,hx,hlt⟩|hke
 ·have c1:=Vp hpf x
  rw[drop_cons hx,Nf]at hn;cases hv:q x<;>rw[hv]at c1 hn
  ·conv=>whnf
   repeat'((first|apply st|(apply sq;intro K U)|(apply si;intro A B Y Z)|(apply Y;clear Z B Y A)|(apply U;clear U K)|refine⟨rfl,?_⟩|refine⟨kZ,?_⟩|refine ix ?_|refine E2 ?_|(refine CA (fun hc=>?_)<;>(try rw[hc])<;>clear hc)|refine Bp (c1.use ?_)|clear U K)<;>conv=>whnf)
   exact AI (by rw[hn,if_neg (by decide),hck])
  ·conv=>whnf
   repeat'((first|apply st|(apply sq;intro K U)|(apply si;intro A B Y Z)|(apply Y;clear Z B Y A)|(apply U;clear U K)|refine⟨rfl,?_⟩|refine⟨kZ,?_⟩|refine ix ?_|refine D2 ?_|(refine CA (fun hc=>?_)<;>(try rw[hc])<;>clear hc)|refine Bp (c1.use ?_)|clear U K)<;>conv=>whnf)
   exact⟨hlt,(),rfl,by rw[hn,if_pos rfl],hs⟩
 ·conv=>whnf
  repeat'((first|apply st|(apply sq;intro K U)|(apply si;intro A B Y Z)|(apply Y;clear Z B Y A)|(apply U;clear U K)|refine⟨rfl,?_⟩|(refine DU (fun hc=>?_)<;>(try rw[hc])<;>clear hc)|clear U K)<;>conv=>whnf)
  exact AI (by rw[hn,Ag hke];rfl)
def UM {g:FuncId} {fi ca:List V} {q:Int×Int→Bool} (hpf:Nu g fi ca q) (l:List (Int×Int)) (b:Bool):Pure Tryz.prog 190 [.l (pP l) b,.f (.func 191) [] [.rp [.f (.func g) fi ca]]] (.b (!l.all q)):=by
 have c1:=bu hpf l b;refine l9 kZ ?_;have hs:=Sn
 conv=>whnf
 repeat'((first|apply st|(apply sq;intro K U)|(apply si;intro A B Y Z)|(apply Y;clear Z B Y A)|(apply U;clear U K)|refine⟨rfl,?_⟩|refine c1.use ?_|fail)<;>conv=>whnf)
 all_goals exact AI (by rw[←OR q l 0])
def aO {g:FuncId} {fi ca:List V} {q:Int×Int→Bool} (hpf:Nu g fi ca q) (l:List (Int×Int)) (b:Bool):Pure Tryz.prog 147 [.l (pP l) b,.f (.func g) fi ca] (.b (l.all q)):=by
 have c1:=UM hpf l b;refine mu kZ ?_;have hs:=Sn
 conv=>whnf
 repeat'((first|apply st|(apply sq;intro K U)|(apply si;intro A B Y Z)|(apply Y;clear Z B Y A)|(apply U;clear U K)|refine c1.use ?_|fail)<;>conv=>whnf)
 all_goals exact AI (by rw[Bool.not_not])
def Zy (w:AK) (hw:CS w) (c s:Int) (hc0:3≤c) (hc1:c<3+w.parents.length) (hs0:0≤s) (hs1:s<w.owner.length):Pure Tryz.prog 192 [.rp (wC w (CG w.parents)),eI c,eI s] (.b (((CG w.parents).getD c.toNat 0).testBit (CV w s).toNat)):=by
 have hM:=Mx;have hwp:=hw.1.1;have hol:=hw.2.1;have hu:ot (CG w.parents):=HS _ _ (by have:=hw.1.1;omega);have hul:(CG w.parents).length=3+w.parents.length:=En _ _;obtain⟨o,ho⟩: ∃o,w.owner[s.toNat]? =some o:=⟨_,Ct (by omega)⟩
 have hoi:CV w s=o:=by rw[CV,DK,ho];rfl
 have hor:=hw.2.2 o (B1 ho);generalize CG w.parents=us at *
 have hup:(List.drop (c.toNat*1) (List.drop 2 (wC w us)))[0]? =some (eU (us.getD c.toNat 0)):=by
  rw[c0,c0,←V7 w us (i:=c.toNat) (by omega)];congr 1;omega
 rw[hoi]
 have c1:Pure Tryz.prog 152 [eU (us.getD c.toNat 0),eI o] (.b ((us.getD c.toNat 0).testBit o.toNat)):=by
  have:=Nz (us.getD c.toNat 0) o.toNat (Lv hu _) (by omega)
  rwa [Int.toNat_of_nonneg (by omega)]at this
 refine l7 kZ ?_;have hs:=Sn
 conv=>whnf
 repeat'((first|apply st|(apply sq;intro K U)|(apply si;intro A B Y Z)|(apply Y;clear Z B Y A)|(apply U;clear U K)|apply dr|refine oz ?_|fail)<;>conv=>whnf)
 rw[hup]
 conv=>whnf
 repeat'((first|apply st|(apply Y;clear Z B Y A)|(apply U;clear U K)|apply dr|refine FE ?_|refine c1.use ?_|fail)<;>conv=>whnf)
 all_goals exact AI rfl
def Wu {w:AK} (hw:CS w) (hw2:Ja w) {c s:Int} (hc0:3≤c) (hc1:c<3+w.parents.length) (hs0:0≤s) (hs1:s<w.owner.length):hasB w c s=((CG w.parents).getD c.toNat 0).testBit (CV w s).toNat:=by
 have ho:=RP hw2 ⟨hs0,hs1⟩;rw[N5 hw2.ord (by omega),hasB,decide_eq_true hc0,Ey,M5,decide_eq_true hc0,Ey];have e0:(CV w s==0)=false:=by rw[beq_eq_false_iff_ne];omega
 have e1:((CV w s).toNat==0)=false:=by rw[beq_eq_false_iff_ne];omega
 rw[e0,e1,Bool.false_or];by_cases h:c=CV w s
 ·rw[←h,Fj hw2.ord];simp
 ·rw[beq_eq_false_iff_ne.2 h,Bool.false_or]
def TD (w:AK) (c:Int) (hw:CS w) (hw2:Ja w) (hc0:3≤c) (hc1:c<3+w.parents.length):Pure Tryz.prog 188 [.rp (wC w (CG w.parents)),eI c] (.l (iL (Ca w c)) false):=by
 have hM:=Mx;have hol:=hw2.ZI;refine mB kZ ?_;have hs:=Sn
 conv=>whnf
 repeat'((first|apply st|(apply sq;intro K U)|(apply si;intro A B Y Z)|(apply Y;clear Z B Y A)|(apply U;clear U K)|fail)<;>conv=>whnf)
 refine B4 w.owner.length (fun k v=>[(5,v),(13,eI (A3 k))]) (fun k v=>[.own v 1 (iL ((Bg k).filter (hasB w c)))]) (fun _ _=>True) (.l [] true) rfl trivial (EM Sat.nil 1) ?_;clear hs;rintro k v σ hk - hs;have hfl:=KN (hasB w c) (Bg k);rw[DQ]at hfl;rcases BE w.owner hk with⟨s,hso,hlt⟩|hke
 ·have hck:A3 k=k:=AL (by omega)
  have c1:Pure Tryz.prog 192 [.rp (wC w (CG w.parents)),eI c,eI (A3 k)] (.b (hasB w c k)):=by rw[hck,Wu hw hw2 hc0 hc1 (by omega) (by omega)];exact Zy w hw c k hc0 hc1 (by omega) (by omega)
  have hst:(Bg (k+1)).filter (hasB w c)=if hasB w c k then(Bg k).filter (hasB w c)++[(k:Int)]else(Bg k).filter (hasB w c):=by
   rw[Et,List.filter_append];cases hp:hasB w c k<;>simp[hp]
  generalize (Bg k).filter (hasB w c)=zs at *;have hll:zs.length<Ac∧(zs.length+1)*8≤140737488355328:=by omega
  cases hh:hasB w c k<;>rw[hh]at c1 hst
  ·conv=>whnf
   repeat'((first|apply st|(apply sq;intro K U)|(apply si;intro A B Y Z)|(apply Y;clear Z B Y A)|(apply U;clear U K)|refine⟨rfl,?_⟩|(refine CA (fun hc=>?_)<;>(try rw[hc])<;>clear hc)|refine c1.use ?_|clear U K)<;>conv=>whnf)
   exact⟨hlt,_,rfl,trivial,by rw[hst];exact hs⟩
  ·conv=>whnf
   repeat'((first|apply st|(apply sq;intro K U)|(apply si;intro A B Y Z)|(apply Y;clear Z B Y A)|(apply U;clear U K)|refine⟨rfl,?_⟩|refine aq fun v σ hs hsl=>?_|(refine CA (fun hc=>?_)<;>(try rw[hc])<;>clear hc)|refine c1.use ?_|clear U K)<;>conv=>whnf)
   exact⟨hlt,_,rfl,trivial,by rw[hst,←hck];exact hs⟩
 ·rw[hke]at hs
  conv=>whnf
  repeat'((first|apply st|(apply sq;intro K U)|(apply si;intro A B Y Z)|(apply Y;clear Z B Y A)|(apply U;clear U K)|refine⟨rfl,?_⟩|(refine DU (fun hc=>?_)<;>(try rw[hc])<;>clear hc)|clear U K)<;>conv=>whnf)
  exact BO (hs.MV 0 rfl)
end Go.Gl
