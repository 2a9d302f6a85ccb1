import Derived.Test.YtegbmnmnaijioaaGreatA9
import Derived.Test.YtegbmnmnaijioaaGreatA10
import Derived.Test.YtegbmnmnaijioaaGreatA11
import Derived.Test.YtegbmnmnaijioaaGreatA12
import Derived.Test.YtegbmnmnaijioaaGreatA14
set_option linter.all false
set_option linter.defProp false
noncomputable section
namespace Go.Gl
open Go.Proofs
inductive Wh where
 | int (n:Int)
 | dA
 | obj (AF:Nat→Bool) (kid:Int→Wh)
def K7 (w:AL):Wh→Prop
 | .int n=> -1000000000≤n∧n≤1000000000
 | .dA=>True
 | .obj AF kid=>(∀c,3≤c→AF c=true→ ∀q∈par w.parents c,AF q.toNat=true)∧ ∀s,K7 w (kid s)
def I6 (t:Wh) (f:Fact):Bool:=match t with
 | .int n=>if f.op=2 then !decide (f.cls > 1)else if f.op=3 then decide (n<f.n)else decide (n=f.n)
 | .dA=>f.op==2&&(f.cls==0||f.cls==2)
 | .obj AF _=>f.op==2&&(f.cls==0||(decide (3≤f.cls)&&AF f.cls.toNat))
def UC (w:AL):Wh→List Int→Fact→Bool
 | t,[],f=>I6 t f
 | .obj AF kid,s::r,f=>AF (Cx w s).toNat&&UC w (kid s) r f
 | _,_::_,_=>false
structure Ip (w:AL) (l:Fact):Prop where
 op:(Az l).1.op=2∨(Az l).1.op=3∨(Az l).1.op=4
 cls:(Az l).1.op=2→0≤(Az l).1.cls∧(Az l).1.cls<3+w.parents.length
 arg:0≤(Az l).1.arg∧(Az l).1.arg<3
 path: ∀s∈(Az l).1.path,(0:Int)≤s∧s<w.owner.length
 short:(Az l).1.path.length≤2
def ZG {w:AL} {l:Fact} (h:Iq w l):Ip w l:=by
 obtain⟨-,hn,hl⟩:=Hd h;have hlo:=Fs hl;have q:=JK (w:=w) (l:=[l]) (fun x hx=>by rw[Kz.1 hx];exact h);rw[Cz,BJ]at hn;have hn:=hn.1;simp only[DI,BJ,Cn]at hn;obtain⟨ho,-,ha1,ha2,hp,-⟩:=hn;simp only[E8,BJ,Em,IX,Cn]at hp;exact⟨hlo,q.2.1 l (.head _),⟨ha1,ha2⟩,fun s hs=>hp.1 s hs,hp.2⟩
def od (t:Int×Int×List Int) (m:Int):Prop:=t.1≤m∧m≤t.2.1∧m∉t.2.2
def aZ {w:AL} {l:Fact} (hl:Ip w l) (t:Int×Int×List Int) (m:Int):(∃t',HP (Az l) t=some t'∧od t' m)↔od t m∧I6 (.int m) (Az l).1= !(Az l).2:=by
 have h1:=hl.op;generalize Az l=x at *;obtain⟨f,b⟩:=x;obtain⟨lo,hi,no⟩:=t;simp only[HP,od,I6]at *;rcases h1 with h|h|h
 ·rw[if_pos h,if_pos h]
  by_cases hc:f.cls > 1<;>cases b<;>simp[hc]
 ·have h2: ¬f.op=2:=by omega
  rw[if_neg h2,if_pos h,if_neg h2,if_pos h];cases b
  ·simp only[MO,if_false,IT,exists_eq_left',Bool.not_false,Cn]
   split<;>constructor<;>rintro⟨h3,h4⟩
   ·exact⟨⟨h3,by omega,h4.2⟩,by omega⟩
   ·exact⟨h3.1,by omega,h3.2.2⟩
   ·exact⟨⟨h3,h4⟩,by omega⟩
   ·exact h3
  ·simp only[if_true,IT,exists_eq_left',Bool.not_true,decide_eq_false_iff_not]
   split<;>constructor<;>rintro⟨h3,h4⟩
   ·exact⟨⟨by omega,h4⟩,by omega⟩
   ·exact⟨by omega,h3.2⟩
   ·exact⟨⟨h3,h4⟩,by omega⟩
   ·exact h3
 ·have h2: ¬f.op=2:=by omega
  have h3: ¬f.op=3:=by omega
  rw[if_neg h2,if_neg h3,if_neg h2,if_neg h3];cases b
  ·simp only[MO,if_false,IT,exists_eq_left',Bool.not_false,Cn]
   constructor
   ·rintro⟨h3,h4,h5⟩
    split at h3<;>split at h4<;>exact⟨⟨by omega,by omega,h5⟩,by omega⟩
   ·rintro⟨⟨h3,h4,h5⟩,rfl⟩
    refine⟨?_,?_,h5⟩
    ·split<;>omega
    ·split<;>omega
  ·simp only[if_true,IT,exists_eq_left',Bool.not_true,decide_eq_false_iff_not,E7,Kz,not_or]
   constructor
   ·rintro⟨h3,h4,h5,h6⟩
    exact⟨⟨h3,h4,h5⟩,h6⟩
   ·rintro⟨⟨h3,h4,h5⟩,h6⟩
    exact⟨h3,h4,h5,h6⟩
def Jp {w:AL} (m:Int): ∀(os:List Fact) (t:Int×Int×List Int),(∀l∈os,Ip w l)→((∃t',foldI os t=some t'∧od t' m)↔od t m∧ ∀l∈os,I6 (.int m) (Az l).1= !(Az l).2)
 | [],t,_=>by simp[foldI]
 | x ::r,t,h=>by
   have h1:=aZ (h x (.head _)) t m;constructor
   ·rintro⟨t',h2,h3⟩
    rw[foldI,Option.bind_eq_some_iff]at h2;obtain⟨u,h4,h5⟩:=h2;obtain⟨h6,h7⟩:=(Jp m r u fun l hl=>h l (.tail _ hl)).1 ⟨t',h5,h3⟩;obtain⟨h8,h9⟩:=h1.1 ⟨u,h4,h6⟩;refine⟨h8,fun l hl=>?_⟩;rcases F6.1 hl with rfl|hl
    ·exact h9
    ·exact h7 l hl
   ·rintro⟨h2,h3⟩
    obtain⟨u,h4,h5⟩:=h1.2 ⟨h2,h3 x (.head _)⟩;obtain⟨t',h6,h7⟩:=(Jp m r u fun l hl=>h l (.tail _ hl)).2 ⟨h5,fun l hl=>h3 l (.tail _ hl)⟩;exact⟨t',by rw[foldI,h4];exact h6,h7⟩
def RY (t:Int×Int×List Int):(Ot t).isSome=true↔ ∃m,od t m:=by
 obtain⟨lo,hi,no⟩:=t;rw[Ot,Mz];constructor
 ·rintro⟨j,h1,h2⟩
  exact⟨lo+j,by simp only[od]at *;omega,by simp only[]at *;omega,h2⟩
 ·rintro⟨m,h1,h2,h3⟩
  dsimp only at h1 h2 h3 ⊢;exact⟨(m - lo).toNat,by omega,by rw[show lo+((m - lo).toNat:Int)=m by omega];exact h3⟩
def H4 {a:Int} {p:List Int} {l:Fact}:Gs a p l=true↔(Az l).1.arg=a∧(Az l).1.path=p:=by
 rw[Gs,BJ,D9,D9]
def iK {w:AL} {ls:List Fact} (hl: ∀l∈ls,Ip w l) (a:Int) (p:List Int):(Ir ls a p).isSome=true↔ ∃m,(-1000000000≤m∧m≤1000000000)∧ ∀l∈ls,(Az l).1.arg=a→(Az l).1.path=p→I6 (.int m) (Az l).1= !(Az l).2:=by
 have hL: ∀l∈ls.filter (Gs a p),Ip w l:=fun l h=>hl l (K0.1 h).1
 rw[Ir];constructor
 ·intro h
  cases hf:foldI (ls.filter (Gs a p)) t0 with
  | none=>rw[hf]at h;cases h
  | some t=>
    rw[hf]at h;obtain⟨m,hm⟩:=(RY t).1 h;obtain⟨h1,h2⟩:=(Jp m _ t0 hL).1 ⟨t,hf,hm⟩;exact⟨m,⟨h1.1,h1.2.1⟩,fun l h3 h4 h5=>h2 l (K0.2 ⟨h3,H4.2 ⟨h4,h5⟩⟩)⟩
 ·rintro⟨m,h1,h2⟩
  obtain⟨t,h3,h4⟩:=(Jp m (ls.filter (Gs a p)) t0 hL).2 ⟨⟨h1.1,h1.2,by simp[t0]⟩,fun l h=>by
   obtain⟨h5,h6⟩:=K0.1 h
   exact h2 l h5 (H4.1 h6).1 (H4.1 h6).2⟩
  rw[h3];exact(RY t).2 ⟨m,h4⟩
def L2 {ls:List Fact} {a:Int} {p:List Int}:EG ls a p=true↔ ∀l∈ls,(Az l).1.arg=a→ ∀q,(Az l).1.path=p++q→(Az l).2=true:=by
 rw[EG,Em];constructor
 ·intro h l hl ha q hq
  have:=h l hl;rw[Fo]at this;rcases this with h1|h1
  ·exact h1
  ·rw[ha,hq]at h1
   have h2:Bw (p++q) p=true:=Cd.2 ⟨q,rfl⟩;simp[h2]at h1
 ·intro h l hl
  rw[Fo];by_cases h1:(Az l).1.arg=a∧Bw (Az l).1.path p=true
  ·obtain⟨q,hq⟩:=Cd.1 h1.2
   exact .inl (h l hl h1.1 q hq)
  ·right
   simp only[Bool.not_eq_true',Bool.and_eq_false_iff,beq_eq_false_iff_ne];rcases Classical.em ((Az l).1.arg=a)with e|e
   ·exact .inr (by simpa[e]using h1)
   ·exact .inl e
def Rc {w:AL} {ls:List Fact} (hl: ∀l∈ls,Ip w l) {a:Int} {p:List Int} {s:Int}:s∈Bn w.owner.length ls a p↔ ∃l∈ls,(Az l).1.arg=a∧ ∃q,(Az l).1.path=p++s::q:=by
 rw[Bn,K0,Jy,IC];constructor
 ·rintro⟨-,l,h1,h2⟩
  rw[YM,BJ,D9]at h2;obtain⟨q,hq⟩:=Cd.1 h2.2;exact⟨l,h1,h2.1,q,by rw[hq];simp⟩
 ·rintro⟨l,h1,h2,q,hq⟩
  refine⟨(hl l h1).path s (by rw[hq];simp),l,h1,?_⟩;rw[YM,BJ,D9];exact⟨h2,Cd.2 ⟨q,by rw[hq];simp⟩⟩
def Vd {w:AL} {ls:List Fact} (hl: ∀l∈ls,Ip w l) {a:Int} {p:List Int}:FE w.owner.length ls a p=true↔ ∀l∈ls,(Az l).1.arg=a→ ∀s q,(Az l).1.path=p++s::q→(Az l).2=true:=by
 rw[FE,Em];constructor
 ·intro h l h1 h2 s q hq
  exact L2.1 (h s ((Rc hl).2 ⟨l,h1,h2,q,hq⟩)) l h1 h2 q (by rw[hq];simp)
 ·intro h s _
  exact L2.2 fun l h1 h2 q hq=>h l h1 h2 s q (by rw[hq];simp)
def W6 {w:AL} (hw:UA w) {s:Int} (h:0≤s∧s<(w.owner.length:Int)):3≤Cx w s∧Cx w s<3+w.parents.length:=by
 have hs:s.toNat<w.owner.length:=by omega
 have:Cx w s=w.owner[s.toNat]:=by rw[Cx,DZ,C7 hs];rfl
 rw[this];exact hw.own _ (List.getElem_mem hs)
def nI (t:BB) (AF:Nat→Bool):Prop:=(∀c,t.1.getD c false=true→c=0∨AF c=true)∧ ∀c,t.2.getD c false=true→c≠0∧AF c=false
def Sh (t t':BB):Prop:=t.1.length=t'.1.length∧t.2.length=t'.2.length∧(∀c,t.1.getD c false=true→t'.1.getD c false=true)∧ ∀c,t.2.getD c false=true→t'.2.getD c false=true
def Sh.jn {t:BB}:Sh t t:=⟨rfl,rfl,fun _ h=>h,fun _ h=>h⟩
def Sh.trans {t u v:BB} (h:Sh t u) (k:Sh u v):Sh t v:=⟨h.1.trans k.1,h.2.1.trans k.2.1,fun c hc=>k.2.2.1 c (h.2.2.1 c hc),fun c hc=>k.2.2.2 c (h.2.2.2 c hc)⟩
def Li {l:List Bool} {c b:Nat} (h:(l.set c true).getD b false=true):l.getD b false=true∨b=c:=by
 by_cases e:b=c
 ·exact .inr e
 ·rw[DZ,List.getElem?_set_ne (fun h=>e h.symm),←DZ]at h
  exact .inl h
def Lk {l:List Bool} {c b:Nat} (h:l.getD b false=true):(l.set c true).getD b false=true:=by
 by_cases e:c<l.length
 ·rw[EI e]
  split
  ·rfl
  ·exact h
 ·rw[List.set_eq_of_length_le (by omega)];exact h
def Lj {l:List Bool} {c:Nat} (h:c<l.length):(l.set c true).getD c false=true:=by
 rw[EI h,if_pos rfl]
def Sh.yD {t:BB} (c:Nat):Sh t (t.1.set c true,t.2):=⟨by simp,rfl,fun _ h=>Lk h,fun _ h=>h⟩
def Sh.yC {t:BB} (c:Nat):Sh t (t.1,t.2.set c true):=⟨rfl,by simp,fun _ h=>h,fun _ h=>Lk h⟩
def Wy (t:BB) (f:Fact) (b:Bool):Prop:=if f.op≠2∨f.cls=1∨f.cls=2 then b=true else if b then t.2.getD f.cls.toNat false=true else t.1.getD f.cls.toNat false=true
def SV {t t':BB} (h:Sh t t') {f:Fact} {b:Bool} (k:Wy t f b):Wy t' f b:=by
 unfold Wy at *;split
 ·rename_i h1;rw[if_pos h1]at k;exact k
 ·rename_i h1;rw[if_neg h1]at k
  split
  ·rename_i h2;rw[if_pos h2]at k;exact h.2.2.2 _ k
  ·rename_i h2;rw[if_neg h2]at k;exact h.2.2.1 _ k
def gR {w:AL} {l:Fact} (hl:Ip w l) {t t':BB} (hn:t.1.length=3+w.parents.length∧t.2.length=3+w.parents.length) (h:F9 (Az l) t=some t'):Sh t t'∧Wy t' (Az l).1 (Az l).2:=by
 have hc:=hl.cls;generalize Az l=x at *;obtain⟨f,b⟩:=x;simp only[F9,Wy]at *;split at h
 ·rename_i h1
  rw[if_pos h1];cases b
  ·cases h
  ·obtain rfl:=Option.some.inj h
   exact⟨Sh.jn,rfl⟩
 ·rename_i h1
  rw[if_neg h1]
  have h2:f.op=2:=by
   rcases Classical.em (f.op=2)with e|e
   ·exact e
   ·exact absurd (Or.inl e) h1
  have:=hc h2;cases b
  ·obtain rfl:=Option.some.inj h
   exact⟨.yD _,by rw[if_neg (by decide)];exact Lj (by omega)⟩
  ·obtain rfl:=Option.some.inj h
   exact⟨.yC _,by rw[if_pos rfl];exact Lj (by omega)⟩
def aW {w:AL} {l:Fact} (hl:Ip w l) {t:BB} {AF:Nat→Bool} {kid:Int→Wh} (hi:nI t AF) (h:I6 (.obj AF kid) (Az l).1= !(Az l).2): ∃t',F9 (Az l) t=some t'∧nI t' AF:=by
 have hc:=hl.cls;generalize Az l=x at *;obtain⟨f,b⟩:=x;simp only[F9,I6]at *;by_cases h1:f.op≠2∨f.cls=1∨f.cls=2
 ·rw[if_pos h1]
  have h2:(f.op==2&&(f.cls==0||(decide (3≤f.cls)&&AF f.cls.toNat)))=false:=by
   rcases h1 with h1|h1|h1
   ·simp[h1]
   ·simp[h1]
   ·simp[h1]
  rw[h2]at h;cases b
  ·cases h
  ·exact⟨t,rfl,hi⟩
 ·rw [if_neg h1]
  have h2:f.op=2:=by
   rcases Classical.em (f.op=2)with e|e
   ·exact e
   ·exact absurd (Or.inl e) h1
  have hr:=hc h2;have h3:f.cls≠1∧f.cls≠2:=⟨fun e=>h1 (.inr (.inl e)),fun e=>h1 (.inr (.inr e))⟩
  have h4:(f.op==2&&(f.cls==0||(decide (3≤f.cls)&&AF f.cls.toNat)))=(decide (f.cls=0)||AF f.cls.toNat):=by
   rw[h2];rcases Classical.em (f.cls=0)with e|e
   ·simp[e]
   ·have:3≤f.cls:=by omega
    simp[e,this]
  rw[h4]at h;cases b
  ·refine⟨_,rfl,fun c hh=>?_,hi.2⟩
   rcases Li hh with hh|rfl
   ·exact hi.1 c hh
   ·simp only[Bool.not_false,Fo,Cn]at h
    rcases h with h|h
    ·exact .inl (by omega)
    ·exact .inr h
  ·refine⟨_,rfl,hi.1,fun c hh=>?_⟩
   rcases Li hh with hh|rfl
   ·exact hi.2 c hh
   ·simp only[Bool.not_true,Bool.or_eq_false_iff,decide_eq_false_iff_not]at h
    exact⟨by omega,h.2⟩
def Pa {w:AL}: ∀(os:List Fact) {t t':BB},(∀l∈os,Ip w l)→(t.1.length=3+w.parents.length∧t.2.length=3+w.parents.length)→D8 os t=some t'→Sh t t'∧ ∀l∈os,Wy t' (Az l).1 (Az l).2
 | [],t,t',_,_,h=>by
   obtain rfl:=Option.some.inj h;exact⟨Sh.jn,fun l hl=>by cases hl⟩
 | x::r,t,t',hl,hn,h=>by
   rw[D8,Option.bind_eq_some_iff]at h;obtain⟨u,h1,h2⟩:=h;obtain⟨h3,h4⟩:=gR (hl x (.head _)) hn h1;obtain⟨h5,h6⟩:=Pa r (fun l h=>hl l (.tail _ h)) ⟨by rw[←h3.1];exact hn.1,by rw[←h3.2.1];exact hn.2⟩ h2;refine⟨h3.trans h5,fun l h=>?_⟩;rcases F6.1 h with rfl|h
   ·exact SV h5 h4
   ·exact h6 l h
def SB {w:AL} {AF:Nat→Bool} {kid:Int→Wh}: ∀(os:List Fact) {t:BB},(∀l∈os,Ip w l)→nI t AF→(∀l∈os,I6 (.obj AF kid) (Az l).1= !(Az l).2)→ ∃t',D8 os t=some t'∧nI t' AF
 | [],t,_,hi,_=>⟨t,rfl,hi⟩
 | x::r,t,hl,hi,h=>by
   obtain⟨u,h1,h2⟩:=aW (hl x (.head _)) hi (h x (.head _));obtain⟨t',h3,h4⟩:=SB r (fun l h=>hl l (.tail _ h)) h2 fun l hh=>h l (.tail _ hh)
   exact⟨t',by rw[D8,h1];exact h3,h4⟩
def pF (w:AL) (ls:List Fact) (a:Int) (p:List Int) (can:Int→Bool) (s:Int) (t:BB):Prop:=
 (EG ls a (p++[s])=false→t.1.getD (Cx w s).toNat false=true∧can s=true)∧(can s=false→t.2.getD (Cx w s).toNat false=true)
def PZ {w:AL} (hw:UA w) {ls:List Fact} {a:Int} {p:List Int} {can:Int→Bool}: ∀(sl:List Int) {t t':BB},(∀s∈sl,0≤s∧s<(w.owner.length:Int))→(t.1.length=3+w.parents.length∧t.2.length=3+w.parents.length)→Dr w ls a p can sl t=some t'→Sh t t'∧ ∀s∈sl,pF w ls a p can s t'
 | [],t,t',_,_,h=>by
   obtain rfl:=Option.some.inj h;exact⟨Sh.jn,fun l hl=>by cases hl⟩
 | s ::r,t,t',hs,hn,h=>by
   rw[Dr,Option.bind_eq_some_iff]at h;obtain⟨u,h1,h2⟩:=h;have ho:=W6 hw (hs s (.head _))
   have h3:Sh t u∧pF w ls a p can s u:=by
    rw[IV]at h1;split at h1
    ·cases h1
    ·rename_i hne
     obtain rfl:=Option.some.inj h1;simp only[pF];cases hb:EG ls a (p++[s])<;>cases hc:can s
     ·simp[hb,hc]at hne
     ·exact⟨⟨by simp,rfl,fun c h=>Lk h,fun c h=>h⟩,fun _=>⟨Lj (by omega),rfl⟩,fun h=>(by cases h)⟩
     ·exact⟨⟨rfl,by simp,fun c h=>h,fun c h=>Lk h⟩,fun h=>(by cases h),fun _=>Lj (by omega)⟩
     ·exact⟨Sh.jn,fun h=>(by cases h),fun h=>(by cases h)⟩
   obtain⟨h5,h6⟩:=PZ hw r (fun l h=>hs l (.tail _ h)) ⟨by rw[←h3.1.1];exact hn.1,by rw[←h3.1.2.1];exact hn.2⟩ h2;refine⟨h3.1.trans h5,fun l h=>?_⟩;rcases F6.1 h with rfl|h
   ·exact⟨fun hb=>⟨h5.2.2.1 _ (h3.2.1 hb).1,(h3.2.1 hb).2⟩,fun hc=>h5.2.2.2 _ (h3.2.2 hc)⟩
   ·exact h6 l h
def SA {w : AL} (hw:UA w) {ls:List Fact} {a:Int} {p:List Int} {can:Int→Bool} {AF:Nat→Bool}: ∀(sl:List Int) {t:BB},(∀s∈sl,0≤s∧s<(w.owner.length:Int))→nI t AF→
    (∀s∈sl,(EG ls a (p++[s])=false→AF (Cx w s).toNat=true)∧(AF (Cx w s).toNat=true→can s=true))→ ∃t',Dr w ls a p can sl t=some t'∧nI t' AF
 | [],t,_,hi,_=>⟨t,rfl,hi⟩
 | s :: r, t,hs,hi,h=>by
   have ho:=W6 hw (hs s (.head _));obtain⟨k1,k2⟩:=h s (.head _)
   have h1 : ∃u,IV w ls a p can s t=some u∧nI u AF:=by
    rw[IV];cases hb:EG ls a (p++[s])
    ·rw[k2 (k1 hb)]
     refine⟨_,rfl,fun c hh=>?_,hi.2⟩;rcases Li hh with hh|rfl
     ·exact hi.1 c hh
     ·exact .inr (k1 hb)
    ·cases hc:can s
     ·refine⟨_,rfl,hi.1,fun c hh=>?_⟩
      rcases Li hh with hh|rfl
      ·exact hi.2 c hh
      ·refine⟨by omega,?_⟩
       rw[←Bool.not_eq_true];intro e;rw[k2 e]at hc;cases hc
     ·exact⟨_,rfl,hi⟩
   obtain⟨u,h2,h3⟩:=h1;obtain⟨t',h4,h5⟩:=SA hw r (fun l h=>hs l (.tail _ h)) h3 fun l hh=>h l (.tail _ hh)
   exact⟨t',by rw[Dr,h2];exact h4,h5⟩
def kz {w:AL} {AF:Nat→Bool}:nI (tO w) AF:=by
 have: ∀c,(List.replicate (3+w.parents.length) false).getD c false=false:=fun c=>by
  rw[DZ];cases h:(List.replicate (3+w.parents.length) false)[c]? with
  | none=>rfl
  | some b=>rw[List.eq_of_mem_replicate (B9 h)];rfl
 exact⟨fun c h=>absurd ((this c).symm.trans h) (by decide),fun c h=>absurd ((this c).symm.trans h) (by decide)⟩
def cV {g:List (List Int)} (ho:ordered g) {AF:Nat→Bool} (hC: ∀c,3≤c→AF c=true→ ∀q∈par g c,AF q.toNat=true): ∀d b:Nat,3≤d→AF d=true→Ju g d b=true→AF b=true:=by
 intro d
 induction d using Nat.strongRecOn with
 | _ d ih=>
   intro b h3 hd h;rw[FH ho]at h;simp only[Fo,D9,Jy]at h;rcases h with rfl|⟨p,hp,h⟩
   ·exact hd
   ·have:=ho d p hp
    exact ih p.toNat (by omega) b (by omega) (hC d h3 hd p hp) h
def gr {w : AL} (hw : UA w) {ls:List Fact} (hl: ∀l∈ls,Ip w l) {a:Int} {p:List Int} {can:Int→Bool} {T:Int→Wh→Prop} (hcan: ∀s,s∈Bn w.owner.length ls a p→(can s=true↔ ∃t,K7 w t∧T s t))
    (hT: ∀s t,T s t↔ ∀l∈ls,(Az l).1.arg=a→ ∀q,(Az l).1.path=p++s::q→UC w t q (Az l).1= !(Az l).2) :
    (KF w ls a p can).isSome=true↔ ∃AF kid,K7 w (.obj AF kid)∧ ∀l∈ls,(Az l).1.arg=a→ ∀q,(Az l).1.path=p++q→UC w (.obj AF kid) q (Az l).1= !(Az l).2:=by
 have hL: ∀l∈ls.filter (Gs a p),Ip w l:=fun l h=>hl l (K0.1 h).1
 have hS: ∀s∈Bn w.owner.length ls a p,0≤s∧s<(w.owner.length:Int):=fun s h=>Jk h
 have hn0:(tO w).1.length=3+w.parents.length∧(tO w).2.length=3+w.parents.length:=by simp[tO]
 constructor
 ·intro h
  rw[KF]at h;cases h1:D8 (ls.filter (Gs a p)) (tO w)with
  | none=>rw[h1]at h;cases h
  | some t=>
    rw[h1,Option.bind_some]at h;obtain⟨g1,g2⟩:=Pa _ hL hn0 h1;have hn1:t.1.length=3+w.parents.length∧t.2.length=3+w.parents.length:=⟨by rw[←g1.1];exact hn0.1,by rw[←g1.2.1];exact hn0.2⟩
    cases h2:Dr w ls a p can (Bn w.owner.length ls a p) t with
    | none=>rw[h2]at h;cases h
    | some u=>
      rw[h2,Option.bind_some,UQ]at h;obtain⟨g3,g4⟩:=PZ hw _ hS hn1 h2;have hn2:u.1.length=3+w.parents.length∧u.2.length=3+w.parents.length:=⟨by rw[←g3.1];exact hn1.1,by rw[←g3.2.1];exact hn1.2⟩
      split at h
      ·cases h
      ·rename_i h0
       split at h
       ·cases h
       ·rename_i h3
        clear h;have hSl:(u.1.set 0 false).length=3+w.parents.length:=by simpa using hn2.1
        generalize hSd:B6 w.parents (3+w.parents.length) w.parents.length (u.1.set 0 false)=S at *
        have hin: ∀c,3≤c→u.1.getD c false=true→S.getD c false=true:=fun c hc h=>by
         rw[←hSd];refine JS hw.ord hSl _ _ ?_;rw[DZ,List.getElem?_set_ne (by omega),←DZ];exact h
        have hdis: ∀c,S.getD c false=true→u.2.getD c false=true→False:=fun c k1 k2=>by
         have hc:c<3+w.parents.length:=by
          rcases Nat.lt_or_ge c (3+w.parents.length)with h|h
          ·exact h
          ·rw[DZ,List.getElem?_eq_none (by omega)]at k2
           cases k2
         refine h3 (Jy.2 ⟨c,List.mem_range.2 hc,?_⟩);rw[k1,k2];rfl
        have hkid: ∀s,∃t,K7 w t∧((∃t,K7 w t∧T s t)→T s t):=fun s=>by
         rcases Classical.em (∃t,K7 w t∧T s t)with⟨t,k1,k2⟩|k
         ·exact⟨t,k1,fun _=>k2⟩
         ·exact⟨.dA,trivial,fun h=>absurd h k⟩
        refine⟨fun c=>S.getD c false,fun s=>Classical.choose (hkid s),⟨fun c hc h q hq=>?_,fun s=>(Classical.choose_spec (hkid s)).1⟩,fun l h1 h2 q hq=>?_⟩
        ·change S.getD c false=true at h
         change S.getD q.toNat false=true
         have hcl:c<3+w.parents.length:=by
          rcases Nat.lt_or_ge c (3+w.parents.length)with h'|h'
          ·exact h'
          ·rw[DZ,List.getElem?_eq_none (by rw[←hSd,EZ];omega)]at h
           cases h
         rw[←hSd]at h ⊢;exact HC hw.ord hSl _ c (by omega) (by omega) h q hq
        ·cases q with
         | nil =>
           have k:=g2 l (K0.2 ⟨h1,H4.2 ⟨h2,by simpa using hq⟩⟩);have k:=SV g3 k;have hc:=(hl l h1).cls;generalize Az l=x at *;obtain⟨f,b⟩:=x;simp only[UC,I6,Wy]at *;by_cases e1:f.op≠2∨f.cls=1∨f.cls=2
           ·rw[if_pos e1]at k
            subst k;rcases e1 with e1|e1|e1
            ·simp[e1]
            ·simp[e1]
            ·simp[e1]
           ·rw [if_neg e1]at k
            have e2:f.op=2:=by
             rcases Classical.em (f.op=2)with e|e
             ·exact e
             ·exact absurd (Or.inl e) e1
            have hr:=hc e2;have e3:f.cls≠1∧f.cls≠2:=⟨fun e=>e1 (.inr (.inl e)),fun e=>e1 (.inr (.inr e))⟩
            rw[e2];rcases Classical.em (f.cls=0)with e|e
            ·rw[e]at k ⊢
             cases b
             ·rfl
             ·exfalso;exact h0 k
            ·have e4:(f.cls==0)=false:=by simpa using e
             have e5:decide (3≤f.cls)=true:=decide_eq_true (by omega);rw[e4,e5];cases b
             ·rw[if_neg (by decide)]at k
              rw[hin _ (by omega) k];rfl
             ·rw[if_pos rfl]at k
              have:S.getD f.cls.toNat false=false:=by
               rw[←Bool.not_eq_true];exact fun e=>hdis _ e k
              rw[this];rfl
         | cons s q=>
           have hs:s∈Bn w.owner.length ls a p:=(Rc hl).2 ⟨l,h1,h2,q,hq⟩;have hso:=W6 hw (hS s hs);obtain⟨k1,k2⟩:=g4 s hs;simp only[UC];cases hm:S.getD (Cx w s).toNat false
           ·rw[Bool.false_and]
            cases hb:EG ls a (p++[s])
            ·have:=hin _ (by omega) (k1 hb).1
             rw[hm]at this;cases this
            ·rw[L2.1 hb l h1 h2 q (by rw[hq];simp)];rfl
           ·rw[Il]
            cases hc:can s
            ·exact absurd (k2 hc) fun e=>hdis _ hm e
            ·exact(hT s _).1 ((Classical.choose_spec (hkid s)).2 ((hcan s hs).1 hc)) l h1 h2 q hq
 ·rintro ⟨AF,kid,⟨hC,U⟩,h⟩
  obtain⟨t,h1,h2⟩:=SB (AF:=AF) (kid:=kid) (ls.filter (Gs a p)) (t:=tO w) hL kz fun l k=>by
   obtain⟨k1,k2⟩:=K0.1 k;obtain⟨k3,k4⟩:=H4.1 k2;exact h l k1 k3 [] (by simpa using k4)
  obtain ⟨u,h3,h4⟩:=SA hw (AF:=AF) (can:=can) (ls:=ls) (a:=a) (p:=p) (Bn w.owner.length ls a p) (t:=t) hS h2 fun s hs=>by
   constructor
   ·intro hb
    cases e:AF (Cx w s).toNat
    ·rw[L2.2 fun l k1 k2 q hq=>by
      have:=h l k1 k2 (s::q) (by rw[hq];simp);simp only[UC,e,Bool.false_and]at this
      simpa using this.symm]at hb
     cases hb
    ·rfl
   ·intro e
    refine(hcan s hs).2 ⟨kid s,U s,(hT s _).2 fun l k1 k2 q hq=>?_⟩;have:=h l k1 k2 (s::q) hq;simpa only[UC,e,Il]using this
  rw[KF,h1,Option.bind_some,h3,Option.bind_some,UQ]
  have h0:u.2.getD 0 false=false:=by
   rw[←Bool.not_eq_true];exact fun e=>(h4.2 0 e).1 rfl
  rw[h0,if_neg (by decide),if_neg]
  ·rfl
  ·rw [Jy]
   rintro⟨c,-,hc⟩;rw[BJ]at hc;have q1:=(Pa _ hL hn0 h1).1;have q2:=(PZ hw _ hS ⟨by rw[←q1.1];exact hn0.1,by rw[←q1.2.1];exact hn0.2⟩ h3).1;have hlen:(u.1.set 0 false).length=3+w.parents.length:=by rw[List.length_set,←q2.1,←q1.1];exact hn0.1
   obtain⟨d,k1,k2⟩:=Fw hw.ord hlen _ _ hc.1
   have hd0:d≠0:=by
    rintro rfl;rw[DZ,List.getElem?_set_self (by rw[List.length_set]at hlen;omega)]at k1;cases k1
   rw[DZ,List.getElem?_set_ne (fun e=>hd0 e.symm),←DZ]at k1;have hCd:AF d=true:=(h4.1 d k1).resolve_left hd0
   have hCc:AF c=true:=by
    rcases Nat.lt_or_ge d 3 with hd|hd
    ·rw[FH hw.ord,show par w.parents d= [] from if_pos hd]at k2
     simp only[List.any_nil,Bool.or_false,D9]at k2;subst k2;exact hCd
    ·exact cV hw.ord hC d c hd hCd k2
   have:=(h4.2 c hc.2).2;rw[hCc]at this;cases this
def TT (w:AL) (ls:List Fact) (a:Int) (p:List Int) (t:Wh):Prop:= ∀l∈ls,(Az l).1.arg=a→ ∀q,(Az l).1.path=p++q→UC w t q (Az l).1= !(Az l).2
def bJ {w:AL} {ls:List Fact} (hl: ∀l∈ls,Ip w l) {a:Int} {p:List Int}:HT w.owner.length ls a p=true↔TT w ls a p .dA:=by
 rw[HT,BJ,Em,Vd hl];constructor
 ·rintro⟨h1,h2⟩ l k1 k2 q hq
  cases q with
  | nil=>
    have:=h1 l (K0.2 ⟨k1,H4.2 ⟨k2,by simpa using hq⟩⟩);simp only[UC,I6,IW]at *
    revert this
    cases((Az l).1.op==2&&((Az l).1.cls==0||(Az l).1.cls==2))<;>cases(Az l).2<;>decide
  | cons s q=>simp[UC,h2 l k1 k2 s q hq]
 ·intro h
  refine⟨fun l k=>?_,fun l k1 k2 s q hq=>?_⟩
  ·obtain⟨k1,k2⟩:=K0.1 k
   obtain⟨k3,k4⟩:=H4.1 k2;have:=h l k1 k3 [] (by simpa using k4);simp only[UC,I6,IW]at *
   revert this
   cases((Az l).1.op==2&&((Az l).1.cls==0||(Az l).1.cls==2))<;>cases(Az l).2<;>decide
  ·have:=h l k1 k2 (s::q) hq
   simpa[UC]using this.symm
def iM {w:AL} {ls:List Fact} (hl: ∀l∈ls,Ip w l) {a:Int} {p:List Int}:((Ir ls a p).isSome&&FE w.owner.length ls a p)=true↔ ∃m,K7 w (.int m)∧TT w ls a p (.int m):=by
 rw[BJ,Vd hl,iK hl];constructor
 ·rintro⟨⟨m,h1,h2⟩,h3⟩
  refine⟨m,h1,fun l k1 k2 q hq=>?_⟩;cases q with
  | nil=>exact h2 l k1 k2 (by simpa using hq)
  | cons s q=>simp[UC,h3 l k1 k2 s q hq]
 ·rintro⟨m,h1,h2⟩
  refine⟨⟨m,h1,fun l k1 k2 k3=>h2 l k1 k2 [] (by simpa using k3)⟩,fun l k1 k2 s q hq=>?_⟩;have:=h2 l k1 k2 (s::q) hq;simpa[UC]using this.symm
def Zn {w:AL} (hw:UA w) {ls:List Fact} (hl: ∀l∈ls,Ip w l) {a:Int} {p:List Int} {can:Int→Bool} (hcan: ∀s,s∈Bn w.owner.length ls a p→(can s=true↔ ∃t,K7 w t∧TT w ls a (p++[s]) t)) :
    (((Ir ls a p).isSome&&FE w.owner.length ls a p)||(HT w.owner.length ls a p||(KF w ls a p can).isSome))=true↔ ∃t,K7 w t∧TT w ls a p t:=by
 rw[Fo,Fo,iM hl,bJ hl,gr hw hl (T:=fun s t=>TT w ls a (p++[s]) t) hcan fun s t=>by simp only[TT,Wd,List.singleton_append]];constructor
 ·rintro(⟨m,h1,h2⟩|h|⟨AF,kid,h1,h2⟩)
  ·exact⟨_,h1,h2⟩
  ·exact⟨.dA,trivial,h⟩
  ·exact⟨_,h1,h2⟩
 ·rintro⟨t,h1,h2⟩
  cases t with
  | int m=>exact .inl ⟨m,h1,h2⟩
  | dA=>exact .inr (.inl h2)
  | obj AF kid=>exact .inr (.inr ⟨AF,kid,h1,h2⟩)
def Pf {w:AL} (hw:UA w) {ls:List Fact} (hl: ∀l∈ls,Ip w l) (a:Int): ∀(d:Nat) (p:List Int),p.length+d=2→(LD w ls a d p=true↔ ∃t,K7 w t∧TT w ls a p t)
 | 0,p,hp=>by
   rw[LD];refine Zn hw hl fun s hs=>?_
   rw[M0 (m:=2) (fun l h=>(hl l h).short) (by omega)]at hs;cases hs
 | d+1,p,hp=>by
   rw[LD];exact Zn hw hl fun s hs=>Pf hw hl a d (p++[s]) (by simp;omega)
def Sm (w:AL) (M:Int→Wh) (l:Fact):Prop:=UC w (M (Az l).1.arg) (Az l).1.path (Az l).1= !(Az l).2
def U4 {w:AL} (hw:UA w) {ls:List Fact} (hl: ∀l∈ls,Ip w l):Gu w ls=true↔ ∃M:Int→Wh,(∀a,K7 w (M a))∧ ∀l∈ls,Sm w M l:=by
 rw[Gu,Em];constructor
 ·intro h
  have hk: ∀a:Int,∃t,K7 w t∧(0≤a∧a<3→TT w ls a [] t):=fun a=>by
   rcases Classical.em (0≤a∧a<3)with e|e
   ·obtain⟨t,h1,h2⟩:=(Pf hw hl a 2 [] rfl).1 (h a (IC.2 e))
    exact⟨t,h1,fun _=>h2⟩
   ·exact⟨.dA,trivial,fun k=>absurd k e⟩
  exact⟨fun a=>Classical.choose (hk a),fun a=>(Classical.choose_spec (hk a)).1,fun l k=>(Classical.choose_spec (hk (Az l).1.arg)).2 (hl l k).arg l k rfl _ rfl⟩
 ·rintro⟨M,h1,h2⟩ a _
  refine(Pf hw hl a 2 [] rfl).2 ⟨M a,h1 a,fun l k1 k2 q hq=>?_⟩;have:=h2 l k1;rw[Sm,k2]at this;rw[List.nil_append]at hq;rw[←hq];exact this
def u0 (w:AL) (M:Int→Wh) (f:Fact) (l:List Bool):Bool:=
 if f.op=1 then true else if f.op=5 then !l.getD 0 false else if f.op=6 then l.getD 0 false&&l.getD 1 false else if f.op=7 then l.getD 0 false||l.getD 1 false else UC w (M f.arg) f.path f
def YN (w:AL) (M:Int→Wh) (f:Fact):Bool:=f.Ht (u0 w M)
def XH (w:AL) (M:Int→Wh) (f:Fact):YN w M f=u0 w M f (f.kids.map (YN w M)):=Fact.D4 (u0 w M) f
def VR (a:List Fact) (Q:Fact→Prop): ∀b:List Fact,(∀x∈CW a b,Q x)↔(∀x∈a,Q x)∧ ∀x∈b,Q x:=by
 intro b
 induction b generalizing a with
 | nil=>simp[CW]
 | cons y r ih=>
   rw[CW,ih];split
   ·rename_i h
    obtain⟨z,h1,h2⟩:=Jy.1 h;have:=(Jl y z).1 h2;subst this;simp only[List.forall_mem_cons];constructor
    ·rintro⟨h3,h4⟩;exact⟨h3,h3 _ h1,h4⟩
    ·rintro⟨h3,_,h4⟩;exact⟨h3,h4⟩
   ·simp only[List.forall_mem_append,List.forall_mem_cons,List.forall_mem_nil]
    constructor
    ·rintro⟨⟨h1,h2,_⟩,h3⟩;exact⟨h1,h2,h3⟩
    ·rintro⟨h1,h2,h3⟩;exact⟨⟨h1,h2,fun _ h=>by cases h⟩,h3⟩
def SO {w : AL} {M:Int→Wh} (f:Fact):Bo w f=true→ ∀c,(∃l∈BN f c,∀x∈l,Sm w M x)↔YN w M f= !c:=by
 induction f using Fact.ind with
 | h f ih=>
   intro h c;have har:=Cm f h;have h':=h;rw[Cz,BJ,Em]at h';rw[F3,FJ,XH,u0];by_cases h1:f.op=1
   ·rw[if_pos h1,if_pos h1]
    cases c<;>simp
   rw[if_neg h1,if_neg h1];by_cases h5:f.op=5
   ·obtain⟨a,ha,hb⟩:=H9 har h5
    rw[if_pos h5,if_pos h5,ha];have:=ih a (by rw[ha];exact .head _) (h'.2 a (by rw[ha];exact .head _)) (!c);simp only[E3,List.map_nil,List.getD_cons_zero];rw[this];cases YN w M a<;>cases c<;>decide
   rw[if_neg h5,if_neg h5];by_cases h6:f.op=6∨f.op=7
   ·obtain⟨a,b,ha,hb1,hb2⟩:=H8 har h6
    rw[if_pos h6,ha];have i1:=ih a (by rw[ha];exact .head _) (h'.2 a (by rw[ha];exact .head _)) c;have j1:=ih b (by rw[ha];exact .tail _ (.head _)) (h'.2 b (by rw[ha];exact .tail _ (.head _))) c;simp only[E3,List.map_nil,List.getD_cons_zero,List.getD_cons_succ]
    have happ:(∃l∈BN a c++BN b c,∀x∈l,Sm w M x)↔YN w M a= !c∨YN w M b= !c:=by
     rw[←i1,←j1];constructor
     ·rintro⟨l,hl,hx⟩
      rcases E7.1 hl with hl|hl
      ·exact .inl ⟨l,hl,hx⟩
      ·exact .inr ⟨l,hl,hx⟩
     ·rintro(⟨l,hl,hx⟩|⟨l,hl,hx⟩)
      ·exact⟨l,Qw _ hl,hx⟩
      ·exact⟨l,Se _ hl,hx⟩
    have hprod:(∃l∈Dn (BN a c) (BN b c),∀x∈l,Sm w M x)↔YN w M a= !c∧YN w M b= !c:=by
     rw[←i1,←j1];simp only[Dn,List.mem_flatMap,MN];constructor
     ·rintro⟨l,⟨y,hy,z,hz,rfl⟩,hx⟩
      rw[VR]at hx;exact⟨⟨y,hy,hx.1⟩,z,hz,hx.2⟩
     ·rintro⟨⟨y,hy,h1⟩,z,hz,h2⟩
      exact⟨_,⟨y,hy,z,hz,rfl⟩,(VR y _ z).2 ⟨h1,h2⟩⟩
    rcases h6 with h6|h6
    ·rw[if_pos h6,h6]
     cases c
     ·rw[if_neg (by decide),hprod]
      simp
     ·rw[if_pos (by decide),happ]
      simp only[Bool.not_true,Bool.and_eq_false_iff]
    ·rw[if_neg (by omega: ¬f.op=6),if_pos h6,h6]
     cases c
     ·rw[if_pos (by decide),happ]
      simp
     ·rw[if_neg (by decide),hprod]
      simp only[Bool.not_true,Bool.or_eq_false_iff]
   ·rw[if_neg h6,if_neg (fun e=>h6 (.inl e)),if_neg (fun e=>h6 (.inr e))]
    have e1:Sm w M f↔UC w (M f.arg) f.path f=true:=by rw[Sm,Az,if_neg h5];exact Iff.rfl
    have e2:Sm w M (Eo f)↔UC w (M f.arg) f.path f=false:=by
     rw[Sm,show Az (Eo f)=(f,true) from rfl];exact Iff.rfl
    cases c
    ·simp[e1]
    ·simp[e2]
def gi {w:AL} (hw:UA w) {f:Fact} (hn:Bo w f=true):Qe w f=true↔ ∃M:Int→Wh,(∀a,K7 w (M a))∧YN w M f=true:=by
 rw[Qe,Jy];constructor
 ·rintro⟨l,h1,h2⟩
  obtain⟨M,h3,h4⟩:=(U4 hw fun x hx=>ZG (Ef f hn false l h1 x hx)).1 h2;exact⟨M,h3,(SO f hn false).1 ⟨l,h1,h4⟩⟩
 ·rintro⟨M,h1,h2⟩
  obtain⟨l,h3,h4⟩:=(SO f hn false).2 h2;exact⟨l,h3,(U4 hw fun x hx=>ZG (Ef f hn false l h3 x hx)).2 ⟨M,h1,h4⟩⟩
def PU {w:AL} (hw:UA w) {a b:Fact} (ha:Bo w a=true) (hb:Bo w b=true):Ss w a b=true↔ ∀M:Int→Wh,(∀x,K7 w (M x))→YN w M a=true→YN w M b=true:=by
 have he: ∀M,YN w M (N7 a (Eo b))=(YN w M a&& !YN w M b):=fun M=>by
  rw[XH];simp only[u0,N7,Fact.op,Fact.kids,E3,List.map_nil,List.getD_cons_zero,List.getD_cons_succ];rw[XH w M (Eo b)];simp[u0,Eo,Fact.op,Fact.kids]
 rw[Ss,Bool.not_eq_true',←Bool.not_eq_true,gi hw (PN ha hb)];constructor
 ·intro h M h1 h2
  rw[←Bool.not_eq_false];exact fun h3=>h ⟨M,h1,by rw[he,h2,h3];rfl⟩
 ·rintro h ⟨M,h1,h2⟩
  rw[he,BJ]at h2;rw[h M h1 h2.1]at h2;simp at h2
def imp_trans {w:AL} (hw:UA w) {a b c:Fact} (ha:Bo w a=true) (hb:Bo w b=true) (hc:Bo w c=true) (h1:Ss w a b=true) (h2:Ss w b c=true):Ss w a c=true:=
 (PU hw ha hc).2 fun M hM h=>(PU hw hb hc).1 h2 M hM ((PU hw ha hb).1 h1 M hM h)
def QE {p:Prog} (hok:EN p) {i j k:Int} (hi:BQ p i=true) (hj:BQ p j=true) (hk:BQ p k=true) (h1:F8 p i j=true) (h2:F8 p j k=true):F8 p i k=true:=
 imp_trans hok.wok (hok.facts _ (B9 (B8 hi))).1 (hok.facts _ (B9 (B8 hj))).1 (hok.facts _ (B9 (B8 hk))).1 h1 h2
def YK {p:Prog} {i j:Int}:A1 p i j=true↔F8 p i j=true∧F8 p j i=false:=by
 rw[A1,BJ,Bool.not_eq_true']
def QW {p:Prog} (i:Int):A1 p i i=false:=by
 rw[A1];cases F8 p i i<;>rfl
def T5 {p:Prog} (hok:EN p) {i j k:Int} (hi:BQ p i=true) (hj:BQ p j=true) (hk:BQ p k=true) (h1:A1 p i j=true) (h2:A1 p j k=true):A1 p i k=true:=by
 rw[YK]at *;refine⟨QE hok hi hj hk h1.1 h2.1,?_⟩;rw[←Bool.not_eq_true];intro e;have:=QE hok hk hi hj e h1.1;rw[h2.2]at this;cases this
end Go.Gl
namespace Go.Gl
open Go.Proofs
attribute [local irreducible] BC Aw Ai AV AM Ah AU AW AN Ag AQ AS A3 BA Sat Ab A8 Ak W
def kL (p:Prog) (L:Nat) (m:Int) (hok:EN p) (hgw:D7 (AR p)) (hfm: ∀x∈p.methods,CS (AR p) x.fact=true) (hm:BQ p m=true) :
    DB Tryz.prog (.f (.func 263) [] [.rp [Sf p L],.rp [eI m]]) eI (fun M=>[.map L (KE p M)]) (fun y M=>(A1 p y m,aP p M y m)) (fun y _=>BQ p y=true):=by
 intro y M hy σ hs;refine B2 ?_;show BC Tryz.prog 263 ([]++[eI y]++[.rp [Sf p L],.rp [eI m]]) σ _;refine s7 kZ ?_
 conv=>whnf
 repeat'((first|apply st|(apply sq;intro K U)|(apply si;intro A B Y Z)|(apply Y;clear Z B Y A)|(apply U;clear U K)|fail)<;>conv=>whnf)
 refine(Vt p L y m hok hgw hfm hy hm M).use (rest:=[]) (by simpa using hs) ?_;clear hs;rintro r post σ ⟨rfl,rfl⟩ hs
 conv=>whnf
 repeat'((first|apply st|(apply Y;clear Z B Y A)|(apply U;clear U K)|fail)<;>conv=>whnf)
 exact Av hs (List.sublist_append_left _ _) (.refl _) fun σ' hs'=>⟨rfl,hs'⟩
def SE {S:Type} {stp:Int→S→Bool×S} {q:Int→Bool}: ∀(xs:List Int) (k:Nat) (s:S),(∀y∈xs,∀s,(stp y s).1=q y)→(Bq stp xs k s).1=match(List.range xs.length).find? fun i=>q (xs.getD i 0)with|some i=>((k+i:Nat):Int)|none=> -1
 | [],_,_,_=>rfl
 | y ::r,k,s,h=>by
   rw[Bq,h y (.head _)];have ih:=SE r (k+1) (stp y s).2 fun z hz=>h z (.tail _ hz)
   rw[K2,List.range_succ_eq_map,List.find?_cons,List.getD_cons_zero];cases hq:q y
   ·rw[if_neg (by decide),ih]
    simp only[List.find?_map,Function.comp_def,Nat.succ_eq_add_one,List.getD_cons_succ];cases(List.range r.length).find? fun i=>q (r.getD i 0)with
    | none=>rfl
    | some i=>simp only[Wi];congr 1;omega
   ·rw[if_pos rfl];simp
def vR (p:Prog) (l:List Int) (m:Int) (M:List (Int×Int)):List (Int×Int):=(Bq (fun y M=>(A1 p y m,aP p M y m)) l 0 M).2
def Ym (p:Prog) (L nb:Nat) (l:List Int) (f:Bool) (hok:EN p) (hgw:D7 (AR p)) (hfm: ∀x∈p.methods,CS (AR p) x.fact=true) (hl: ∀x∈l,BQ p x=true) :
    DB Tryz.prog (.f (.func 262) [] [.p nb 0,.rp [Sf p L]]) eI (fun M=>[.box nb [.l (iL l) f],.map L (KE p M)]) (fun m M=>(!(decide ((Bq (fun y M=>(A1 p y m,aP p M y m)) l 0 M).1≥0)),vR p l m M)) (fun m _=>BQ p m=true):=by
 intro m M hm σ hs;refine B2 ?_;show BC Tryz.prog 262 ([]++[eI m]++[.p nb 0,.rp [Sf p L]]) σ _;refine s8 kZ ?_
 conv=>whnf
 repeat'((first|(apply sq;intro K U)|(apply si;intro A B Y Z)|(apply Y;clear Z B Y A)|(apply U;clear U K)|refine ld ?_|fail)<;>conv=>whnf)
 refine(GS 263 [] [.rp [Sf p L],.rp [eI m]] (fun M=>[.map L (KE p M)]) _ _ (kL p L m hok hgw hfm hm) l f M (G0 fun y hy _=>hl y hy)).use (rest:=[_]) (hs.perm (.swap _ _ _)) ?_;clear hs;rintro r post σ ⟨rfl,rfl⟩ hs
 conv=>whnf
 repeat'((first|apply st|(apply Y;clear Z B Y A)|(apply U;clear U K)|fail)<;>conv=>whnf)
 exact Av (hs.perm (.swap _ _ _)) (List.Sublist.refl _) (.refl _) fun σ' hs'=>⟨rfl,hs'⟩
def ei {p:Prog} (hok:EN p): ∀(l:List Int),l≠[]→(∀x∈l,BQ p x=true)→ ∃x∈l,∀y∈l,A1 p y x=false
 | [],h,_=>absurd rfl h
 | x ::r,_,h=>by
   by_cases hr:r= []
   ·subst hr
    exact⟨x,.head _,fun y hy=>by rw[Kz.1 hy];exact QW x⟩
   obtain⟨z,hz,hz2⟩:=ei hok r hr fun y hy=>h y (.tail _ hy)
   cases hxz:A1 p x z
   ·refine⟨z,.tail _ hz,fun y hy=>?_⟩
    rcases F6.1 hy with rfl|hy
    ·exact hxz
    ·exact hz2 y hy
   ·refine⟨x,.head _,fun y hy=>?_⟩
    rcases F6.1 hy with rfl|hy
    ·exact QW y
    ·rw[←Bool.not_eq_true]
     intro e;have:=T5 hok (h y (.tail _ hy)) (h x (.head _)) (h z (.tail _ hz)) e hxz;rw[hz2 y hy]at this;cases this
def Rv {p:Prog} (hok:EN p) {l:List Int} (hl:l≠[]) (h: ∀x∈l,BQ p x=true): ∃i,MW (A1 p) l=some i:=by
 obtain⟨x,hx,hx2⟩:=ei hok l hl h;obtain⟨i,hi⟩:=List.getElem?_of_mem hx;cases hm:MW (A1 p) l with
 | some i=>exact⟨i,rfl⟩
 | none=>
   rw[MW,List.find?_range_eq_none]at hm;have h1:=hm i (IS.1 hi).1
   have h2:KG (A1 p) l i l.length=true:=by
    rw[KG,Em];intro k hk;rw[By hi,hx2 _ (D5 (List.mem_range.1 hk))];rfl
   rw[h2]at h1;cases h1
end Go.Gl
namespace Go.Gl
variable {P:Program} {σ:AH}
def uq {L:Nat} {args:List V} {Q:R→AH→Prop} (h:Oq P L args σ Q):A3 P (.f (.yield L) [] []) args σ Q:=h
def V4 {L:Nat} {E:Env} {ps:List Nat} {a b:AY} {args:List V} {l:List At} (hl:args.length=ps.length) (hs:Sat σ (.obj L (.loop .ready E (B0 P ps a b))::l)) {Q:R→AH→Prop}
    (h: ∀σ,Sat σ l→W P a (Cg (W P b fun ex env' σ'=>σ' L=none→TL L E (B0 P ps a b) Q ex env' σ')) (Et ps args E) σ):Oq P L args σ Q:=
 QO (hs.get (i:=0) rfl) hl (h _ hs.del)
end Go.Gl
namespace Go.Gl
open Go.Proofs
attribute [local irreducible] BC Aw Ai AV AM Ah AU AW AN Ag AQ AS A3 BA Sat Ab A8 Ak W
def RT (xs:List Int) (f:Bool):Pure Tryz.prog 261 [.l (iL xs) f] (.f (.func 312) [] [.rp [.l (iL xs) f]]):=by
 refine s9 kZ ?_;have hs:=Sn
 conv=>whnf
 repeat'((first|apply st|(apply sq;intro K U)|(apply si;intro A B Y Z)|(apply Y;clear Z B Y A)|(apply U;clear U K)|fail)<;>conv=>whnf)
 all_goals exact AI rfl
def kH (xs:List Int) (f:Bool) (hxl:xs.length≤1000) {S:Type} {fn:Fn} {fi ca:List V} {H:S→List At} (Inv:Nat→S→Prop) {s:S} (h0:Inv 0 s)
    (hT: ∀(k:Nat) s y,xs[k]? =some y→Inv k s→ ∀σ:AH,Sat σ (H s)→A3 Tryz.prog (.f fn fi ca) [eI y] σ fun r σ'=> ∃s',r= .ret (.b true)∧Inv (k+1) s'∧Sat σ' (H s')) (σ:AH) (hs:Sat σ (H s)) :
    BC Tryz.prog 312 [.f fn fi ca,.rp [.l (iL xs) f]] σ fun r σ'=> ∃s',r= .ret (.t [])∧Inv xs.length s'∧Sat σ' (H s'):=by
 have hM:=Mx;refine sJ kZ ?_
 conv=>whnf
 repeat'((first|apply st|(apply sq;intro K U)|(apply si;intro A B Y Z)|(apply Y;clear Z B Y A)|(apply U;clear U K)|fail)<;>conv=>whnf)
 refine CA xs.length (fun k (_:S)=>[(7,eI (BG k))]) (fun _ s'=>H s') (fun k s'=>Inv k s') s rfl h0 hs ?_;clear hs;rintro k s' σ hk ho hs;rcases BI xs hk with⟨y,hy,hlt⟩|hke
 ·have hT':=hT k s' y hy ho
  conv=>whnf
  repeat'((first|apply st|(apply sq;intro K U)|(apply si;intro A B Y Z)|(apply Y;clear Z B Y A)|(apply U;clear U K)|refine⟨rfl,?_⟩|refine ix ?_|(refine CU (fun hc=>?_)<;>(try rw[hc])<;>clear hc)|fail)<;>conv=>whnf)
  refine(hT' σ hs).mono ?_;rintro r σ ⟨s2,rfl,hi2,hs⟩
  conv=>whnf
  repeat'((first|apply st|(apply si;intro A B Y Z)|(apply Y;clear Z B Y A)|(apply U;clear U K)|refine⟨rfl,?_⟩|refine FP ?_|fail)<;>conv=>whnf)
  exact⟨hlt,_,rfl,hi2,hs⟩
 ·rw[hke]at ho
  conv=>whnf
  repeat'((first|apply st|(apply sq;intro K U)|(apply si;intro A B Y Z)|(apply Y;clear Z B Y A)|(apply U;clear U K)|refine⟨rfl,?_⟩|(refine Dl (fun hc=>?_)<;>(try rw[hc])<;>clear hc)|clear U K)<;>conv=>whnf)
  exact AX ⟨_,rfl,ho,hs⟩
def cn (xs:List Int) (f:Bool) (hxl:xs.length≤1000):Bj Tryz.prog 243 [.l [] true,.f (.func 312) [] [.rp [.l (iL xs) f]]] [] fun r post=> ∃v,r= .ret v∧post= [.own v 1 (iL xs)]∧((B5 v).isSome=true∨(v= .l [] true∧xs= [])):=by
 intro σ hs;have hM:=Mx;refine tI kZ ?_
 conv=>whnf
 repeat'((first|apply st|(apply sq;intro K U)|(apply si;intro A B Y Z)|(apply Y;clear Z B Y A)|(apply U;clear U K)|(intro nn hnn;generalize hg:A0 _ nn _=σ;refine CZ hg fun hs=>?_;clear hg)|fail)<;>conv=>whnf)
 rename_i nb _ _ _;clear hnn
 revert hs
 generalize hE:([(2,V.p nb 0)]:Env)=E;generalize hk:B0 _ _ _ _=ok;intro hs;refine BC.mono (kH xs f hxl (fn:= .yield nn) (fi:=[]) (ca:=[]) (H:=fun s:V×List Int=> .obj nn (.loop .ready E ok):: [.box nb [s.1],.own s.1 1 (iL s.2)]) (fun k s=>s.2=xs.take k∧(1≤k→(B5 s.1).isSome=true)∧(k=0→s.1= .l [] true)) (s:=(.l [] true,[])) ⟨rfl,fun h=>by omega,fun _=>rfl⟩ ?_ σ ((DA hs 1).perm (LF _ _ _ _))) ?_
 ·clear hs
  subst hE hk;rintro k ⟨v,ys⟩ y hy ⟨h1,h2,h3⟩ σ hs;dsimp only at h1 h2 h3 hs;have hkl:k<xs.length:=(IS.1 hy).1;have hyl:ys.length=k:=by rw[h1,K1];omega
  have hll:ys.length<Ad∧(ys.length+1)*8≤140737488355328:=by omega
  refine uq (V4 (l:=[.box nb [v],.own v 1 (iL ys)]) rfl hs ?_);clear hs;intro σ hs
  conv=>whnf
  repeat'((first|apply st|(apply si;intro A B Y Z)|(apply Y;clear Z B Y A)|refine ld ?_|refine GV fun σ hs=>?_|refine aq fun v σ hs hsl=>?_|clear U K)<;>conv=>whnf)
  intro hn;exact⟨(v,ys++[y]),rfl,⟨by rw[AO hy,h1],fun _=>hsl,fun h=>by omega⟩,hs.pJ hn⟩
 ·clear hs
  rintro r σ ⟨⟨v,ys⟩,rfl,⟨h1,h2,h3⟩,hs⟩;dsimp only at h1 h2 h3 hs;refine PK hs fun σ hs=>?_
  conv=>whnf
  repeat'((first|apply st|(apply sq;intro K U)|(apply si;intro A B Y Z)|(apply Y;clear Z B Y A)|(apply U;clear U K)|refine ld ?_|fail)<;>conv=>whnf)
  rw[List.take_length]at h1;subst h1;refine Av hs (Jz _ _) (.refl _) fun σ' hs'=>⟨_,⟨v,rfl,rfl,?_⟩,hs'⟩
  rcases Nat.eq_zero_or_pos ys.length with h|h
  ·exact .inr ⟨h3 h,YL.1 h⟩
  ·exact .inl (h2 h)
def cS (xs:List Int) (f:Bool) (hxl:xs.length≤1000):Bj Tryz.prog 171 [.f (.func 312) [] [.rp [.l (iL xs) f]]] [] fun r post=> ∃v,r= .ret v∧post= [.own v 1 (iL xs)]∧((B5 v).isSome=true∨(v= .l [] true∧xs= [])):=by
 intro σ hs;refine tw kZ ?_
 conv=>whnf
 repeat'((first|(apply sq;intro K U)|(apply si;intro A B Y Z)|(apply Y;clear Z B Y A)|(apply U;clear U K)|fail)<;>conv=>whnf)
 refine(cn xs f hxl).use (rest:=[]) (by simpa using hs) ?_;clear hs;rintro r post σ ⟨v,rfl,rfl,hv⟩ hs
 conv=>whnf
 repeat'((first|apply st|(apply Y;clear Z B Y A)|(apply U;clear U K)|fail)<;>conv=>whnf)
 exact Av hs (List.sublist_append_left _ _) (.refl _) fun σ' hs'=>⟨_,⟨v,rfl,rfl,hv⟩,hs'⟩
def RZ (xs:List Int) (f:Bool) (hxl:xs.length≤1000):Pure Tryz.prog 260 [.f (.func 312) [] [.rp [.l (iL xs) f]]] (.l (iL (xs.mergeSort HF)) false):=by
 refine tA kZ ?_;have hs:=Sn
 conv=>whnf
 repeat'((first|(apply sq;intro K U)|(apply si;intro A B Y Z)|(apply Y;clear Z B Y A)|(apply U;clear U K)|fail)<;>conv=>whnf)
 refine(cS xs f hxl).use (rest:=[]) (by simpa using hs) ?_;clear hs;rintro r post σ ⟨v,rfl,rfl,hv⟩ hs
 conv=>whnf
 repeat'((first|(apply sq;intro K U)|(apply si;intro A B Y Z)|(apply Y;clear Z B Y A)|(apply U;clear U K)|fail)<;>conv=>whnf)
 refine(dg hv).use (rest:=[]) hs ?_;clear hs;rintro r post σ ⟨rfl,rfl⟩ hs
 conv=>whnf
 repeat'((first|apply st|(apply sq;intro K U)|(apply si;intro A B Y Z)|(apply Y;clear Z B Y A)|(apply U;clear U K)|fail)<;>conv=>whnf)
 exact Al (hs.GX 0 rfl)
def SF {S:Type} {stp:Int→S→Bool×S} {q:Int→Bool}: ∀(xs:List Int) (k:Nat) (s:S),(∀y∈xs,∀s,(stp y s).1=q y)→decide ((Bq stp xs k s).1≥0)=xs.any q
 | [],_,_,_=>rfl
 | y ::r,k,s,h=>by
   rw[Bq,h y (.head _),Qb];cases hq:q y
   ·rw[if_neg (by decide),Bool.false_or]
    exact SF r (k+1) _ fun z hz=>h z (.tail _ hz)
   ·rw[if_pos rfl,Bool.true_or]
    exact decide_eq_true (Int.natCast_nonneg k)
def aw (l:List Int) (q:Int→Bool):(List.range l.length).all (fun j=> !q (l.getD j 0))= !l.any q:=by
 rw[JU,Em,Bool.not_eq_true',←Bool.not_eq_true,Jy];constructor
 ·rintro h ⟨x,hx,hq⟩
  obtain⟨i,hi⟩:=List.getElem?_of_mem hx;have:=h i (List.mem_range.2 (IS.1 hi).1);rw[By hi,hq]at this;cases this
 ·intro h j hj
  cases hq:q (l.getD j 0)
  ·rfl
  ·exact absurd ⟨_,D5 (List.mem_range.1 hj),hq⟩ h
def Za {p:Prog} {l:List Int} {M:List (Int×Int)}:(Bq (fun(m:Int) (M:List (Int×Int))=>(!(decide ((Bq (fun y M=>(A1 p y m,aP p M y m)) l 0 M).1≥0)),vR p l m M)) l 0 M).1=match MW (A1 p) l with|some i=>((i:Nat):Int)|none=> -1:=by
 rw[SE (q:=fun m=> !l.any fun y=>A1 p y m) l 0 M fun m _ s=>by dsimp only;rw[SF (q:=fun y=>A1 p y m) l 0 s fun y _ s=>rfl]];rw[MW,find_congr (g:=fun i=>KG (A1 p) l i l.length) fun i _=>by rw[KG,aw l fun y=>A1 p y (l.getD i 0)]];cases(List.range l.length).find? fun i=>KG (A1 p) l i l.length with
 | none=>rfl
 | some i=>simp
set_option maxHeartbeats 4000000 in
def cg (p:Prog) (L:Nat) (l:List Int) (f:Bool) (hok:EN p) (hgw:D7 (AR p)) (hfm: ∀x∈p.methods,CS (AR p) x.fact=true) (hl:S6 p l) (hnd:l.Nodup) (M:List (Int×Int)) :
    Bj Tryz.prog 184 [Sf p L,.l (iL l) f] [.map L (KE p M)] fun r post=>r= .ret (.l (iL (DK (A1 p) l.length (l.mergeSort HF))) true)∧ ∃M',post= [.map L (KE p M')]:=by
 intro σ hs;have hM:=Mx;have h16:=hl.many;have hml:(l.mergeSort HF).length=l.length:=List.length_mergeSort _;have c1:=RT l f;have c2:=RZ l f (by omega);refine fW kZ ?_
 conv=>whnf
 repeat'((first|apply st|(apply sq;intro K U)|(apply si;intro A B Y Z)|(apply Y;clear Z B Y A)|(apply U;clear U K)|refine ld ?_|refine GV fun σ hs=>?_|refine c1.use ?_|refine c2.use ?_|(intro nn hnn;generalize hg:A0 _ nn _=σ;refine CZ hg fun hs=>?_;clear hg)|fail)<;>conv=>whnf)
 clear c1 c2 hnn
 refine EA (fun(x:List Int×Bool×V×List Int×List (Int×Int))=>x.1.length) (fun x=>[(5,x.2.2.1)]) (fun x=>[.box nn [.l (iL x.1) x.2.1],.own x.2.2.1 1 (iL x.2.2.2.1),.map L (KE p x.2.2.2.2)])
  (fun x=>(∀y∈x.1,BQ p y=true)∧x.1.Nodup∧x.2.2.2.1.length+x.1.length≤16∧DK (A1 p) l.length (l.mergeSort HF)=x.2.2.2.1++DK (A1 p) x.1.length x.1) (l.mergeSort HF,false,.l [] true,[],M) rfl ⟨fun y hy=>hl.I4 y (List.mem_mergeSort.1 hy),(List.mergeSort_perm l HF).symm.nodup hnd,by simpa[hml]using h16,by simp[hml]⟩ ((DA hs 1).perm (.swap _ _ _)) ?_
 clear hs;rintro⟨l',f',v,out,M⟩ σ ⟨hme,hn,hlen,hm⟩ hs;dsimp only at hme hn hlen hm hs;dsimp only;have hll:out.length<Ad∧(out.length+1)*8≤140737488355328:=by omega
 by_cases hz:l'.length=0
 ·rw[hz]at hm
  simp only[DK,Im]at hm
  conv=>whnf
  repeat'((first|apply st|(apply sq;intro K U)|(apply si;intro A B Y Z)|(apply Y;clear Z B Y A)|(apply U;clear U K)|refine⟨rfl,?_⟩|refine ld ?_|(constructor<;>intro hc<;>(try rw[hc])<;>(replace hc:=bp hc)<;>(try simp(disch:=omega) only[A9,wrap64,AK]at hc)<;>try(exfalso;omega))|clear U K)<;>conv=>whnf)
  refine(PD out v (by omega)).use (rest:=[_,_]) (hs.perm (.swap _ _ _)) ?_;clear hs;rintro r post σ ⟨rfl,rfl⟩ hs
  conv=>whnf
  repeat'((first|apply st|(apply Y;clear Z B Y A)|(apply U;clear U K)|fail)<;>conv=>whnf)
  exact Av hs (Jz _ _) (.refl _) fun σ' hs'=>⟨_,⟨by rw[hm],M,rfl⟩,hs'⟩
 ·obtain⟨n,hnn⟩: ∃n,l'.length=n+1:=⟨l'.length - 1,by omega⟩
  have hne:l'≠[]:=fun e=>hz (by rw[e];rfl)
  obtain⟨i,hi⟩:=Rv hok hne hme;have hil:i<l'.length:=by simpa using List.mem_of_find?_eq_some hi
  obtain⟨x,hx⟩: ∃x,l'[i]? =some x:=⟨_,C7 hil⟩
  rw[hnn,DK,hi,Option.getD_some,By hx]at hm;have c3:=Mt l' f' x (by omega);rw[Fv hn hx]at c3;have hel:=List.length_eraseIdx_of_lt hil
  conv=>whnf
  repeat'((first|apply st|(apply sq;intro K U)|(apply si;intro A B Y Z)|(apply Y;clear Z B Y A)|(apply U;clear U K)|refine⟨rfl,?_⟩|refine ld ?_|(constructor<;>intro hc<;>(try rw[hc])<;>(replace hc:=bp hc)<;>(try simp(disch:=omega) only[A9,wrap64,AK]at hc)<;>try(exfalso;omega))|fail)<;>conv=>whnf)
  refine(IQ 262 [] [.p nn 0,.rp [Sf p L]] (fun M=>[.box nn [.l (iL l') f'],.map L (KE p M)]) _ _ (Ym p L nn l' f' hok hgw hfm hme) l' f' M (G0 fun y hy _=>hme y hy)).use (rest:=[.own v 1 (iL out)]) (hs.perm (.cons _ (.swap _ _ _))) ?_;clear hs;rintro r post σ ⟨rfl,rfl⟩ hs;rw[Za,hi];generalize (Bq _ l' 0 M).2=M2 at hs;dsimp only
  conv=>whnf
  repeat'((first|apply st|(apply sq;intro K U)|(apply si;intro A B Y Z)|(apply Y;clear Z B Y A)|(apply U;clear U K)|refine HI ?_|refine ld ?_|refine GV fun σ hs=>?_|refine aq fun v σ hs hsl=>?_|refine c3.use ?_|clear U K)<;>conv=>whnf)
  refine⟨(l'.eraseIdx i,true,v,out++[x],M2),by dsimp only;omega,rfl,⟨fun y hy=>hme y (List.mem_of_mem_eraseIdx hy),hn.sublist (List.eraseIdx_sublist _ _),by simp;omega,?_⟩,hs.perm (.cons _ (.swap _ _ _))⟩;dsimp only;rw[hm,hel,show l'.length - 1=n by omega];simp
def ai: ∀ {l:List Int},l.Nodup→(l.mergeSort HF).Pairwise (· < ·):=fun {l} h=>by
 have h1:=List.pairwise_mergeSort (le:=HF) (fun a b c h1 h2=>by simp only[HF,Cn]at *;omega) (fun a b=>by simp only[HF,Fo,Cn];omega) l;have h2:=List.nodup_iff_pairwise_ne.1 ((List.mergeSort_perm l HF).symm.nodup h);exact(h1.and h2).imp fun⟨a,b⟩=>by simp only[HF,Cn]at a;omega
def ZO {x:Int}: ∀ {out:List Int},out.Pairwise (· < ·)→x∉out→(Gx x out).Pairwise (· < ·)
 | [],_,_=>by simp[Gx]
 | y ::r,h,hx=>by
   rw[List.pairwise_cons]at h;rw[F6,not_or]at hx;by_cases hy:y<x
   ·have e:Gx x (y::r)=y::Gx x r:=by simp[Gx,List.takeWhile_cons,List.dropWhile_cons,hy]
    rw[e,List.pairwise_cons];refine⟨fun z hz=>?_,ZO h.2 hx.2⟩;rcases PT.1 hz with rfl|hz
    ·exact hy
    ·exact h.1 z hz
   ·have e:Gx x (y::r)=x::y::r:=by simp[Gx,List.takeWhile_cons,List.dropWhile_cons,hy]
    rw[e,List.pairwise_cons,List.pairwise_cons];refine⟨fun z hz=>?_,h⟩;rcases F6.1 hz with rfl|hz
    ·have:=hx.1;omega
    ·have:=h.1 z hz
     have:=hx.1;omega
def Va: ∀(l out:List Int),out.Pairwise (· < ·)→l.Nodup→(∀x∈l,x∉out)→(l.foldl (fun out x=>Gx x out) out).Pairwise (· < ·)
 | [],_,h,_,_=>h
 | x::r,out,h,hn,hx=>by
   rw[List.nodup_cons]at hn;refine Va r _ (ZO h (hx x (.head _))) hn.2 fun y hy hm=>?_
   rcases PT.1 hm with rfl|hm
   ·exact hn.1 hy
   ·exact hx y (.tail _ hy) hm
def Ra {l:List Int} (h:l.Nodup):l.mergeSort HF=Cv l:=
 Kh (ai h) (Va l [] .nil h fun x _ hm=>by cases hm) fun x=>by rw[List.mem_mergeSort,Jj]
end Go.Gl
namespace Go.Gl
open Go.Proofs
def uW {σ:AH} {l:List At} {i:Nat} {v:V} {sz:Nat} {es:List (List V)} (hs:Sat σ l) (hi:l[i]? =some (.own v sz es)) (he: ∀e∈es,e.length=sz) {K:V→AH→Prop} (hk: ∀v' σ',Sat σ' (l.set i (.own v' sz es))→((B5 v').isSome=true∨(v'= .l es true∧v= .l es true))→K v' σ'):AU σ sz v none (some (.i .i64 (es.length:Int))) (some (.i .i64 (es.length:Int))) K:=by
 rcases hs.get hi with⟨rfl,_⟩|⟨n,cap,rfl,hn⟩
 ·refine⟨he,?_⟩
  simp only[NV];refine⟨Int.le_refl _,Int.natCast_nonneg _,Int.le_refl _,trivial,?_⟩
  have hset:l.set i (.own (.l es true) sz es)=l:=by
   refine List.ext_getElem? fun j=>?_
   by_cases hj:i=j
   ·subst hj
    rw[List.getElem?_set_self (IS.1 hi).1,hi]
   ·rw[List.getElem?_set_ne hj]
  have:=hk (.l es true) σ (by rw[hset];exact hs) (.inr ⟨rfl,rfl⟩);simpa using this
 ·unfold AU
  simp only[NV];refine⟨Int.le_refl _,Int.natCast_nonneg _,Int.le_refl _,trivial,trivial,trivial,?_⟩;rw[hn];refine⟨rfl,rfl,rfl,.inr (hk _ _ ?_ (.inl rfl))⟩;refine hs.change hi (fun b hb ha=>E9 hb fun m hm=>?_) (fun b hb ha m hm=>?_) (.inr ⟨n,es.length,rfl,DE _ _ _⟩)
  ·rw[Ch]
   intro e;subst e;exact ha m rfl hm
  ·cases hm
   exact ha _ rfl
attribute [local irreducible] BC Aw Ai AV AM Ah AU AW AN Ag AQ AS A3 BA Sat Ab A8 Ak W
def mc (xs:List Int) (v:V) (hl:xs.length≤Ad) (hv:(B5 v).isSome=true∨(v= .l [] true∧xs= [])):Bj Tryz.prog 242 [v] [.own v 1 (iL xs)] fun r post=> ∃v',r= .ret v'∧post= [.own v' 1 (iL xs)]∧((B5 v').isSome=true∨(v'= .l [] true∧xs= [])):=by
 intro σ hs;have hg:=DG Bk xs;refine fU kZ ?_
 conv=>whnf
 repeat'((first|(apply sq;intro K U)|(apply si;intro A B Y Z)|(apply Y;clear Z B Y A)|(apply U;clear U K)|refine lo ?_|fail)<;>conv=>whnf)
 refine uW (i:=0) hs rfl hg.1 fun v' σ hs hv'=>?_
 conv=>whnf
 repeat'((first|apply st|(apply Y;clear Z B Y A)|(apply U;clear U K)|fail)<;>conv=>whnf)
 refine Av hs (List.Sublist.refl _) (.refl _) fun σ' hs'=>⟨_,⟨v',rfl,rfl,?_⟩,hs'⟩
 rcases hv' with h|⟨h1,h2⟩
 ·exact .inl h
 ·rcases hv with h|⟨h3,h4⟩
  ·rw[h2]at h;cases h
  ·subst h4
   exact .inr ⟨h1,rfl⟩
def Ug (xs ys:List Int) (k:Nat):Prop:=ys.length=xs.length∧ ∀t,t<xs.length→ys[t]? =if t<k∨xs.length - k≤t then xs[xs.length - 1 - t]? else xs[t]?
def qm (xs:List Int):Ug xs xs 0:=⟨rfl,fun t ht=>by rw[if_neg (by omega)]⟩
def iP {xs ys:List Int} {k:Nat} (h:Ug xs ys k) (hk:xs.length≤2*k+1):ys=xs.reverse:=by
 refine List.ext_getElem? fun t=>?_
 rcases Nat.lt_or_ge t xs.length with ht|ht
 ·rw[h.2 t ht,List.getElem?_reverse ht]
  split
  ·rfl
  ·congr 1;omega
 ·rw[List.getElem?_eq_none (by rw[h.1];exact ht),List.getElem?_eq_none (by rw[List.length_reverse];exact ht)]
def bg {xs ys:List Int} {k:Nat} {a b:Int} (h:Ug xs ys k) (hk:2*k+1<xs.length) (ha:ys[k]? =some a) (hb:ys[xs.length - 1 - k]? =some b):Ug xs ((ys.set k b).set (xs.length - 1 - k) a) (k+1):=by
 have h1:=h.2 k (by omega);have h2:=h.2 (xs.length - 1 - k) (by omega);rw[if_neg (by omega),ha]at h1;rw[if_neg (by omega),hb]at h2;refine⟨by rw[List.length_set,List.length_set];exact h.1,fun t ht=>?_⟩;have hl:=h.1;by_cases e1:t=xs.length - 1 - k
 ·subst e1
  rw[List.getElem?_set_self (by rw[List.length_set];omega),if_pos (by omega),show xs.length - 1 - (xs.length - 1 - k)=k by omega,h1]
 ·rw[List.getElem?_set_ne (fun e=>e1 e.symm)]
  by_cases e2:t=k
  ·subst e2
   rw[List.getElem?_set_self (by omega),if_pos (by omega),h2]
  ·rw[List.getElem?_set_ne (fun e=>e2 e.symm),h.2 t ht]
   by_cases e3:t<k∨xs.length - k≤t
   ·rw[if_pos e3,if_pos (by omega)]
   ·rw[if_neg e3,if_neg (by omega)]
end Go.Gl
namespace Go.Gl
open Go.Proofs
attribute [local irreducible] BC Aw Ai AV AM Ah AU AW AN Ag AQ AS A3 BA Sat Ab A8 Ak W
set_option maxHeartbeats 1000000 in
def an (xs:List Int) (v:V) (hl:xs.length≤1000) (hv:(B5 v).isSome=true∨(v= .l [] true∧xs= [])):Bj Tryz.prog 185 [v] [.own v 1 (iL xs)] fun r post=>r= .ret (.t [])∧post= [.own v 1 (iL xs.reverse)]:=by
 intro σ hs;have hM:=Mx;have e0:((iL xs).length:Int)=xs.length:=by simp
 have hw0:IntKind.i64.wrap (((iL xs).length:Int) - 1)=(xs.length:Int) - 1:=by rw[e0,wrap64 (by omega) (by omega)]
 refine tq kZ ?_
 conv=>whnf
 repeat'((first|apply st|(apply sq;intro K U)|(apply si;intro A B Y Z)|(apply Y;clear Z B Y A)|(apply U;clear U K)|refine⟨rfl,?_⟩|refine lo ?_|fail)<;>conv=>whnf)
 refine EA (fun(x:Int×Int×List Int)=>(x.2.1+1).toNat) (fun x=>[(2,eI x.1),(3,eI x.2.1)]) (fun x=>[.own v 1 (iL x.2.2)]) (fun x=> ∃k:Nat,x.1=k∧x.2.1=(xs.length:Int) - 1 - k∧2*k≤xs.length+1∧Ug xs x.2.2 k) (0,IntKind.i64.wrap (((iL xs).length:Int) - 1),xs) rfl ⟨0,rfl,by rw[hw0];simp,by omega,qm xs⟩ hs ?_;clear hs;rintro⟨i,j,ys⟩ σ ⟨k,hi,hj,hk,hh⟩ hs;dsimp only at hi hj hh hs;dsimp only;have hyl:=hh.1;by_cases hij:i<j
 ·have hsv:(B5 v).isSome=true:=by
   rcases hv with h|⟨h1,h2⟩
   ·exact h
   ·rw[h2]at hj;simp at hj;omega
  have hwi:IntKind.i64.wrap (i+1)=i+1:=wrap64 (by omega) (by omega);have hwj:IntKind.i64.wrap (j - 1)=j - 1:=wrap64 (by omega) (by omega);obtain⟨a,ha⟩: ∃a,ys[i.toNat]? =some a:=⟨_,C7 (by omega)⟩
  obtain⟨b,hb⟩: ∃b,ys[j.toNat]? =some b:=⟨_,C7 (by omega)⟩
  conv=>whnf
  repeat'((first|apply st|(apply sq;intro K U)|(apply si;intro A B Y Z)|(apply Y;clear Z B Y A)|(apply U;clear U K)|apply dr|refine⟨rfl,?_⟩|refine oi ?_|refine oi2 ?_|refine Oc ?_|refine oset fun σ hs=>?_|refine oset (fun σ hs=>?_) (h1:=by rw[List.length_set];omega)|(constructor<;>intro hc<;>(try rw[hc])<;>(replace hc:=bp hc)<;>try(exfalso;omega))|fail)<;>conv=>whnf)
  have hik:i.toNat=k:=by omega
  have hjk:j.toNat=xs.length - 1 - k:=by omega
  refine⟨(IntKind.i64.wrap (i+1),IntKind.i64.wrap (j - 1),(ys.set i.toNat b).set j.toNat a),by dsimp only;rw[hwj];omega,rfl,⟨k+1,by dsimp only;rw[hwi];omega,by dsimp only;rw[hwj];omega,by omega,?_⟩,hs⟩;dsimp only;rw[hik]at ha ⊢;rw[hjk]at hb ⊢;exact bg hh (by omega) ha hb
 ·have he:=iP hh (by omega)
  conv=>whnf
  repeat'((first|apply st|(apply sq;intro K U)|(apply si;intro A B Y Z)|(apply Y;clear Z B Y A)|(apply U;clear U K)|refine⟨rfl,?_⟩|(constructor<;>intro hc<;>(try rw[hc])<;>(replace hc:=bp hc)<;>try(exfalso;omega))|clear U K)<;>conv=>whnf)
  subst he;exact Av hs (List.Sublist.refl _) (.refl _) fun σ' hs'=>⟨_,⟨rfl,rfl⟩,hs'⟩
set_option maxHeartbeats 4000000 in
def YH (p:Prog) (L:Nat) (l:List Int) (f:Bool) (hok:EN p) (hgw:D7 (AR p)) (hfm: ∀x∈p.methods,CS (AR p) x.fact=true) (hl:S6 p l) (hnd:l.Nodup) (M:List (Int×Int)) :
    Bj Tryz.prog 184 [Sf p L,.l (iL l) f] [.map L (KE p M)] fun r post=> ∃v M',r= .ret v∧post= [.own v 1 (iL (DK (A1 p) l.length (l.mergeSort HF))),.map L (KE p M')]∧((B5 v).isSome=true∨(v= .l [] true∧DK (A1 p) l.length (l.mergeSort HF)= [])):=by
 intro σ hs;have hM:=Mx;have h16:=hl.many;have hml:(l.mergeSort HF).length=l.length:=List.length_mergeSort _;have c1:=RT l f;have c2:=RZ l f (by omega);refine fW kZ ?_
 conv=>whnf
 repeat'((first|apply st|(apply sq;intro K U)|(apply si;intro A B Y Z)|(apply Y;clear Z B Y A)|(apply U;clear U K)|refine ld ?_|refine GV fun σ hs=>?_|refine c1.use ?_|refine c2.use ?_|(intro nn hnn;generalize hg:A0 _ nn _=σ;refine CZ hg fun hs=>?_;clear hg)|fail)<;>conv=>whnf)
 clear c1 c2 hnn
 refine EA (fun(x:List Int×Bool×V×List Int×List (Int×Int))=>x.1.length) (fun x=>[(5,x.2.2.1)]) (fun x=>[.box nn [.l (iL x.1) x.2.1],.own x.2.2.1 1 (iL x.2.2.2.1),.map L (KE p x.2.2.2.2)])
  (fun x=>(∀y∈x.1,BQ p y=true)∧x.1.Nodup∧x.2.2.2.1.length+x.1.length≤16∧DK (A1 p) l.length (l.mergeSort HF)=x.2.2.2.1++DK (A1 p) x.1.length x.1∧((B5 x.2.2.1).isSome=true∨(x.2.2.1= .l [] true∧x.2.2.2.1= []))) (l.mergeSort HF,false,.l [] true,[],M) rfl ⟨fun y hy=>hl.I4 y (List.mem_mergeSort.1 hy),(List.mergeSort_perm l HF).symm.nodup hnd,by simpa[hml]using h16,by simp[hml],.inr ⟨rfl,rfl⟩⟩ ((DA hs 1).perm (.swap _ _ _)) ?_
 clear hs;rintro⟨l',f',v,out,M⟩ σ ⟨hme,hn,hlen,hm,hv⟩ hs;dsimp only at hme hn hlen hm hv hs;dsimp only;have hll:out.length<Ad∧(out.length+1)*8≤140737488355328:=by omega
 by_cases hz:l'.length=0
 ·rw[hz]at hm
  simp only[DK,Im]at hm
  conv=>whnf
  repeat'((first|apply st|(apply sq;intro K U)|(apply si;intro A B Y Z)|(apply Y;clear Z B Y A)|(apply U;clear U K)|refine⟨rfl,?_⟩|refine ld ?_|(constructor<;>intro hc<;>(try rw[hc])<;>(replace hc:=bp hc)<;>(try simp(disch:=omega) only[A9,wrap64,AK]at hc)<;>try(exfalso;omega))|clear U K)<;>conv=>whnf)
  refine(mc out v (by omega) hv).use (rest:=[_,_]) (hs.perm (.swap _ _ _)) ?_;clear hs;rintro r post σ ⟨v',rfl,rfl,hv'⟩ hs
  conv=>whnf
  repeat'((first|apply st|(apply Y;clear Z B Y A)|(apply U;clear U K)|fail)<;>conv=>whnf)
  rw[hm];exact Av hs (.cons₂ _ (Jz _ _)) (.refl _) fun σ' hs'=>⟨_,⟨v',M,rfl,rfl,hv'⟩,hs'⟩
 ·obtain⟨n,hnn⟩: ∃n,l'.length=n+1:=⟨l'.length - 1,by omega⟩
  have hne:l'≠[]:=fun e=>hz (by rw[e];rfl)
  obtain⟨i,hi⟩:=Rv hok hne hme;have hil:i<l'.length:=by simpa using List.mem_of_find?_eq_some hi
  obtain⟨x,hx⟩: ∃x,l'[i]? =some x:=⟨_,C7 hil⟩
  rw[hnn,DK,hi,Option.getD_some,By hx]at hm;have c3:=Mt l' f' x (by omega);rw[Fv hn hx]at c3;have hel:=List.length_eraseIdx_of_lt hil
  conv=>whnf
  repeat'((first|apply st|(apply sq;intro K U)|(apply si;intro A B Y Z)|(apply Y;clear Z B Y A)|(apply U;clear U K)|refine⟨rfl,?_⟩|refine ld ?_|(constructor<;>intro hc<;>(try rw[hc])<;>(replace hc:=bp hc)<;>(try simp(disch:=omega) only[A9,wrap64,AK]at hc)<;>try(exfalso;omega))|fail)<;>conv=>whnf)
  refine(IQ 262 [] [.p nn 0,.rp [Sf p L]] (fun M=>[.box nn [.l (iL l') f'],.map L (KE p M)]) _ _ (Ym p L nn l' f' hok hgw hfm hme) l' f' M (G0 fun y hy _=>hme y hy)).use (rest:=[.own v 1 (iL out)]) (hs.perm (.cons _ (.swap _ _ _))) ?_;clear hs;rintro r post σ ⟨rfl,rfl⟩ hs;rw[Za,hi];generalize (Bq _ l' 0 M).2=M2 at hs;dsimp only
  conv=>whnf
  repeat'((first|apply st|(apply sq;intro K U)|(apply si;intro A B Y Z)|(apply Y;clear Z B Y A)|(apply U;clear U K)|refine HI ?_|refine ld ?_|refine GV fun σ hs=>?_|refine aq fun v σ hs hsl=>?_|refine c3.use ?_|clear U K)<;>conv=>whnf)
  refine⟨(l'.eraseIdx i,true,v,out++[x],M2),by dsimp only;omega,rfl,⟨fun y hy=>hme y (List.mem_of_mem_eraseIdx hy),hn.sublist (List.eraseIdx_sublist _ _),by simp;omega,?_,.inl hsl⟩,hs.perm (.cons _ (.swap _ _ _))⟩;dsimp only;rw[hm,hel,show l'.length - 1=n by omega];simp
def oN (g:FuncId) (fi ca:List V) (q:Int×Int→Bool):Prop:= ∀v,Pure Tryz.prog g (fi++[.a (pI v)]++ca) (.b (q v))
def oN.use {g:FuncId} {fi ca:List V} {q:Int×Int→Bool} (h:oN g fi ca q) {v:Int×Int} {σ:AH} {k kp:V→AH→Prop} (hk:k (.b (q v)) σ):A3 Tryz.prog (.f (.func g) fi ca) [.a (pI v)] σ (qk k kp):=B2 ((h v).use hk)
end Go.Gl
namespace Go.Gl
variable {P:Program} {σ:AH}
def BC.Uf {f:FuncId} {args args':List V} {σ σ2:AH} {Q:R→AH→Prop} (h:BC P f args' σ2 Q) (hsub:Sub σ2 σ) (hf:Dk σ σ2 args args'):BC P f args σ Q:=by
 refine⟨h.1,fun Λ w cs G hv=>?_⟩;exact Calls.mono (h.2 Λ w cs (G.drop hsub) ⟨by rw[hf.length];exact hv.1,hf.rel G hsub (fun _ _ e=>e) hv.2⟩) fun e w' ⟨r,σ',hr,h1,h2,h3⟩=>⟨r,σ',hr,h1,h2,(B3.drop w hsub).trans h3⟩
def Pure.arg {f:FuncId} {args args':List V} {v:V} (h:Pure P f args' v) (hf:Dk emp emp args args'):Pure P f args v:=BC.Uf h (Sub.refl _) hf
def Own.pA {v:V} {sz:Nat} {es es':List (List V)} (h:Own σ v sz es) (G:E6 σ emp es es'):FV σ emp v (.l es' false):=by
 rcases h with⟨rfl,_⟩|⟨n,cap,rfl,hn⟩
 ·exact .l (fun h=>(by cases h)) G
 ·exact .arr hn rfl rfl G
inductive aQ (σ σ':AH):Env→Env→Prop
 | nil:aQ σ σ' [] []
 | cons {k:Nat} {v v':V} {e e':Env}:FV σ σ' v v'→aQ σ σ' e e'→aQ σ σ' ((k,v)::e) ((k,v')::e')
def aQ.efz {σ σ':AH} {e e':Env} (h:aQ σ σ' e e'):x7 σ σ' e e':=by
 induction h with
 | nil=>intro j v2 hv;cases hv
 | cons h1 h2 ih=>
   rename_i k v v' e e';intro j v2 hv;simp only[get]at hv ⊢;cases hb:Nat.beq k j with
   | true=>
     rw[hb]at hv;simp only[cond_true,IT]at hv ⊢;subst hv;exact⟨v,rfl,h1⟩
   | false=>
     rw[hb]at hv;simp only[cond_false]at hv ⊢;exact ih j v2 hv
def xb {env:Env} {K:Env→AH→Prop} (h:K env σ):Fz env σ K:= .inl h
def nr {env env2:Env} {K:Env→AH→Prop} {l:List At} (hs:Sat σ l) (i:Nat) {v:V} {sz:Nat} {es:List (List V)} (hi:l[i]? =some (.own v sz es))
    (he: ∀σ2,FV σ σ2 v (.l es false)→aQ σ σ2 env env2) (hk: ∀σ2,Sat σ2 (l.eraseIdx i)→K env2 σ2):Fz env σ K:=by
 obtain⟨σ2,h1,h2,h3⟩:=I5 hs i hi;exact .inr ⟨env2,σ2,⟨fun n o2 ho=> .inl (h1 n o2 ho)⟩,(he σ2 h2).efz,hk σ2 h3⟩
def vI {l:List Nat} {a b:AY} {Q:Ae→Env→AH→Prop} {env:Env} (h: ∀K:Env→AH→Prop,(∀env σ,(pk l env fun E=>Fz E σ (W P b Q))→K env σ)→W P a (Ae.andThen K Q) env σ):W P (.seq l a b) Q env σ:=ui h
end Go.Gl
namespace Go.Gl
open Go.Proofs
end Go.Gl
namespace Go.Gl
open Go.Proofs
attribute [local irreducible] BC Aw Ai AV AM Ah AU AW AN Ag AQ AS A3 BA Sat Ab A8 Ak W
def lK {p:Prog} (h:(Bb p).isSome=true) {x:Mc} (hx:x∈p.methods):(1≤x.kind∧x.kind≤4)∧CS (AR p) x.fact=true∧Bo (AR p) x.fact=true∧GC x.fact≤p.Dj.getD x.gen.toNat 0:=by
 have:=(F1 h).2 x hx;simp only[Od,BJ,Cn]at this;have hf:=this.2.2.2.2.1;simp only[CS,BJ,Cn]at hf;exact⟨⟨this.1,this.2.1⟩,this.2.2.2.2.1,hf.2.2,this.2.2.2.2.2⟩
structure Pl where
 ar:List Int
 YP:Bool
 be:List Int
 pr:List Int
 prt:Bool
 af:List Int
abbrev xr (x:Pl) (g h:Bool):List V:=[.l (iL x.ar) g,.b x.YP,.l (iL x.be) g,.l (iL x.pr) g,.b x.prt,.l (iL x.af) h]
def CC (p:Prog) (l:List Int) (k:Int):List Int:=l.filter fun m=>(Bh p m).kind==k
def uy:Pl:=⟨[],false,[],[],false,[]⟩
def nT (A:Int→Int→Bool) (p:Prog) (l:List Int):Pl:=
 ⟨(Bc A (CC p l 4).length (CC p l 4)).1,(Bc A (CC p l 4).length (CC p l 4)).2,DK A (CC p l 2).length (Cv (CC p l 2)),(Bc A (CC p l 1).length (CC p l 1)).1,(Bc A (CC p l 1).length (CC p l 1)).2,(DK A (CC p l 3).length (Cv (CC p l 3))).reverse⟩
def Ep (A:Int→Int→Bool) (p:Prog) (l:List Int):Pl×Bool:=if(CC p l 1).isEmpty then(uy,false)else(nT A p l,true)
def kD (p:Prog) (l:List Int) (f:Bool) (kd:Int) (hm: ∀x∈l,BQ p x=true) (hl:l.length≤16) (h16:p.methods.length≤16):Pure Tryz.prog 274 [.a (BR p),.l (iL l) f,eI kd] (.l (iL (CC p l kd)) false):=by
 have hM:=Mx;refine sr kZ ?_;have hs:=Sn
 conv=>whnf
 repeat'((first|apply st|(apply sq;intro K U)|(apply si;intro A B Y Z)|(apply Y;clear Z B Y A)|(apply U;clear U K)|fail)<;>conv=>whnf)
 refine CA l.length (fun k v=>[(7,v),(8,eI (BG k))]) (fun k v=>[.own v 1 (iL (CC p (l.take k) kd))]) (fun _ _=>True) (.l [] true) rfl trivial (EM hs 1) ?_;clear hs;rintro k v σ hk - hs
 have hfl:(CC p (l.take k) kd).length≤16:=by
  have:=Oa (fun m=>(Bh p m).kind==kd) (l.take k);rw[K1]at this;simp only[CC];omega
 rcases BI l hk with⟨x,hx,hlt⟩|hke
 ·have hst:CC p (l.take (k+1)) kd=if(Bh p x).kind==kd then CC p (l.take k) kd++[x]else CC p (l.take k) kd:=by
   rw[AO hx,CC,List.filter_append];cases hp:(Bh p x).kind==kd<;>simp[CC,hp]
  have hmx:=hm x (B9 hx);have hxm:=B8 hmx;simp only[BQ,BJ,Cn]at hmx;generalize CC p (l.take k) kd=zs at *;have hll:zs.length<Ad∧(zs.length+1)*8≤140737488355328:=by omega
  by_cases hkd:(Bh p x).kind=kd
  ·rw[if_pos (D9.2 hkd)]at hst
   conv=>whnf
   repeat'((first|apply st|(apply sq;intro K U)|(apply si;intro A B Y Z)|(apply Y;clear Z B Y A)|(apply U;clear U K)|apply dr|refine⟨rfl,?_⟩|refine ix ?_|refine HI ?_|refine aq fun v σ hs hsl=>?_|(refine CU (fun hc=>?_)<;>(try rw[hc])<;>clear hc)|(constructor<;>intro hc<;>(try rw[hc])<;>(replace hc:=bp hc)<;>try(exfalso;omega))|clear U K)<;>conv=>whnf)
   exact⟨hlt,_,rfl,trivial,by rw[hst];exact hs⟩
  ·rw[if_neg (by simpa using hkd)]at hst
   conv=>whnf
   repeat'((first|apply st|(apply sq;intro K U)|(apply si;intro A B Y Z)|(apply Y;clear Z B Y A)|(apply U;clear U K)|apply dr|refine⟨rfl,?_⟩|refine ix ?_|refine HI ?_|(refine CU (fun hc=>?_)<;>(try rw[hc])<;>clear hc)|(constructor<;>intro hc<;>(try rw[hc])<;>(replace hc:=bp hc)<;>try(exfalso;omega))|clear U K)<;>conv=>whnf)
   exact⟨hlt,_,rfl,trivial,by rw[hst];exact hs⟩
 ·rw[Ap hke]at hs
  conv=>whnf
  repeat'((first|apply st|(apply sq;intro K U)|(apply si;intro A B Y Z)|(apply Y;clear Z B Y A)|(apply U;clear U K)|refine⟨rfl,?_⟩|(refine Dl (fun hc=>?_)<;>(try rw[hc])<;>clear hc)|clear U K)<;>conv=>whnf)
  exact Al (hs.GX 0 rfl)
end Go.Gl
namespace Go.Gl
open Go.Proofs
structure Nc (p:Prog) (l:List Int):Prop where
 I4: ∀x∈l,BQ p x=true
 gen: ∀x∈l,∀y∈l,(Bh p x).gen=(Bh p y).gen
 nodup:l.Nodup
 many:l.length≤16
def Gk {p:Prog} {l:List Int} {k x:Int} (h:x∈CC p l k):x∈l∧(Bh p x).kind=k:=by
 have:=K0.1 h;exact⟨this.1,by simpa using this.2⟩
def Y8 {p:Prog} {l:List Int} {k:Int}:(CC p l k).length≤l.length:=Oa _ _
def Nc.of {p:Prog} {l:List Int} (h:Nc p l) (k:Int):S6 p (CC p l k)∧(CC p l k).Nodup:=by
 refine⟨⟨fun x hx=>h.I4 x (Gk hx).1,fun x hx y hy=>?_,Nat.le_trans Y8 h.many⟩,h.nodup.sublist (List.filter_sublist ..)⟩;rw[Dv,h.gen x (Gk hx).1 y (Gk hy).1,(Gk hx).2,(Gk hy).2];simp
def WA {p:Prog} {l:List Int} {A B:Int→Int→Bool} (h:Nc p l) (hq: ∀x∈l,∀y∈l,Dv p x y=true→A x y=B x y):Ep A p l=Ep B p l:=by
 have hk: ∀k,∀x∈CC p l k,∀y∈CC p l k,A x y=B x y:=fun k x hx y hy=>hq x (Gk hx).1 y (Gk hy).1 ((h.of k).1.alike x hx y hy)
 have hc: ∀k,Bc A (CC p l k).length (CC p l k)=Bc B (CC p l k).length (CC p l k):=fun k=>MI _ _ (hk k)
 have hb: ∀k,DK A (CC p l k).length (Cv (CC p l k))=DK B (CC p l k).length (Cv (CC p l k)):=fun k=>QV _ _ fun x hx y hy=>hk k x (Jj.1 hx) y (Jj.1 hy)
 unfold Ep nT;rw[hc 4,hc 1,hb 2,hb 3]
def Iy.sub {T:List (List Bool)} {l l':List Int} (h:Iy T l) (hs: ∀x∈l',x∈l) (hl:l'.length≤l.length):Iy T l':=⟨h.len,h.sq,fun x hx=>h.ins x (hs x hx),Nat.le_trans hl h.many⟩
attribute [local irreducible] BC Aw Ai AV AM Ah AU AW AN Ag AQ AS A3 BA Sat Ab A8 Ak W
set_option maxHeartbeats 4000000 in
def gj (p:Prog) (T:List (List Bool)) (l:List Int) (f:Bool) (hG:Nc p l) (h16:p.methods.length≤16) (hT:Iy T l) :
    Pure Tryz.prog 202 [.a (BR p),oV T,.l (iL l) f] (.t [.a (xr (Ep (Di T) p l).1 (!(Ep (Di T) p l).2) (!(Ep (Di T) p l).2)),.b (Ep (Di T) p l).2]):=by
 have hM:=Mx;have c1:=kD p l f 1 hG.I4 hG.many h16;have c2:=kD p l f 2 hG.I4 hG.many h16;have c3:=kD p l f 3 hG.I4 hG.many h16;have c4:=kD p l f 4 hG.I4 hG.many h16;have htk: ∀k,Iy T (CC p l k):=fun k=>hT.sub (fun x hx=>(Gk hx).1) Y8
 have hts: ∀k,Iy T (Cv (CC p l k)):=fun k=>(htk k).sub (fun x hx=>Jj.1 hx) (by rw[Rb];exact Iu _)
 have d1:=Vl T (CC p l 1) false (htk 1);have d4:=Vl T (CC p l 4) false (htk 4);have e2:=SS T (CC p l 2) false (hts 2) (htk 2).many;have e3:=SS T (CC p l 3) false (hts 3) (htk 3).many;rw[Rb]at e2 e3
 have hbl:(DK (Di T) (CC p l 3).length (Cv (CC p l 3))).length≤16:=by
  have: ∀k l,(DK (Di T) k l).length=k:=fun k=>by
   induction k with
   | zero=>intro l;rfl
   | succ k ih=>intro l;simp only[DK,K2,ih]
  rw[this];exact(htk 3).many
 have hpl:Ep (Di T) p l=if(CC p l 1).isEmpty then(uy,false)else(⟨(Bc (Di T) (CC p l 4).length (CC p l 4)).1,(Bc (Di T) (CC p l 4).length (CC p l 4)).2,DK (Di T) (CC p l 2).length (Cv (CC p l 2)),(Bc (Di T) (CC p l 1).length (CC p l 1)).1,(Bc (Di T) (CC p l 1).length (CC p l 1)).2,(DK (Di T) (CC p l 3).length (Cv (CC p l 3))).reverse⟩,true):=rfl
 rw[hpl];have hl1:=(htk 1).many;clear htk hts hpl;generalize DK (Di T) (CC p l 3).length (Cv (CC p l 3))=xs at *;generalize DK (Di T) (CC p l 2).length (Cv (CC p l 2))=bs at *;generalize Bc (Di T) (CC p l 4).length (CC p l 4)=q4 at *;generalize Bc (Di T) (CC p l 1).length (CC p l 1)=q1 at *;generalize CC p l 1=l1 at *;obtain⟨r4,t4⟩:=q4;obtain⟨r1,t1⟩:=q1;dsimp only at d1 d4;refine tc kZ ?_;have hs:=Sn;by_cases hz:l1.length=0
 ·have he:l1.isEmpty=true:=by simpa using hz
  rw[he]
  conv=>whnf
  repeat'((first|apply st|(apply sq;intro K U)|(apply si;intro A B Y Z)|(apply Y;clear Z B Y A)|(apply U;clear U K)|refine⟨rfl,?_⟩|refine⟨kZ,?_⟩|refine ld ?_|refine Cw fun σ hs=>?_|refine c1.use ?_|(constructor<;>intro hc<;>(try rw[hc])<;>(replace hc:=bp hc)<;>(try simp(disch:=omega) only[A9,wrap64,AK]at hc)<;>try(exfalso;omega))|(intro nn hnn;generalize hg:A0 _ nn _=σ;refine CZ hg fun hs=>?_;clear hg)|clear U K)<;>conv=>whnf)
  all_goals exact AI rfl
 ·have he:l1.isEmpty=false:=by cases l1 with
   | nil=>simp at hz
   | cons=>rfl
  rw[he]
  conv=>whnf
  repeat'((first|apply st|(apply sq;intro K U)|(apply si;intro A B Y Z)|(apply Y;clear Z B Y A)|(apply U;clear U K)|refine⟨rfl,?_⟩|refine⟨kZ,?_⟩|refine GV fun σ hs=>?_|refine c1.use ?_|refine c2.use ?_|refine c3.use ?_|refine c4.use ?_|refine d1.use ?_|refine d4.use ?_|refine e2.use ?_|refine e3.use ?_|(constructor<;>intro hc<;>(try rw[hc])<;>(replace hc:=bp hc)<;>(try simp(disch:=omega) only[A9,wrap64,AK]at hc)<;>try(exfalso;omega))|(intro nn hnn;generalize hg:A0 _ nn _=σ;refine CZ hg fun hs=>?_;clear hg)|fail)<;>conv=>whnf)
  rename_i n6 _ _ _ _ _ _ _ _ _ _ _ _ _
  have hwl:IntKind.i64.wrap ((iL xs).length - 1)=(xs.length:Int) - 1:=by
   have e:((iL xs).length:Int)=xs.length:=by simp
   rw[e,wrap64 (by omega) (by omega)]
  refine EA (fun x:Int×V=>(x.1+1).toNat) (fun x=>[(10,eI x.1)]) (fun x=>[.box nn [.l (iL r4) false,.b t4,.l (iL bs) false,.l (iL r1) false,.b t1,x.2],.box n6 [.l [] true,.b false,.l [] true,.l [] true,.b false,.l [] true],.own x.2 1 (iL ((xs.drop (x.1+1).toNat).reverse))]) (fun x=> -1≤x.1∧x.1<xs.length) (IntKind.i64.wrap ((iL xs).length - 1),.l [] true) rfl ?_ ?_ ?_
  ·dsimp only
   rw[hwl];exact⟨by omega,by omega⟩
  ·dsimp only
   rw[hwl,List.drop_of_length_le (by omega)];exact EM hs 1
  clear hs hwl;rintro⟨i,v⟩ σ ⟨hi1,hi2⟩ hs;dsimp only at hi1 hi2 hs;dsimp only;by_cases hneg:i<0
  ·obtain rfl:i= -1:=by omega
   rw[show((-1:Int)+1).toNat=0 from rfl,List.drop_zero]at hs
   conv=>whnf
   repeat'((first|apply st|(apply sq;intro K U)|(apply si;intro A B Y Z)|(apply Y;clear Z B Y A)|(apply U;clear U K)|refine⟨rfl,?_⟩|refine⟨kZ,?_⟩|refine ld ?_|(constructor<;>intro hc<;>(try rw[hc])<;>(replace hc:=bp hc)<;>try(exfalso;omega))|clear U K)<;>conv=>whnf)
   have o1:=Gw hs 2 rfl;refine G1 hs 1 rfl rfl rfl (by simp[o1]) (by decide) fun σ hs=>?_
   clear o1
   conv=>whnf
   repeat'((first|apply st|(apply Y;clear Z B Y A)|(apply U;clear U K)|refine⟨kZ,?_⟩|refine ld ?_|fail)<;>conv=>whnf)
   exact Al (.t (.cons (.a (.cons (.refl _) (.cons (.refl _) (.cons (.refl _) (.cons (.refl _) (.cons (.refl _) (.cons (hs.GX 2 rfl) .nil))))))) (.cons (.refl _) .nil)))
  ·have hpos:0≤i:=by omega
   obtain⟨x,hx⟩: ∃x,xs[i.toNat]? =some x:=⟨_,C7 (by omega)⟩
   have hd:(xs.drop i.toNat).reverse=(xs.drop (i+1).toNat).reverse++[x]:=by
    rw[drop_cons hx,List.reverse_cons,show(i+1).toNat=i.toNat+1 by omega]
   have hdl:((xs.drop (i+1).toNat).reverse).length≤16:=by
    rw[List.length_reverse,oR];omega
   generalize (xs.drop (i+1).toNat).reverse=zs at *;have hll:zs.length<Ad∧(zs.length+1)*8≤140737488355328:=by omega
   have hwi:IntKind.i64.wrap (i - 1)=i - 1:=wrap64 (by omega) (by omega)
   conv=>whnf
   repeat'((first|apply st|(apply sq;intro K U)|(apply si;intro A B Y Z)|(apply Y;clear Z B Y A)|(apply U;clear U K)|apply dr|refine⟨rfl,?_⟩|refine HI ?_|refine ld ?_|refine GV fun σ hs=>?_|refine aq fun v σ hs hsl=>?_|(constructor<;>intro hc<;>(try rw[hc])<;>(replace hc:=bp hc)<;>try(exfalso;omega))|clear U K)<;>conv=>whnf)
   refine⟨(i - 1,v),by dsimp only;omega,by rw[hwi];rfl,⟨by dsimp only;omega,by dsimp only;omega⟩,?_⟩;dsimp only;rw[show(i - 1+1).toNat=i.toNat by omega,hd];exact hs
end Go.Gl
