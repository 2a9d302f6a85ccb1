import Derived.Test.YtegbmnmnaijioaaGreatProg
import Derived.KernelRfl
import Derived.Test.YtegbmnmnaijioaaGreatA6
import Derived.Test.YtegbmnmnaijioaaGreatA11
set_option linter.all false
set_option linter.defProp false
noncomputable section
namespace Go.Gl
def Uz (g:List (List Int)) (k:Nat): ∀(m d:Nat),d<3+k→(Cl g (k+m)).getD d 0=(Cl g k).getD d 0
 | 0,d,_=>rfl
 | m+1,d,h=>by
   rw[show k+(m+1)=k+m+1 from rfl,Cl,←Uz g k m d h];rw[DZ,jS (by rw[Fx];omega),←DZ]
def U0 (us:List Nat) (b:Nat): ∀(l:List Int) (s:Nat),(Wl us l s).testBit b=(s.testBit b||l.any fun c=>(us.getD c.toNat 0).testBit b)
 | [],s=>by simp[Wl]
 | c::r,s=>by
   have:=U0 us b r (s|||us.getD c.toNat 0);rw[Qb,←Bool.or_assoc,←Nat.testBit_or,←this];rfl
def fj {α:Type} (f:α→Bool) (b:Bool): ∀(l:List α),(b||l.any fun x=>b||f x)=(b||l.any f)
 | []=>rfl
 | x::r=>by
   have:=fj f b r;simp only[Qb];cases b
   ·simpa using this
   ·rfl
def any_congr {α:Type} {f g:α→Bool}: ∀ {l:List α},(∀x∈l,f x=g x)→l.any f=l.any g
 | [],_=>rfl
 | x::r,h=>by
   rw[Qb,Qb,h x (.head _),any_congr fun y hy=>h y (.tail _ hy)]
def TO {g:List (List Int)} (ho:ordered g): ∀(k d b:Nat),k≤g.length→d<3+k→((Cl g k).getD d 0).testBit b=(b==0||Ju g d b)
 | 0,d,b,_,hd=>by
   have e:(Cl g 0).getD d 0=1|||2 ^ d:=by
    rcases d with _|_|_|d
    ·rfl
    ·rfl
    ·rfl
    ·omega
   rw[e,TI,FH ho,par,if_pos (by omega),List.any_nil,Bool.or_false];rw[JU];simp only[Fo,D9];omega
 | k + 1,d,b,hk,hd=>by
   by_cases hlt:d<3+k
   ·rw[Uz g k 1 d hlt]
    exact TO ho k d b (by omega) hlt
   ·obtain rfl:d=3+k:=by omega
    have e:(Cl g (k+1)).getD (3+k) 0=Wl (Cl g k) (g.getD k []) (1|||2 ^ (3+k)):=by
     rw[Cl,DZ,List.getElem?_append_right (by rw[Fx];omega),Fx,Nat.sub_self];rfl
    have hpar:par g (3+k)=g.getD k []:=by rw[par,if_neg (by omega),show 3+k - 3=k by omega]
    rw[e,U0,TI,FH ho,hpar]
    have hc:((g.getD k []).any fun c=>((Cl g k).getD c.toNat 0).testBit b)=(g.getD k []).any fun p=>(b==0)||Ju g p.toNat b:=any_congr fun p hp=>by
     have:=ho (3+k) p (by rw[hpar];exact hp);exact TO ho k p.toNat b (by omega) (by omega)
    rw[hc];have e2:(b==3+k)=(3+k==b):=by rw[JU];simp only[D9];omega
    rw[e2,Bool.or_assoc,Bool.or_left_comm,fj,Bool.or_left_comm]
def gO {g:List (List Int)} (ho:ordered g) {d b:Nat} (hd:d<3+g.length):((En g).getD d 0).testBit b=(b==0||Ju g d b):=TO ho g.length d b (Iu _) hd
def W4 {g:List (List Int)} (ho:ordered g): ∀(d b:Nat),3≤d→Ju g d b=true→3≤b:=by
 intro d
 induction d using Nat.strongRecOn with
 | _ d ih=>
   intro b h3 h;rw[FH ho]at h;simp only[Fo,D9,Jy]at h;rcases h with rfl|⟨p,hp,h⟩
   ·exact h3
   ·have:=ho d p hp
    exact ih p.toNat (by omega) b (by omega) h
def Dc (us:List Nat):Nat→Nat→Nat
 | 0,m=>m
 | k+1,m=>if(Dc us k m).testBit (3+k)then Dc us k m|||us.getD (3+k) 0 else Dc us k m
def QR {g : List (List Int)} (ho:ordered g) (m:Nat): ∀(k b:Nat),k≤g.length→((Dc (En g) k m).testBit b=true↔m.testBit b=true∨ ∃d,3≤d∧d<3+k∧m.testBit d=true∧(b=0∨Ju g d b=true))
 | 0,b,_=>by
   rw[Dc];exact⟨.inl,fun h=>h.elim id fun⟨d,h1,h2,_⟩=>by omega⟩
 | k + 1, b, hk=>by
   have ih:=QR ho m k;rw[Dc];split
   ·rename_i hc
    rw[Nat.testBit_or,Fo,ih b (by omega),gO ho (by omega),Fo,D9];rw[ih _ (by omega)]at hc;constructor
    ·rintro((h|⟨d,h1,h2,h3,h4⟩)|h)
     ·exact .inl h
     ·exact .inr ⟨d,h1,by omega,h3,h4⟩
     ·rcases hc with hc|⟨d,h1,h2,h3,h4⟩
      ·exact .inr ⟨3+k,by omega,by omega,hc,h⟩
      ·refine .inr ⟨d,h1,by omega,h3,?_⟩
       rcases h with h|h
       ·exact .inl h
       ·rcases h4 with h4|h4
        ·omega
        ·exact .inr (Mv ho _ _ _ h4 h)
    ·rintro(h|⟨d,h1,h2,h3,h4⟩)
     ·exact .inl (.inl h)
     ·by_cases e:d=3+k
      ·subst e;exact .inr h4
      ·exact .inl (.inr ⟨d,h1,by omega,h3,h4⟩)
   ·rename_i hc
    rw[ih b (by omega)];constructor
    ·rintro(h|⟨d,h1,h2,h3,h4⟩)
     ·exact .inl h
     ·exact .inr ⟨d,h1,by omega,h3,h4⟩
    ·rintro(h|⟨d,h1,h2,h3,h4⟩)
     ·exact .inl h
     ·by_cases e:d=3+k
      ·subst e;exact absurd ((ih _ (by omega)).2 (.inl h3)) hc
      ·exact .inr ⟨d,h1,by omega,h3,h4⟩
def KB: ∀(l:List Int) (bs:List Bool),(∀q∈l,0≤q∧q.toNat<bs.length)→ ∀b:Nat,(l.foldl (fun b q=>b.set q.toNat true) bs).getD b false=(bs.getD b false||l.contains (b:Int))
 | [],bs,_,b=>by simp
 | q ::r,bs,h,b=>by
   have hq:=h q (.head _);rw[List.foldl_cons,KB r _ (fun x hx=>by rw[List.length_set];exact h x (.tail _ hx)),EI hq.2,List.contains_cons];split
   ·rename_i e
    subst e;have:((q.toNat:Int)==q)=true:=by rw[D9];omega
    rw[this];simp
   ·rename_i e
    have:((b:Int)==q)=false:=by rw[beq_eq_false_iff_ne];omega
    rw[this,Bool.false_or]
def HB {g:List (List Int)} (ho:ordered g) {c:Nat} {bs:List Bool} (hc:c≤bs.length) (b:Nat):(Hp g c bs).getD b false=(bs.getD b false||(bs.getD c false&&(par g c).contains (b:Int))):=by
 rw[Hp];split
 ·rename_i h
  rw[KB _ _ (fun q hq=>by have:=ho c q hq;omega),h,Il]
 ·rename_i h
  have:bs.getD c false=false:=by simpa using h
  rw[this,Bool.false_and,Bool.or_false]
def Fw {g:List (List Int)} (ho:ordered g) {n:Nat} {S:List Bool} (hl:S.length=n): ∀(k b:Nat),(B6 g n k S).getD b false=true→ ∃d,S.getD d false=true∧Ju g d b=true
 | 0,b,h=>⟨b,h,HY ho b⟩
 | k + 1,b,h=>by
   rw[B6,HB ho (by rw[EZ];omega),Fo,BJ]at h;rcases h with h|⟨h1,h2⟩
   ·exact Fw ho hl k b h
   ·obtain⟨d,h3,h4⟩:=Fw ho hl k _ h1
    refine⟨d,h3,Mv ho _ _ _ h4 ?_⟩;rw[FH ho,Fo,Jy];rw[List.contains_iff_mem]at h2;exact .inr ⟨_,h2,by rw[Iv];exact HY ho b⟩
def WZ {g:List (List Int)} (ho:ordered g) {n:Nat} {S:List Bool} (hl:S.length=n) (k b:Nat) (h:(B6 g n k S).getD b false=true):(B6 g n (k+1) S).getD b false=true:=by
 rw[B6,HB ho (by rw[EZ];omega),h];rfl
def JS {g:List (List Int)} (ho:ordered g) {n:Nat} {S:List Bool} (hl:S.length=n): ∀(k b:Nat),S.getD b false=true→(B6 g n k S).getD b false=true
 | 0,_,h=>h
 | k+1,b,h=>WZ ho hl k b (JS ho hl k b h)
def HC {g:List (List Int)} (ho:ordered g) {n:Nat} {S:List Bool} (hl:S.length=n): ∀(k c:Nat),k≤n→n - k≤c→(B6 g n k S).getD c false=true→ ∀q∈par g c,(B6 g n k S).getD q.toNat false=true
 | 0,c,_,hc,h,q,hq=>by
   rw[B6,DZ,List.getElem?_eq_none (by omega)]at h;cases h
 | k + 1,c,hk,hc,h,q,hq=>by
   rw[B6,HB ho (by rw[EZ];omega)]at h ⊢;have hoc:=ho c q hq;rw[Fo,BJ]at h
   have hbase:(B6 g n k S).getD c false=true:=by
    rcases h with h|⟨-,h2⟩
    ·exact h
    ·rw[List.contains_iff_mem]at h2
     have:=ho _ _ h2;omega
   by_cases e:c=n - 1 - k
   ·subst e
    rw[hbase,Il,Fo,List.contains_iff_mem];exact .inr (by rw[show((q.toNat:Nat):Int)=q by omega];exact hq)
   ·rw[HC ho hl k c (by omega) (by omega) hbase q hq];rfl
def YE {g:List (List Int)} (ho:ordered g) {S:List Bool} (hl:S.length=3+g.length) (b:Nat):(B6 g (3+g.length) g.length S).getD b false=true↔ ∃d,S.getD d false=true∧Ju g d b=true:=by
 refine⟨Fw ho hl _ b,?_⟩
 have key: ∀d,(B6 g (3+g.length) g.length S).getD d false=true→Ju g d b=true→(B6 g (3+g.length) g.length S).getD b false=true:=by
  intro d
  induction d using Nat.strongRecOn with
  | _ d ih=>
    intro h1 h2;rw[FH ho,Fo,D9,Jy]at h2;rcases h2 with rfl|⟨p,hp,h2⟩
    ·exact h1
    ·have hop:=ho d p hp
     refine ih p.toNat (by omega) (HC ho hl g.length d (by omega) ?_ h1 p hp) h2;omega
 rintro⟨d,h1,h2⟩;exact key d (JS ho hl _ d h1) h2
def RB (n:Nat) (t:BB) (u:Nat×Nat):Prop:=
 t.1.length=n∧t.2.length=n∧(∀b,t.1.getD b false=u.1.testBit b)∧(∀b,b≠1→b≠2→t.2.getD b false=u.2.testBit b)∧u.1.testBit 1=false∧u.1.testBit 2=false
def GH (m c b:Nat):(m|||2 ^ c).testBit b=(m.testBit b||b==c):=by
 rw[Nat.testBit_or,Nat.testBit_two_pow];congr 1;rw[JU];simp only[Cn,D9];omega
def OI {l:List Bool} {m c:Nat} (hc:c<l.length) {b:Nat} (h:l.getD b false=m.testBit b):(l.set c true).getD b false=(m|||2 ^ c).testBit b:=by
 rw[EI hc,GH,←h];split
 ·rename_i e;subst e;simp
 ·rename_i e
  have:(b==c)=false:=by simpa using e
  rw[this,Bool.or_false]
def Sw (x:Fact×Bool):Bool:= !x.2&&(!(x.1.op==2)||x.1.cls==1||x.1.cls==2)
def aX {n : Nat} {x:Fact×Bool} {t:BB} {k:Kn} (h:RB n t (k.CE,k.Ga)) (hc:x.1.op=2→0≤x.1.cls∧x.1.cls<n) :
    (Sw x=true→F9 x t=none)∧(Sw x=false→ ∃t',F9 x t=some t'∧RB n t' ((Cu k x.1 x.2).CE,(Cu k x.1 x.2).Ga)):=by
 obtain⟨f,c⟩:=x;simp only at hc;obtain⟨h1,h2,h3,h4,h5,h6⟩:=h;unfold Sw F9 Cu;simp only;by_cases ho:f.op=2
 ·have hc':=hc ho
  by_cases h12:f.cls=1∨f.cls=2
  ·rw[if_pos (.inr h12),if_pos ho]
   cases c with
   | true=>
     refine⟨fun h=>(by cases h),fun _=>⟨t,rfl,h1,h2,h3,fun b hb1 hb2=>?_,h5,h6⟩⟩;rw[if_pos rfl];show _=(k.Ga|||2 ^ f.cls.toNat).testBit b;rw[GH,h4 b hb1 hb2];have:(b==f.cls.toNat)=false:=by rw[beq_eq_false_iff_ne];omega
     rw[this,Bool.or_false]
   | false=>
     refine⟨fun _=>rfl,fun h=>?_⟩;exfalso;rcases h12 with e|e<;>simp[e]at h
  ·have hn: ¬(f.op≠2∨f.cls=1∨f.cls=2):=by omega
   rw[if_neg hn,if_pos ho]
   have hb:(!c&&(!(f.op==2)||f.cls==1||f.cls==2))=false:=by
    have e1:(f.op==2)=true:=by simpa using ho
    have e2:(f.cls==1)=false:=by rw[beq_eq_false_iff_ne];omega
    have e3:(f.cls==2)=false:=by rw[beq_eq_false_iff_ne];omega
    rw[e1,e2,e3];simp
   rw[hb];refine⟨fun h=>(by cases h),fun _=>?_⟩;cases c with
   | true=>
     refine⟨_,rfl,h1,by simpa using h2,h3,fun b hb1 hb2=>?_,h5,h6⟩;exact OI (by omega) (h4 b hb1 hb2)
   | false=>
     refine⟨_,rfl,by simpa using h1,h2,fun b=>?_,h4,?_,?_⟩
     ·exact OI (by omega) (h3 b)
     ·show(k.CE|||2 ^ f.cls.toNat).testBit 1=false
      rw[GH,h5];have:(1==f.cls.toNat)=false:=by rw[beq_eq_false_iff_ne];omega
      rw[this];rfl
     ·show(k.CE|||2 ^ f.cls.toNat).testBit 2=false
      rw[GH,h6];have:(2==f.cls.toNat)=false:=by rw[beq_eq_false_iff_ne];omega
      rw[this];rfl
 ·rw[if_pos (.inl ho),if_neg ho]
  have e1:(f.op==2)=false:=by simpa using ho
  cases c with
  | true=>
    refine⟨fun h=>(by cases h),fun _=>⟨t,rfl,?_⟩⟩;split<;>exact⟨h1,h2,h3,h4,h5,h6⟩
  | false=>exact⟨fun _=>rfl,fun h=>by rw[e1]at h;cases h⟩
def SC {n:Nat}: ∀(os:List Fact) {t:BB} {k:Kn},RB n t (k.CE,k.Ga)→I0 n os→
    (os.any (fun l=>Sw (Az l))=true→D8 os t=none)∧(os.any (fun l=>Sw (Az l))=false→ ∃t',D8 os t=some t'∧RB n t' ((Ek os k).CE,(Ek os k).Ga))
 | [],t,k,h,_=>⟨fun h=>(by cases h),fun _=>⟨t,rfl,h⟩⟩
 | l ::r,t,k,h,hc=>by
   obtain⟨s1,s2⟩:=aX h (hc l (.head _));rw[Qb,D8];cases hb:Sw (Az l)with
   | true=>exact⟨fun _=>by rw[s1 hb];rfl,fun h=>(by cases h)⟩
   | false=>
     obtain⟨t',h1,h2⟩:=s2 hb;rw[h1,Bool.false_or,Option.bind_some];exact SC r h2 fun x hx=>hc x (.tail _ hx)
def jF {os:List Fact} {n:Nat} (hc:I0 n os):(os.any fun l=>Sw (Az l))=((Ek os k0).whole||(Ek os k0).CE.testBit 1||(Ek os k0).CE.testBit 2):=by
 rw[JU,Fo,Fo,Ls,Ls,Ku];simp only[Jy,Sw,BJ,Fo,Bool.not_eq_true',D9,beq_eq_false_iff_ne,k0,Bool.false_or];constructor
 ·rintro⟨l,hl,hb,(h|h)|h⟩
  ·exact .inl (.inl ⟨l,hl,hb,h⟩)
  ·by_cases ho:(Az l).1.op=2
   ·exact .inl (.inr ⟨l,hl,ho,hb,by rw[h];rfl⟩)
   ·exact .inl (.inl ⟨l,hl,hb,ho⟩)
  ·by_cases ho:(Az l).1.op=2
   ·exact .inr ⟨l,hl,ho,hb,by rw[h];rfl⟩
   ·exact .inl (.inl ⟨l,hl,hb,ho⟩)
 ·rintro((⟨l,hl,hb,h⟩|⟨l,hl,ho,hb,h⟩)|⟨l,hl,ho,hb,h⟩)
  ·exact⟨l,hl,hb,.inl (.inl h)⟩
  ·have:=hc l hl ho
   exact⟨l,hl,hb,.inl (.inr (by omega))⟩
  ·have:=hc l hl ho
   exact⟨l,hl,hb,.inr (by omega)⟩
def YT (w:AL) (A6 can:Int→Bool) (s:Int) (u:Nat×Nat):Option (Nat×Nat):=
 if A6 s&& !can s then none else some (if A6 s then u.1|||2 ^ (Cx w s).toNat else u.1,if can s then u.2 else u.2|||2 ^ (Cx w s).toNat)
def Ic (w:AL) (A6 can:Int→Bool):List Int→Nat×Nat→Option (Nat×Nat)
 | [],u=>some u
 | s::r,u=>(YT w A6 can s u).bind (Ic w A6 can r)
def ZY {w:AL} {ls:List Fact} {a:Int} {p:List Int} {can A6:Int→Bool} (hn: ∀s,A6 s= !EG ls a (p++[s])) {n:Nat} (how: ∀s:Int,0≤s→s<w.owner.length→3≤Cx w s∧Cx w s<n) :
    ∀(sl:List Int) {t:BB} {u:Nat×Nat},(∀s∈sl,0≤s∧s<w.owner.length)→RB n t u→
    (Dr w ls a p can sl t=none∧Ic w A6 can sl u=none)∨ ∃t' u',Dr w ls a p can sl t=some t'∧Ic w A6 can sl u=some u'∧RB n t' u'
 | [],t,u,_,h=> .inr ⟨t,u,rfl,rfl,h⟩
 | s ::r,t,u,hsl,h=>by
   have hs:=hsl s (.head _);have ho:=how s hs.1 hs.2;rw[Dr,Ic,IV,YT,hn];obtain⟨h1,h2,h3,h4,h5,h6⟩:=h;split
   ·exact .inl ⟨rfl,rfl⟩
   ·rw[Option.bind_some,Option.bind_some]
    refine ZY hn how r (fun x hx=>hsl x (.tail _ hx)) ?_;have hb: ∀i,i<3→(i==(Cx w s).toNat)=false:=fun i hi=>by rw[beq_eq_false_iff_ne];omega
    cases EG ls a (p++[s])<;>cases can s<;>refine⟨by simpa using h1,by simpa using h2,fun b=>?_,fun b hb1 hb2=>?_,?_,?_⟩
    all_goals simp only[Bool.not_false,Bool.not_true,MO,if_true,if_false]
    all_goals first
     | exact h3 b
     | exact h4 b hb1 hb2
     | exact h5
     | exact h6
     | exact OI (by omega) (h3 b)
     | exact OI (by omega) (h4 b hb1 hb2)
     | (rw[GH,h5,hb 1 (by omega)];rfl)
     | (rw[GH,h6,hb 2 (by omega)];rfl)
def HN (m:Nat):Nat:=m - m % 2
def Vi (m b:Nat):(HN m).testBit b=(m.testBit b&& !(b==0)):=by
 cases b with
 | zero=>
   simp[HN,Nat.testBit_zero];omega
 | succ b=>
   rw[Nat.testBit_succ,Nat.testBit_succ,HN,show(m - m % 2) / 2=m / 2 by omega];simp
def qw {w : AL} (ho:ordered w.parents) {t:BB} {u:Nat×Nat} (h:RB (3+w.parents.length) t u) :
    (UQ w t).isSome=(!u.2.testBit 0&&(HN (Dc (En w.parents) w.parents.length u.1)&&&u.2==0)):=by
 obtain⟨h1,h2,h3,h4,h5,h6⟩:=h;rw[UQ,h4 0 (by decide) (by decide)];cases h0:u.2.testBit 0 with
 | true=>rfl
 | false =>
   rw[if_neg (by decide),Bool.not_false,Il];have hl:(t.1.set 0 false).length=3+w.parents.length:=by simpa using h1
   have G:=YE ho hl;have F:=QR ho u.1 w.parents.length
   have hS: ∀d,(t.1.set 0 false).getD d false=true↔d≠0∧u.1.testBit d=true:=fun d=>by
    rw[EI (by omega)];split
    ·rename_i e;subst e;simp
    ·rename_i e;rw[h3];exact⟨fun h=>⟨e,h⟩,fun h=>h.2⟩
   have hlt: ∀b,u.1.testBit b=true→b<3+w.parents.length:=fun b hb=>by
    rw[←h3]at hb;rcases Nat.lt_or_ge b (3+w.parents.length)with h'|h'
    ·exact h'
    ·rw[DZ,List.getElem?_eq_none (by omega)]at hb;cases hb
   have h3b: ∀d,d≠0→u.1.testBit d=true→3≤d:=fun d hd hb=>by
    rcases d with _|_|_|d
    ·exact absurd rfl hd
    ·rw[h5]at hb;cases hb
    ·rw[h6]at hb;cases hb
    ·omega
   have hM: ∀b,(HN (Dc (En w.parents) w.parents.length u.1)).testBit b=true↔(B6 w.parents (3+w.parents.length) w.parents.length (t.1.set 0 false)).getD b false=true:=fun b=>by
    rw[Vi,BJ,F b (Iu _),G,Bool.not_eq_true',beq_eq_false_iff_ne];constructor
    ·rintro⟨h|⟨d,q1,q2,q3,q4⟩,hb⟩
     ·exact⟨b,(hS b).2 ⟨hb,h⟩,HY ho b⟩
     ·rcases q4 with e|q4
      ·exact absurd e hb
      ·exact⟨d,(hS d).2 ⟨by omega,q3⟩,q4⟩
    ·rintro⟨d,hd,hu⟩
     obtain⟨hd0,hdu⟩:=(hS d).1 hd;have hd3:=h3b d hd0 hdu;have:=W4 ho d b hd3 hu;exact⟨.inr ⟨d,hd3,hlt d hdu,hdu,.inr hu⟩,by omega⟩
   have hany:((List.range (3+w.parents.length)).any fun c=>(B6 w.parents (3+w.parents.length) w.parents.length (t.1.set 0 false)).getD c false&&t.2.getD c false)= !(HN (Dc (En w.parents) w.parents.length u.1)&&&u.2==0):=by
    rw[JU,Bool.not_eq_true',←Bool.not_eq_true,Pe,Jy];constructor
    ·rintro⟨c,hc,hx⟩ hall
     rw[BJ]at hx;have hm:=(hM c).2 hx.1;obtain⟨d,hd,hu⟩:=(G c).1 hx.1;obtain⟨hd0,hdu⟩:=(hS d).1 hd;have:=W4 ho d c (h3b d hd0 hdu) hu;exact hall c hm (by rw[←h4 c (by omega) (by omega)];exact hx.2)
    ·intro hne
     rcases Classical.em (∃b,(HN (Dc (En w.parents) w.parents.length u.1)).testBit b=true∧u.2.testBit b=true)with⟨b,hb1,hb2⟩|hno
     ·have hm:=(hM b).1 hb1
      obtain⟨d,hd,hu⟩:=(G b).1 hm;obtain⟨hd0,hdu⟩:=(hS d).1 hd;have:=W4 ho d b (h3b d hd0 hdu) hu;have:=eM ho d b hu;have:=hlt d hdu;exact⟨b,List.mem_range.2 (by omega),by rw[hm,h4 b (by omega) (by omega),hb2];rfl⟩
     ·exact absurd (fun b h1 h2=>hno ⟨b,h1,h2⟩) hne
   rw[hany];cases(HN (Dc (En w.parents) w.parents.length u.1)&&&u.2==0)<;>rfl
def N3 (w:AL) (k:Kn) (A6 can:Int→Bool):Nat×Bool:=
 if k.whole||k.CE.testBit 1||k.CE.testBit 2||k.Ga.testBit 0 then(0,false)else
 match Ic w A6 can k.AJ (k.CE,k.Ga)with
 | none=>(0,false)
 | some u=>(HN (Dc (En w.parents) w.parents.length u.1),HN (Dc (En w.parents) w.parents.length u.1)&&&u.2==0)
def QL {w:AL} {A6 can:Int→Bool} (how: ∀s:Int,0≤s→s<w.owner.length→3≤Cx w s): ∀(sl:List Int) {u u':Nat×Nat},(∀s∈sl,0≤s∧s<w.owner.length)→Ic w A6 can sl u=some u'→u'.2.testBit 0=u.2.testBit 0
 | [],u,u',_,h=>by cases h;rfl
 | s ::r,u,u',hsl,h=>by
   have hs:=hsl s (.head _);have ho:=how s hs.1 hs.2;rw[Ic,YT]at h;split at h
   ·cases h
   ·rw[Option.bind_some]at h
    rw[QL how r (fun x hx=>hsl x (.tail _ hx)) h];simp only;split
    ·rfl
    ·rw[GH]
     have:(0==(Cx w s).toNat)=false:=by rw[beq_eq_false_iff_ne];omega
     rw[this,Bool.or_false]
def na {w:AL} {ls:List Fact} {a:Int} {p:List Int} {can A6:Int→Bool} (ho:ordered w.parents) (how: ∀s:Int,0≤s→s<w.owner.length→3≤Cx w s∧Cx w s<3+w.parents.length) (hc:I0 (3+w.parents.length) ls) (hp:Hw w.owner.length ls) (hn: ∀s,A6 s= !EG ls a (p++[s])) :
    (N3 w (kn ls a p) A6 can).2=(KF w ls a p can).isSome:=by
 have hcore:=OQ ls a p;have hsl:=Lu hp a p;generalize kn ls a p=k at *;have hc2:I0 (3+w.parents.length) (ls.filter (Gs a p)):=fun l hl=>hc l (K0.1 hl).1
 simp only[FF,Prod.mk.injEq]at hcore;obtain⟨-,-,-,c4,c5,c6⟩:=hcore;rw[N3,KF,c4,c5,c6,←jF hc2,hsl]
 have hR0:RB (3+w.parents.length) (tO w) (k0.CE,k0.Ga):=by
  refine⟨by simp[tO],by simp[tO],fun b=>?_,fun b _ _=>?_,rfl,rfl⟩<;>
  ·simp only[tO,k0,Nat.zero_testBit,DZ,List.getElem?_replicate]
   split<;>rfl
 obtain⟨f1,f2⟩:=SC _ hR0 hc2;cases hbad:(ls.filter (Gs a p)).any fun l=>Sw (Az l)with
 | true=>rw[f1 hbad];rfl
 | false=>
   obtain⟨t,ht,G⟩:=f2 hbad;rw[ht,Option.bind_some,Bool.false_or];have hin: ∀s∈Bn w.owner.length ls a p,0≤s∧s<(w.owner.length:Int):=fun s hs=>Jk hs
   rcases ZY (can:=can) hn (fun s h0 h1=>by have:=how s h0 h1;omega) (Bn w.owner.length ls a p) hin G with⟨e1,e2⟩|⟨t',u',e1,e2,hR'⟩
   ·rw[e1,e2]
    split<;>rfl
   ·rw[e1,e2,Option.bind_some,qw ho hR']
    have:=QL (fun s h0 h1=>(how s h0 h1).1) _ hin e2;rw[this];simp only;cases((Ek (ls.filter (Gs a p)) k0).Ga.testBit 0)<;>rfl
end Go.Gl
namespace Go.Gl
abbrev Eb (a:Int) (p:List Int):V:= .a [eI a,eI (p.length:Int),eI (p.getD 0 0),eI (p.getD 1 0)]
structure C6 where
 a:Int
 p:List Int
 b:Nat
 vn:V
 vs:V
 k:Kn
abbrev C6.is (e:C6) (a:Int) (p:List Int):Bool:=e.a==a&&e.p==p
abbrev yL (b:Nat) (vn vs:V) (k:Kn):At:= .box b [eI k.low,eI k.high,vn,eU k.CE,eU k.Ga,.b k.whole,.b k.A6,vs]
abbrev pC (b:Nat) (vn vs:V) (k:Kn):List At:=[yL b vn vs k,.own vn 1 (iL k.no),.own vs 1 (iL k.AJ)]
abbrev Uk (e:C6):List At:=pC e.b e.vn e.vs e.k
def We (es:List C6):List (V×V):=es.map fun e=>(Eb e.a e.p,.p e.b 0)
def CI (L:Nat) (es:List C6):List At:= .map L (We es)::es.flatMap Uk
def HQ (L:Nat) (es pre post:List C6):List At:= .map L (We es)::(pre++post).flatMap Uk
def KX {e:C6} {a:Int} {p:List Int}:e.is a p=true↔e.a=a∧e.p=p:=by simp[C6.is]
def OR {e:C6} {a:Int} {p:List Int}:e.is a p=false↔ ¬(e.a=a∧e.p=p):=by rw[←KX,Bool.not_eq_true]
def S7 {a a':Int} {p p':List Int} (h:p.length≤2) (h':p'.length≤2):Ds (Eb a p) (Eb a' p')=(a==a'&&p==p'):=by
 have e:Ds (Eb a p) (Eb a' p')=(a==a'&&((p.length:Int)==p'.length&&(p.getD 0 0==p'.getD 0 0&&(p.getD 1 0==p'.getD 1 0)))):=by
  simp[Ds,Bv,Eb]
 rw[e];congr 1
 match p,h,p',h' with
 | [],_,[],_=>rfl
 | [],_,[_],_=>simp
 | [],_,[_,_],_=>simp<;>omega
 | [_],_,[],_=>simp
 | [x],_,[y],_=>simp
 | [_],_,[_,_],_=>simp<;>omega
 | [_,_],_,[],_=>simp<;>omega
 | [_,_],_,[_],_=>simp<;>omega
 | [x,y],_,[z,u],_=>simp
def PS (es:List C6): ∀kv∈We es,BX (.a [.i64,.i64,.i64,.i64]) kv.1=true:=by
 intro kv h;obtain⟨e,_,rfl⟩:=MN.1 h;rfl
def VP {a:Int} {p:List Int} (hp:p.length≤2): ∀ {es:List C6},(∀e∈es,e.p.length≤2)→(∀e∈es,e.is a p=false)→Cj (Eb a p) (We es)=none
 | [],_,_=>rfl
 | e ::r,hl,h=>by
   have he:=h e (.head _);rw[We,E3,Cj,S7 hp (hl e (.head _))]
   have:(a==e.a&&p==e.p)=false:=by
    rw[←he,C6.is,JU];simp only[BJ,D9];exact⟨fun⟨h1,h2⟩=>⟨h1.symm,h2.symm⟩,fun⟨h1,h2⟩=>⟨h1.symm,h2.symm⟩⟩
   rw[this,cond_false];exact VP hp (fun x hx=>hl x (.tail _ hx)) (fun x hx=>h x (.tail _ hx))
def ez {a:Int} {p:List Int} (hp:p.length≤2) (b:Nat) (vn vs:V) (k:Kn): ∀ {es:List C6},(∀e∈es,e.p.length≤2)→(∀e∈es,e.is a p=false)→De (Eb a p) (.p b 0) (We es)=We (es++[⟨a,p,b,vn,vs,k⟩])
 | [],_,_=>rfl
 | e ::r,hl,h=>by
   have he:=h e (.head _);have ih:=ez hp b vn vs k (fun x hx=>hl x (.tail _ hx)) (fun x hx=>h x (.tail _ hx));simp only[We]at ih;rw[We,E3,De,S7 hp (hl e (.head _))]
   have:(a==e.a&&p==e.p)=false:=by
    rw[←he,C6.is,JU];simp only[BJ,D9];exact⟨fun⟨h1,h2⟩=>⟨h1.symm,h2.symm⟩,fun⟨h1,h2⟩=>⟨h1.symm,h2.symm⟩⟩
   rw[this,cond_false,ih];rfl
def VO {a:Int} {p:List Int} (hp:p.length≤2) {e:C6} (he:e.is a p=true) {post:List C6}: ∀ {pre:List C6},(∀x∈pre++e::post,x.p.length≤2)→(∀x∈pre,x.is a p=false)→Cj (Eb a p) (We (pre++e::post))=some (.p e.b 0)
 | [],hl,_=>by
   rw[List.nil_append,We,E3,Cj,S7 hp (hl e (.head _))];obtain⟨h1,h2⟩:=KX.1 he;rw[h1,h2];simp
 | x ::r,hl,h=>by
   have hx:=h x (.head _);rw[List.cons_append,We,E3,Cj,S7 hp (hl x (.head _))]
   have:(a==x.a&&p==x.p)=false:=by
    rw[←hx,C6.is,JU];simp only[BJ,D9];exact⟨fun⟨h1,h2⟩=>⟨h1.symm,h2.symm⟩,fun⟨h1,h2⟩=>⟨h1.symm,h2.symm⟩⟩
   rw[this,cond_false];exact VO hp he (fun y hy=>hl y (.tail _ hy)) (fun y hy=>h y (.tail _ hy))
def nU (a : Int) (p:List Int): ∀(es:List C6),(∀e∈es,e.is a p=false)∨ ∃pre e post,es=pre++e::post∧e.is a p=true∧ ∀x∈pre,x.is a p=false
 | []=> .inl fun _ h=>by cases h
 | e ::r=>by
   cases h:e.is a p with
   | true=>exact .inr ⟨[],e,r,rfl,h,fun _ h=>by cases h⟩
   | false=>
     rcases nU a p r with h1|⟨pre,x,post,rfl,h1,h2⟩
     ·exact .inl fun x hx=>by
       rcases F6.1 hx with rfl|hx
       ·exact h
       ·exact h1 x hx
     ·exact .inr ⟨e::pre,x,post,rfl,h1,fun y hy=>by
       rcases F6.1 hy with rfl|hy
       ·exact h
       ·exact h2 y hy⟩
def VS (L:Nat) (pre post:List C6) (e:C6):(CI L (pre++e::post)).Perm (Uk e++HQ L (pre++e::post) pre post):=by
 unfold CI HQ;rw[List.flatMap_append,List.flatMap_cons,List.flatMap_append];refine List.Perm.trans ?_ (List.perm_middle.symm);refine List.Perm.cons _ ?_;rw[←Wd,←Wd];exact List.Perm.append_right _ Qu
def Xo {pre post:List C6} {e e':C6} (h1:e'.a=e.a) (h2:e'.p=e.p) (h3:e'.b=e.b):We (pre++e'::post)=We (pre++e::post):=by
 simp only[We,Sd,E3,h1,h2,h3]
def Tt {L:Nat} {pre post:List C6} {e e':C6} (h1:e'.a=e.a) (h2:e'.p=e.p) (h3:e'.b=e.b):HQ L (pre++e'::post) pre post=HQ L (pre++e::post) pre post:=by
 rw[HQ,HQ,Xo h1 h2 h3]
structure D1 (kf:Int→List Int→Kn) (es:List C6):Prop where
 val: ∀e∈es,e.k=kf e.a e.p
 dA: ∀a p,(∀e∈es,e.is a p=false)→kf a p=k0
 one:es.Pairwise fun e e'=>e.is e'.a e'.p=false
 len: ∀e∈es,e.p.length≤2
def RN (es:List C6):Prop:= ∀e∈es,∀s∈e.k.AJ,∃e'∈es,e'.is e.a (e.p++[s])=true
def D1.congr {kf kf':Int→List Int→Kn} {es:List C6} (h:D1 kf es) (e: ∀a p,kf a p=kf' a p):D1 kf' es:=
 ⟨fun x hx=>(h.val x hx).trans (e _ _),fun a p hp=>(e a p).symm.trans (h.dA a p hp),h.one,h.len⟩
def D1.add {kf:Int→List Int→Kn} {es:List C6} (h:D1 kf es) {a:Int} {p:List Int} (hp:p.length≤2) (hn: ∀e∈es,e.is a p=false) (b:Nat) (vn vs:V):D1 kf (es++[⟨a,p,b,vn,vs,k0⟩]):=by
 refine⟨fun x hx=>?_,fun a' p' h'=>h.dA a' p' fun x hx=>h' x (Qw _ hx),?_,fun x hx=>?_⟩
 ·rcases E7.1 hx with hx|hx
  ·exact h.val x hx
  ·rw[Kz.1 hx];exact(h.dA a p hn).symm
 ·rw[List.pairwise_append]
  exact⟨h.one,List.pairwise_singleton _ _,fun x hx y hy=>by rw[Kz.1 hy];exact hn x hx⟩
 ·rcases E7.1 hx with hx|hx
  ·exact h.len x hx
  ·rw[Kz.1 hx];exact hp
def RN.add {es:List C6} (h:RN es) {a:Int} {p:List Int} (b:Nat) (vn vs:V):RN (es++[⟨a,p,b,vn,vs,k0⟩]):=by
 intro e he s hs;rcases E7.1 he with he|he
 ·obtain⟨e',h1,h2⟩:=h e he s hs
  exact⟨e',Qw _ h1,h2⟩
 ·rw[Kz.1 he]at hs
  cases hs
def UH (kf:Int→List Int→Kn) (a:Int) (p:List Int) (k:Kn):Int→List Int→Kn:=fun a' p'=>if a'=a∧p'=p then k else kf a' p'
def D1.change {kf:Int→List Int→Kn} {pre post:List C6} {e:C6} (h:D1 kf (pre++e::post)) (b:Nat) (vn vs:V) (k:Kn):D1 (UH kf e.a e.p k) (pre++⟨e.a,e.p,b,vn,vs,k⟩::post):=by
 have h1:=h.one;rw[List.pairwise_append,List.pairwise_cons]at h1;obtain⟨o1,⟨o2,o3⟩,o4⟩:=h1;refine⟨fun x hx=>?_,fun a p hp=>?_,?_,fun x hx=>?_⟩
 ·rw [UH]
  rcases E7.1 hx with hx|hx
  ·rw[if_neg]
   ·exact h.val x (Qw _ hx)
   ·have:=o4 x hx e (.head _)
    rw[OR]at this;exact this
  ·rcases F6.1 hx with rfl|hx
   ·rw[if_pos ⟨rfl,rfl⟩]
   ·rw[if_neg]
    ·exact h.val x (Se _ (.tail _ hx))
    ·have:=o2 x hx
     rw[OR]at this;exact fun⟨q1,q2⟩=>this ⟨q1.symm,q2.symm⟩
 ·have he:=OR.1 (hp _ (Se _ (.head _)))
  rw[UH,if_neg (fun⟨q1,q2⟩=>he ⟨q1.symm,q2.symm⟩)];refine h.dA a p fun x hx=>?_
  rcases E7.1 hx with hx|hx
  ·exact hp x (Qw _ hx)
  ·rcases F6.1 hx with rfl|hx
   ·exact OR.2 he
   ·exact hp x (Se _ (.tail _ hx))
 ·rw[List.pairwise_append,List.pairwise_cons]
  refine⟨o1,⟨o2,o3⟩,fun x hx y hy=>?_⟩;rcases F6.1 hy with rfl|hy
  ·exact o4 x hx e (.head _)
  ·exact o4 x hx y (.tail _ hy)
 ·rcases E7.1 hx with hx|hx
  ·exact h.len x (Qw _ hx)
  ·rcases F6.1 hx with rfl|hx
   ·exact h.len e (Se _ (.head _))
   ·exact h.len x (Se _ (.tail _ hx))
def RN.change {pre post:List C6} {e:C6} (h:RN (pre++e::post)) (b:Nat) (vn vs:V) (k:Kn) (hs: ∀s∈k.AJ,s∈e.k.AJ∨ ∃e'∈pre++e::post,e'.is e.a (e.p++[s])=true):RN (pre++⟨e.a,e.p,b,vn,vs,k⟩::post):=by
 have mov: ∀ {a p},(∃e'∈pre++e::post,e'.is a p=true)→ ∃e'∈pre++(⟨e.a,e.p,b,vn,vs,k⟩:C6)::post,e'.is a p=true:=by
  rintro a p ⟨x,hx,h'⟩;rcases E7.1 hx with hx|hx
  ·exact⟨x,Qw _ hx,h'⟩
  ·rcases F6.1 hx with rfl|hx
   ·exact⟨_,Se _ (.head _),h'⟩
   ·exact⟨x,Se _ (.tail _ hx),h'⟩
 intro x hx s hxs;rcases E7.1 hx with hx|hx
 ·exact mov (h x (Qw _ hx) s hxs)
 ·rcases F6.1 hx with rfl|hx
  ·rcases hs s hxs with h'|h'
   ·exact mov (h e (Se _ (.head _)) s h')
   ·exact mov h'
  ·exact mov (h x (Se _ (.tail _ hx)) s hxs)
def Df (f:Fact) (c:Bool) (j:Nat) (a:Int) (p:List Int) (k:Kn):Kn:=
 if f.arg=a∧Bw f.path p=true then(if p.length<j then jU (Dp k c) (f.path.getD p.length 0)else if p.length=j then Dp k c else k)else k
def Ny {path p:List Int}:Bw path p=true↔p.length≤path.length∧p=path.take p.length:=by
 rw[Cd];constructor
 ·rintro⟨t,rfl⟩
  exact⟨by simp,by simp⟩
 ·rintro⟨h1,h2⟩
  exact⟨path.drop p.length,by conv=>rhs;rw[h2,K1,Nat.min_eq_left h1,List.take_append_drop]⟩
def lQ (f:Fact) (c:Bool) (a:Int) (p:List Int) (k:Kn):Df f c 0 a p k=if a=f.arg∧p= []then Dp k c else k:=by
 unfold Df;by_cases h:f.arg=a∧Bw f.path p=true
 ·rw[if_pos h,if_neg (by omega)]
  by_cases hp:p.length=0
  ·rw[if_pos hp,if_pos ⟨h.1.symm,YL.1 hp⟩]
  ·rw[if_neg hp,if_neg (fun h'=>hp (by rw[h'.2];rfl))]
 ·rw[if_neg h,if_neg]
  rintro⟨rfl,rfl⟩;exact h ⟨rfl,Cd.2 ⟨f.path,by simp⟩⟩
def lR (f:Fact) (c:Bool) {j:Nat} (hj:j<f.path.length) (a:Int) (p:List Int) (k:Kn):Df f c (j+1) a p k=if a=f.arg∧p=f.path.take (j+1)then Dp (Df f c j a p k) c else if a=f.arg∧p=f.path.take j then jU (Df f c j a p k) (f.path.getD j 0)else Df f c j a p k:=by
 unfold Df;by_cases h:f.arg=a∧Bw f.path p=true
 ·rw [if_pos h,if_pos h]
  obtain⟨h1,h2⟩:=h;rw[Ny]at h2;obtain⟨h2,h3⟩:=h2;have l1:p=f.path.take (j+1)↔p.length=j+1:=⟨fun e=>by rw[e,K1];omega,fun e=>by rw[e]at h3;exact h3⟩
  have l2:p=f.path.take j↔p.length=j:=⟨fun e=>by rw[e,K1];omega,fun e=>by rw[e]at h3;exact h3⟩
  have n1:p.length≠j+1→ ¬(a=f.arg∧p=f.path.take (j+1)):=fun h h'=>h (l1.1 h'.2)
  have n2:p.length≠j→ ¬(a=f.arg∧p=f.path.take j):=fun h h'=>h (l2.1 h'.2)
  by_cases q1:p.length<j
  ·rw[if_pos (show p.length<j+1 by omega),if_neg (n1 (by omega)),if_neg (n2 (by omega)),if_pos q1]
  ·by_cases q2:p.length=j
   ·rw[if_pos (show p.length<j+1 by omega),if_neg (n1 (by omega)),if_pos (show a=f.arg∧p=f.path.take j from⟨h1.symm,l2.2 q2⟩),if_neg q1,if_pos q2,q2]
   ·by_cases q3:p.length=j+1
    ·rw[if_neg (show¬p.length<j+1 by omega),if_pos q3,if_pos (show a=f.arg∧p=f.path.take (j+1) from⟨h1.symm,l1.2 q3⟩),if_neg q1,if_neg q2]
    ·rw[if_neg (show¬p.length<j+1 by omega),if_neg q3,if_neg (n1 q3),if_neg (n2 q2),if_neg q1,if_neg q2]
 ·rw[if_neg h,if_neg h,if_neg,if_neg]
  ·rintro⟨rfl,rfl⟩
   exact h ⟨rfl,Cd.2 ⟨f.path.drop j,by rw[List.take_append_drop]⟩⟩
  ·rintro⟨rfl,rfl⟩
   exact h ⟨rfl,Cd.2 ⟨f.path.drop (j+1),by rw[List.take_append_drop]⟩⟩
def qc (a : Int) (p:List Int) (k:Kn) (l:Fact):DH a p k l=if a=(Az l).1.arg∧p=(Az l).1.path then Cu (Df (Az l).1 (Az l).2 (Az l).1.path.length a p k) (Az l).1 (Az l).2 else Df (Az l).1 (Az l).2 (Az l).1.path.length a p k:=by
 unfold DH Df;by_cases h:(Az l).1.arg=a∧Bw (Az l).1.path p=true
 ·rw [if_pos h,if_pos h]
  obtain⟨h1,h2⟩:=h;rw[Ny]at h2;obtain⟨h2,h3⟩:=h2;by_cases hp:(Az l).1.path=p
  ·rw[if_pos hp,if_pos ⟨h1.symm,hp.symm⟩,if_neg (by rw[hp];omega),if_pos (by rw[hp])]
  ·have hne:p.length<(Az l).1.path.length:=by
    rcases Nat.lt_or_ge p.length (Az l).1.path.length with h'|h'
    ·exact h'
    ·rw[List.take_of_length_le h']at h3
     exact absurd h3.symm hp
   rw[if_neg hp,if_neg (fun h=>hp h.2.symm),if_pos hne]
 ·rw[if_neg h,if_neg h,if_neg]
  rintro⟨rfl,rfl⟩;exact h ⟨rfl,Nz _⟩
def lT (ls:List Fact) (l:Fact) (a:Int) (p:List Int):kn (ls++[l]) a p=DH a p (kn ls a p) l:=by
 rw[kn,List.foldl_append];rfl
def SZ (l:List Int) (s:Int):(JC l s).length≤l.length+1:=by
 unfold JC;split
 ·omega
 ·rw[List.length_mergeSort];simp
def YI (k:Kn) (f:Fact) (b:Bool):(Cu k f b).no.length≤k.no.length+1:=by
 unfold Cu
 repeat' split
 all_goals simp
def fB (a:Int) (p:List Int): ∀(ls:List Fact) (k:Kn),(ls.foldl (DH a p) k).no.length≤k.no.length+ls.length∧(ls.foldl (DH a p) k).AJ.length≤k.AJ.length+ls.length
 | [],k=>⟨Iu _,Iu _⟩
 | l ::r,k=>by
   obtain⟨h1,h2⟩:=fB a p r (DH a p k l)
   have h3:(DH a p k l).no.length≤k.no.length+1∧(DH a p k l).AJ.length≤k.AJ.length+1:=by
    unfold DH
    repeat' split
    ·have:=YI (Dp k (Az l).2) (Az l).1 (Az l).2
     rw[SU];simp only[Dp]at this ⊢;omega
    ·have:=SZ k.AJ ((Az l).1.path.getD p.length 0)
     simp only[jU,Dp]at this ⊢;omega
    ·omega
   rw[List.foldl_cons,K2];omega
def lU {n:Nat} {ls:List Fact} (h:I0 n ls) (a:Int) (p:List Int):(kn ls a p).CE<2 ^ n∧(kn ls a p).Ga<2 ^ n:=by
 have hc:=OQ ls a p;simp only[FF,Prod.mk.injEq]at hc;have hc2:I0 n (ls.filter (Gs a p)):=fun l hl=>h l (K0.1 hl).1
 rw[hc.2.2.2.1,hc.2.2.2.2.1];exact⟨TW hc2,qC hc2⟩
end Go.Gl
namespace Go.Gl
def HG (no:List Int):Nat→Int→Int
 | 0,n=>n
 | k+1,n=>if no.contains n then HG no k (n+1)else n
def from_ (no:List Int) (n:Int):Nat:=(no.filter fun x=>decide (n≤x)).length
def Ti {no:List Int} {n:Int} (h:n∈no):from_ no (n+1)<from_ no n:=by
 induction no with
 | nil=>cases h
 | cons x r ih=>
   simp only[from_,List.filter_cons]at ih ⊢;by_cases hx:x=n
   ·subst hx
    have hle:(r.filter fun y=>decide (x+1≤y)).length≤(r.filter fun y=>decide (x≤y)).length:=by
     refine List.Sublist.length_le ?_
     have e:(r.filter fun y=>decide (x+1≤y))=(r.filter fun y=>decide (x≤y)).filter fun y=>decide (x+1≤y):=by
      rw[List.filter_filter];refine List.filter_congr fun y _=>?_
      rw[JU,BJ,Cn,Cn];omega
     rw[e];exact List.filter_sublist
    rw[if_neg (by simp<;>omega),if_pos (by simp),K2];omega
   ·have h':n∈r:=by
     rcases F6.1 h with e|e
     ·exact absurd e.symm hx
     ·exact e
    have:=ih h';by_cases h1:n≤x
    ·rw[if_pos (by rw[Cn];omega),if_pos (by rw[Cn];omega),K2,K2]
     omega
    ·rw[if_neg (by rw[Cn];omega),if_neg (by rw[Cn];omega)]
     omega
def ZU (no:List Int) (n:Int):from_ no n≤no.length:=Oa _ _
def L5 {no:List Int}: ∀(k:Nat) (n:Int),from_ no n≤k→n≤HG no k n∧HG no k n∉no∧ ∀j,n≤j→j<HG no k n→j∈no
 | 0,n,h=>by
   refine⟨Int.le_refl _,fun hm=>?_,fun j h1 h2=>by simp only[HG]at h2;omega⟩;have:=Ti hm;simp only[HG]at this;omega
 | k + 1,n,h=>by
   rw[HG];split
   ·rename_i hc
    rw[List.contains_iff_mem]at hc;have hlt:=Ti hc;obtain⟨h1,h2,h3⟩:=L5 (no:=no) k (n+1) (by omega);refine⟨by omega,h2,fun j hj1 hj2=>?_⟩;by_cases e:j=n
    ·subst e;exact hc
    ·exact h3 j (by omega) hj2
   ·rename_i hc
    exact⟨Int.le_refl _,fun hm=>hc (List.contains_iff_mem.2 hm),fun j h1 h2=>by omega⟩
def ug {no:List Int} {k:Nat} {n:Int} (h:n∈no):HG no (k+1) n=HG no k (n+1):=by rw[HG,if_pos (List.contains_iff_mem.2 h)]
def m5 {no:List Int} {k:Nat} {n:Int} (h:n∉no):HG no k n=n:=by
 cases k with
 | zero=>rfl
 | succ k=>rw[HG,if_neg (fun hc=>h (List.contains_iff_mem.1 hc))]
def Zu {no:List Int} {k k':Nat} {n:Int} (h:from_ no n≤k) (h':from_ no n≤k'):HG no k n=HG no k' n:=by
 obtain⟨a1,a2,a3⟩:=L5 k n h;obtain⟨b1,b2,b3⟩:=L5 k' n h';rcases Int.lt_trichotomy (HG no k n) (HG no k' n)with hl|he|hg
 ·exact absurd (b3 _ a1 hl) a2
 ·exact he
 ·exact absurd (a3 _ b1 hg) b2
def KU (k:Kn):Int:=HG k.no k.no.length k.low
def Oz (kf:Int→List Int→Kn) (a:Int) (p:List Int):Bool:=(kf a p).AJ.all fun s=> !(kf a (p++[s])).A6
def Hv (kf:Int→List Int→Kn) (a:Int) (p:List Int) (c:Nat):Bool:=Qc (kf a p).CE (1|||2 ^ c)&&((kf a p).Ga&&&(1|||2 ^ c)==0&&Oz kf a p)
def Sr (kf:Int→List Int→Kn) (a:Int) (p:List Int):Bool:=decide (KU (kf a p)≤(kf a p).high)&&Hv kf a p 1
def LH (kf:Int→List Int→Kn) (a:Int) (p:List Int):Bool:= !(kf a p).whole&&Hv kf a p 2
def N6 (w:AL) (kf:Int→List Int→Kn) (a:Int):Nat→List Int→Bool
 | 0,p=>Sr kf a p||(LH kf a p||(N3 w (kf a p) (fun s=>(kf a (p++[s])).A6) (fun _=>false)).2)
 | d+1,p=>Sr kf a p||(LH kf a p||(N3 w (kf a p) (fun s=>(kf a (p++[s])).A6) (fun s=>N6 w kf a d (p++[s]))).2)
def dN (w:AL) (kf:Int→List Int→Kn):Bool:=(Ci 3).all fun a=>N6 w kf a 2 []
def Zc {n:Nat} {ls:List Fact} (h:Hw n ls) (a:Int) (p:List Int):Oz (kn ls) a p=FE n ls a p:=by
 rw[Oz,FE,Lu h];congr 1;funext s;rw[NB,Bool.not_not]
def fC {n m:Nat} {ls:List Fact} (hn:n≤64) (hc:I0 n ls) (h:Hw m ls) (a:Int) (p:List Int):Sr (kn ls) a p=((Ir ls a p).isSome&&FE m ls a p):=by
 have hcore:=OQ ls a p;have hc2:I0 n (ls.filter (Gs a p)):=fun l hl=>hc l (K0.1 hl).1
 simp only[FF,Prod.mk.injEq]at hcore;obtain⟨c1,c2,c3,c4,c5,-⟩:=hcore;rw[Sr,Hv,Zc h,c4,c5,←Bool.and_assoc (Qc _ _),bD hn hc2,←Bool.and_assoc];congr 1;have hf:=SD (ls.filter (Gs a p)) k0;rw[Ir,show t0=(k0.low,k0.high,k0.no) from rfl,hf,KU,c2,c3,c1];obtain⟨h1,h2,h3⟩:=L5 (no:=(Ek (ls.filter (Gs a p)) k0).no) _ (Ek (ls.filter (Gs a p)) k0).low (ZU _ _);have hs:=gV (high:=(Ek (ls.filter (Gs a p)) k0).high) h1 h2 h3;cases(ls.filter (Gs a p)).all fun l=>oX (Az l)with
 | false=>simp
 | true=>rw[if_pos rfl,Option.bind_some,hs,Bool.and_true]
def ZB {n m:Nat} {ls:List Fact} (hn:n≤64) (hc:I0 n ls) (h:Hw m ls) (a:Int) (p:List Int):LH (kn ls) a p=HT m ls a p:=by
 have hcore:=OQ ls a p;have hc2:I0 n (ls.filter (Gs a p)):=fun l hl=>hc l (K0.1 hl).1
 simp only[FF,Prod.mk.injEq]at hcore;obtain⟨-,-,-,c4,c5,c6⟩:=hcore;rw[LH,Hv,Zc h,c4,c5,c6,HT,←Xi hn hc2];simp only[Bool.and_assoc]
def ff {w:AL} {ls:List Fact} (ho:ordered w.parents) (how: ∀s:Int,0≤s→s<w.owner.length→3≤Cx w s∧Cx w s<3+w.parents.length) (hn:3+w.parents.length≤64) (hc:I0 (3+w.parents.length) ls) (hp:Hw w.owner.length ls) (a:Int): ∀(d:Nat) (p:List Int),N6 w (kn ls) a d p=LD w ls a d p
 | 0,p=>by
   rw[N6,LD,fC hn hc hp,ZB hn hc hp,na ho how hc hp fun s=>NB ls a (p++[s])]
 | d+1,p=>by
   rw[N6,LD,fC hn hc hp,ZB hn hc hp,na ho how hc hp fun s=>NB ls a (p++[s])];have e:(fun s=>N6 w (kn ls) a d (p++[s]))=fun s=>LD w ls a d (p++[s]):=funext fun s=>ff ho how hn hc hp a d (p++[s])
   rw[e]
def pQ {w:AL} {ls:List Fact} (ho:ordered w.parents) (how: ∀s:Int,0≤s→s<w.owner.length→3≤Cx w s∧Cx w s<3+w.parents.length) (hn:3+w.parents.length≤64) (hc:I0 (3+w.parents.length) ls) (hp:Hw w.owner.length ls):dN w (kn ls)=Gu w ls:=by
 rw[dN,Gu];congr 1;funext a;exact ff ho how hn hc hp a 2 []
end Go.Gl
namespace Go.Gl
open Go.Proofs
attribute [local irreducible] BC Aw Ai AV AM Ah AU AW AN Ag AQ AS A3 BA Sat Ab A8 Ak W
section
variable {S:Type} (g:FuncId) (fi ca:List V) (H:S→List At) (f:Int→Bool) (J:S→Prop) (D:Int→Prop)
def Qs {v:V} {xs:List Int} (hst:Nh Tryz.prog (.f (.func g) fi ca) eI (fun s=> .own v 1 (iL xs)::H s) f J D) (hD: ∀x∈xs,D x) (hxl:xs.length≤Ad) (s0:S) (hj0:J s0) :
    Bj Tryz.prog 117 [v,.f (.func g) fi ca] (.own v 1 (iL xs)::H s0) fun r post=>r= .ret (eI (Nd f xs 0))∧ ∃s',J s'∧post= .own v 1 (iL xs)::H s':=by
 intro σ hs;have hM:=Mx;refine fZ kZ ?_
 conv=>whnf
 repeat'((first|apply st|(apply sq;intro K U)|(apply si;intro A B Y Z)|(apply Y;clear Z B Y A)|(apply U;clear U K)|refine lo ?_|fail)<;>conv=>whnf)
 refine CA xs.length (fun k (_:S)=>[(8,eI (BG k))]) (fun _ s=> .own v 1 (iL xs)::H s) (fun k s=>J s∧Nd f xs 0=Nd f (xs.drop k) k) s0 rfl ⟨hj0,rfl⟩ hs ?_;clear hs hj0;rintro k s σ hk ⟨hj,hn⟩ hs;have hck:BG k=k:=AK (by omega);rcases BI xs hk with⟨y,hy,hlt⟩|hke
 ·rw[drop_cons hy]at hn
  have hDy:=hD y (B9 hy);rw[Nd]at hn
  conv=>whnf
  repeat'((first|apply st|(apply sq;intro K U)|(apply si;intro A B Y Z)|(apply Y;clear Z B Y A)|(apply U;clear U K)|refine⟨rfl,?_⟩|refine oi ?_|refine ol fun x hx=>?_|(refine CU (fun hc=>?_)<;>(try rw[hc])<;>clear hc)|fail)<;>conv=>whnf)
  obtain rfl:x=y:=by rw[hck,Iv,hy]at hx;exact(Option.some.inj hx).symm
  refine hst.use hDy hj hs ?_;clear hs hj;intro s σ hj hs;cases hyes:f x
  ·rw[hyes,if_neg (by decide)]at hn
   conv=>whnf
   repeat'((first|apply st|(apply si;intro A B Y Z)|(apply Y;clear Z B Y A)|(apply U;clear U K)|refine⟨rfl,?_⟩|clear U K)<;>conv=>whnf)
   exact⟨hlt,_,rfl,⟨hj,hn⟩,hs⟩
  ·rw[hyes,if_pos rfl]at hn
   conv=>whnf
   repeat'((first|apply st|(apply sq;intro K U)|(apply si;intro A B Y Z)|(apply Y;clear Z B Y A)|(apply U;clear U K)|clear U K)<;>conv=>whnf)
   rw[hn];exact AX ⟨_,⟨by rw[hck],s,hj,rfl⟩,hs⟩
 ·rw[As hke,Nd]at hn
  conv=>whnf
  repeat'((first|apply st|(apply sq;intro K U)|(apply si;intro A B Y Z)|(apply Y;clear Z B Y A)|(apply U;clear U K)|refine⟨rfl,?_⟩|(refine Dl (fun hc=>?_)<;>(try rw[hc])<;>clear hc)|clear U K)<;>conv=>whnf)
  rw[hn];exact AX ⟨_,⟨rfl,s,hj,rfl⟩,hs⟩
def OC {v:V} {xs:List Int} (hst:Nh Tryz.prog (.f (.func g) fi ca) eI (fun s=> .own v 1 (iL xs)::H s) f J D) (hD: ∀x∈xs,D x) (hxl:xs.length≤Ad) (s0:S) (hj0:J s0) :
    Bj Tryz.prog 49 [v,.f (.func g) fi ca] (.own v 1 (iL xs)::H s0) fun r post=>r= .ret (.b (xs.any f))∧ ∃s',J s'∧post= .own v 1 (iL xs)::H s':=by
 intro σ hs;refine oE kZ ?_
 conv=>whnf
 repeat'((first|(apply sq;intro K U)|(apply si;intro A B Y Z)|(apply Y;clear Z B Y A)|(apply U;clear U K)|fail)<;>conv=>whnf)
 refine(Qs g fi ca H f J D hst hD hxl s0 hj0).use (rest:=[]) (by simpa using hs) ?_;rintro r post σ ⟨rfl,s',hj,rfl⟩ hs
 conv=>whnf
 repeat'((first|apply st|(apply Y;clear Z B Y A)|(apply U;clear U K)|refine⟨rfl,?_⟩|fail)<;>conv=>whnf)
 exact AX ⟨_,⟨by rw[←Vc f xs 0],s',hj,rfl⟩,by simpa using hs⟩
def lJ {v:V} {xs:List Int} (hst:Nh Tryz.prog (.f (.func g) fi ca) eI (fun s=> .own v 1 (iL xs)::H s) f J D):Nh Tryz.prog (.f (.func 301) [] [.rp [.f (.func g) fi ca]]) eI (fun s=> .own v 1 (iL xs)::H s) (fun y=> !f y) J D:=by
 intro y s hd hj σ hs;refine B2 ?_;show BC Tryz.prog 301 ([]++[eI y]++[.rp [.f (.func g) fi ca]]) σ _;refine fP kZ ?_
 conv=>whnf
 repeat'((first|apply st|(apply sq;intro K U)|(apply si;intro A B Y Z)|(apply Y;clear Z B Y A)|(apply U;clear U K)|fail)<;>conv=>whnf)
 refine hst.use hd hj hs ?_;clear hs;intro s' σ hj' hs
 conv=>whnf
 repeat'((first|apply st|(apply Y;clear Z B Y A)|(apply U;clear U K)|fail)<;>conv=>whnf)
 exact AX ⟨rfl,s',hj',hs⟩
def Zt {v:V} {xs:List Int} (hst:Nh Tryz.prog (.f (.func g) fi ca) eI (fun s=> .own v 1 (iL xs)::H s) f J D) (hD: ∀x∈xs,D x) (hxl:xs.length≤Ad) (s0:S) (hj0:J s0) :
    Bj Tryz.prog 246 [v,.f (.func g) fi ca] (.own v 1 (iL xs)::H s0) fun r post=>r= .ret (.b (xs.all f))∧ ∃s',J s'∧post= .own v 1 (iL xs)::H s':=by
 intro σ hs;refine fT kZ ?_
 conv=>whnf
 repeat'((first|(apply sq;intro K U)|(apply si;intro A B Y Z)|(apply Y;clear Z B Y A)|(apply U;clear U K)|fail)<;>conv=>whnf)
 refine(OC 301 [] [.rp [.f (.func g) fi ca]] H _ J D (lJ g fi ca H f J D hst) hD hxl s0 hj0).use (rest:=[]) (by simpa using hs) ?_;rintro r post σ ⟨rfl,s',hj,rfl⟩ hs
 conv=>whnf
 repeat'((first|apply st|(apply Y;clear Z B Y A)|(apply U;clear U K)|fail)<;>conv=>whnf)
 refine AX ⟨_,⟨?_,s',hj,rfl⟩,by simpa using hs⟩;rw[List.all_eq_not_any_not]
end
abbrev KI (l:Fact):List V:=xF (Az l).1++[.b (Az l).2]
abbrev FA (ls:List Fact):List (List V):=ls.map KI
def kS (xs ys:List Int) (f g:Bool):Pure Tryz.prog 95 [.l (iL xs) f,.l (iL ys) g] (.b (xs==ys)):=by
 refine Pure.fit (by kernel_rfl) fun hf=>?_
 have hx:=LK hf.1;have hy:=LK hf.2.1;have hM:=Mx;refine wc kZ ?_;have hs:=Sn
 conv=>whnf
 repeat'((first|apply st|(apply sq;intro K U)|(apply si;intro A B Y Z)|(apply Y;clear Z B Y A)|(apply U;clear U K)|refine⟨rfl,?_⟩|(constructor<;>intro hc<;>(try rw[hc])<;>(replace hc:=bp hc)<;>(try simp(disch:=omega) only[A9,wrap64,AK]at hc))|clear U K)<;>conv=>whnf)
 ·exact AI (by(have:(xs==ys)=false:=by(simp;intro e;subst e;simp at hc));rw[this])
 have hl:xs.length=ys.length:=by omega
 refine CA xs.length (fun k (_:Unit)=>[(13,eI (BG k))]) (fun _ _=>[]) (fun k _=>(xs==ys)=(xs.drop k==ys.drop k)) () rfl rfl Sat.nil ?_;clear hs;rintro k - σ hk hn hs;rcases BI xs hk with⟨x,hxk,hlt⟩|hke
 ·obtain⟨y,hyk⟩: ∃y,ys[k]? =some y:=⟨_,C7 (by omega)⟩
  rw[drop_cons hxk,drop_cons hyk]at hn
  conv=>whnf
  repeat'((first|apply st|(apply sq;intro K U)|(apply si;intro A B Y Z)|(apply Y;clear Z B Y A)|(apply U;clear U K)|apply dr|refine⟨rfl,?_⟩|refine ix ?_|(refine CU (fun hc=>?_)<;>(try rw[hc])<;>clear hc)|(constructor<;>intro hc<;>(try rw[hc])<;>(replace hc:=bp hc))|clear U K)<;>conv=>whnf)
  ·exact AI (by rw[hn];simp[*])
  ·exact⟨hlt,(),rfl,by rw[hn];simp[*],hs⟩
 ·conv=>whnf
  repeat'((first|apply st|(apply sq;intro K U)|(apply si;intro A B Y Z)|(apply Y;clear Z B Y A)|(apply U;clear U K)|refine⟨rfl,?_⟩|(refine Dl (fun hc=>?_)<;>(try rw[hc])<;>clear hc)|clear U K)<;>conv=>whnf)
  exact AI (by rw[hn,As hke,As (by omega)];rfl)
def lV (a b:Bool) (u:V):Pure Tryz.prog 293 [.l [] a,.l [] b,u] (.b true):=by
 refine sW kZ ?_;have hs:=Sn;have hM:=Mx
 conv=>whnf
 repeat'((first|apply st|(apply sq;intro K U)|(apply si;intro A B Y Z)|(apply Y;clear Z B Y A)|(apply U;clear U K)|refine⟨rfl,?_⟩|(constructor<;>intro hc<;>(try rw[hc])<;>(replace hc:=bp hc)<;>(try simp(disch:=omega) only[A9,wrap64,AK]at hc)<;>try(exfalso;omega))|fail)<;>conv=>whnf)
 refine CA 0 (fun k (_:Unit)=>[(17,eI (BG k))]) (fun _ _=>[]) (fun _ _=>True) () rfl trivial Sat.nil ?_;clear hs;rintro k - σ hk - hs;obtain rfl:k=0:=by omega
 conv=>whnf
 repeat'((first|apply st|(apply sq;intro K U)|(apply si;intro A B Y Z)|(apply Y;clear Z B Y A)|(apply U;clear U K)|refine⟨rfl,?_⟩|(constructor<;>intro hc<;>(try rw[hc])<;>(replace hc:=bp hc)<;>(try simp(disch:=omega) only[A9,wrap64,AK]at hc))|clear U K)<;>conv=>whnf)
 ·exfalso
  simp at hc
 ·exact AI rfl
set_option maxHeartbeats 1000000 in
def kT (f g:Fact) (hf:f.kids= []) (hg:g.kids= []):Pure Tryz.prog 227 [.a (xF f),.a (xF g)] (.b (FW f g)):=by
 have e:FW f g=(f.op==g.op&&(f.arg==g.arg&&(f.cls==g.cls&&(f.n==g.n&&f.path==g.path)))):=by
  rw[Ll,hf,hg];simp[Ql]
 obtain⟨o,a,p,c,n,k⟩:=f;obtain⟨o',a',p',c',n',k'⟩:=g;simp only[Fact.kids]at hf hg;subst hf;subst hg;refine tS kZ ?_;have hs:=Sn;rw[e]
 conv=>whnf
 repeat'((first|apply st|(apply sq;intro K U)|(apply si;intro A B Y Z)|(apply Y;clear Z B Y A)|(apply U;clear U K)|refine⟨rfl,?_⟩|refine Pure.use (kS _ _ _ _) ?_|refine Pure.use (lV _ _ _) ?_|(constructor<;>intro hc<;>(try rw[hc])<;>(replace hc:=bp hc))|fail)<;>conv=>whnf)
 all_goals simp only[Fact.op,Fact.arg,Fact.cls,Fact.n,Fact.path]at *
 all_goals exact AI (by simp[*])
def XE:FD KI 7:=fun l=>by
 refine⟨rfl,fun v hv=>?_⟩;rcases E7.1 hv with hv|hv
 ·exact(KY (Az l).1).2 v (by show v∈Ge (Az l).1;rw[BL];exact hv)
 ·simp at hv;subst hv;rfl
def Q6 (x y:Fact):Bool:=(Az x).2==(Az y).2&&FW (Az x).1 (Az y).1
abbrev YW (l:Fact):Prop:=(Az l).1.kids= []
abbrev oj (f:Fact→Bool):Fact→Unit→Bool×Unit:=fun y _=>(f y,())
def kU (x:Fact) (hx1:YW x) (n:Nat):DB Tryz.prog (.f (.func 266) [] [.p n 0]) (fun y=> .a (KI y)) (fun _:Unit=>[.box n (KI x)]) (oj (Q6 x)) (fun y _=>YW y):=by
 intro y s hy1 σ hs;refine B2 ?_;show BC Tryz.prog 266 ([]++[.a (KI y)]++[.p n 0]) σ _;refine sy kZ ?_;unfold Q6
 conv=>whnf
 repeat'((first|apply st|(apply sq;intro K U)|(apply si;intro A B Y Z)|(apply Y;clear Z B Y A)|(apply U;clear U K)|refine⟨kZ,?_⟩|refine ld ?_|refine Pure.use (kT _ _ hx1 hy1) ?_|(constructor<;>intro hc<;>(try rw[hc])<;>(replace hc:=bp hc))|fail)<;>conv=>whnf)
 all_goals exact AX ⟨by simp[oj, *],hs⟩
section
variable {S:Type} (g:FuncId) (fi ca:List V) (H:S→List At)
def Qr (stp:Fact→S→Bool×S) (D:Fact→S→Prop) {v:V} {xs:List Fact} (hst:DB Tryz.prog (.f (.func g) fi ca) (fun y=> .a (KI y)) (fun s=> .own v 7 (FA xs)::H s) stp D) (hxl:xs.length≤Ad) (s0:S) (hd:Wk stp D xs s0) :
    Bj Tryz.prog 313 [v,.f (.func g) fi ca] (.own v 7 (FA xs)::H s0) fun r post=>r= .ret (eI (Bq stp xs 0 s0).1)∧post= .own v 7 (FA xs)::H (Bq stp xs 0 s0).2:=by
 intro σ hs;have hM:=Mx;refine sI kZ ?_
 conv=>whnf
 repeat'((first|apply st|(apply sq;intro K U)|(apply si;intro A B Y Z)|(apply Y;clear Z B Y A)|(apply U;clear U K)|refine lo ?_|fail)<;>conv=>whnf)
 refine CA xs.length (fun k (_:S)=>[(8,eI (BG k))]) (fun _ s=> .own v 7 (FA xs)::H s) (fun k s=>Wk stp D (xs.drop k) s∧Bq stp xs 0 s0=Bq stp (xs.drop k) k s) s0 rfl ⟨hd,rfl⟩ hs ?_;clear hs;rintro k s σ hk ⟨hd,hn⟩ hs;have hck:BG k=k:=AK (by omega);rcases BI xs hk with⟨y,hy,hlt⟩|hke
 ·rw[drop_cons hy]at hn hd
  obtain⟨hd1,hd2⟩:=hd;rw[Bq]at hn
  conv=>whnf
  repeat'((first|apply st|(apply sq;intro K U)|(apply si;intro A B Y Z)|(apply Y;clear Z B Y A)|(apply U;clear U K)|refine⟨rfl,?_⟩|refine⟨kZ,?_⟩|refine oi ?_|refine ol fun x hx=>?_|(refine CU (fun hc=>?_)<;>(try rw[hc])<;>clear hc)|fail)<;>conv=>whnf)
  obtain rfl:x=y:=by rw[hck,Iv,hy]at hx;exact(Option.some.inj hx).symm
  refine hst.use hd1 hs ?_;clear hs;intro σ hs;cases hyes:(stp x s).1
  ·rw[hyes,if_neg (by decide)]at hn
   conv=>whnf
   repeat'((first|apply st|(apply si;intro A B Y Z)|(apply Y;clear Z B Y A)|(apply U;clear U K)|refine⟨rfl,?_⟩|clear U K)<;>conv=>whnf)
   exact⟨hlt,_,rfl,⟨hd2,hn⟩,hs⟩
  ·rw[hyes,if_pos rfl]at hn
   conv=>whnf
   repeat'((first|apply st|(apply sq;intro K U)|(apply si;intro A B Y Z)|(apply Y;clear Z B Y A)|(apply U;clear U K)|clear U K)<;>conv=>whnf)
   rw[hn];exact AX ⟨_,⟨by rw[hck],rfl⟩,hs⟩
 ·rw[As hke,Bq]at hn
  conv=>whnf
  repeat'((first|apply st|(apply sq;intro K U)|(apply si;intro A B Y Z)|(apply Y;clear Z B Y A)|(apply U;clear U K)|refine⟨rfl,?_⟩|(refine Dl (fun hc=>?_)<;>(try rw[hc])<;>clear hc)|clear U K)<;>conv=>whnf)
  rw[hn];exact AX ⟨_,⟨rfl,rfl⟩,hs⟩
def NR (stp:Fact→S→Bool×S) (D:Fact→S→Prop) {v:V} {xs:List Fact} (hst:DB Tryz.prog (.f (.func g) fi ca) (fun y=> .a (KI y)) (fun s=> .own v 7 (FA xs)::H s) stp D) (hxl:xs.length≤Ad) (s0:S) (hd:Wk stp D xs s0) :
    Bj Tryz.prog 265 [v,.f (.func g) fi ca] (.own v 7 (FA xs)::H s0) fun r post=>r= .ret (.b (decide ((Bq stp xs 0 s0).1≥0)))∧post= .own v 7 (FA xs)::H (Bq stp xs 0 s0).2:=by
 intro σ hs;refine s5 kZ ?_
 conv=>whnf
 repeat'((first|(apply sq;intro K U)|(apply si;intro A B Y Z)|(apply Y;clear Z B Y A)|(apply U;clear U K)|fail)<;>conv=>whnf)
 refine(Qr g fi ca H stp D hst hxl s0 hd).use (rest:=[]) (by simpa using hs) ?_;rintro r post σ ⟨rfl,rfl⟩ hs
 conv=>whnf
 repeat'((first|apply st|(apply Y;clear Z B Y A)|(apply U;clear U K)|refine⟨rfl,?_⟩|fail)<;>conv=>whnf)
 exact AX ⟨_,⟨rfl,rfl⟩,by simpa using hs⟩
end
def ir (a:List Fact) (f:Bool) (hl:a.length≤1000000):Bj Tryz.prog 264 [.l (FA a) f] [] fun r post=> ∃v,r= .ret v∧post= [.own v 7 (FA a)]:=by
 intro σ hs;have hM:=Mx;refine s6 kZ ?_
 conv=>whnf
 repeat'((first|(apply sq;intro K U)|(apply si;intro A B Y Z)|(apply Y;clear Z B Y A)|(apply U;clear U K)|fail)<;>conv=>whnf)
 refine⟨fun e t=>?_,fun _=>?_⟩
 ·have hxe:a= []:=List.map_eq_nil_iff.1 e
  subst hxe
  conv=>whnf
  repeat'((first|apply st|(apply sq;intro K U)|(apply si;intro A B Y Z)|(apply Y;clear Z B Y A)|(apply U;clear U K)|(constructor<;>intro hc<;>(try rw[hc])<;>(replace hc:=bp hc))|clear U K)<;>conv=>whnf)
  ·exact AX ⟨_,⟨_,rfl,rfl⟩,DA hs 7⟩
  ·replace hs:=DA hs 7
   refine HU hs 0 (xs:=[]) (ys:=[]) rfl (by simp) XE fun v σ hs=>?_
   conv=>whnf
   repeat'((first|apply st|(apply Y;clear Z B Y A)|(apply U;clear U K)|fail)<;>conv=>whnf)
   exact AX ⟨_,⟨_,rfl,rfl⟩,hs⟩
 ·conv=>whnf
  repeat'((first|apply st|(apply sq;intro K U)|(apply si;intro A B Y Z)|(apply Y;clear Z B Y A)|(apply U;clear U K)|fail)<;>conv=>whnf)
  replace hs:=DA hs 7;refine HU hs 0 (xs:=[]) (ys:=a) rfl (by simp;omega) XE fun v σ hs=>?_
  conv=>whnf
  repeat'((first|apply st|(apply Y;clear Z B Y A)|(apply U;clear U K)|fail)<;>conv=>whnf)
  exact AX ⟨_,⟨_,rfl,rfl⟩,hs⟩
def U7 {w:AL} {x:Fact} (h:Iq w x):x=if(Az x).2 then Eo (Az x).1 else(Az x).1:=by
 obtain⟨g,hn,hl,rfl|rfl⟩:=h
 ·have:=Fs hl
  have h5: ¬x.op=5:=by omega
  simp only[Az,if_neg h5];rfl
 ·rfl
def Yr {w:AL} {x y:Fact} (hx1:Iq w x) (hy1:Iq w y):Q6 x y=FW x y:=by
 rw[JU,Jl];simp only[Q6,BJ,D9,Jl];constructor
 ·rintro⟨h1,h2⟩
  rw[U7 hx1,U7 hy1,h1,h2]
 ·rintro rfl
  exact⟨rfl,rfl⟩
def Rw {w:AL} {x:Fact} (h:Iq w x):YW x:=by
 obtain⟨-,hn,hl⟩:=Hd h;have hlo:=Fs hl;have har:=Cm _ hn;rw[JN,BJ,D9]at har
 have h0:CK (Az x).1.op=0:=by
  have h5: ¬(Az x).1.op=5:=by omega
  have h6: ¬((Az x).1.op=6∨(Az x).1.op=7):=by omega
  simp[CK,h5,h6]
  try omega
 rw[h0]at har;exact YL.1 har.1
def bZ {w:AL} (a b:List Fact) (f g:Bool) (hla: ∀x∈a,Iq w x) (hlb: ∀x∈b,Iq w x) (hl:a.length+b.length<1000000):Pure Tryz.prog 190 [.l (FA a) f,.l (FA b) g] (.l (FA (CW a b)) false):=by
 have hM:=Mx;refine Pure.of ?_;refine tj kZ ?_;have hs:=Sn
 conv=>whnf
 repeat'((first|(apply sq;intro K U)|(apply si;intro A B Y Z)|(apply Y;clear Z B Y A)|(apply U;clear U K)|fail)<;>conv=>whnf)
 refine(ir a f (by omega)).use (rest:=[]) (by simpa using hs) ?_;clear hs;rintro r post σ ⟨v,rfl,rfl⟩ hs
 conv=>whnf
 repeat'((first|apply st|(apply sq;intro K U)|(apply si;intro A B Y Z)|(apply Y;clear Z B Y A)|(apply U;clear U K)|fail)<;>conv=>whnf)
 refine CA b.length (fun k v=>[(5,v),(12,eI (BG k))]) (fun k v=>[.own v 7 (FA (CW a (b.take k)))]) (fun _ _=>True) v rfl trivial hs ?_;clear hs;rintro k v σ hk - hs;have hml:=NC a (b.take k);rw[K1]at hml;rcases BI b hk with⟨x,hxk,hlt⟩|hke
 ·have hsn:=QA a (b.take k) x
  rw[←AO hxk]at hsn;have hxg:=hlb x (B9 hxk)
  have hmem: ∀y∈CW a (b.take k),Iq w y:=fun y hy=>by
   rcases R1 _ _ _ hy with h|h
   ·exact hla y h
   ·exact hlb y (List.mem_of_mem_take h)
  generalize CW a (b.take k)=m at *
  have hany:m.any (Q6 x)=m.any (FW x):=by
   rw[JU,Jy,Jy];exact⟨fun⟨y,hy,h⟩=>⟨y,hy,by rw[←Yr hxg (hmem y hy)];exact h⟩,fun⟨y,hy,h⟩=>⟨y,hy,by rw[Yr hxg (hmem y hy)];exact h⟩⟩
  conv=>whnf
  repeat'((first|apply st|(apply sq;intro K U)|(apply si;intro A B Y Z)|(apply Y;clear Z B Y A)|(apply U;clear U K)|refine⟨rfl,?_⟩|refine⟨kZ,?_⟩|refine ix ?_|refine Cw fun σ hs=>?_|(refine CU (fun hc=>?_)<;>(try rw[hc])<;>clear hc)|(intro nn hnn;generalize hg:A0 _ nn _=σ;refine CZ hg fun hs=>?_;clear hg)|fail)<;>conv=>whnf)
  generalize nn=n7 at *;have hs2:Sat σ [.own v 7 (FA m),.box n7 (KI x)]:=hs.perm (.swap _ _ _);clear hs hnn;refine(NR 266 [] [.p n7 0] (fun _:Unit=>[.box n7 (KI x)]) (oj (Q6 x)) (fun y _=>YW y) ((kU x (Rw hxg) n7).more [_]) (by omega) () (G0 fun y hy _=>Rw (hmem y hy))).use (rest:=[]) hs2 ?_;clear hs2;rintro r post σ ⟨rfl,rfl⟩ hs;rw[Lz,hany];cases hy:m.any (FW x)
  ·rw[hy,if_neg Bool.false_ne_true]at hsn
   conv=>whnf
   repeat'((first|apply st|(apply si;intro A B Y Z)|(apply Y;clear Z B Y A)|(apply U;clear U K)|refine⟨kZ,?_⟩|refine ld ?_|refine HK ?_|fail)<;>conv=>whnf)
   refine GL (Fk (x:=x) (xs:=m) (enc:=KI) hs 0 rfl (by omega) XE fun v σ hs hsl=>?_)
   conv=>whnf
   repeat'((first|(apply si;intro A B Y Z)|(apply Y;clear Z B Y A)|(apply U;clear U K)|refine⟨rfl,?_⟩|clear U K)<;>conv=>whnf)
   exact⟨hlt,v,rfl,trivial,by rw[hsn];exact hs.less (.cons₂ _ (NT _))⟩
  ·rw[hy,if_pos rfl]at hsn
   conv=>whnf
   repeat'((first|apply st|(apply si;intro A B Y Z)|(apply Y;clear Z B Y A)|(apply U;clear U K)|refine⟨rfl,?_⟩|refine FP ?_|clear U K)<;>conv=>whnf)
   exact⟨hlt,v,rfl,trivial,by rw[hsn];exact hs.less (.cons₂ _ (NT _))⟩
 ·conv=>whnf
  repeat'((first|apply st|(apply sq;intro K U)|(apply si;intro A B Y Z)|(apply Y;clear Z B Y A)|(apply U;clear U K)|refine⟨rfl,?_⟩|(refine Dl (fun hc=>?_)<;>(try rw[hc])<;>clear hc)|clear U K)<;>conv=>whnf)
  exact cz (EK hs 0 rfl (vf:= .l (FA (CW a b)) false) (by rw[Ap hke])) fun r σ h=>h.1
end Go.Gl
namespace Go.Gl
open Go.Proofs
abbrev fv:AY:=(.seq [0,3] (.DJ [⟨(some 3),.Qj (.t 1),none⟩,
 ⟨(some 4),.mv (.c .pn),none⟩])
 (.seq [0,3,5,6] (.HM [0,3,5,6] [⟨0,⟨(some 8),.mv (.t 0),none⟩,[],[]⟩,
  ⟨1,⟨(some 9),.IZ (.t 8),none⟩,[],[]⟩,
  ⟨2,⟨(some 10),.Gc 1 (.t 9),none⟩,[],[]⟩,
  ⟨3,⟨(some 11),.load none (.t 10),none⟩,[],[]⟩,
  ⟨4,⟨(some 12),.load (some 4) (.t 3),none⟩,[],[]⟩,
  ⟨5,⟨(some 13),.lookup (.a [.i64,.i64,.i64,.i64]) .pn true (.t 11) (.t 12),none⟩,[],[]⟩,
  ⟨6,⟨(some 7),.mv (.t 13),none⟩,[],[]⟩,
  ⟨7,⟨(some 14),.extract 0 (.t 7),none⟩,[],[]⟩,
  ⟨8,⟨(some 15),.extract 1 (.t 7),none⟩,[],[]⟩,
  ⟨9,⟨(some 5),.mv (.t 14),none⟩,[],[]⟩,
  ⟨10,⟨(some 6),.mv (.t 15),none⟩,[],[]⟩])
 (.seq [5] (.seq [0,3,5,17] (.DJ [⟨(some 16),.mv (.t 6),none⟩,
  ⟨(some 17),.not (.t 16),none⟩])
 (.cond (.t 17)
 (.seq [0,3,5] (.DJ [⟨(some 18),.build [(.i .i64 0),(.i .i64 0),(.l [] true)] [(0,1,(.c (.i .i64 (-1000000000)))),(1,1,(.c (.i .i64 1000000000)))],none⟩,
  ⟨(some 19),.build [(.i .i64 0),(.i .i64 0),(.l [] true),(.i .u64 0),(.i .u64 0),(.b false),(.b false),(.l [] true)] [(0,3,(.t 18))],none⟩,
  ⟨(some 20),.box (.t 19),none⟩,
  ⟨(some 5),.mv (.t 20),none⟩])
 (.HM [5] [⟨0,⟨(some 21),.mv (.t 0),none⟩,[],[]⟩,
  ⟨1,⟨(some 22),.IZ (.t 21),none⟩,[],[]⟩,
  ⟨2,⟨(some 23),.Gc 1 (.t 22),none⟩,[],[]⟩,
  ⟨3,⟨(some 24),.load none (.t 23),none⟩,[],[]⟩,
  ⟨4,⟨(some 25),.load (some 4) (.t 3),none⟩,[],[]⟩,
  ⟨5,⟨(some 26),.mv (.t 5),none⟩,[],[]⟩,
  ⟨6,⟨none,.Es (.a [.i64,.i64,.i64,.i64]) (.t 24) (.t 25) (.t 26),none⟩,[],[]⟩]))
 .skip))
 (.seq [4] (.DJ [⟨(some 27),.mv (.t 5),none⟩,
  ⟨(some 4),.mv (.t 27),none⟩])
 .ret))))
def ke:Tryz.f198.body.bind (res Tryz.prog Tryz.f198.ntmps [] [3])=some (erase fv):=by kernel_rfl
def mX {args:List V} (hn:args.length≤28) {σ:AH} {Q:R→AH→Prop} (h:W Tryz.prog fv (kC [4] Q) (BD 0 args) σ):BC Tryz.prog 198 args σ Q:=
 QN Tryz.func198 (by kernel_rfl) ke rfl hn (nE h)
end Go.Gl
namespace Go.Gl
open Go.Proofs
attribute [local irreducible] BC Aw Ai AV AM Ah AU AW AN Ag AQ AS A3 BA Sat Ab A8 Ak W
abbrev UE (w:AL) (us:List Nat) (L:Nat):V:= .rp [.rp (wC w us),.m L]
def Qf (es es':List C6):Prop:= ∃new:List C6,es'=es++new∧ ∀x∈new,x.k=k0
def Qf.refl (es:List C6):Qf es es:=⟨[],by simp,by simp⟩
def Qf.trans {a b c:List C6} (h1:Qf a b) (h2:Qf b c):Qf a c:=by
 obtain⟨x,rfl,hx⟩:=h1;obtain⟨y,rfl,hy⟩:=h2;refine⟨x++y,by simp,fun z hz=>?_⟩;rcases E7.1 hz with h|h
 ·exact hx z h
 ·exact hy z h
def Qf.mem {a b:List C6} (h:Qf a b) {e:C6} (he:e∈a):e∈b:=by
 obtain⟨x,rfl,_⟩:=h;exact Qw _ he
structure pK (kf:Int→List Int→Kn) (es es':List C6) (a:Int) (p:List Int) (e:C6):Prop where
 inv:D1 kf es'
 ext:Qf es es'
 mem:e∈es'
 is:e.is a p=true
def pK.k {kf:Int→List Int→Kn} {es es':List C6} {a:Int} {p:List Int} {e:C6} (h:pK kf es es' a p e):e.k=kf a p:=by
 have:=h.inv.val e h.mem;obtain⟨h1,h2⟩:=KX.1 h.is;rw[this,h1,h2]
def S9 {σ:AH} {l:List At} (h:Sat σ l) (i:Nat) {n:Nat} {kvs:List (V×V)} {ks:KS} {z vk:V} {ok:Bool} {o:Option V} (hi:l[i]? =some (.map n kvs)) (hk:BX ks vk=true) (hks: ∀kv∈kvs,BX ks kv.1=true) (hf:Cj vk kvs=o) {K:V→Prop} (h':K (found z ok o)) :
    AQ σ ks z ok (.m n) vk K:=Ja h i hi hk hks (hf ▸ h')
def LN (w:AL) (us:List Nat) {kf:Int→List Int→Kn} {L:Nat} {es:List C6} (h:D1 kf es) {a:Int} {p:List Int} (hp:p.length≤2) :
    Bj Tryz.prog 198 [UE w us L,Eb a p] (CI L es) fun r post=> ∃es' e,pK kf es es' a p e∧r= .ret (.p e.b 0)∧post=CI L es':=by
 intro σ hs;refine mX kZ ?_;unfold CI at hs;rcases nU a p es with hn|⟨pre,e,post,rfl,he,hpre⟩
 ·have hf:=VP hp h.len hn
  conv=>whnf
  repeat'((first|apply st|(apply sq;intro K U)|(apply si;intro A B Y Z)|(apply Y;clear Z B Y A)|(apply U;clear U K)|apply dr|refine⟨kZ,?_⟩|refine HK ?_|refine S9 hs 0 rfl rfl (PS _) hf ?_|refine JZ hs 1 rfl rfl (PS _) fun σ hs=>?_|(intro nn hnn;generalize hg:A0 _ nn _=σ;refine CZ hg fun hs=>?_;clear hg)|fail)<;>conv=>whnf)
  simp only[List.set_cons_succ,List.set_cons_zero]at hs;change Sat σ (_:: .map L (De (Eb a p) (.p nn 0) (We es))::_)at hs;rw[ez hp nn (.l [] true) (.l [] true) k0 h.len hn]at hs;have hs2:=DA (DA hs 1) 1;refine AX ⟨_,⟨es++[⟨a,p,nn,.l [] true,.l [] true,k0⟩],⟨a,p,nn,.l [] true,.l [] true,k0⟩,⟨h.add hp hn _ _ _,⟨_,rfl,by simp⟩,by simp,by simp[C6.is]⟩,rfl,rfl⟩,?_⟩;unfold CI;rw[List.flatMap_append,List.flatMap_cons,List.flatMap_nil,Im];refine hs2.perm ((List.perm_middle (l₁:=[_,_,_])).trans (.cons _ (Qu.trans (List.Perm.append_left _ (List.reverse_perm _).symm))))
 ·have hf:=VO hp he h.len hpre
  conv=>whnf
  repeat'((first|apply st|(apply sq;intro K U)|(apply si;intro A B Y Z)|(apply Y;clear Z B Y A)|(apply U;clear U K)|apply dr|refine⟨kZ,?_⟩|refine FP ?_|refine S9 hs 0 rfl rfl (PS _) hf ?_|fail)<;>conv=>whnf)
  exact AX ⟨_,⟨_,e,⟨h,.refl _,by simp,he⟩,rfl,rfl⟩,hs⟩
def OO (a:Int) (p:List Int) (s:Int) (hp:p.length<2):Pure Tryz.prog 199 [Eb a p,eI s] (Eb a (p++[s])):=by
 refine td kZ ?_;have hs:=Sn
 match p,hp with
 | [],_=>
   conv=>whnf
   repeat'((first|apply st|(apply sq;intro K U)|(apply si;intro A B Y Z)|(apply Y;clear Z B Y A)|(apply U;clear U K)|refine⟨rfl,?_⟩|refine⟨kZ,?_⟩|refine Wf ?_|refine ld ?_|refine GV fun σ hs=>?_|refine Cw fun σ hs=>?_|(intro nn hnn;generalize hg:A0 _ nn _=σ;refine CZ hg fun hs=>?_;clear hg)|fail)<;>conv=>whnf)
   all_goals exact AI rfl
 | [x],_=>
   conv=>whnf
   repeat'((first|apply st|(apply sq;intro K U)|(apply si;intro A B Y Z)|(apply Y;clear Z B Y A)|(apply U;clear U K)|refine⟨rfl,?_⟩|refine⟨kZ,?_⟩|refine Wf ?_|refine ld ?_|refine GV fun σ hs=>?_|refine Cw fun σ hs=>?_|(intro nn hnn;generalize hg:A0 _ nn _=σ;refine CZ hg fun hs=>?_;clear hg)|fail)<;>conv=>whnf)
   all_goals exact AI rfl
set_option maxHeartbeats 1000000 in
def uc {b:Nat} {vn vs:V} {k:Kn} (f:Fact) (c:Bool) (hl:f.op=2∨f.op=3∨f.op=4) (hc:f.op=2→0≤f.cls∧f.cls<64) (hm:k.CE<18446744073709551616) (hn:k.Ga<18446744073709551616) (hno:k.no.length<1000000) (hN: -1000000000≤f.n∧f.n≤1000000000) :
    Bj Tryz.prog 269 [.p b 0,.a (xF f++[.b c])] (pC b vn vs k) fun r post=>r= .ret (.t [])∧ ∃vn',post=pC b vn' vs (Cu k f c):=by
 intro σ hs;have hM:=Mx;refine sw kZ ?_;rw[show xF f++[V.b c]= [eI f.op,eI f.arg,.l (iL f.path) false,eI f.cls,eI f.n,.l (f.kids.map Ge) false,.b c] from rfl];have hw:IntKind.i64.wrap (f.n - 1)=f.n - 1:=wrap64 (by omega) (by omega);cases c<;>rcases hl with h2|h3|h4
 ·have hE:Cu k f false= {k with CE:=k.CE|||2 ^ f.cls.toNat}:=by rw[Cu,if_pos h2,if_neg Bool.false_ne_true]
  rw[hE]
  conv=>whnf
  repeat'((first|apply st|(apply sq;intro K U)|(apply si;intro A B Y Z)|(apply Y;clear Z B Y A)|(apply U;clear U K)|apply dr|refine⟨rfl,?_⟩|refine ld ?_|refine GV fun σ hs=>?_|refine FP ?_|refine Pure.use (HX _ _ hm (by omega) (by omega)) ?_|(constructor<;>intro hc<;>(try rw[hc])<;>(replace hc:=bp hc)<;>try(exfalso;omega))|fail)<;>conv=>whnf)
  exact AX ⟨_,⟨rfl,vn,rfl⟩,hs⟩
 ·have hE:Cu k f false= {k with high:=if f.n - 1<k.high then f.n - 1 else k.high,whole:=true}:=by rw[Cu,if_neg (by omega),if_pos h3,if_neg Bool.false_ne_true]
  rw[hE]
  conv=>whnf
  repeat'((first|apply st|(apply sq;intro K U)|(apply si;intro A B Y Z)|(apply Y;clear Z B Y A)|(apply U;clear U K)|apply dr|refine⟨rfl,?_⟩|refine ld ?_|refine GV fun σ hs=>?_|refine FP ?_|(constructor<;>intro hc<;>(try rw[hc])<;>(replace hc:=bp hc)<;>try(exfalso;omega))|fail)<;>conv=>whnf)
  rw[hw]at hs;exact AX ⟨_,⟨rfl,vn,rfl⟩,hs⟩
 ·have hE:Cu k f false= {k with low:=if f.n > k.low then f.n else k.low,high:=if f.n<k.high then f.n else k.high,whole:=true}:=by rw[Cu,if_neg (by omega),if_neg (by omega),if_neg Bool.false_ne_true]
  rw[hE]
  conv=>whnf
  repeat'((first|apply st|(apply sq;intro K U)|(apply si;intro A B Y Z)|(apply Y;clear Z B Y A)|(apply U;clear U K)|apply dr|refine rk ?_ ?_|exact fun s e=>by cases e;rfl|refine⟨rfl,?_⟩|refine ld ?_|refine GV fun σ hs=>?_|(constructor<;>intro hc<;>(try rw[hc])<;>(replace hc:=bp hc)<;>try(exfalso;omega))|fail)<;>conv=>whnf)
  exact AX ⟨_,⟨rfl,vn,rfl⟩,hs⟩
 ·have hE:Cu k f true= {k with Ga:=k.Ga|||2 ^ f.cls.toNat}:=by rw[Cu,if_pos h2,if_pos rfl]
  rw[hE]
  conv=>whnf
  repeat'((first|apply st|(apply sq;intro K U)|(apply si;intro A B Y Z)|(apply Y;clear Z B Y A)|(apply U;clear U K)|apply dr|refine⟨rfl,?_⟩|refine ld ?_|refine GV fun σ hs=>?_|refine HK ?_|refine Pure.use (HX _ _ hn (by omega) (by omega)) ?_|(constructor<;>intro hc<;>(try rw[hc])<;>(replace hc:=bp hc)<;>try(exfalso;omega))|fail)<;>conv=>whnf)
  exact AX ⟨_,⟨rfl,vn,rfl⟩,hs⟩
 ·have hE:Cu k f true= {k with low:=if f.n > k.low then f.n else k.low}:=by rw[Cu,if_neg (by omega),if_pos h3,if_pos rfl]
  rw[hE]
  conv=>whnf
  repeat'((first|apply st|(apply sq;intro K U)|(apply si;intro A B Y Z)|(apply Y;clear Z B Y A)|(apply U;clear U K)|apply dr|refine⟨rfl,?_⟩|refine ld ?_|refine GV fun σ hs=>?_|refine HK ?_|(constructor<;>intro hc<;>(try rw[hc])<;>(replace hc:=bp hc)<;>try(exfalso;omega))|fail)<;>conv=>whnf)
  exact AX ⟨_,⟨rfl,vn,rfl⟩,hs⟩
 ·have hE:Cu k f true= {k with no:=k.no++[f.n]}:=by rw[Cu,if_neg (by omega),if_neg (by omega),if_pos rfl]
  rw[hE]
  conv=>whnf
  repeat'((first|apply st|(apply sq;intro K U)|(apply si;intro A B Y Z)|(apply Y;clear Z B Y A)|(apply U;clear U K)|apply dr|refine⟨rfl,?_⟩|refine ld ?_|refine GV fun σ hs=>?_|refine aq fun v σ hs hsl=>?_|(constructor<;>intro hc<;>(try rw[hc])<;>(replace hc:=bp hc)<;>try(exfalso;omega))|fail)<;>conv=>whnf)
  exact AX ⟨_,⟨rfl,_,rfl⟩,hs⟩
def HS {σ:AH} {X:List At} {L:Nat} {pre post:List C6} {e:C6} (h:Sat σ (X++CI L (pre++e::post))):Sat σ (.box e.b [eI e.k.low,eI e.k.high,e.vn,eU e.k.CE,eU e.k.Ga,.b e.k.whole,.b e.k.A6,e.vs]:: .own e.vn 1 (iL e.k.no):: .own e.vs 1 (iL e.k.AJ)::(X++HQ L (pre++e::post) pre post)):=by
 have h2:Sat σ (Uk e++(X++HQ L (pre++e::post) pre post)):=h.perm ((List.Perm.append_left X (VS L pre post e)).trans (by rw[←Wd,←Wd];exact Qu.append_right _));exact h2
def ET {σ:AH} {X:List At} {L:Nat} {pre post:List C6} {e e':C6} (h1:e'.a=e.a) (h2:e'.p=e.p) (h3:e'.b=e.b) (h:Sat σ (Uk e'++(X++HQ L (pre++e::post) pre post))):Sat σ (X++CI L (pre++e'::post)):=by
 rw[←Tt h1 h2 h3]at h;exact h.perm ((List.Perm.append_left X (VS L pre post e')).trans (by rw[←Wd,←Wd];exact Qu.append_right _)).symm
def LF {α:Type} (a b c:α) (l:List α):(a::b::c::l).Perm (b::c::a::l):=(List.Perm.swap _ _ _).trans (.cons _ (.swap _ _ _))
def NA {α:Type} (a:α) (l:List α):(a::l).Perm (l++[a]):=(List.perm_append_singleton a l).symm
def nC (m:Nat) (k:Kn):Prop:=k.CE<18446744073709551616∧k.Ga<18446744073709551616∧k.no.length≤m∧k.AJ.length≤m
def lS (f:Fact) (c:Bool) (j:Nat) (a:Int) (p:List Int) (k:Kn):(Df f c j a p k).CE=k.CE:=by unfold Df;(repeat' split)<;>rfl
def qb (f:Fact) (c:Bool) (j:Nat) (a:Int) (p:List Int) (k:Kn):(Df f c j a p k).Ga=k.Ga:=by unfold Df;(repeat' split)<;>rfl
def wR (f:Fact) (c:Bool) (j:Nat) (a:Int) (p:List Int) (k:Kn):(Df f c j a p k).no=k.no:=by unfold Df;(repeat' split)<;>rfl
def iH (f:Fact) (c:Bool) (j:Nat) (a:Int) (p:List Int) (k:Kn):(Df f c j a p k).AJ.length≤k.AJ.length+1:=by
 unfold Df
 repeat' split
 ·exact SZ _ _
 all_goals simp[Dp]
def wQ {m:Nat} {k:Kn} (h:nC m k) (f:Fact) (c:Bool) (j:Nat) (a:Int) (p:List Int):nC (m+1) (Df f c j a p k):=by
 obtain⟨h1,h2,h3,h4⟩:=h;refine⟨by rw[lS];exact h1,by rw[qb];exact h2,by rw[wR];omega,?_⟩;have:=iH f c j a p k;omega
def Ru {k:Kn} (c:Bool) (h:k.A6=true):Dp k c= {k with A6:=true}:=by simp[Dp,h]
def P4 {k:Kn} (c:Bool) (h:k.A6=false):Dp k c= {k with A6:= !c}:=by simp[Dp,h]
abbrev K3 (a:Int) (p:List Int):List V:=[eI a,eI (p.length:Int),eI (p.getD 0 0),eI (p.getD 1 0)]
structure eE (f:Fact):Prop where
 op:f.op=2∨f.op=3∨f.op=4
 path:f.path.length≤2
 cls:f.op=2→0≤f.cls∧f.cls<64
 n: -1000000000≤f.n∧f.n≤1000000000
set_option maxHeartbeats 2000000 in
def m8 (w : AL) (us:List Nat) {kf:Int→List Int→Kn} {L:Nat} {es:List C6} (h:D1 kf es) (f:Fact) (c:Bool) (hl:eE f) {m:Nat} (hm:m<1000) (hb: ∀a p,nC m (kf a p)) :
    Bj Tryz.prog 193 [UE w us L,.a (xF f++[.b c])] (CI L es) fun r post=>r= .ret (.t [])∧ ∃es',D1 (fun a p=>if a=f.arg∧p=f.path then Cu (Df f c f.path.length a p (kf a p)) f c else Df f c f.path.length a p (kf a p)) es'∧post=CI L es':=by
 intro σ hs;have hM:=Mx;obtain⟨l1,l2,l3,l4⟩:=hl;refine th kZ ?_;rw[show xF f++[V.b c]= [eI f.op,eI f.arg,.l (iL f.path) false,eI f.cls,eI f.n,.l (f.kids.map Ge) false,.b c] from rfl]
 conv=>whnf
 repeat'((first|apply st|(apply sq;intro K U)|(apply si;intro A B Y Z)|(apply Y;clear Z B Y A)|(apply U;clear U K)|refine⟨kZ,?_⟩|refine ld ?_|refine Cw fun σ hs=>?_|(intro nn hnn;generalize hg:A0 _ nn _=σ;refine CZ hg fun hs=>?_;clear hg)|fail)<;>conv=>whnf)
 generalize nn=nx at *;refine(LN w us h (a:=f.arg) (p:=[]) (by simp)).use (rest:=[.box nx (K3 f.arg [])]) (hs.perm (NA _ _)) ?_;clear hs hnn;rintro r post σ ⟨es1,e1,got,rfl,rfl⟩ hs;have hek:=got.k;obtain⟨hea,hep⟩:=KX.1 got.is;obtain⟨pre,post,rfl⟩:=List.append_of_mem got.mem;replace hs:=HS (X:=[.box nx (K3 f.arg [])]) (hs.perm Qu);cases hnd:e1.k.A6<;>rw[hnd]at hs
 all_goals
  conv=>whnf
  repeat'((first|apply st|(apply sq;intro K U)|(apply si;intro A B Y Z)|(apply Y;clear Z B Y A)|(apply U;clear U K)|refine ld ?_|refine GV fun σ hs=>?_|fail)<;>conv=>whnf)
  obtain⟨e2,es2,Y,Z,hC⟩: ∃(e2:C6) (es2:List C6),(D1 (fun a p=>Df f c 0 a p (kf a p)) es2∧e2∈es2∧e2.is f.arg (f.path.take 0)=true)∧e2.b=e1.b∧Sat σ (.box nx (K3 f.arg (f.path.take 0))::CI L es2):=by
   refine⟨⟨e1.a,e1.p,e1.b,e1.vn,e1.vs,Dp e1.k c⟩,_,⟨(got.inv.change e1.b e1.vn e1.vs (Dp e1.k c)).congr fun a p=>?_,Se _ (.head _),got.is⟩,rfl,?_⟩
   ·rw[lQ,UH,hea,hep,hek]
    by_cases ha:a=f.arg∧p= []
    ·rw[if_pos ha,if_pos ha,ha.1,ha.2]
    ·rw[if_neg ha,if_neg ha]
   ·refine ET (X:=[.box nx (K3 f.arg [])]) (e:=e1) rfl rfl rfl ?_
    first
     | (rw[Ru c hnd];exact hs)
     | (rw[P4 c hnd];exact hs)
  rw[←Z];clear hs hnd got hek hea hep;refine CA f.path.length (fun j (x:List C6×C6)=>[(31,eI (BG j)),(5,.p x.2.b 0)]) (fun j x=> .box nx (K3 f.arg (f.path.take j))::CI L x.1) (fun j x=>D1 (fun a p=>Df f c j a p (kf a p)) x.1∧x.2∈x.1∧x.2.is f.arg (f.path.take j)=true) (es2,e2) rfl Y hC ?_;clear Y hC;generalize e2.b=b0 at *;clear Z e2 es2;rintro j ⟨es2,e2⟩ σ hj ⟨hinv,hmem,his⟩ hs;simp only at hinv hmem his hs
  have hek:e2.k=Df f c j f.arg (f.path.take j) (kf f.arg (f.path.take j)):=by
   have:=hinv.val e2 hmem;obtain⟨h1,h2⟩:=KX.1 his;rw[this,h1,h2]
  have hok:nC (m+1) e2.k:=by rw[hek];exact wQ (hb _ _) f c j _ _
  obtain⟨hea,hep⟩:=KX.1 his;obtain⟨pre2,post2,rfl⟩:=List.append_of_mem hmem;replace hs:=HS (X:=[.box nx (K3 f.arg (f.path.take j))]) hs;have hck:BG j=j:=AK (by omega);rcases BI f.path hj with⟨s,hsj,hjlt⟩|hje
  ·have hct:=fun b=>C1 e2.k.AJ b s
   have hk4:=hok.2.2.2;have hsl0:jU e2.k s= {e2.k with AJ:=JC e2.k.AJ s}:=rfl
   have hne:f.path.take j++[s]≠f.path.take j:=by
    intro e;have:=congrArg List.length e;simp at this
   have hgd:f.path.getD j 0=s:=by rw[DZ,hsj];rfl
   have htk:f.path.take (j+1)=f.path.take j++[s]:=AO hsj;cases hcB:e2.k.AJ.contains s
   all_goals
    rw[hcB]at hct
    conv=>whnf
    repeat'((first|apply st|(apply sq;intro K U)|(apply si;intro A B Y Z)|(apply Y;clear Z B Y A)|(apply U;clear U K)|refine⟨rfl,?_⟩|refine⟨kZ,?_⟩|refine ix ?_|refine ld ?_|refine GV fun σ hs=>?_|refine Cw fun σ hs=>?_|refine aq fun v σ hs hsl=>?_|refine HK ?_|refine FP ?_|(refine CU (fun hc=>?_)<;>(try rw[hc])<;>clear hc)|refine Pure.aH (hct false) (.cons (hs.GX 2 rfl) (.cons (.refl _) .nil)) rfl ?_|refine Pure.use (OO f.arg (f.path.take j) s (by rw[K1];omega)) ?_|fail)<;>conv=>whnf)
   refine(dg (.inl hsl)).use (rest:=_) (hs.front (j:=2) rfl) ?_;clear hs;rintro r post σ ⟨rfl,rfl⟩ hs;replace hs:Sat σ (.box e2.b [eI e2.k.low,eI e2.k.high,e2.vn,eU e2.k.CE,eU e2.k.Ga,.b e2.k.whole,.b e2.k.A6,v]:: .own e2.vn 1 (iL e2.k.no):: .own v 1 (iL ((e2.k.AJ++[s]).mergeSort HF))::([.box nx (K3 f.arg (f.path.take j))]++HQ L (pre2++e2::post2) pre2 post2)):=hs.perm (LF _ _ _ _)
   conv=>whnf
   repeat'((first|(apply sq;intro K U)|(apply si;intro A B Y Z)|(apply Y;clear Z B Y A)|(apply U;clear U K)|refine⟨kZ,?_⟩|refine ld ?_|refine Cw fun σ hs=>?_|refine Pure.use (OO f.arg (f.path.take j) s (by rw[K1];omega)) ?_|fail)<;>conv=>whnf)
   have hs3: ∃vs3,Sat σ (.box nx (K3 f.arg (f.path.take j++[s]))::CI L (pre2++⟨e2.a,e2.p,e2.b,e2.vn,vs3,jU e2.k s⟩::post2)):=⟨v,ET (X:=[_]) (e:=e2) rfl rfl rfl (by rw[hsl0,JC,if_neg (by rw[hcB];decide)];exact hs)⟩
   rotate_left
   have hs3: ∃vs3,Sat σ (.box nx (K3 f.arg (f.path.take j++[s]))::CI L (pre2++⟨e2.a,e2.p,e2.b,e2.vn,vs3,jU e2.k s⟩::post2)):=⟨e2.vs,ET (X:=[_]) (e:=e2) rfl rfl rfl (by rw[hsl0,JC,if_pos hcB];exact hs)⟩
   all_goals
    clear hs;obtain⟨vs3,hs⟩:=hs3;have hinv3:=hinv.change e2.b e2.vn vs3 (jU e2.k s);refine(LN w us hinv3 (a:=f.arg) (p:=f.path.take j++[s]) (by rw[Qv,K1];simp;omega)).use (rest:=[.box nx (K3 f.arg (f.path.take j++[s]))]) (hs.perm (NA _ _)) ?_;clear hs;rintro r post σ ⟨es4,e4,got,rfl,rfl⟩ hs;have hek4:=got.k;obtain⟨hea4,hep4⟩:=KX.1 got.is;obtain⟨pre4,post4,rfl⟩:=List.append_of_mem got.mem;replace hs:=HS (X:=[.box nx (K3 f.arg (f.path.take j++[s]))]) (hs.perm Qu);cases hnd:e4.k.A6<;>rw[hnd]at hs
    all_goals
     conv=>whnf
     repeat'((first|apply st|(apply si;intro A B Y Z)|(apply Y;clear Z B Y A)|(apply U;clear U K)|refine⟨rfl,?_⟩|refine ld ?_|refine GV fun σ hs=>?_|clear U K)<;>conv=>whnf)
     refine⟨hjlt,(pre4++⟨e4.a,e4.p,e4.b,e4.vn,e4.vs,Dp e4.k c⟩::post4,⟨e4.a,e4.p,e4.b,e4.vn,e4.vs,Dp e4.k c⟩),rfl,⟨(got.inv.change e4.b e4.vn e4.vs (Dp e4.k c)).congr fun a p=>?_,Se _ (.head _),by rw[htk];exact got.is⟩,?_⟩
     ·rw[lR f c hjlt,UH,hea4,hep4,htk,hgd]
      by_cases h1:a=f.arg∧p=f.path.take j++[s]
      ·rw[if_pos h1,if_pos h1,hek4,UH,hea,hep,if_neg (fun h=>hne h.2),h1.1,h1.2]
      ·rw[if_neg h1,if_neg h1,UH,hea,hep]
       by_cases h2:a=f.arg∧p=f.path.take j
       ·rw[if_pos h2,if_pos h2,hek,h2.1,h2.2]
       ·rw[if_neg h2,if_neg h2]
     ·rw[htk]
      refine ET (X:=[.box nx (K3 f.arg (f.path.take j++[s]))]) (e:=e4) rfl rfl rfl ?_
      first
       | (rw[Ru c hnd];exact hs)
       | (rw[P4 c hnd];exact hs)
  ·have etk:f.path.take j=f.path:=Ap hje
   rw[etk]at his hs hek hep
   conv=>whnf
   repeat'((first|apply st|(apply sq;intro K U)|(apply si;intro A B Y Z)|(apply Y;clear Z B Y A)|(apply U;clear U K)|refine⟨rfl,?_⟩|refine⟨kZ,?_⟩|(refine Dl (fun hc=>?_)<;>(try rw[hc])<;>clear hc)|clear U K)<;>conv=>whnf)
   refine(uc f c l1 l3 hok.1 hok.2.1 (by have:=hok.2.2.1;omega) l4).use (rest:=[.box nx (K3 f.arg f.path)]++HQ L (pre2++e2::post2) pre2 post2) hs ?_;rintro r post σ ⟨rfl,vn',rfl⟩ hs
   conv=>whnf
   repeat'((first|(apply Y;clear Z B Y A)|fail)<;>conv=>whnf)
   refine AX ⟨_,⟨rfl,_,(hinv.change e2.b vn' e2.vs (Cu e2.k f c)).congr fun a p=>?_,rfl⟩,(ET (X:=[.box nx (K3 f.arg f.path)]) (e:=e2) (e':=⟨e2.a,e2.p,e2.b,vn',e2.vs,Cu e2.k f c⟩) rfl rfl rfl hs).less (Jz _ _)⟩;rw[UH,hea,hep,hek,←hje];by_cases h1:a=f.arg∧p=f.path
   ·rw[if_pos h1,if_pos h1,h1.1,h1.2]
   ·rw[if_neg h1,if_neg h1]
def uh (w:AL) (us:List Nat) {kf:Int→List Int→Kn} {L:Nat} {es:List C6} (h:D1 kf es) (l:Fact) (hl:eE (Az l).1) {m:Nat} (hm:m<1000) (hb: ∀a p,nC m (kf a p)) :
    Bj Tryz.prog 193 [UE w us L,.a (KI l)] (CI L es) fun r post=>r= .ret (.t [])∧ ∃es',D1 (fun a p=>DH a p (kf a p) l) es'∧post=CI L es':=fun σ hs=>
 BC.mono (m8 w us h (Az l).1 (Az l).2 hl hm hb σ hs) fun r σ' ⟨post,⟨h1,es',h2,h3⟩,h4⟩=>⟨post,⟨h1,es',h2.congr fun a p=>(qc a p (kf a p) l).symm,h3⟩,h4⟩
def XQ (ls:List Fact):Prop:= ∀l∈ls,eE (Az l).1
def fA {ls:List Fact} (h:XQ ls) (a:Int) (p:List Int):nC ls.length (kn ls a p):=by
 have hc:I0 64 ls:=fun l hl ho=>(h l hl).cls ho
 obtain⟨h1,h2⟩:=lU hc a p;obtain⟨h3,h4⟩:=fB a p ls k0;exact⟨by simpa using h1,by simpa using h2,by simpa[kn,k0]using h3,by simpa[kn,k0]using h4⟩
def yI:D1 (kn []) []:=⟨fun x hx=>(by cases hx),fun a p _=>rfl,.nil,fun x hx=>(by cases hx)⟩
set_option maxHeartbeats 1000000 in
def gU (w:AL) (us:List Nat) (ls:List Fact) (b:Bool) (h:XQ ls) (hlen:ls.length<900) :
    Bj Tryz.prog 128 [.rp (wC w us),.l (FA ls) b] [] fun r post=> ∃L es,r= .ret (UE w us L)∧D1 (kn ls) es∧post=CI L es:=by
 intro σ hs;have hM:=Mx;refine uN kZ ?_
 conv=>whnf
 repeat'((first|apply st|(apply sq;intro K U)|(apply si;intro A B Y Z)|(apply Y;clear Z B Y A)|(apply U;clear U K)|(intro nn hnn;generalize hg:A0 _ nn _=σ;refine CZ hg fun hs=>?_;clear hg)|fail)<;>conv=>whnf)
 generalize nn=L at *;refine CA ls.length (fun k (x:List C6)=>[(14,eI (BG k))]) (fun k x=>CI L x) (fun k x=>D1 (kn (ls.take k)) x) [] rfl yI hs ?_;clear hs hnn;rintro k es σ hk hinv hs;rcases BI ls hk with⟨l,hlk,hlt⟩|hke
 ·have hlm:l∈ls:=B9 hlk
  have htk:ls.take (k+1)=ls.take k++[l]:=AO hlk;have hbk: ∀a p,nC (ls.take k).length (kn (ls.take k) a p):=fA fun x hx=>h x (List.mem_of_mem_take hx)
  conv=>whnf
  repeat'((first|apply st|(apply sq;intro K U)|(apply si;intro A B Y Z)|(apply Y;clear Z B Y A)|(apply U;clear U K)|refine⟨rfl,?_⟩|refine⟨kZ,?_⟩|refine ix ?_|refine ld ?_|refine Cw fun σ hs=>?_|(refine CU (fun hc=>?_)<;>(try rw[hc])<;>clear hc)|(intro nn hnn;generalize hg:A0 _ nn _=σ;refine CZ hg fun hs=>?_;clear hg)|fail)<;>conv=>whnf)
  rename_i nb hnb _ hs;generalize nn=n7 at *;refine(uh w us hinv l (h l hlm) (m:=(ls.take k).length) (by rw[K1];omega) hbk).use (rest:=[.box n7 (KI l)]) (hs.perm (NA _ _)) ?_;clear hs;rintro r post σ ⟨rfl,es',hinv',rfl⟩ hs
  conv=>whnf
  repeat'((first|(apply si;intro A B Y Z)|(apply Y;clear Z B Y A)|(apply U;clear U K)|refine⟨rfl,?_⟩|clear U K)<;>conv=>whnf)
  refine⟨hlt,es',rfl,?_,hs.less (List.sublist_append_left _ _)⟩;rw[htk];exact hinv'.congr fun a p=>(lT _ _ _ _).symm
 ·have etk:ls.take k=ls:=Ap hke
  rw[etk]at hinv
  conv=>whnf
  repeat'((first|apply st|(apply sq;intro K U)|(apply si;intro A B Y Z)|(apply Y;clear Z B Y A)|(apply U;clear U K)|refine⟨rfl,?_⟩|(refine Dl (fun hc=>?_)<;>(try rw[hc])<;>clear hc)|clear U K)<;>conv=>whnf)
  exact AX ⟨_,⟨L,es,rfl,hinv,rfl⟩,hs⟩
end Go.Gl
