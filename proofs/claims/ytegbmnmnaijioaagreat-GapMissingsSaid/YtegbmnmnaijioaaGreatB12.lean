import Derived.Test.YtegbmnmnaijioaaGreatProg
import Derived.KernelRfl
import Derived.Test.YtegbmnmnaijioaaGreatB6
import Derived.Test.YtegbmnmnaijioaaGreatB11
set_option linter.all false
set_option linter.defProp false
noncomputable section
namespace Go.Gl
def UM (g:List (List Int)) (k:Nat): ∀(m d:Nat),d<3+k→(Cc g (k+m)).getD d 0=(Cc g k).getD d 0
 | 0,d,_=>rfl
 | m+1,d,h=>by
   rw[show k+(m+1)=k+m+1 from rfl,Cc,←UM g k m d h];rw[E2,kY (by rw[Fm];omega),←E2]
def UN (us:List Nat) (b:Nat): ∀(l:List Int) (s:Nat),(Vw us l s).testBit b=(s.testBit b||l.any fun c=>(us.getD c.toNat 0).testBit b)
 | [],s=>by simp[Vw]
 | c::r,s=>by
   have:=UN us b r (s|||us.getD c.toNat 0);rw[QH,←Bool.or_assoc,←Nat.testBit_or,←this];rfl
def dW {α:Type} (f:α→Bool) (b:Bool): ∀(l:List α),(b||l.any fun x=>b||f x)=(b||l.any f)
 | []=>rfl
 | x::r=>by
   have:=dW f b r;simp only[QH];cases b
   ·simpa using this
   ·rfl
def any_congr {α:Type} {f g:α→Bool}: ∀ {l:List α},(∀x∈l,f x=g x)→l.any f=l.any g
 | [],_=>rfl
 | x::r,h=>by
   rw[QH,QH,h x (.head _),any_congr fun y hy=>h y (.tail _ hy)]
def SX {g:List (List Int)} (ho:ordered g): ∀(k d b:Nat),k≤g.length→d<3+k→((Cc g k).getD d 0).testBit b=(b==0||Ja g d b)
 | 0,d,b,_,hd=>by
   have e:(Cc g 0).getD d 0=1|||2 ^ d:=by
    rcases d with _|_|_|d
    ·rfl
    ·rfl
    ·rfl
    ·omega
   rw[e,SM,F3 ho,par,if_pos (by omega),List.any_nil,Bool.or_false];rw[JZ];simp only[Gj,D4];omega
 | k + 1,d,b,hk,hd=>by
   by_cases hlt:d<3+k
   ·rw[UM g k 1 d hlt]
    exact SX ho k d b (by omega) hlt
   ·obtain rfl:d=3+k:=by omega
    have e:(Cc g (k+1)).getD (3+k) 0=Vw (Cc g k) (g.getD k []) (1|||2 ^ (3+k)):=by
     rw[Cc,E2,List.getElem?_append_right (by rw[Fm];omega),Fm,Nat.sub_self];rfl
    have hpar:par g (3+k)=g.getD k []:=by rw[par,if_neg (by omega),show 3+k - 3=k by omega]
    rw[e,UN,SM,F3 ho,hpar]
    have hc:((g.getD k []).any fun c=>((Cc g k).getD c.toNat 0).testBit b)=(g.getD k []).any fun p=>(b==0)||Ja g p.toNat b:=any_congr fun p hp=>by
     have:=ho (3+k) p (by rw[hpar];exact hp);exact SX ho k p.toNat b (by omega) (by omega)
    rw[hc];have e2:(b==3+k)=(3+k==b):=by rw[JZ];simp only[D4];omega
    rw[e2,Bool.or_assoc,Bool.or_left_comm,dW,Bool.or_left_comm]
def eF {g:List (List Int)} (ho:ordered g) {d b:Nat} (hd:d<3+g.length):((D5 g).getD d 0).testBit b=(b==0||Ja g d b):=SX ho g.length d b (He _) hd
def WG {g:List (List Int)} (ho:ordered g): ∀(d b:Nat),3≤d→Ja g d b=true→3≤b:=by
 intro d
 induction d using Nat.strongRecOn with
 | _ d ih=>
   intro b h3 h;rw[F3 ho]at h;simp only[Gj,D4,NO]at h;rcases h with rfl|⟨p,hp,h⟩
   ·exact h3
   ·have:=ho d p hp
    exact ih p.toNat (by omega) b (by omega) h
def DU (us:List Nat):Nat→Nat→Nat
 | 0,m=>m
 | k+1,m=>if(DU us k m).testBit (3+k)then DU us k m|||us.getD (3+k) 0 else DU us k m
def Pn {g : List (List Int)} (ho:ordered g) (m:Nat): ∀(k b:Nat),k≤g.length→((DU (D5 g) k m).testBit b=true↔m.testBit b=true∨ ∃d,3≤d∧d<3+k∧m.testBit d=true∧(b=0∨Ja g d b=true))
 | 0,b,_=>by
   rw[DU];exact⟨.inl,fun h=>h.elim id fun⟨d,h1,h2,_⟩=>by omega⟩
 | k + 1, b, hk=>by
   have ih:=Pn ho m k;rw[DU];split
   ·rename_i hc
    rw[Nat.testBit_or,Gj,ih b (by omega),eF ho (by omega),Gj,D4];rw[ih _ (by omega)]at hc;constructor
    ·rintro((h|⟨d,h1,h2,h3,h4⟩)|h)
     ·exact .inl h
     ·exact .inr ⟨d,h1,by omega,h3,h4⟩
     ·rcases hc with hc|⟨d,h1,h2,h3,h4⟩
      ·exact .inr ⟨3+k,by omega,by omega,hc,h⟩
      ·refine .inr ⟨d,h1,by omega,h3,?_⟩
       rcases h with h|h
       ·exact .inl h
       ·rcases h4 with h4|h4
        ·omega
        ·exact .inr (MH ho _ _ _ h4 h)
    ·rintro(h|⟨d,h1,h2,h3,h4⟩)
     ·exact .inl (.inl h)
     ·by_cases e:d=3+k
      ·subst e;exact .inr h4
      ·exact .inl (.inr ⟨d,h1,by omega,h3,h4⟩)
   ·rename_i hc
    rw[ih b (by omega)];constructor
    ·rintro(h|⟨d,h1,h2,h3,h4⟩)
     ·exact .inl h
     ·exact .inr ⟨d,h1,by omega,h3,h4⟩
    ·rintro(h|⟨d,h1,h2,h3,h4⟩)
     ·exact .inl h
     ·by_cases e:d=3+k
      ·subst e;exact absurd ((ih _ (by omega)).2 (.inl h3)) hc
      ·exact .inr ⟨d,h1,by omega,h3,h4⟩
def Jn: ∀(l:List Int) (bs:List Bool),(∀q∈l,0≤q∧q.toNat<bs.length)→ ∀b:Nat,(l.foldl (fun b q=>b.set q.toNat true) bs).getD b false=(bs.getD b false||l.contains (b:Int))
 | [],bs,_,b=>by simp
 | q ::r,bs,h,b=>by
   have hq:=h q (.head _);rw[List.foldl_cons,Jn r _ (fun x hx=>by rw[List.length_set];exact h x (.tail _ hx)),F8 hq.2,List.contains_cons];split
   ·rename_i e
    subst e;have:((q.toNat:Int)==q)=true:=by rw[D4];omega
    rw[this];simp
   ·rename_i e
    have:((b:Int)==q)=false:=by rw[beq_eq_false_iff_ne];omega
    rw[this,Bool.false_or]
def G1 {g:List (List Int)} (ho:ordered g) {c:Nat} {bs:List Bool} (hc:c≤bs.length) (b:Nat):(Hb g c bs).getD b false=(bs.getD b false||(bs.getD c false&&(par g c).contains (b:Int))):=by
 rw[Hb];split
 ·rename_i h
  rw[Jn _ _ (fun q hq=>by have:=ho c q hq;omega),h,I8]
 ·rename_i h
  have:bs.getD c false=false:=by simpa using h
  rw[this,Bool.false_and,Bool.or_false]
def H9 {g:List (List Int)} (ho:ordered g) {n:Nat} {S:List Bool} (hl:S.length=n): ∀(k b:Nat),(B5 g n k S).getD b false=true→ ∃d,S.getD d false=true∧Ja g d b=true
 | 0,b,h=>⟨b,h,HL ho b⟩
 | k + 1,b,h=>by
   rw[B5,G1 ho (by rw[FD];omega),Gj,BU]at h;rcases h with h|⟨h1,h2⟩
   ·exact H9 ho hl k b h
   ·obtain⟨d,h3,h4⟩:=H9 ho hl k _ h1
    refine⟨d,h3,MH ho _ _ _ h4 ?_⟩;rw[F3 ho,Gj,NO];rw[List.contains_iff_mem]at h2;exact .inr ⟨_,h2,by rw[Lm];exact HL ho b⟩
def Vl {g:List (List Int)} (ho:ordered g) {n:Nat} {S:List Bool} (hl:S.length=n) (k b:Nat) (h:(B5 g n k S).getD b false=true):(B5 g n (k+1) S).getD b false=true:=by
 rw[B5,G1 ho (by rw[FD];omega),h];rfl
def NI {g:List (List Int)} (ho:ordered g) {n:Nat} {S:List Bool} (hl:S.length=n): ∀(k b:Nat),S.getD b false=true→(B5 g n k S).getD b false=true
 | 0,_,h=>h
 | k+1,b,h=>Vl ho hl k b (NI ho hl k b h)
def Jp {g:List (List Int)} (ho:ordered g) {n:Nat} {S:List Bool} (hl:S.length=n): ∀(k c:Nat),k≤n→n - k≤c→(B5 g n k S).getD c false=true→ ∀q∈par g c,(B5 g n k S).getD q.toNat false=true
 | 0,c,_,hc,h,q,hq=>by
   rw[B5,E2,List.getElem?_eq_none (by omega)]at h;cases h
 | k + 1,c,hk,hc,h,q,hq=>by
   rw[B5,G1 ho (by rw[FD];omega)]at h ⊢;have hoc:=ho c q hq;rw[Gj,BU]at h
   have hbase:(B5 g n k S).getD c false=true:=by
    rcases h with h|⟨-,h2⟩
    ·exact h
    ·rw[List.contains_iff_mem]at h2
     have:=ho _ _ h2;omega
   by_cases e:c=n - 1 - k
   ·subst e
    rw[hbase,I8,Gj,List.contains_iff_mem];exact .inr (by rw[show((q.toNat:Nat):Int)=q by omega];exact hq)
   ·rw[Jp ho hl k c (by omega) (by omega) hbase q hq];rfl
def XV {g:List (List Int)} (ho:ordered g) {S:List Bool} (hl:S.length=3+g.length) (b:Nat):(B5 g (3+g.length) g.length S).getD b false=true↔ ∃d,S.getD d false=true∧Ja g d b=true:=by
 refine⟨H9 ho hl _ b,?_⟩
 have key: ∀d,(B5 g (3+g.length) g.length S).getD d false=true→Ja g d b=true→(B5 g (3+g.length) g.length S).getD b false=true:=by
  intro d
  induction d using Nat.strongRecOn with
  | _ d ih=>
    intro h1 h2;rw[F3 ho,Gj,D4,NO]at h2;rcases h2 with rfl|⟨p,hp,h2⟩
    ·exact h1
    ·have hop:=ho d p hp
     refine ih p.toNat (by omega) (Jp ho hl g.length d (by omega) ?_ h1 p hp) h2;omega
 rintro⟨d,h1,h2⟩;exact key d (NI ho hl _ d h1) h2
def RB (n:Nat) (t:BB) (u:Nat×Nat):Prop:=
 t.1.length=n∧t.2.length=n∧(∀b,t.1.getD b false=u.1.testBit b)∧(∀b,b≠1→b≠2→t.2.getD b false=u.2.testBit b)∧u.1.testBit 1=false∧u.1.testBit 2=false
def GA (m c b:Nat):(m|||2 ^ c).testBit b=(m.testBit b||b==c):=by
 rw[Nat.testBit_or,Nat.testBit_two_pow];congr 1;rw[JZ];simp only[DZ,D4];omega
def Ng {l:List Bool} {m c:Nat} (hc:c<l.length) {b:Nat} (h:l.getD b false=m.testBit b):(l.set c true).getD b false=(m|||2 ^ c).testBit b:=by
 rw[F8 hc,GA,←h];split
 ·rename_i e;subst e;simp
 ·rename_i e
  have:(b==c)=false:=by simpa using e
  rw[this,Bool.or_false]
def Ru (x:Fact×Bool):Bool:= !x.2&&(!(x.1.op==2)||x.1.cls==1||x.1.cls==2)
def ZZ {n : Nat} {x:Fact×Bool} {t:BB} {k:Kn} (h:RB n t (k.B2,k.GQ)) (hc:x.1.op=2→0≤x.1.cls∧x.1.cls<n) :
    (Ru x=true→Ij x t=none)∧(Ru x=false→ ∃t',Ij x t=some t'∧RB n t' ((Cn k x.1 x.2).B2,(Cn k x.1 x.2).GQ)):=by
 obtain⟨f,c⟩:=x;simp only at hc;obtain⟨h1,h2,h3,h4,h5,h6⟩:=h;unfold Ru Ij Cn;simp only;by_cases ho:f.op=2
 ·have hc':=hc ho
  by_cases h12:f.cls=1∨f.cls=2
  ·rw[if_pos (.inr h12),if_pos ho]
   cases c with
   | true=>
     refine⟨fun h=>(by cases h),fun _=>⟨t,rfl,h1,h2,h3,fun b hb1 hb2=>?_,h5,h6⟩⟩;rw[if_pos rfl];show _=(k.GQ|||2 ^ f.cls.toNat).testBit b;rw[GA,h4 b hb1 hb2];have:(b==f.cls.toNat)=false:=by rw[beq_eq_false_iff_ne];omega
     rw[this,Bool.or_false]
   | false=>
     refine⟨fun _=>rfl,fun h=>?_⟩;exfalso;rcases h12 with e|e<;>simp[e]at h
  ·have hn: ¬(f.op≠2∨f.cls=1∨f.cls=2):=by omega
   rw[if_neg hn,if_pos ho]
   have hb:(!c&&(!(f.op==2)||f.cls==1||f.cls==2))=false:=by
    have e1:(f.op==2)=true:=by simpa using ho
    have e2:(f.cls==1)=false:=by rw[beq_eq_false_iff_ne];omega
    have e3:(f.cls==2)=false:=by rw[beq_eq_false_iff_ne];omega
    rw[e1,e2,e3];simp
   rw[hb];refine⟨fun h=>(by cases h),fun _=>?_⟩;cases c with
   | true=>
     refine⟨_,rfl,h1,by simpa using h2,h3,fun b hb1 hb2=>?_,h5,h6⟩;exact Ng (by omega) (h4 b hb1 hb2)
   | false=>
     refine⟨_,rfl,by simpa using h1,h2,fun b=>?_,h4,?_,?_⟩
     ·exact Ng (by omega) (h3 b)
     ·show(k.B2|||2 ^ f.cls.toNat).testBit 1=false
      rw[GA,h5];have:(1==f.cls.toNat)=false:=by rw[beq_eq_false_iff_ne];omega
      rw[this];rfl
     ·show(k.B2|||2 ^ f.cls.toNat).testBit 2=false
      rw[GA,h6];have:(2==f.cls.toNat)=false:=by rw[beq_eq_false_iff_ne];omega
      rw[this];rfl
 ·rw[if_pos (.inl ho),if_neg ho]
  have e1:(f.op==2)=false:=by simpa using ho
  cases c with
  | true=>
    refine⟨fun h=>(by cases h),fun _=>⟨t,rfl,?_⟩⟩;split<;>exact⟨h1,h2,h3,h4,h5,h6⟩
  | false=>exact⟨fun _=>rfl,fun h=>by rw[e1]at h;cases h⟩
def Q6 {n:Nat}: ∀(os:List Fact) {t:BB} {k:Kn},RB n t (k.B2,k.GQ)→Ic n os→
    (os.any (fun l=>Ru (BN l))=true→FP os t=none)∧(os.any (fun l=>Ru (BN l))=false→ ∃t',FP os t=some t'∧RB n t' ((Eb os k).B2,(Eb os k).GQ))
 | [],t,k,h,_=>⟨fun h=>(by cases h),fun _=>⟨t,rfl,h⟩⟩
 | l ::r,t,k,h,hc=>by
   obtain⟨s1,s2⟩:=ZZ h (hc l (.head _));rw[QH,FP];cases hb:Ru (BN l)with
   | true=>exact⟨fun _=>by rw[s1 hb];rfl,fun h=>(by cases h)⟩
   | false=>
     obtain⟨t',h1,h2⟩:=s2 hb;rw[h1,Bool.false_or,Option.bind_some];exact Q6 r h2 fun x hx=>hc x (.tail _ hx)
def ft {os:List Fact} {n:Nat} (hc:Ic n os):(os.any fun l=>Ru (BN l))=((Eb os k0).whole||(Eb os k0).B2.testBit 1||(Eb os k0).B2.testBit 2):=by
 rw[JZ,Gj,Gj,LM,LM,KT];simp only[NO,Ru,BU,Gj,Bool.not_eq_true',D4,beq_eq_false_iff_ne,k0,Bool.false_or];constructor
 ·rintro⟨l,hl,hb,(h|h)|h⟩
  ·exact .inl (.inl ⟨l,hl,hb,h⟩)
  ·by_cases ho:(BN l).1.op=2
   ·exact .inl (.inr ⟨l,hl,ho,hb,by rw[h];rfl⟩)
   ·exact .inl (.inl ⟨l,hl,hb,ho⟩)
  ·by_cases ho:(BN l).1.op=2
   ·exact .inr ⟨l,hl,ho,hb,by rw[h];rfl⟩
   ·exact .inl (.inl ⟨l,hl,hb,ho⟩)
 ·rintro((⟨l,hl,hb,h⟩|⟨l,hl,ho,hb,h⟩)|⟨l,hl,ho,hb,h⟩)
  ·exact⟨l,hl,hb,.inl (.inl h)⟩
  ·have:=hc l hl ho
   exact⟨l,hl,hb,.inl (.inr (by omega))⟩
  ·have:=hc l hl ho
   exact⟨l,hl,hb,.inr (by omega)⟩
def Xe (w:AM) (A6 can:Int→Bool) (s:Int) (u:Nat×Nat):Option (Nat×Nat):=
 if A6 s&& !can s then none else some (if A6 s then u.1|||2 ^ (Dr w s).toNat else u.1,if can s then u.2 else u.2|||2 ^ (Dr w s).toNat)
def II (w:AM) (A6 can:Int→Bool):List Int→Nat×Nat→Option (Nat×Nat)
 | [],u=>some u
 | s::r,u=>(Xe w A6 can s u).bind (II w A6 can r)
def Ye {w:AM} {ls:List Fact} {a:Int} {p:List Int} {can A6:Int→Bool} (hn: ∀s,A6 s= !GX ls a (p++[s])) {n:Nat} (how: ∀s:Int,0≤s→s<w.owner.length→3≤Dr w s∧Dr w s<n) :
    ∀(sl:List Int) {t:BB} {u:Nat×Nat},(∀s∈sl,0≤s∧s<w.owner.length)→RB n t u→
    (Ez w ls a p can sl t=none∧II w A6 can sl u=none)∨ ∃t' u',Ez w ls a p can sl t=some t'∧II w A6 can sl u=some u'∧RB n t' u'
 | [],t,u,_,h=> .inr ⟨t,u,rfl,rfl,h⟩
 | s ::r,t,u,hsl,h=>by
   have hs:=hsl s (.head _);have ho:=how s hs.1 hs.2;rw[Ez,II,Ki,Xe,hn];obtain⟨h1,h2,h3,h4,h5,h6⟩:=h;split
   ·exact .inl ⟨rfl,rfl⟩
   ·rw[Option.bind_some,Option.bind_some]
    refine Ye hn how r (fun x hx=>hsl x (.tail _ hx)) ?_;have hb: ∀i,i<3→(i==(Dr w s).toNat)=false:=fun i hi=>by rw[beq_eq_false_iff_ne];omega
    cases GX ls a (p++[s])<;>cases can s<;>refine⟨by simpa using h1,by simpa using h2,fun b=>?_,fun b hb1 hb2=>?_,?_,?_⟩
    all_goals simp only[Bool.not_false,Bool.not_true,Mp,if_true,if_false]
    all_goals first
     | exact h3 b
     | exact h4 b hb1 hb2
     | exact h5
     | exact h6
     | exact Ng (by omega) (h3 b)
     | exact Ng (by omega) (h4 b hb1 hb2)
     | (rw[GA,h5,hb 1 (by omega)];rfl)
     | (rw[GA,h6,hb 2 (by omega)];rfl)
def HA (m:Nat):Nat:=m - m % 2
def U5 (m b:Nat):(HA m).testBit b=(m.testBit b&& !(b==0)):=by
 cases b with
 | zero=>
   simp[HA,Nat.testBit_zero];omega
 | succ b=>
   rw[Nat.testBit_succ,Nat.testBit_succ,HA,show(m - m % 2) / 2=m / 2 by omega];simp
def oe {w : AM} (ho:ordered w.parents) {t:BB} {u:Nat×Nat} (h:RB (3+w.parents.length) t u) :
    (ZP w t).isSome=(!u.2.testBit 0&&(HA (DU (D5 w.parents) w.parents.length u.1)&&&u.2==0)):=by
 obtain⟨h1,h2,h3,h4,h5,h6⟩:=h;rw[ZP,h4 0 (by decide) (by decide)];cases h0:u.2.testBit 0 with
 | true=>rfl
 | false =>
   rw[if_neg (by decide),Bool.not_false,I8];have hl:(t.1.set 0 false).length=3+w.parents.length:=by simpa using h1
   have G:=XV ho hl;have F:=Pn ho u.1 w.parents.length
   have hS: ∀d,(t.1.set 0 false).getD d false=true↔d≠0∧u.1.testBit d=true:=fun d=>by
    rw[F8 (by omega)];split
    ·rename_i e;subst e;simp
    ·rename_i e;rw[h3];exact⟨fun h=>⟨e,h⟩,fun h=>h.2⟩
   have hlt: ∀b,u.1.testBit b=true→b<3+w.parents.length:=fun b hb=>by
    rw[←h3]at hb;rcases Nat.lt_or_ge b (3+w.parents.length)with h'|h'
    ·exact h'
    ·rw[E2,List.getElem?_eq_none (by omega)]at hb;cases hb
   have h3b: ∀d,d≠0→u.1.testBit d=true→3≤d:=fun d hd hb=>by
    rcases d with _|_|_|d
    ·exact absurd rfl hd
    ·rw[h5]at hb;cases hb
    ·rw[h6]at hb;cases hb
    ·omega
   have hM: ∀b,(HA (DU (D5 w.parents) w.parents.length u.1)).testBit b=true↔(B5 w.parents (3+w.parents.length) w.parents.length (t.1.set 0 false)).getD b false=true:=fun b=>by
    rw[U5,BU,F b (He _),G,Bool.not_eq_true',beq_eq_false_iff_ne];constructor
    ·rintro⟨h|⟨d,q1,q2,q3,q4⟩,hb⟩
     ·exact⟨b,(hS b).2 ⟨hb,h⟩,HL ho b⟩
     ·rcases q4 with e|q4
      ·exact absurd e hb
      ·exact⟨d,(hS d).2 ⟨by omega,q3⟩,q4⟩
    ·rintro⟨d,hd,hu⟩
     obtain⟨hd0,hdu⟩:=(hS d).1 hd;have hd3:=h3b d hd0 hdu;have:=WG ho d b hd3 hu;exact⟨.inr ⟨d,hd3,hlt d hdu,hdu,.inr hu⟩,by omega⟩
   have hany:((List.range (3+w.parents.length)).any fun c=>(B5 w.parents (3+w.parents.length) w.parents.length (t.1.set 0 false)).getD c false&&t.2.getD c false)= !(HA (DU (D5 w.parents) w.parents.length u.1)&&&u.2==0):=by
    rw[JZ,Bool.not_eq_true',←Bool.not_eq_true,O1,NO];constructor
    ·rintro⟨c,hc,hx⟩ hall
     rw[BU]at hx;have hm:=(hM c).2 hx.1;obtain⟨d,hd,hu⟩:=(G c).1 hx.1;obtain⟨hd0,hdu⟩:=(hS d).1 hd;have:=WG ho d c (h3b d hd0 hdu) hu;exact hall c hm (by rw[←h4 c (by omega) (by omega)];exact hx.2)
    ·intro hne
     rcases Classical.em (∃b,(HA (DU (D5 w.parents) w.parents.length u.1)).testBit b=true∧u.2.testBit b=true)with⟨b,hb1,hb2⟩|hno
     ·have hm:=(hM b).1 hb1
      obtain⟨d,hd,hu⟩:=(G b).1 hm;obtain⟨hd0,hdu⟩:=(hS d).1 hd;have:=WG ho d b (h3b d hd0 hdu) hu;have:=cJ ho d b hu;have:=hlt d hdu;exact⟨b,List.mem_range.2 (by omega),by rw[hm,h4 b (by omega) (by omega),hb2];rfl⟩
     ·exact absurd (fun b h1 h2=>hno ⟨b,h1,h2⟩) hne
   rw[hany];cases(HA (DU (D5 w.parents) w.parents.length u.1)&&&u.2==0)<;>rfl
def NS (w:AM) (k:Kn) (A6 can:Int→Bool):Nat×Bool:=
 if k.whole||k.B2.testBit 1||k.B2.testBit 2||k.GQ.testBit 0 then(0,false)else
 match II w A6 can k.AJ (k.B2,k.GQ)with
 | none=>(0,false)
 | some u=>(HA (DU (D5 w.parents) w.parents.length u.1),HA (DU (D5 w.parents) w.parents.length u.1)&&&u.2==0)
def Pj {w:AM} {A6 can:Int→Bool} (how: ∀s:Int,0≤s→s<w.owner.length→3≤Dr w s): ∀(sl:List Int) {u u':Nat×Nat},(∀s∈sl,0≤s∧s<w.owner.length)→II w A6 can sl u=some u'→u'.2.testBit 0=u.2.testBit 0
 | [],u,u',_,h=>by cases h;rfl
 | s ::r,u,u',hsl,h=>by
   have hs:=hsl s (.head _);have ho:=how s hs.1 hs.2;rw[II,Xe]at h;split at h
   ·cases h
   ·rw[Option.bind_some]at h
    rw[Pj how r (fun x hx=>hsl x (.tail _ hx)) h];simp only;split
    ·rfl
    ·rw[GA]
     have:(0==(Dr w s).toNat)=false:=by rw[beq_eq_false_iff_ne];omega
     rw[this,Bool.or_false]
def lJ {w:AM} {ls:List Fact} {a:Int} {p:List Int} {can A6:Int→Bool} (ho:ordered w.parents) (how: ∀s:Int,0≤s→s<w.owner.length→3≤Dr w s∧Dr w s<3+w.parents.length) (hc:Ic (3+w.parents.length) ls) (hp:Hl w.owner.length ls) (hn: ∀s,A6 s= !GX ls a (p++[s])) :
    (NS w (kn ls a p) A6 can).2=(N6 w ls a p can).isSome:=by
 have hcore:=Np ls a p;have hsl:=LO hp a p;generalize kn ls a p=k at *;have hc2:Ic (3+w.parents.length) (ls.filter (IW a p)):=fun l hl=>hc l (Pz.1 hl).1
 simp only[E0,Prod.mk.injEq]at hcore;obtain⟨-,-,-,c4,c5,c6⟩:=hcore;rw[NS,N6,c4,c5,c6,←ft hc2,hsl]
 have hR0:RB (3+w.parents.length) (tO w) (k0.B2,k0.GQ):=by
  refine⟨by simp[tO],by simp[tO],fun b=>?_,fun b _ _=>?_,rfl,rfl⟩<;>
  ·simp only[tO,k0,Nat.zero_testBit,E2,List.getElem?_replicate]
   split<;>rfl
 obtain⟨f1,f2⟩:=Q6 _ hR0 hc2;cases hbad:(ls.filter (IW a p)).any fun l=>Ru (BN l)with
 | true=>rw[f1 hbad];rfl
 | false=>
   obtain⟨t,ht,G⟩:=f2 hbad;rw[ht,Option.bind_some,Bool.false_or];have hin: ∀s∈CR w.owner.length ls a p,0≤s∧s<(w.owner.length:Int):=fun s hs=>ML hs
   rcases Ye (can:=can) hn (fun s h0 h1=>by have:=how s h0 h1;omega) (CR w.owner.length ls a p) hin G with⟨e1,e2⟩|⟨t',u',e1,e2,hR'⟩
   ·rw[e1,e2]
    split<;>rfl
   ·rw[e1,e2,Option.bind_some,oe ho hR']
    have:=Pj (fun s h0 h1=>(how s h0 h1).1) _ hin e2;rw[this];simp only;cases((Eb (ls.filter (IW a p)) k0).GQ.testBit 0)<;>rfl
end Go.Gl
namespace Go.Gl
abbrev EP (a:Int) (p:List Int):V:= .a [eI a,eI (p.length:Int),eI (p.getD 0 0),eI (p.getD 1 0)]
structure Cz where
 a:Int
 p:List Int
 b:Nat
 vn:V
 vs:V
 k:Kn
abbrev Cz.is (e:Cz) (a:Int) (p:List Int):Bool:=e.a==a&&e.p==p
abbrev vI (b:Nat) (vn vs:V) (k:Kn):At:= .box b [eI k.low,eI k.high,vn,eU k.B2,eU k.GQ,.b k.whole,.b k.A6,vs]
abbrev mh (b:Nat) (vn vs:V) (k:Kn):List At:=[vI b vn vs k,.own vn 1 (iL k.no),.own vs 1 (iL k.AJ)]
abbrev T6 (e:Cz):List At:=mh e.b e.vn e.vs e.k
def Vr (es:List Cz):List (V×V):=es.map fun e=>(EP e.a e.p,.p e.b 0)
def B7 (L:Nat) (es:List Cz):List At:= .map L (Vr es)::es.flatMap T6
def HC (L:Nat) (es pre post:List Cz):List At:= .map L (Vr es)::(pre++post).flatMap T6
def J5 {e:Cz} {a:Int} {p:List Int}:e.is a p=true↔e.a=a∧e.p=p:=by simp[Cz.is]
def Nq {e:Cz} {a:Int} {p:List Int}:e.is a p=false↔ ¬(e.a=a∧e.p=p):=by rw[←J5,Bool.not_eq_true]
def SA {a a':Int} {p p':List Int} (h:p.length≤2) (h':p'.length≤2):EU (EP a p) (EP a' p')=(a==a'&&p==p'):=by
 have e:EU (EP a p) (EP a' p')=(a==a'&&((p.length:Int)==p'.length&&(p.getD 0 0==p'.getD 0 0&&(p.getD 1 0==p'.getD 1 0)))):=by
  simp[EU,Bq,EP]
 rw[e];congr 1
 match p,h,p',h' with
 | [],_,[],_=>rfl
 | [],_,[_],_=>simp
 | [],_,[_,_],_=>simp<;>omega
 | [_],_,[],_=>simp
 | [x],_,[y],_=>simp
 | [_],_,[_,_],_=>simp<;>omega
 | [_,_],_,[],_=>simp<;>omega
 | [_,_],_,[_],_=>simp<;>omega
 | [x,y],_,[z,u],_=>simp
def Ot (es:List Cz): ∀kv∈Vr es,BV (.a [.i64,.i64,.i64,.i64]) kv.1=true:=by
 intro kv h;obtain⟨e,_,rfl⟩:=NP.1 h;rfl
def Up {a:Int} {p:List Int} (hp:p.length≤2): ∀ {es:List Cz},(∀e∈es,e.p.length≤2)→(∀e∈es,e.is a p=false)→Cp (EP a p) (Vr es)=none
 | [],_,_=>rfl
 | e ::r,hl,h=>by
   have he:=h e (.head _);rw[Vr,C0,Cp,SA hp (hl e (.head _))]
   have:(a==e.a&&p==e.p)=false:=by
    rw[←he,Cz.is,JZ];simp only[BU,D4];exact⟨fun⟨h1,h2⟩=>⟨h1.symm,h2.symm⟩,fun⟨h1,h2⟩=>⟨h1.symm,h2.symm⟩⟩
   rw[this,cond_false];exact Up hp (fun x hx=>hl x (.tail _ hx)) (fun x hx=>h x (.tail _ hx))
def cj {a:Int} {p:List Int} (hp:p.length≤2) (b:Nat) (vn vs:V) (k:Kn): ∀ {es:List Cz},(∀e∈es,e.p.length≤2)→(∀e∈es,e.is a p=false)→ET (EP a p) (.p b 0) (Vr es)=Vr (es++[⟨a,p,b,vn,vs,k⟩])
 | [],_,_=>rfl
 | e ::r,hl,h=>by
   have he:=h e (.head _);have ih:=cj hp b vn vs k (fun x hx=>hl x (.tail _ hx)) (fun x hx=>h x (.tail _ hx));simp only[Vr]at ih;rw[Vr,C0,ET,SA hp (hl e (.head _))]
   have:(a==e.a&&p==e.p)=false:=by
    rw[←he,Cz.is,JZ];simp only[BU,D4];exact⟨fun⟨h1,h2⟩=>⟨h1.symm,h2.symm⟩,fun⟨h1,h2⟩=>⟨h1.symm,h2.symm⟩⟩
   rw[this,cond_false,ih];rfl
def Uo {a:Int} {p:List Int} (hp:p.length≤2) {e:Cz} (he:e.is a p=true) {post:List Cz}: ∀ {pre:List Cz},(∀x∈pre++e::post,x.p.length≤2)→(∀x∈pre,x.is a p=false)→Cp (EP a p) (Vr (pre++e::post))=some (.p e.b 0)
 | [],hl,_=>by
   rw[List.nil_append,Vr,C0,Cp,SA hp (hl e (.head _))];obtain⟨h1,h2⟩:=J5.1 he;rw[h1,h2];simp
 | x ::r,hl,h=>by
   have hx:=h x (.head _);rw[List.cons_append,Vr,C0,Cp,SA hp (hl x (.head _))]
   have:(a==x.a&&p==x.p)=false:=by
    rw[←hx,Cz.is,JZ];simp only[BU,D4];exact⟨fun⟨h1,h2⟩=>⟨h1.symm,h2.symm⟩,fun⟨h1,h2⟩=>⟨h1.symm,h2.symm⟩⟩
   rw[this,cond_false];exact Uo hp he (fun y hy=>hl y (.tail _ hy)) (fun y hy=>h y (.tail _ hy))
def lE (a : Int) (p:List Int): ∀(es:List Cz),(∀e∈es,e.is a p=false)∨ ∃pre e post,es=pre++e::post∧e.is a p=true∧ ∀x∈pre,x.is a p=false
 | []=> .inl fun _ h=>by cases h
 | e ::r=>by
   cases h:e.is a p with
   | true=>exact .inr ⟨[],e,r,rfl,h,fun _ h=>by cases h⟩
   | false=>
     rcases lE a p r with h1|⟨pre,x,post,rfl,h1,h2⟩
     ·exact .inl fun x hx=>by
       rcases G5.1 hx with rfl|hx
       ·exact h
       ·exact h1 x hx
     ·exact .inr ⟨e::pre,x,post,rfl,h1,fun y hy=>by
       rcases G5.1 hy with rfl|hy
       ·exact h
       ·exact h2 y hy⟩
def Ur (L:Nat) (pre post:List Cz) (e:Cz):(B7 L (pre++e::post)).Perm (T6 e++HC L (pre++e::post) pre post):=by
 unfold B7 HC;rw[List.flatMap_append,List.flatMap_cons,List.flatMap_append];refine List.Perm.trans ?_ (List.perm_middle.symm);refine List.Perm.cons _ ?_;rw[←TR,←TR];exact List.Perm.append_right _ TO
def W7 {pre post:List Cz} {e e':Cz} (h1:e'.a=e.a) (h2:e'.p=e.p) (h3:e'.b=e.b):Vr (pre++e'::post)=Vr (pre++e::post):=by
 simp only[Vr,Pw,C0,h1,h2,h3]
def TA {L:Nat} {pre post:List Cz} {e e':Cz} (h1:e'.a=e.a) (h2:e'.p=e.p) (h3:e'.b=e.b):HC L (pre++e'::post) pre post=HC L (pre++e::post) pre post:=by
 rw[HC,HC,W7 h1 h2 h3]
structure Du (kf:Int→List Int→Kn) (es:List Cz):Prop where
 val: ∀e∈es,e.k=kf e.a e.p
 uR: ∀a p,(∀e∈es,e.is a p=false)→kf a p=k0
 one:es.Pairwise fun e e'=>e.is e'.a e'.p=false
 len: ∀e∈es,e.p.length≤2
def QX (es:List Cz):Prop:= ∀e∈es,∀s∈e.k.AJ,∃e'∈es,e'.is e.a (e.p++[s])=true
def Du.congr {kf kf':Int→List Int→Kn} {es:List Cz} (h:Du kf es) (e: ∀a p,kf a p=kf' a p):Du kf' es:=
 ⟨fun x hx=>(h.val x hx).trans (e _ _),fun a p hp=>(e a p).symm.trans (h.uR a p hp),h.one,h.len⟩
def Du.add {kf:Int→List Int→Kn} {es:List Cz} (h:Du kf es) {a:Int} {p:List Int} (hp:p.length≤2) (hn: ∀e∈es,e.is a p=false) (b:Nat) (vn vs:V):Du kf (es++[⟨a,p,b,vn,vs,k0⟩]):=by
 refine⟨fun x hx=>?_,fun a' p' h'=>h.uR a' p' fun x hx=>h' x (TV _ hx),?_,fun x hx=>?_⟩
 ·rcases FJ.1 hx with hx|hx
  ·exact h.val x hx
  ·rw[Nz.1 hx];exact(h.uR a p hn).symm
 ·rw[List.pairwise_append]
  exact⟨h.one,List.pairwise_singleton _ _,fun x hx y hy=>by rw[Nz.1 hy];exact hn x hx⟩
 ·rcases FJ.1 hx with hx|hx
  ·exact h.len x hx
  ·rw[Nz.1 hx];exact hp
def QX.add {es:List Cz} (h:QX es) {a:Int} {p:List Int} (b:Nat) (vn vs:V):QX (es++[⟨a,p,b,vn,vs,k0⟩]):=by
 intro e he s hs;rcases FJ.1 he with he|he
 ·obtain⟨e',h1,h2⟩:=h e he s hs
  exact⟨e',TV _ h1,h2⟩
 ·rw[Nz.1 he]at hs
  cases hs
def Tb (kf:Int→List Int→Kn) (a:Int) (p:List Int) (k:Kn):Int→List Int→Kn:=fun a' p'=>if a'=a∧p'=p then k else kf a' p'
def Du.change {kf:Int→List Int→Kn} {pre post:List Cz} {e:Cz} (h:Du kf (pre++e::post)) (b:Nat) (vn vs:V) (k:Kn):Du (Tb kf e.a e.p k) (pre++⟨e.a,e.p,b,vn,vs,k⟩::post):=by
 have h1:=h.one;rw[List.pairwise_append,List.pairwise_cons]at h1;obtain⟨o1,⟨o2,o3⟩,o4⟩:=h1;refine⟨fun x hx=>?_,fun a p hp=>?_,?_,fun x hx=>?_⟩
 ·rw [Tb]
  rcases FJ.1 hx with hx|hx
  ·rw[if_neg]
   ·exact h.val x (TV _ hx)
   ·have:=o4 x hx e (.head _)
    rw[Nq]at this;exact this
  ·rcases G5.1 hx with rfl|hx
   ·rw[if_pos ⟨rfl,rfl⟩]
   ·rw[if_neg]
    ·exact h.val x (Vu _ (.tail _ hx))
    ·have:=o2 x hx
     rw[Nq]at this;exact fun⟨q1,q2⟩=>this ⟨q1.symm,q2.symm⟩
 ·have he:=Nq.1 (hp _ (Vu _ (.head _)))
  rw[Tb,if_neg (fun⟨q1,q2⟩=>he ⟨q1.symm,q2.symm⟩)];refine h.uR a p fun x hx=>?_
  rcases FJ.1 hx with hx|hx
  ·exact hp x (TV _ hx)
  ·rcases G5.1 hx with rfl|hx
   ·exact Nq.2 he
   ·exact hp x (Vu _ (.tail _ hx))
 ·rw[List.pairwise_append,List.pairwise_cons]
  refine⟨o1,⟨o2,o3⟩,fun x hx y hy=>?_⟩;rcases G5.1 hy with rfl|hy
  ·exact o4 x hx e (.head _)
  ·exact o4 x hx y (.tail _ hy)
 ·rcases FJ.1 hx with hx|hx
  ·exact h.len x (TV _ hx)
  ·rcases G5.1 hx with rfl|hx
   ·exact h.len e (Vu _ (.head _))
   ·exact h.len x (Vu _ (.tail _ hx))
def QX.change {pre post:List Cz} {e:Cz} (h:QX (pre++e::post)) (b:Nat) (vn vs:V) (k:Kn) (hs: ∀s∈k.AJ,s∈e.k.AJ∨ ∃e'∈pre++e::post,e'.is e.a (e.p++[s])=true):QX (pre++⟨e.a,e.p,b,vn,vs,k⟩::post):=by
 have mov: ∀ {a p},(∃e'∈pre++e::post,e'.is a p=true)→ ∃e'∈pre++(⟨e.a,e.p,b,vn,vs,k⟩:Cz)::post,e'.is a p=true:=by
  rintro a p ⟨x,hx,h'⟩;rcases FJ.1 hx with hx|hx
  ·exact⟨x,TV _ hx,h'⟩
  ·rcases G5.1 hx with rfl|hx
   ·exact⟨_,Vu _ (.head _),h'⟩
   ·exact⟨x,Vu _ (.tail _ hx),h'⟩
 intro x hx s hxs;rcases FJ.1 hx with hx|hx
 ·exact mov (h x (TV _ hx) s hxs)
 ·rcases G5.1 hx with rfl|hx
  ·rcases hs s hxs with h'|h'
   ·exact mov (h e (Vu _ (.head _)) s h')
   ·exact mov h'
  ·exact mov (h x (Vu _ (.tail _ hx)) s hxs)
def DW (f:Fact) (c:Bool) (j:Nat) (a:Int) (p:List Int) (k:Kn):Kn:=
 if f.arg=a∧Bv f.path p=true then(if p.length<j then gG (Dd k c) (f.path.getD p.length 0)else if p.length=j then Dd k c else k)else k
def NK {path p:List Int}:Bv path p=true↔p.length≤path.length∧p=path.take p.length:=by
 rw[Dn];constructor
 ·rintro⟨t,rfl⟩
  exact⟨by simp,by simp⟩
 ·rintro⟨h1,h2⟩
  exact⟨path.drop p.length,by conv=>rhs;rw[h2,Mo,Nat.min_eq_left h1,List.take_append_drop]⟩
def jE (f:Fact) (c:Bool) (a:Int) (p:List Int) (k:Kn):DW f c 0 a p k=if a=f.arg∧p= []then Dd k c else k:=by
 unfold DW;by_cases h:f.arg=a∧Bv f.path p=true
 ·rw[if_pos h,if_neg (by omega)]
  by_cases hp:p.length=0
  ·rw[if_pos hp,if_pos ⟨h.1.symm,Vt.1 hp⟩]
  ·rw[if_neg hp,if_neg (fun h'=>hp (by rw[h'.2];rfl))]
 ·rw[if_neg h,if_neg]
  rintro⟨rfl,rfl⟩;exact h ⟨rfl,Dn.2 ⟨f.path,by simp⟩⟩
def jF (f:Fact) (c:Bool) {j:Nat} (hj:j<f.path.length) (a:Int) (p:List Int) (k:Kn):DW f c (j+1) a p k=if a=f.arg∧p=f.path.take (j+1)then Dd (DW f c j a p k) c else if a=f.arg∧p=f.path.take j then gG (DW f c j a p k) (f.path.getD j 0)else DW f c j a p k:=by
 unfold DW;by_cases h:f.arg=a∧Bv f.path p=true
 ·rw [if_pos h,if_pos h]
  obtain⟨h1,h2⟩:=h;rw[NK]at h2;obtain⟨h2,h3⟩:=h2;have l1:p=f.path.take (j+1)↔p.length=j+1:=⟨fun e=>by rw[e,Mo];omega,fun e=>by rw[e]at h3;exact h3⟩
  have l2:p=f.path.take j↔p.length=j:=⟨fun e=>by rw[e,Mo];omega,fun e=>by rw[e]at h3;exact h3⟩
  have n1:p.length≠j+1→ ¬(a=f.arg∧p=f.path.take (j+1)):=fun h h'=>h (l1.1 h'.2)
  have n2:p.length≠j→ ¬(a=f.arg∧p=f.path.take j):=fun h h'=>h (l2.1 h'.2)
  by_cases q1:p.length<j
  ·rw[if_pos (show p.length<j+1 by omega),if_neg (n1 (by omega)),if_neg (n2 (by omega)),if_pos q1]
  ·by_cases q2:p.length=j
   ·rw[if_pos (show p.length<j+1 by omega),if_neg (n1 (by omega)),if_pos (show a=f.arg∧p=f.path.take j from⟨h1.symm,l2.2 q2⟩),if_neg q1,if_pos q2,q2]
   ·by_cases q3:p.length=j+1
    ·rw[if_neg (show¬p.length<j+1 by omega),if_pos q3,if_pos (show a=f.arg∧p=f.path.take (j+1) from⟨h1.symm,l1.2 q3⟩),if_neg q1,if_neg q2]
    ·rw[if_neg (show¬p.length<j+1 by omega),if_neg q3,if_neg (n1 q3),if_neg (n2 q2),if_neg q1,if_neg q2]
 ·rw[if_neg h,if_neg h,if_neg,if_neg]
  ·rintro⟨rfl,rfl⟩
   exact h ⟨rfl,Dn.2 ⟨f.path.drop j,by rw[List.take_append_drop]⟩⟩
  ·rintro⟨rfl,rfl⟩
   exact h ⟨rfl,Dn.2 ⟨f.path.drop (j+1),by rw[List.take_append_drop]⟩⟩
def oN (a : Int) (p:List Int) (k:Kn) (l:Fact):DA a p k l=if a=(BN l).1.arg∧p=(BN l).1.path then Cn (DW (BN l).1 (BN l).2 (BN l).1.path.length a p k) (BN l).1 (BN l).2 else DW (BN l).1 (BN l).2 (BN l).1.path.length a p k:=by
 unfold DA DW;by_cases h:(BN l).1.arg=a∧Bv (BN l).1.path p=true
 ·rw [if_pos h,if_pos h]
  obtain⟨h1,h2⟩:=h;rw[NK]at h2;obtain⟨h2,h3⟩:=h2;by_cases hp:(BN l).1.path=p
  ·rw[if_pos hp,if_pos ⟨h1.symm,hp.symm⟩,if_neg (by rw[hp];omega),if_pos (by rw[hp])]
  ·have hne:p.length<(BN l).1.path.length:=by
    rcases Nat.lt_or_ge p.length (BN l).1.path.length with h'|h'
    ·exact h'
    ·rw[List.take_of_length_le h']at h3
     exact absurd h3.symm hp
   rw[if_neg hp,if_neg (fun h=>hp h.2.symm),if_pos hne]
 ·rw[if_neg h,if_neg h,if_neg]
  rintro⟨rfl,rfl⟩;exact h ⟨rfl,NL _⟩
def jH (ls:List Fact) (l:Fact) (a:Int) (p:List Int):kn (ls++[l]) a p=DA a p (kn ls a p) l:=by
 rw[kn,List.foldl_append];rfl
def RQ (l:List Int) (s:Int):(Is l s).length≤l.length+1:=by
 unfold Is;split
 ·omega
 ·rw[List.length_mergeSort];simp
def XY (k:Kn) (f:Fact) (b:Bool):(Cn k f b).no.length≤k.no.length+1:=by
 unfold Cn
 repeat' split
 all_goals simp
def cq (a:Int) (p:List Int): ∀(ls:List Fact) (k:Kn),(ls.foldl (DA a p) k).no.length≤k.no.length+ls.length∧(ls.foldl (DA a p) k).AJ.length≤k.AJ.length+ls.length
 | [],k=>⟨He _,He _⟩
 | l ::r,k=>by
   obtain⟨h1,h2⟩:=cq a p r (DA a p k l)
   have h3:(DA a p k l).no.length≤k.no.length+1∧(DA a p k l).AJ.length≤k.AJ.length+1:=by
    unfold DA
    repeat' split
    ·have:=XY (Dd k (BN l).2) (BN l).1 (BN l).2
     rw[RJ];simp only[Dd]at this ⊢;omega
    ·have:=RQ k.AJ ((BN l).1.path.getD p.length 0)
     simp only[gG,Dd]at this ⊢;omega
    ·omega
   rw[List.foldl_cons,KX];omega
def jJ {n:Nat} {ls:List Fact} (h:Ic n ls) (a:Int) (p:List Int):(kn ls a p).B2<2 ^ n∧(kn ls a p).GQ<2 ^ n:=by
 have hc:=Np ls a p;simp only[E0,Prod.mk.injEq]at hc;have hc2:Ic n (ls.filter (IW a p)):=fun l hl=>h l (Pz.1 hl).1
 rw[hc.2.2.2.1,hc.2.2.2.2.1];exact⟨Si hc2,nh hc2⟩
end Go.Gl
namespace Go.Gl
def G4 (no:List Int):Nat→Int→Int
 | 0,n=>n
 | k+1,n=>if no.contains n then G4 no k (n+1)else n
def from_ (no:List Int) (n:Int):Nat:=(no.filter fun x=>decide (n≤x)).length
def Sz {no:List Int} {n:Int} (h:n∈no):from_ no (n+1)<from_ no n:=by
 induction no with
 | nil=>cases h
 | cons x r ih=>
   simp only[from_,List.filter_cons]at ih ⊢;by_cases hx:x=n
   ·subst hx
    have hle:(r.filter fun y=>decide (x+1≤y)).length≤(r.filter fun y=>decide (x≤y)).length:=by
     refine List.Sublist.length_le ?_
     have e:(r.filter fun y=>decide (x+1≤y))=(r.filter fun y=>decide (x≤y)).filter fun y=>decide (x+1≤y):=by
      rw[List.filter_filter];refine List.filter_congr fun y _=>?_
      rw[JZ,BU,DZ,DZ];omega
     rw[e];exact List.filter_sublist
    rw[if_neg (by simp<;>omega),if_pos (by simp),KX];omega
   ·have h':n∈r:=by
     rcases G5.1 h with e|e
     ·exact absurd e.symm hx
     ·exact e
    have:=ih h';by_cases h1:n≤x
    ·rw[if_pos (by rw[DZ];omega),if_pos (by rw[DZ];omega),KX,KX]
     omega
    ·rw[if_neg (by rw[DZ];omega),if_neg (by rw[DZ];omega)]
     omega
def Ya (no:List Int) (n:Int):from_ no n≤no.length:=QJ _ _
def LW {no:List Int}: ∀(k:Nat) (n:Int),from_ no n≤k→n≤G4 no k n∧G4 no k n∉no∧ ∀j,n≤j→j<G4 no k n→j∈no
 | 0,n,h=>by
   refine⟨Int.le_refl _,fun hm=>?_,fun j h1 h2=>by simp only[G4]at h2;omega⟩;have:=Sz hm;simp only[G4]at this;omega
 | k + 1,n,h=>by
   rw[G4];split
   ·rename_i hc
    rw[List.contains_iff_mem]at hc;have hlt:=Sz hc;obtain⟨h1,h2,h3⟩:=LW (no:=no) k (n+1) (by omega);refine⟨by omega,h2,fun j hj1 hj2=>?_⟩;by_cases e:j=n
    ·subst e;exact hc
    ·exact h3 j (by omega) hj2
   ·rename_i hc
    exact⟨Int.le_refl _,fun hm=>hc (List.contains_iff_mem.2 hm),fun j h1 h2=>by omega⟩
def sB {no:List Int} {k:Nat} {n:Int} (h:n∈no):G4 no (k+1) n=G4 no k (n+1):=by rw[G4,if_pos (List.contains_iff_mem.2 h)]
def kR {no:List Int} {k:Nat} {n:Int} (h:n∉no):G4 no k n=n:=by
 cases k with
 | zero=>rfl
 | succ k=>rw[G4,if_neg (fun hc=>h (List.contains_iff_mem.1 hc))]
def Yz {no:List Int} {k k':Nat} {n:Int} (h:from_ no n≤k) (h':from_ no n≤k'):G4 no k n=G4 no k' n:=by
 obtain⟨a1,a2,a3⟩:=LW k n h;obtain⟨b1,b2,b3⟩:=LW k' n h';rcases Int.lt_trichotomy (G4 no k n) (G4 no k' n)with hl|he|hg
 ·exact absurd (b3 _ a1 hl) a2
 ·exact he
 ·exact absurd (a3 _ b1 hg) b2
def J2 (k:Kn):Int:=G4 k.no k.no.length k.low
def OL (kf:Int→List Int→Kn) (a:Int) (p:List Int):Bool:=(kf a p).AJ.all fun s=> !(kf a (p++[s])).A6
def Hk (kf:Int→List Int→Kn) (a:Int) (p:List Int) (c:Nat):Bool:=P2 (kf a p).B2 (1|||2 ^ c)&&((kf a p).GQ&&&(1|||2 ^ c)==0&&OL kf a p)
def Rp (kf:Int→List Int→Kn) (a:Int) (p:List Int):Bool:=decide (J2 (kf a p)≤(kf a p).high)&&Hk kf a p 1
def Kl (kf:Int→List Int→Kn) (a:Int) (p:List Int):Bool:= !(kf a p).whole&&Hk kf a p 2
def NV (w:AM) (kf:Int→List Int→Kn) (a:Int):Nat→List Int→Bool
 | 0,p=>Rp kf a p||(Kl kf a p||(NS w (kf a p) (fun s=>(kf a (p++[s])).A6) (fun _=>false)).2)
 | d+1,p=>Rp kf a p||(Kl kf a p||(NS w (kf a p) (fun s=>(kf a (p++[s])).A6) (fun s=>NV w kf a d (p++[s]))).2)
def bQ (w:AM) (kf:Int→List Int→Kn):Bool:=(Ca 3).all fun a=>NV w kf a 2 []
def Yh {n:Nat} {ls:List Fact} (h:Hl n ls) (a:Int) (p:List Int):OL (kn ls) a p=GV n ls a p:=by
 rw[OL,GV,LO h];congr 1;funext s;rw[MV,Bool.not_not]
def cr {n m:Nat} {ls:List Fact} (hn:n≤64) (hc:Ic n ls) (h:Hl m ls) (a:Int) (p:List Int):Rp (kn ls) a p=((Ke ls a p).isSome&&GV m ls a p):=by
 have hcore:=Np ls a p;have hc2:Ic n (ls.filter (IW a p)):=fun l hl=>hc l (Pz.1 hl).1
 simp only[E0,Prod.mk.injEq]at hcore;obtain⟨c1,c2,c3,c4,c5,-⟩:=hcore;rw[Rp,Hk,Yh h,c4,c5,←Bool.and_assoc (P2 _ _),Zm hn hc2,←Bool.and_assoc];congr 1;have hf:=Q7 (ls.filter (IW a p)) k0;rw[Ke,show t0=(k0.low,k0.high,k0.no) from rfl,hf,J2,c2,c3,c1];obtain⟨h1,h2,h3⟩:=LW (no:=(Eb (ls.filter (IW a p)) k0).no) _ (Eb (ls.filter (IW a p)) k0).low (Ya _ _);have hs:=eL (high:=(Eb (ls.filter (IW a p)) k0).high) h1 h2 h3;cases(ls.filter (IW a p)).all fun l=>mH (BN l)with
 | false=>simp
 | true=>rw[if_pos rfl,Option.bind_some,hs,Bool.and_true]
def YN {n m:Nat} {ls:List Fact} (hn:n≤64) (hc:Ic n ls) (h:Hl m ls) (a:Int) (p:List Int):Kl (kn ls) a p=Je m ls a p:=by
 have hcore:=Np ls a p;have hc2:Ic n (ls.filter (IW a p)):=fun l hl=>hc l (Pz.1 hl).1
 simp only[E0,Prod.mk.injEq]at hcore;obtain⟨-,-,-,c4,c5,c6⟩:=hcore;rw[Kl,Hk,Yh h,c4,c5,c6,Je,←Wz hn hc2];simp only[Bool.and_assoc]
def dU {w:AM} {ls:List Fact} (ho:ordered w.parents) (how: ∀s:Int,0≤s→s<w.owner.length→3≤Dr w s∧Dr w s<3+w.parents.length) (hn:3+w.parents.length≤64) (hc:Ic (3+w.parents.length) ls) (hp:Hl w.owner.length ls) (a:Int): ∀(d:Nat) (p:List Int),NV w (kn ls) a d p=OB w ls a d p
 | 0,p=>by
   rw[NV,OB,cr hn hc hp,YN hn hc hp,lJ ho how hc hp fun s=>MV ls a (p++[s])]
 | d+1,p=>by
   rw[NV,OB,cr hn hc hp,YN hn hc hp,lJ ho how hc hp fun s=>MV ls a (p++[s])];have e:(fun s=>NV w (kn ls) a d (p++[s]))=fun s=>OB w ls a d (p++[s]):=funext fun s=>dU ho how hn hc hp a d (p++[s])
   rw[e]
def m6 {w:AM} {ls:List Fact} (ho:ordered w.parents) (how: ∀s:Int,0≤s→s<w.owner.length→3≤Dr w s∧Dr w s<3+w.parents.length) (hn:3+w.parents.length≤64) (hc:Ic (3+w.parents.length) ls) (hp:Hl w.owner.length ls):bQ w (kn ls)=Hg w ls:=by
 rw[bQ,Hg];congr 1;funext a;exact dU ho how hn hc hp a 2 []
end Go.Gl
namespace Go.Gl
open Go.Proofs
attribute [local irreducible] A8 Ap Ag AT AL Ae AS AU AK Ad AO AP Aw A2 Sat AX A0 Ai W
section
variable {S:Type} (g:FuncId) (fi ca:List V) (H:S→List At) (f:Int→Bool) (J:S→Prop) (D:Int→Prop)
def QF {v:V} {xs:List Int} (hst:M0 Tryz.prog (.f (.func g) fi ca) eI (fun s=> .own v 1 (iL xs)::H s) f J D) (hD: ∀x∈xs,D x) (hxl:xs.length≤Aj) (s0:S) (hj0:J s0) :
    By Tryz.prog 117 [v,.f (.func g) fi ca] (.own v 1 (iL xs)::H s0) fun r post=>r= .ret (eI (My f xs 0))∧ ∃s',J s'∧post= .own v 1 (iL xs)::H s':=by
 intro σ hs;have hM:=Mx;refine dS kZ ?_
 conv=>whnf
 repeat'((first|apply st|(apply sq;intro K U)|(apply si;intro A B Y Z)|(apply Y;clear Z B Y A)|(apply U;clear U K)|refine lo ?_|fail)<;>conv=>whnf)
 refine CD xs.length (fun k (_:S)=>[(8,eI (BM k))]) (fun _ s=> .own v 1 (iL xs)::H s) (fun k s=>J s∧My f xs 0=My f (xs.drop k) k) s0 rfl ⟨hj0,rfl⟩ hs ?_;clear hs hj0;rintro k s σ hk ⟨hj,hn⟩ hs;have hck:BM k=k:=AN (by omega);rcases BS xs hk with⟨y,hy,hlt⟩|hke
 ·rw[drop_cons hy]at hn
  have hDy:=hD y (Ck hy);rw[My]at hn
  conv=>whnf
  repeat'((first|apply st|(apply sq;intro K U)|(apply si;intro A B Y Z)|(apply Y;clear Z B Y A)|(apply U;clear U K)|refine⟨rfl,?_⟩|refine oi ?_|refine ol fun x hx=>?_|(refine C8 (fun hc=>?_)<;>(try rw[hc])<;>clear hc)|fail)<;>conv=>whnf)
  obtain rfl:x=y:=by rw[hck,Lm,hy]at hx;exact(Option.some.inj hx).symm
  refine hst.use hDy hj hs ?_;clear hs hj;intro s σ hj hs;cases hyes:f x
  ·rw[hyes,if_neg (by decide)]at hn
   conv=>whnf
   repeat'((first|apply st|(apply si;intro A B Y Z)|(apply Y;clear Z B Y A)|(apply U;clear U K)|refine⟨rfl,?_⟩|clear U K)<;>conv=>whnf)
   exact⟨hlt,_,rfl,⟨hj,hn⟩,hs⟩
  ·rw[hyes,if_pos rfl]at hn
   conv=>whnf
   repeat'((first|apply st|(apply sq;intro K U)|(apply si;intro A B Y Z)|(apply Y;clear Z B Y A)|(apply U;clear U K)|clear U K)<;>conv=>whnf)
   rw[hn];exact Aa ⟨_,⟨by rw[hck],s,hj,rfl⟩,hs⟩
 ·rw[Al hke,My]at hn
  conv=>whnf
  repeat'((first|apply st|(apply sq;intro K U)|(apply si;intro A B Y Z)|(apply Y;clear Z B Y A)|(apply U;clear U K)|refine⟨rfl,?_⟩|(refine Es (fun hc=>?_)<;>(try rw[hc])<;>clear hc)|clear U K)<;>conv=>whnf)
  rw[hn];exact Aa ⟨_,⟨rfl,s,hj,rfl⟩,hs⟩
def Na {v:V} {xs:List Int} (hst:M0 Tryz.prog (.f (.func g) fi ca) eI (fun s=> .own v 1 (iL xs)::H s) f J D) (hD: ∀x∈xs,D x) (hxl:xs.length≤Aj) (s0:S) (hj0:J s0) :
    By Tryz.prog 49 [v,.f (.func g) fi ca] (.own v 1 (iL xs)::H s0) fun r post=>r= .ret (.b (xs.any f))∧ ∃s',J s'∧post= .own v 1 (iL xs)::H s':=by
 intro σ hs;refine lk kZ ?_
 conv=>whnf
 repeat'((first|(apply sq;intro K U)|(apply si;intro A B Y Z)|(apply Y;clear Z B Y A)|(apply U;clear U K)|fail)<;>conv=>whnf)
 refine(QF g fi ca H f J D hst hD hxl s0 hj0).use (rest:=[]) (by simpa using hs) ?_;rintro r post σ ⟨rfl,s',hj,rfl⟩ hs
 conv=>whnf
 repeat'((first|apply st|(apply Y;clear Z B Y A)|(apply U;clear U K)|refine⟨rfl,?_⟩|fail)<;>conv=>whnf)
 exact Aa ⟨_,⟨by rw[←U0 f xs 0],s',hj,rfl⟩,by simpa using hs⟩
def iy {v:V} {xs:List Int} (hst:M0 Tryz.prog (.f (.func g) fi ca) eI (fun s=> .own v 1 (iL xs)::H s) f J D):M0 Tryz.prog (.f (.func 301) [] [.rp [.f (.func g) fi ca]]) eI (fun s=> .own v 1 (iL xs)::H s) (fun y=> !f y) J D:=by
 intro y s hd hj σ hs;refine Bs ?_;show A8 Tryz.prog 301 ([]++[eI y]++[.rp [.f (.func g) fi ca]]) σ _;refine dF kZ ?_
 conv=>whnf
 repeat'((first|apply st|(apply sq;intro K U)|(apply si;intro A B Y Z)|(apply Y;clear Z B Y A)|(apply U;clear U K)|fail)<;>conv=>whnf)
 refine hst.use hd hj hs ?_;clear hs;intro s' σ hj' hs
 conv=>whnf
 repeat'((first|apply st|(apply Y;clear Z B Y A)|(apply U;clear U K)|fail)<;>conv=>whnf)
 exact Aa ⟨rfl,s',hj',hs⟩
def Yy {v:V} {xs:List Int} (hst:M0 Tryz.prog (.f (.func g) fi ca) eI (fun s=> .own v 1 (iL xs)::H s) f J D) (hD: ∀x∈xs,D x) (hxl:xs.length≤Aj) (s0:S) (hj0:J s0) :
    By Tryz.prog 246 [v,.f (.func g) fi ca] (.own v 1 (iL xs)::H s0) fun r post=>r= .ret (.b (xs.all f))∧ ∃s',J s'∧post= .own v 1 (iL xs)::H s':=by
 intro σ hs;refine dJ kZ ?_
 conv=>whnf
 repeat'((first|(apply sq;intro K U)|(apply si;intro A B Y Z)|(apply Y;clear Z B Y A)|(apply U;clear U K)|fail)<;>conv=>whnf)
 refine(Na 301 [] [.rp [.f (.func g) fi ca]] H _ J D (iy g fi ca H f J D hst) hD hxl s0 hj0).use (rest:=[]) (by simpa using hs) ?_;rintro r post σ ⟨rfl,s',hj,rfl⟩ hs
 conv=>whnf
 repeat'((first|apply st|(apply Y;clear Z B Y A)|(apply U;clear U K)|fail)<;>conv=>whnf)
 refine Aa ⟨_,⟨?_,s',hj,rfl⟩,by simpa using hs⟩;rw[List.all_eq_not_any_not]
end
abbrev Ju (l:Fact):List V:=xF (BN l).1++[.b (BN l).2]
abbrev Ew (ls:List Fact):List (List V):=ls.map Ju
def X2 (xs ys:List Int) (f g:Bool):Pure Tryz.prog 95 [.l (iL xs) f,.l (iL ys) g] (.b (xs==ys)):=by
 refine Pure.fit (by kernel_rfl) fun hf=>?_
 have hx:=Kq hf.1;have hy:=Kq hf.2.1;have hM:=Mx;refine te kZ ?_;have hs:=Sn
 conv=>whnf
 repeat'((first|apply st|(apply sq;intro K U)|(apply si;intro A B Y Z)|(apply Y;clear Z B Y A)|(apply U;clear U K)|refine⟨rfl,?_⟩|(constructor<;>intro hc<;>(try rw[hc])<;>(replace hc:=bp hc)<;>(try simp(disch:=omega) only[BW,wrap64,AN]at hc))|clear U K)<;>conv=>whnf)
 ·exact AI (by(have:(xs==ys)=false:=by(simp;intro e;subst e;simp at hc));rw[this])
 have hl:xs.length=ys.length:=by omega
 refine CD xs.length (fun k (_:Unit)=>[(13,eI (BM k))]) (fun _ _=>[]) (fun k _=>(xs==ys)=(xs.drop k==ys.drop k)) () rfl rfl Sat.nil ?_;clear hs;rintro k - σ hk hn hs;rcases BS xs hk with⟨x,hxk,hlt⟩|hke
 ·obtain⟨y,hyk⟩: ∃y,ys[k]? =some y:=⟨_,Et (by omega)⟩
  rw[drop_cons hxk,drop_cons hyk]at hn
  conv=>whnf
  repeat'((first|apply st|(apply sq;intro K U)|(apply si;intro A B Y Z)|(apply Y;clear Z B Y A)|(apply U;clear U K)|apply dr|refine⟨rfl,?_⟩|refine ix ?_|(refine C8 (fun hc=>?_)<;>(try rw[hc])<;>clear hc)|(constructor<;>intro hc<;>(try rw[hc])<;>(replace hc:=bp hc))|clear U K)<;>conv=>whnf)
  ·exact AI (by rw[hn];simp[*])
  ·exact⟨hlt,(),rfl,by rw[hn];simp[*],hs⟩
 ·conv=>whnf
  repeat'((first|apply st|(apply sq;intro K U)|(apply si;intro A B Y Z)|(apply Y;clear Z B Y A)|(apply U;clear U K)|refine⟨rfl,?_⟩|(refine Es (fun hc=>?_)<;>(try rw[hc])<;>clear hc)|clear U K)<;>conv=>whnf)
  exact AI (by rw[hn,Al hke,Al (by omega)];rfl)
def jK (a b:Bool) (u:V):Pure Tryz.prog 293 [.l [] a,.l [] b,u] (.b true):=by
 refine dG kZ ?_;have hs:=Sn;have hM:=Mx
 conv=>whnf
 repeat'((first|apply st|(apply sq;intro K U)|(apply si;intro A B Y Z)|(apply Y;clear Z B Y A)|(apply U;clear U K)|refine⟨rfl,?_⟩|(constructor<;>intro hc<;>(try rw[hc])<;>(replace hc:=bp hc)<;>(try simp(disch:=omega) only[BW,wrap64,AN]at hc)<;>try(exfalso;omega))|fail)<;>conv=>whnf)
 refine CD 0 (fun k (_:Unit)=>[(17,eI (BM k))]) (fun _ _=>[]) (fun _ _=>True) () rfl trivial Sat.nil ?_;clear hs;rintro k - σ hk - hs;obtain rfl:k=0:=by omega
 conv=>whnf
 repeat'((first|apply st|(apply sq;intro K U)|(apply si;intro A B Y Z)|(apply Y;clear Z B Y A)|(apply U;clear U K)|refine⟨rfl,?_⟩|(constructor<;>intro hc<;>(try rw[hc])<;>(replace hc:=bp hc)<;>(try simp(disch:=omega) only[BW,wrap64,AN]at hc))|clear U K)<;>conv=>whnf)
 ·exfalso
  simp at hc
 ·exact AI rfl
set_option maxHeartbeats 1000000 in
def iH (f g:Fact) (hf:f.kids= []) (hg:g.kids= []):Pure Tryz.prog 227 [.a (xF f),.a (xF g)] (.b (B3 f g)):=by
 have e:B3 f g=(f.op==g.op&&(f.arg==g.arg&&(f.cls==g.cls&&(f.n==g.n&&f.path==g.path)))):=by
  rw[Ix,hf,hg];simp[Ih]
 obtain⟨o,a,p,c,n,k⟩:=f;obtain⟨o',a',p',c',n',k'⟩:=g;simp only[Fact.kids]at hf hg;subst hf;subst hg;refine dN kZ ?_;have hs:=Sn;rw[e]
 conv=>whnf
 repeat'((first|apply st|(apply sq;intro K U)|(apply si;intro A B Y Z)|(apply Y;clear Z B Y A)|(apply U;clear U K)|refine⟨rfl,?_⟩|refine Pure.use (X2 _ _ _ _) ?_|refine Pure.use (jK _ _ _) ?_|(constructor<;>intro hc<;>(try rw[hc])<;>(replace hc:=bp hc))|fail)<;>conv=>whnf)
 all_goals simp only[Fact.op,Fact.arg,Fact.cls,Fact.n,Fact.path]at *
 all_goals exact AI (by simp[*])
def WV:Fw Ju 7:=fun l=>by
 refine⟨rfl,fun v hv=>?_⟩;rcases FJ.1 hv with hv|hv
 ·exact(F5 (BN l).1).2 v (by show v∈Ef (BN l).1;rw[BC];exact hv)
 ·simp at hv;subst hv;rfl
def QM (x y:Fact):Bool:=(BN x).2==(BN y).2&&B3 (BN x).1 (BN y).1
abbrev Xh (l:Fact):Prop:=(BN l).1.kids= []
abbrev mP (f:Fact→Bool):Fact→Unit→Bool×Unit:=fun y _=>(f y,())
def iI (x:Fact) (hx1:Xh x) (n:Nat):Cy Tryz.prog (.f (.func 266) [] [.p n 0]) (fun y=> .a (Ju y)) (fun _:Unit=>[.box n (Ju x)]) (mP (QM x)) (fun y _=>Xh y):=by
 intro y s hy1 σ hs;refine Bs ?_;show A8 Tryz.prog 266 ([]++[.a (Ju y)]++[.p n 0]) σ _;refine qU kZ ?_;unfold QM
 conv=>whnf
 repeat'((first|apply st|(apply sq;intro K U)|(apply si;intro A B Y Z)|(apply Y;clear Z B Y A)|(apply U;clear U K)|refine⟨kZ,?_⟩|refine ld ?_|refine Pure.use (iH _ _ hx1 hy1) ?_|(constructor<;>intro hc<;>(try rw[hc])<;>(replace hc:=bp hc))|fail)<;>conv=>whnf)
 all_goals exact Aa ⟨by simp[mP, *],hs⟩
section
variable {S:Type} (g:FuncId) (fi ca:List V) (H:S→List At)
def QE (stp:Fact→S→Bool×S) (D:Fact→S→Prop) {v:V} {xs:List Fact} (hst:Cy Tryz.prog (.f (.func g) fi ca) (fun y=> .a (Ju y)) (fun s=> .own v 7 (Ew xs)::H s) stp D) (hxl:xs.length≤Aj) (s0:S) (hd:RZ stp D xs s0) :
    By Tryz.prog 313 [v,.f (.func g) fi ca] (.own v 7 (Ew xs)::H s0) fun r post=>r= .ret (eI (B8 stp xs 0 s0).1)∧post= .own v 7 (Ew xs)::H (B8 stp xs 0 s0).2:=by
 intro σ hs;have hM:=Mx;refine pj kZ ?_
 conv=>whnf
 repeat'((first|apply st|(apply sq;intro K U)|(apply si;intro A B Y Z)|(apply Y;clear Z B Y A)|(apply U;clear U K)|refine lo ?_|fail)<;>conv=>whnf)
 refine CD xs.length (fun k (_:S)=>[(8,eI (BM k))]) (fun _ s=> .own v 7 (Ew xs)::H s) (fun k s=>RZ stp D (xs.drop k) s∧B8 stp xs 0 s0=B8 stp (xs.drop k) k s) s0 rfl ⟨hd,rfl⟩ hs ?_;clear hs;rintro k s σ hk ⟨hd,hn⟩ hs;have hck:BM k=k:=AN (by omega);rcases BS xs hk with⟨y,hy,hlt⟩|hke
 ·rw[drop_cons hy]at hn hd
  obtain⟨hd1,hd2⟩:=hd;rw[B8]at hn
  conv=>whnf
  repeat'((first|apply st|(apply sq;intro K U)|(apply si;intro A B Y Z)|(apply Y;clear Z B Y A)|(apply U;clear U K)|refine⟨rfl,?_⟩|refine⟨kZ,?_⟩|refine oi ?_|refine ol fun x hx=>?_|(refine C8 (fun hc=>?_)<;>(try rw[hc])<;>clear hc)|fail)<;>conv=>whnf)
  obtain rfl:x=y:=by rw[hck,Lm,hy]at hx;exact(Option.some.inj hx).symm
  refine hst.use hd1 hs ?_;clear hs;intro σ hs;cases hyes:(stp x s).1
  ·rw[hyes,if_neg (by decide)]at hn
   conv=>whnf
   repeat'((first|apply st|(apply si;intro A B Y Z)|(apply Y;clear Z B Y A)|(apply U;clear U K)|refine⟨rfl,?_⟩|clear U K)<;>conv=>whnf)
   exact⟨hlt,_,rfl,⟨hd2,hn⟩,hs⟩
  ·rw[hyes,if_pos rfl]at hn
   conv=>whnf
   repeat'((first|apply st|(apply sq;intro K U)|(apply si;intro A B Y Z)|(apply Y;clear Z B Y A)|(apply U;clear U K)|clear U K)<;>conv=>whnf)
   rw[hn];exact Aa ⟨_,⟨by rw[hck],rfl⟩,hs⟩
 ·rw[Al hke,B8]at hn
  conv=>whnf
  repeat'((first|apply st|(apply sq;intro K U)|(apply si;intro A B Y Z)|(apply Y;clear Z B Y A)|(apply U;clear U K)|refine⟨rfl,?_⟩|(refine Es (fun hc=>?_)<;>(try rw[hc])<;>clear hc)|clear U K)<;>conv=>whnf)
  rw[hn];exact Aa ⟨_,⟨rfl,rfl⟩,hs⟩
def Mm (stp:Fact→S→Bool×S) (D:Fact→S→Prop) {v:V} {xs:List Fact} (hst:Cy Tryz.prog (.f (.func g) fi ca) (fun y=> .a (Ju y)) (fun s=> .own v 7 (Ew xs)::H s) stp D) (hxl:xs.length≤Aj) (s0:S) (hd:RZ stp D xs s0) :
    By Tryz.prog 265 [v,.f (.func g) fi ca] (.own v 7 (Ew xs)::H s0) fun r post=>r= .ret (.b (decide ((B8 stp xs 0 s0).1≥0)))∧post= .own v 7 (Ew xs)::H (B8 stp xs 0 s0).2:=by
 intro σ hs;refine qV kZ ?_
 conv=>whnf
 repeat'((first|(apply sq;intro K U)|(apply si;intro A B Y Z)|(apply Y;clear Z B Y A)|(apply U;clear U K)|fail)<;>conv=>whnf)
 refine(QE g fi ca H stp D hst hxl s0 hd).use (rest:=[]) (by simpa using hs) ?_;rintro r post σ ⟨rfl,rfl⟩ hs
 conv=>whnf
 repeat'((first|apply st|(apply Y;clear Z B Y A)|(apply U;clear U K)|refine⟨rfl,?_⟩|fail)<;>conv=>whnf)
 exact Aa ⟨_,⟨rfl,rfl⟩,by simpa using hs⟩
end
def fY (a:List Fact) (f:Bool) (hl:a.length≤1000000):By Tryz.prog 264 [.l (Ew a) f] [] fun r post=> ∃v,r= .ret v∧post= [.own v 7 (Ew a)]:=by
 intro σ hs;have hM:=Mx;refine qW kZ ?_
 conv=>whnf
 repeat'((first|(apply sq;intro K U)|(apply si;intro A B Y Z)|(apply Y;clear Z B Y A)|(apply U;clear U K)|fail)<;>conv=>whnf)
 refine⟨fun e t=>?_,fun _=>?_⟩
 ·have hxe:a= []:=List.map_eq_nil_iff.1 e
  subst hxe
  conv=>whnf
  repeat'((first|apply st|(apply sq;intro K U)|(apply si;intro A B Y Z)|(apply Y;clear Z B Y A)|(apply U;clear U K)|(constructor<;>intro hc<;>(try rw[hc])<;>(replace hc:=bp hc))|clear U K)<;>conv=>whnf)
  ·exact Aa ⟨_,⟨_,rfl,rfl⟩,FN hs 7⟩
  ·replace hs:=FN hs 7
   refine GS hs 0 (xs:=[]) (ys:=[]) rfl (by simp) WV fun v σ hs=>?_
   conv=>whnf
   repeat'((first|apply st|(apply Y;clear Z B Y A)|(apply U;clear U K)|fail)<;>conv=>whnf)
   exact Aa ⟨_,⟨_,rfl,rfl⟩,hs⟩
 ·conv=>whnf
  repeat'((first|apply st|(apply sq;intro K U)|(apply si;intro A B Y Z)|(apply Y;clear Z B Y A)|(apply U;clear U K)|fail)<;>conv=>whnf)
  replace hs:=FN hs 7;refine GS hs 0 (xs:=[]) (ys:=a) rfl (by simp;omega) WV fun v σ hs=>?_
  conv=>whnf
  repeat'((first|apply st|(apply Y;clear Z B Y A)|(apply U;clear U K)|fail)<;>conv=>whnf)
  exact Aa ⟨_,⟨_,rfl,rfl⟩,hs⟩
def UT {w:AM} {x:Fact} (h:Ia w x):x=if(BN x).2 then ED (BN x).1 else(BN x).1:=by
 obtain⟨g,hn,hl,rfl|rfl⟩:=h
 ·have:=Gd hl
  have h5: ¬x.op=5:=by omega
  simp only[BN,if_neg h5];rfl
 ·rfl
def X1 {w:AM} {x y:Fact} (hx1:Ia w x) (hy1:Ia w y):QM x y=B3 x y:=by
 rw[JZ,E8];simp only[QM,BU,D4,E8];constructor
 ·rintro⟨h1,h2⟩
  rw[UT hx1,UT hy1,h1,h2]
 ·rintro rfl
  exact⟨rfl,rfl⟩
def Qt {w:AM} {x:Fact} (h:Ia w x):Xh x:=by
 obtain⟨-,hn,hl⟩:=I0 h;have hlo:=Gd hl;have har:=A7 _ hn;rw[EA,BU,D4]at har
 have h0:Bw (BN x).1.op=0:=by
  have h5: ¬(BN x).1.op=5:=by omega
  have h6: ¬((BN x).1.op=6∨(BN x).1.op=7):=by omega
  simp[Bw,h5,h6]
  try omega
 rw[h0]at har;exact Vt.1 har.1
def Z4 {w:AM} (a b:List Fact) (f g:Bool) (hla: ∀x∈a,Ia w x) (hlb: ∀x∈b,Ia w x) (hl:a.length+b.length<1000000):Pure Tryz.prog 190 [.l (Ew a) f,.l (Ew b) g] (.l (Ew (Ce a b)) false):=by
 have hM:=Mx;refine Pure.of ?_;refine rC kZ ?_;have hs:=Sn
 conv=>whnf
 repeat'((first|(apply sq;intro K U)|(apply si;intro A B Y Z)|(apply Y;clear Z B Y A)|(apply U;clear U K)|fail)<;>conv=>whnf)
 refine(fY a f (by omega)).use (rest:=[]) (by simpa using hs) ?_;clear hs;rintro r post σ ⟨v,rfl,rfl⟩ hs
 conv=>whnf
 repeat'((first|apply st|(apply sq;intro K U)|(apply si;intro A B Y Z)|(apply Y;clear Z B Y A)|(apply U;clear U K)|fail)<;>conv=>whnf)
 refine CD b.length (fun k v=>[(5,v),(12,eI (BM k))]) (fun k v=>[.own v 7 (Ew (Ce a (b.take k)))]) (fun _ _=>True) v rfl trivial hs ?_;clear hs;rintro k v σ hk - hs;have hml:=MW a (b.take k);rw[Mo]at hml;rcases BS b hk with⟨x,hxk,hlt⟩|hke
 ·have hsn:=Pa a (b.take k) x
  rw[←AR hxk]at hsn;have hxg:=hlb x (Ck hxk)
  have hmem: ∀y∈Ce a (b.take k),Ia w y:=fun y hy=>by
   rcases Qy _ _ _ hy with h|h
   ·exact hla y h
   ·exact hlb y (List.mem_of_mem_take h)
  generalize Ce a (b.take k)=m at *
  have hany:m.any (QM x)=m.any (B3 x):=by
   rw[JZ,NO,NO];exact⟨fun⟨y,hy,h⟩=>⟨y,hy,by rw[←X1 hxg (hmem y hy)];exact h⟩,fun⟨y,hy,h⟩=>⟨y,hy,by rw[X1 hxg (hmem y hy)];exact h⟩⟩
  conv=>whnf
  repeat'((first|apply st|(apply sq;intro K U)|(apply si;intro A B Y Z)|(apply Y;clear Z B Y A)|(apply U;clear U K)|refine⟨rfl,?_⟩|refine⟨kZ,?_⟩|refine ix ?_|refine CX fun σ hs=>?_|(refine C8 (fun hc=>?_)<;>(try rw[hc])<;>clear hc)|(intro nn hnn;generalize hg:Az _ nn _=σ;refine CN hg fun hs=>?_;clear hg)|fail)<;>conv=>whnf)
  generalize nn=n7 at *;have hs2:Sat σ [.own v 7 (Ew m),.box n7 (Ju x)]:=hs.perm (.swap _ _ _);clear hs hnn;refine(Mm 266 [] [.p n7 0] (fun _:Unit=>[.box n7 (Ju x)]) (mP (QM x)) (fun y _=>Xh y) ((iI x (Qt hxg) n7).more [_]) (by omega) () (L2 fun y hy _=>Qt (hmem y hy))).use (rest:=[]) hs2 ?_;clear hs2;rintro r post σ ⟨rfl,rfl⟩ hs;rw[Ox,hany];cases hy:m.any (B3 x)
  ·rw[hy,if_neg Bool.false_ne_true]at hsn
   conv=>whnf
   repeat'((first|apply st|(apply si;intro A B Y Z)|(apply Y;clear Z B Y A)|(apply U;clear U K)|refine⟨kZ,?_⟩|refine ld ?_|refine JB ?_|fail)<;>conv=>whnf)
   refine GF (Fc (x:=x) (xs:=m) (enc:=Ju) hs 0 rfl (by omega) WV fun v σ hs hsl=>?_)
   conv=>whnf
   repeat'((first|(apply si;intro A B Y Z)|(apply Y;clear Z B Y A)|(apply U;clear U K)|refine⟨rfl,?_⟩|clear U K)<;>conv=>whnf)
   exact⟨hlt,v,rfl,trivial,by rw[hsn];exact hs.less (.cons₂ _ (QI _))⟩
  ·rw[hy,if_pos rfl]at hsn
   conv=>whnf
   repeat'((first|apply st|(apply si;intro A B Y Z)|(apply Y;clear Z B Y A)|(apply U;clear U K)|refine⟨rfl,?_⟩|refine G3 ?_|clear U K)<;>conv=>whnf)
   exact⟨hlt,v,rfl,trivial,by rw[hsn];exact hs.less (.cons₂ _ (QI _))⟩
 ·conv=>whnf
  repeat'((first|apply st|(apply sq;intro K U)|(apply si;intro A B Y Z)|(apply Y;clear Z B Y A)|(apply U;clear U K)|refine⟨rfl,?_⟩|(refine Es (fun hc=>?_)<;>(try rw[hc])<;>clear hc)|clear U K)<;>conv=>whnf)
  exact az (EB hs 0 rfl (vf:= .l (Ew (Ce a b)) false) (by rw[Av hke])) fun r σ h=>h.1
end Go.Gl
namespace Go.Gl
open Go.Proofs
abbrev dg:AY:=(.seq [0,3] (.DB [⟨(some 3),.P6 (.t 1),none⟩,
 ⟨(some 4),.mv (.c .pn),none⟩])
 (.seq [0,3,5,6] (.G9 [0,3,5,6] [⟨0,⟨(some 8),.mv (.t 0),none⟩,[],[]⟩,
  ⟨1,⟨(some 9),.IE (.t 8),none⟩,[],[]⟩,
  ⟨2,⟨(some 10),.GU 1 (.t 9),none⟩,[],[]⟩,
  ⟨3,⟨(some 11),.load none (.t 10),none⟩,[],[]⟩,
  ⟨4,⟨(some 12),.load (some 4) (.t 3),none⟩,[],[]⟩,
  ⟨5,⟨(some 13),.lookup (.a [.i64,.i64,.i64,.i64]) .pn true (.t 11) (.t 12),none⟩,[],[]⟩,
  ⟨6,⟨(some 7),.mv (.t 13),none⟩,[],[]⟩,
  ⟨7,⟨(some 14),.extract 0 (.t 7),none⟩,[],[]⟩,
  ⟨8,⟨(some 15),.extract 1 (.t 7),none⟩,[],[]⟩,
  ⟨9,⟨(some 5),.mv (.t 14),none⟩,[],[]⟩,
  ⟨10,⟨(some 6),.mv (.t 15),none⟩,[],[]⟩])
 (.seq [5] (.seq [0,3,5,17] (.DB [⟨(some 16),.mv (.t 6),none⟩,
  ⟨(some 17),.not (.t 16),none⟩])
 (.cond (.t 17)
 (.seq [0,3,5] (.DB [⟨(some 18),.build [(.i .i64 0),(.i .i64 0),(.l [] true)] [(0,1,(.c (.i .i64 (-1000000000)))),(1,1,(.c (.i .i64 1000000000)))],none⟩,
  ⟨(some 19),.build [(.i .i64 0),(.i .i64 0),(.l [] true),(.i .u64 0),(.i .u64 0),(.b false),(.b false),(.l [] true)] [(0,3,(.t 18))],none⟩,
  ⟨(some 20),.box (.t 19),none⟩,
  ⟨(some 5),.mv (.t 20),none⟩])
 (.G9 [5] [⟨0,⟨(some 21),.mv (.t 0),none⟩,[],[]⟩,
  ⟨1,⟨(some 22),.IE (.t 21),none⟩,[],[]⟩,
  ⟨2,⟨(some 23),.GU 1 (.t 22),none⟩,[],[]⟩,
  ⟨3,⟨(some 24),.load none (.t 23),none⟩,[],[]⟩,
  ⟨4,⟨(some 25),.load (some 4) (.t 3),none⟩,[],[]⟩,
  ⟨5,⟨(some 26),.mv (.t 5),none⟩,[],[]⟩,
  ⟨6,⟨none,.Eh (.a [.i64,.i64,.i64,.i64]) (.t 24) (.t 25) (.t 26),none⟩,[],[]⟩]))
 .skip))
 (.seq [4] (.DB [⟨(some 27),.mv (.t 5),none⟩,
  ⟨(some 4),.mv (.t 27),none⟩])
 .ret))))
def iO:Tryz.f198.body.bind (res Tryz.prog Tryz.f198.ntmps [] [3])=some (erase dg):=by kernel_rfl
def kB {args:List V} (hn:args.length≤28) {σ:AH} {Q:R→AH→Prop} (h:W Tryz.prog dg (gp [4] Q) (BA 0 args) σ):A8 Tryz.prog 198 args σ Q:=
 Pl Tryz.func198 (by kernel_rfl) iO rfl hn (ku h)
end Go.Gl
namespace Go.Gl
open Go.Proofs
attribute [local irreducible] A8 Ap Ag AT AL Ae AS AU AK Ad AO AP Aw A2 Sat AX A0 Ai W
abbrev TW (w:AM) (us:List Nat) (L:Nat):V:= .rp [.rp (wC w us),.m L]
def P4 (es es':List Cz):Prop:= ∃new:List Cz,es'=es++new∧ ∀x∈new,x.k=k0
def P4.refl (es:List Cz):P4 es es:=⟨[],by simp,by simp⟩
def P4.trans {a b c:List Cz} (h1:P4 a b) (h2:P4 b c):P4 a c:=by
 obtain⟨x,rfl,hx⟩:=h1;obtain⟨y,rfl,hy⟩:=h2;refine⟨x++y,by simp,fun z hz=>?_⟩;rcases FJ.1 hz with h|h
 ·exact hx z h
 ·exact hy z h
def P4.mem {a b:List Cz} (h:P4 a b) {e:Cz} (he:e∈a):e∈b:=by
 obtain⟨x,rfl,_⟩:=h;exact TV _ he
structure mu (kf:Int→List Int→Kn) (es es':List Cz) (a:Int) (p:List Int) (e:Cz):Prop where
 inv:Du kf es'
 ext:P4 es es'
 mem:e∈es'
 is:e.is a p=true
def mu.k {kf:Int→List Int→Kn} {es es':List Cz} {a:Int} {p:List Int} {e:Cz} (h:mu kf es es' a p e):e.k=kf a p:=by
 have:=h.inv.val e h.mem;obtain⟨h1,h2⟩:=J5.1 h.is;rw[this,h1,h2]
def cw {σ:AH} {l:List At} (h:Sat σ l) (i:Nat) {n:Nat} {kvs:List (V×V)} {ks:KS} {z vk:V} {ok:Bool} {o:Option V} (hi:l[i]? =some (.map n kvs)) (hk:BV ks vk=true) (hks: ∀kv∈kvs,BV ks kv.1=true) (hf:Cp vk kvs=o) {K:V→Prop} (h':K (found z ok o)) :
    AO σ ks z ok (.m n) vk K:=Sv h i hi hk hks (hf ▸ h')
def Kt (w:AM) (us:List Nat) {kf:Int→List Int→Kn} {L:Nat} {es:List Cz} (h:Du kf es) {a:Int} {p:List Int} (hp:p.length≤2) :
    By Tryz.prog 198 [TW w us L,EP a p] (B7 L es) fun r post=> ∃es' e,mu kf es es' a p e∧r= .ret (.p e.b 0)∧post=B7 L es':=by
 intro σ hs;refine kB kZ ?_;unfold B7 at hs;rcases lE a p es with hn|⟨pre,e,post,rfl,he,hpre⟩
 ·have hf:=Up hp h.len hn
  conv=>whnf
  repeat'((first|apply st|(apply sq;intro K U)|(apply si;intro A B Y Z)|(apply Y;clear Z B Y A)|(apply U;clear U K)|apply dr|refine⟨kZ,?_⟩|refine JB ?_|refine cw hs 0 rfl rfl (Ot _) hf ?_|refine Nr hs 1 rfl rfl (Ot _) fun σ hs=>?_|(intro nn hnn;generalize hg:Az _ nn _=σ;refine CN hg fun hs=>?_;clear hg)|fail)<;>conv=>whnf)
  simp only[List.set_cons_succ,List.set_cons_zero]at hs;change Sat σ (_:: .map L (ET (EP a p) (.p nn 0) (Vr es))::_)at hs;rw[cj hp nn (.l [] true) (.l [] true) k0 h.len hn]at hs;have hs2:=FN (FN hs 1) 1;refine Aa ⟨_,⟨es++[⟨a,p,nn,.l [] true,.l [] true,k0⟩],⟨a,p,nn,.l [] true,.l [] true,k0⟩,⟨h.add hp hn _ _ _,⟨_,rfl,by simp⟩,by simp,by simp[Cz.is]⟩,rfl,rfl⟩,?_⟩;unfold B7;rw[List.flatMap_append,List.flatMap_cons,List.flatMap_nil,JW];refine hs2.perm ((List.perm_middle (l₁:=[_,_,_])).trans (.cons _ (TO.trans (List.Perm.append_left _ (List.reverse_perm _).symm))))
 ·have hf:=Uo hp he h.len hpre
  conv=>whnf
  repeat'((first|apply st|(apply sq;intro K U)|(apply si;intro A B Y Z)|(apply Y;clear Z B Y A)|(apply U;clear U K)|apply dr|refine⟨kZ,?_⟩|refine G3 ?_|refine cw hs 0 rfl rfl (Ot _) hf ?_|fail)<;>conv=>whnf)
  exact Aa ⟨_,⟨_,e,⟨h,.refl _,by simp,he⟩,rfl,rfl⟩,hs⟩
def Nn (a:Int) (p:List Int) (s:Int) (hp:p.length<2):Pure Tryz.prog 199 [EP a p,eI s] (EP a (p++[s])):=by
 refine qw kZ ?_;have hs:=Sn
 match p,hp with
 | [],_=>
   conv=>whnf
   repeat'((first|apply st|(apply sq;intro K U)|(apply si;intro A B Y Z)|(apply Y;clear Z B Y A)|(apply U;clear U K)|refine⟨rfl,?_⟩|refine⟨kZ,?_⟩|refine mJ ?_|refine ld ?_|refine IA fun σ hs=>?_|refine CX fun σ hs=>?_|(intro nn hnn;generalize hg:Az _ nn _=σ;refine CN hg fun hs=>?_;clear hg)|fail)<;>conv=>whnf)
   all_goals exact AI rfl
 | [x],_=>
   conv=>whnf
   repeat'((first|apply st|(apply sq;intro K U)|(apply si;intro A B Y Z)|(apply Y;clear Z B Y A)|(apply U;clear U K)|refine⟨rfl,?_⟩|refine⟨kZ,?_⟩|refine mJ ?_|refine ld ?_|refine IA fun σ hs=>?_|refine CX fun σ hs=>?_|(intro nn hnn;generalize hg:Az _ nn _=σ;refine CN hg fun hs=>?_;clear hg)|fail)<;>conv=>whnf)
   all_goals exact AI rfl
set_option maxHeartbeats 1000000 in
def r7 {b:Nat} {vn vs:V} {k:Kn} (f:Fact) (c:Bool) (hl:f.op=2∨f.op=3∨f.op=4) (hc:f.op=2→0≤f.cls∧f.cls<64) (hm:k.B2<18446744073709551616) (hn:k.GQ<18446744073709551616) (hno:k.no.length<1000000) (hN: -1000000000≤f.n∧f.n≤1000000000) :
    By Tryz.prog 269 [.p b 0,.a (xF f++[.b c])] (mh b vn vs k) fun r post=>r= .ret (.t [])∧ ∃vn',post=mh b vn' vs (Cn k f c):=by
 intro σ hs;have hM:=Mx;refine qR kZ ?_;rw[show xF f++[V.b c]= [eI f.op,eI f.arg,.l (iL f.path) false,eI f.cls,eI f.n,.l (f.kids.map Ef) false,.b c] from rfl];have hw:IntKind.i64.wrap (f.n - 1)=f.n - 1:=wrap64 (by omega) (by omega);cases c<;>rcases hl with h2|h3|h4
 ·have hE:Cn k f false= {k with B2:=k.B2|||2 ^ f.cls.toNat}:=by rw[Cn,if_pos h2,if_neg Bool.false_ne_true]
  rw[hE]
  conv=>whnf
  repeat'((first|apply st|(apply sq;intro K U)|(apply si;intro A B Y Z)|(apply Y;clear Z B Y A)|(apply U;clear U K)|apply dr|refine⟨rfl,?_⟩|refine ld ?_|refine IA fun σ hs=>?_|refine G3 ?_|refine Pure.use (HK _ _ hm (by omega) (by omega)) ?_|(constructor<;>intro hc<;>(try rw[hc])<;>(replace hc:=bp hc)<;>try(exfalso;omega))|fail)<;>conv=>whnf)
  exact Aa ⟨_,⟨rfl,vn,rfl⟩,hs⟩
 ·have hE:Cn k f false= {k with high:=if f.n - 1<k.high then f.n - 1 else k.high,whole:=true}:=by rw[Cn,if_neg (by omega),if_pos h3,if_neg Bool.false_ne_true]
  rw[hE]
  conv=>whnf
  repeat'((first|apply st|(apply sq;intro K U)|(apply si;intro A B Y Z)|(apply Y;clear Z B Y A)|(apply U;clear U K)|apply dr|refine⟨rfl,?_⟩|refine ld ?_|refine IA fun σ hs=>?_|refine G3 ?_|(constructor<;>intro hc<;>(try rw[hc])<;>(replace hc:=bp hc)<;>try(exfalso;omega))|fail)<;>conv=>whnf)
  rw[hw]at hs;exact Aa ⟨_,⟨rfl,vn,rfl⟩,hs⟩
 ·have hE:Cn k f false= {k with low:=if f.n > k.low then f.n else k.low,high:=if f.n<k.high then f.n else k.high,whole:=true}:=by rw[Cn,if_neg (by omega),if_neg (by omega),if_neg Bool.false_ne_true]
  rw[hE]
  conv=>whnf
  repeat'((first|apply st|(apply sq;intro K U)|(apply si;intro A B Y Z)|(apply Y;clear Z B Y A)|(apply U;clear U K)|apply dr|refine rk ?_ ?_|exact fun s e=>by cases e;rfl|refine⟨rfl,?_⟩|refine ld ?_|refine IA fun σ hs=>?_|(constructor<;>intro hc<;>(try rw[hc])<;>(replace hc:=bp hc)<;>try(exfalso;omega))|fail)<;>conv=>whnf)
  exact Aa ⟨_,⟨rfl,vn,rfl⟩,hs⟩
 ·have hE:Cn k f true= {k with GQ:=k.GQ|||2 ^ f.cls.toNat}:=by rw[Cn,if_pos h2,if_pos rfl]
  rw[hE]
  conv=>whnf
  repeat'((first|apply st|(apply sq;intro K U)|(apply si;intro A B Y Z)|(apply Y;clear Z B Y A)|(apply U;clear U K)|apply dr|refine⟨rfl,?_⟩|refine ld ?_|refine IA fun σ hs=>?_|refine JB ?_|refine Pure.use (HK _ _ hn (by omega) (by omega)) ?_|(constructor<;>intro hc<;>(try rw[hc])<;>(replace hc:=bp hc)<;>try(exfalso;omega))|fail)<;>conv=>whnf)
  exact Aa ⟨_,⟨rfl,vn,rfl⟩,hs⟩
 ·have hE:Cn k f true= {k with low:=if f.n > k.low then f.n else k.low}:=by rw[Cn,if_neg (by omega),if_pos h3,if_pos rfl]
  rw[hE]
  conv=>whnf
  repeat'((first|apply st|(apply sq;intro K U)|(apply si;intro A B Y Z)|(apply Y;clear Z B Y A)|(apply U;clear U K)|apply dr|refine⟨rfl,?_⟩|refine ld ?_|refine IA fun σ hs=>?_|refine JB ?_|(constructor<;>intro hc<;>(try rw[hc])<;>(replace hc:=bp hc)<;>try(exfalso;omega))|fail)<;>conv=>whnf)
  exact Aa ⟨_,⟨rfl,vn,rfl⟩,hs⟩
 ·have hE:Cn k f true= {k with no:=k.no++[f.n]}:=by rw[Cn,if_neg (by omega),if_neg (by omega),if_pos rfl]
  rw[hE]
  conv=>whnf
  repeat'((first|apply st|(apply sq;intro K U)|(apply si;intro A B Y Z)|(apply Y;clear Z B Y A)|(apply U;clear U K)|apply dr|refine⟨rfl,?_⟩|refine ld ?_|refine IA fun σ hs=>?_|refine aq fun v σ hs hsl=>?_|(constructor<;>intro hc<;>(try rw[hc])<;>(replace hc:=bp hc)<;>try(exfalso;omega))|fail)<;>conv=>whnf)
  exact Aa ⟨_,⟨rfl,_,rfl⟩,hs⟩
def HF {σ:AH} {X:List At} {L:Nat} {pre post:List Cz} {e:Cz} (h:Sat σ (X++B7 L (pre++e::post))):Sat σ (.box e.b [eI e.k.low,eI e.k.high,e.vn,eU e.k.B2,eU e.k.GQ,.b e.k.whole,.b e.k.A6,e.vs]:: .own e.vn 1 (iL e.k.no):: .own e.vs 1 (iL e.k.AJ)::(X++HC L (pre++e::post) pre post)):=by
 have h2:Sat σ (T6 e++(X++HC L (pre++e::post) pre post)):=h.perm ((List.Perm.append_left X (Ur L pre post e)).trans (by rw[←TR,←TR];exact TO.append_right _));exact h2
def EG {σ:AH} {X:List At} {L:Nat} {pre post:List Cz} {e e':Cz} (h1:e'.a=e.a) (h2:e'.p=e.p) (h3:e'.b=e.b) (h:Sat σ (T6 e'++(X++HC L (pre++e::post) pre post))):Sat σ (X++B7 L (pre++e'::post)):=by
 rw[←TA h1 h2 h3]at h;exact h.perm ((List.Perm.append_left X (Ur L pre post e')).trans (by rw[←TR,←TR];exact TO.append_right _)).symm
def Ms {α:Type} (a b c:α) (l:List α):(a::b::c::l).Perm (b::c::a::l):=(List.Perm.swap _ _ _).trans (.cons _ (.swap _ _ _))
def MU {α:Type} (a:α) (l:List α):(a::l).Perm (l++[a]):=(List.perm_append_singleton a l).symm
def kg (m:Nat) (k:Kn):Prop:=k.B2<18446744073709551616∧k.GQ<18446744073709551616∧k.no.length≤m∧k.AJ.length≤m
def jG (f:Fact) (c:Bool) (j:Nat) (a:Int) (p:List Int) (k:Kn):(DW f c j a p k).B2=k.B2:=by unfold DW;(repeat' split)<;>rfl
def oM (f:Fact) (c:Bool) (j:Nat) (a:Int) (p:List Int) (k:Kn):(DW f c j a p k).GQ=k.GQ:=by unfold DW;(repeat' split)<;>rfl
def tU (f:Fact) (c:Bool) (j:Nat) (a:Int) (p:List Int) (k:Kn):(DW f c j a p k).no=k.no:=by unfold DW;(repeat' split)<;>rfl
def fE (f:Fact) (c:Bool) (j:Nat) (a:Int) (p:List Int) (k:Kn):(DW f c j a p k).AJ.length≤k.AJ.length+1:=by
 unfold DW
 repeat' split
 ·exact RQ _ _
 all_goals simp[Dd]
def tT {m:Nat} {k:Kn} (h:kg m k) (f:Fact) (c:Bool) (j:Nat) (a:Int) (p:List Int):kg (m+1) (DW f c j a p k):=by
 obtain⟨h1,h2,h3,h4⟩:=h;refine⟨by rw[jG];exact h1,by rw[oM];exact h2,by rw[tU];omega,?_⟩;have:=fE f c j a p k;omega
def Qs {k:Kn} (c:Bool) (h:k.A6=true):Dd k c= {k with A6:=true}:=by simp[Dd,h]
def PU {k:Kn} (c:Bool) (h:k.A6=false):Dd k c= {k with A6:= !c}:=by simp[Dd,h]
abbrev KZ (a:Int) (p:List Int):List V:=[eI a,eI (p.length:Int),eI (p.getD 0 0),eI (p.getD 1 0)]
structure cD (f:Fact):Prop where
 op:f.op=2∨f.op=3∨f.op=4
 path:f.path.length≤2
 cls:f.op=2→0≤f.cls∧f.cls<64
 n: -1000000000≤f.n∧f.n≤1000000000
set_option maxHeartbeats 2000000 in
def kU (w : AM) (us:List Nat) {kf:Int→List Int→Kn} {L:Nat} {es:List Cz} (h:Du kf es) (f:Fact) (c:Bool) (hl:cD f) {m:Nat} (hm:m<1000) (hb: ∀a p,kg m (kf a p)) :
    By Tryz.prog 193 [TW w us L,.a (xF f++[.b c])] (B7 L es) fun r post=>r= .ret (.t [])∧ ∃es',Du (fun a p=>if a=f.arg∧p=f.path then Cn (DW f c f.path.length a p (kf a p)) f c else DW f c f.path.length a p (kf a p)) es'∧post=B7 L es':=by
 intro σ hs;have hM:=Mx;obtain⟨l1,l2,l3,l4⟩:=hl;refine rA kZ ?_;rw[show xF f++[V.b c]= [eI f.op,eI f.arg,.l (iL f.path) false,eI f.cls,eI f.n,.l (f.kids.map Ef) false,.b c] from rfl]
 conv=>whnf
 repeat'((first|apply st|(apply sq;intro K U)|(apply si;intro A B Y Z)|(apply Y;clear Z B Y A)|(apply U;clear U K)|refine⟨kZ,?_⟩|refine ld ?_|refine CX fun σ hs=>?_|(intro nn hnn;generalize hg:Az _ nn _=σ;refine CN hg fun hs=>?_;clear hg)|fail)<;>conv=>whnf)
 generalize nn=nx at *;refine(Kt w us h (a:=f.arg) (p:=[]) (by simp)).use (rest:=[.box nx (KZ f.arg [])]) (hs.perm (MU _ _)) ?_;clear hs hnn;rintro r post σ ⟨es1,e1,got,rfl,rfl⟩ hs;have hek:=got.k;obtain⟨hea,hep⟩:=J5.1 got.is;obtain⟨pre,post,rfl⟩:=List.append_of_mem got.mem;replace hs:=HF (X:=[.box nx (KZ f.arg [])]) (hs.perm TO);cases hnd:e1.k.A6<;>rw[hnd]at hs
 all_goals
  conv=>whnf
  repeat'((first|apply st|(apply sq;intro K U)|(apply si;intro A B Y Z)|(apply Y;clear Z B Y A)|(apply U;clear U K)|refine ld ?_|refine IA fun σ hs=>?_|fail)<;>conv=>whnf)
  obtain⟨e2,es2,Y,Z,hC⟩: ∃(e2:Cz) (es2:List Cz),(Du (fun a p=>DW f c 0 a p (kf a p)) es2∧e2∈es2∧e2.is f.arg (f.path.take 0)=true)∧e2.b=e1.b∧Sat σ (.box nx (KZ f.arg (f.path.take 0))::B7 L es2):=by
   refine⟨⟨e1.a,e1.p,e1.b,e1.vn,e1.vs,Dd e1.k c⟩,_,⟨(got.inv.change e1.b e1.vn e1.vs (Dd e1.k c)).congr fun a p=>?_,Vu _ (.head _),got.is⟩,rfl,?_⟩
   ·rw[jE,Tb,hea,hep,hek]
    by_cases ha:a=f.arg∧p= []
    ·rw[if_pos ha,if_pos ha,ha.1,ha.2]
    ·rw[if_neg ha,if_neg ha]
   ·refine EG (X:=[.box nx (KZ f.arg [])]) (e:=e1) rfl rfl rfl ?_
    first
     | (rw[Qs c hnd];exact hs)
     | (rw[PU c hnd];exact hs)
  rw[←Z];clear hs hnd got hek hea hep;refine CD f.path.length (fun j (x:List Cz×Cz)=>[(31,eI (BM j)),(5,.p x.2.b 0)]) (fun j x=> .box nx (KZ f.arg (f.path.take j))::B7 L x.1) (fun j x=>Du (fun a p=>DW f c j a p (kf a p)) x.1∧x.2∈x.1∧x.2.is f.arg (f.path.take j)=true) (es2,e2) rfl Y hC ?_;clear Y hC;generalize e2.b=b0 at *;clear Z e2 es2;rintro j ⟨es2,e2⟩ σ hj ⟨hinv,hmem,his⟩ hs;simp only at hinv hmem his hs
  have hek:e2.k=DW f c j f.arg (f.path.take j) (kf f.arg (f.path.take j)):=by
   have:=hinv.val e2 hmem;obtain⟨h1,h2⟩:=J5.1 his;rw[this,h1,h2]
  have hok:kg (m+1) e2.k:=by rw[hek];exact tT (hb _ _) f c j _ _
  obtain⟨hea,hep⟩:=J5.1 his;obtain⟨pre2,post2,rfl⟩:=List.append_of_mem hmem;replace hs:=HF (X:=[.box nx (KZ f.arg (f.path.take j))]) hs;have hck:BM j=j:=AN (by omega);rcases BS f.path hj with⟨s,hsj,hjlt⟩|hje
  ·have hct:=fun b=>Dp e2.k.AJ b s
   have hk4:=hok.2.2.2;have hsl0:gG e2.k s= {e2.k with AJ:=Is e2.k.AJ s}:=rfl
   have hne:f.path.take j++[s]≠f.path.take j:=by
    intro e;have:=congrArg List.length e;simp at this
   have hgd:f.path.getD j 0=s:=by rw[E2,hsj];rfl
   have htk:f.path.take (j+1)=f.path.take j++[s]:=AR hsj;cases hcB:e2.k.AJ.contains s
   all_goals
    rw[hcB]at hct
    conv=>whnf
    repeat'((first|apply st|(apply sq;intro K U)|(apply si;intro A B Y Z)|(apply Y;clear Z B Y A)|(apply U;clear U K)|refine⟨rfl,?_⟩|refine⟨kZ,?_⟩|refine ix ?_|refine ld ?_|refine IA fun σ hs=>?_|refine CX fun σ hs=>?_|refine aq fun v σ hs hsl=>?_|refine JB ?_|refine G3 ?_|(refine C8 (fun hc=>?_)<;>(try rw[hc])<;>clear hc)|refine Pure.ZM (hct false) (.cons (hs.G7 2 rfl) (.cons (.refl _) .nil)) rfl ?_|refine Pure.use (Nn f.arg (f.path.take j) s (by rw[Mo];omega)) ?_|fail)<;>conv=>whnf)
   refine(k8 (.inl hsl)).use (rest:=_) (hs.front (j:=2) rfl) ?_;clear hs;rintro r post σ ⟨rfl,rfl⟩ hs;replace hs:Sat σ (.box e2.b [eI e2.k.low,eI e2.k.high,e2.vn,eU e2.k.B2,eU e2.k.GQ,.b e2.k.whole,.b e2.k.A6,v]:: .own e2.vn 1 (iL e2.k.no):: .own v 1 (iL ((e2.k.AJ++[s]).mergeSort N1))::([.box nx (KZ f.arg (f.path.take j))]++HC L (pre2++e2::post2) pre2 post2)):=hs.perm (Ms _ _ _ _)
   conv=>whnf
   repeat'((first|(apply sq;intro K U)|(apply si;intro A B Y Z)|(apply Y;clear Z B Y A)|(apply U;clear U K)|refine⟨kZ,?_⟩|refine ld ?_|refine CX fun σ hs=>?_|refine Pure.use (Nn f.arg (f.path.take j) s (by rw[Mo];omega)) ?_|fail)<;>conv=>whnf)
   have hs3: ∃vs3,Sat σ (.box nx (KZ f.arg (f.path.take j++[s]))::B7 L (pre2++⟨e2.a,e2.p,e2.b,e2.vn,vs3,gG e2.k s⟩::post2)):=⟨v,EG (X:=[_]) (e:=e2) rfl rfl rfl (by rw[hsl0,Is,if_neg (by rw[hcB];decide)];exact hs)⟩
   rotate_left
   have hs3: ∃vs3,Sat σ (.box nx (KZ f.arg (f.path.take j++[s]))::B7 L (pre2++⟨e2.a,e2.p,e2.b,e2.vn,vs3,gG e2.k s⟩::post2)):=⟨e2.vs,EG (X:=[_]) (e:=e2) rfl rfl rfl (by rw[hsl0,Is,if_pos hcB];exact hs)⟩
   all_goals
    clear hs;obtain⟨vs3,hs⟩:=hs3;have hinv3:=hinv.change e2.b e2.vn vs3 (gG e2.k s);refine(Kt w us hinv3 (a:=f.arg) (p:=f.path.take j++[s]) (by rw[KY,Mo];simp;omega)).use (rest:=[.box nx (KZ f.arg (f.path.take j++[s]))]) (hs.perm (MU _ _)) ?_;clear hs;rintro r post σ ⟨es4,e4,got,rfl,rfl⟩ hs;have hek4:=got.k;obtain⟨hea4,hep4⟩:=J5.1 got.is;obtain⟨pre4,post4,rfl⟩:=List.append_of_mem got.mem;replace hs:=HF (X:=[.box nx (KZ f.arg (f.path.take j++[s]))]) (hs.perm TO);cases hnd:e4.k.A6<;>rw[hnd]at hs
    all_goals
     conv=>whnf
     repeat'((first|apply st|(apply si;intro A B Y Z)|(apply Y;clear Z B Y A)|(apply U;clear U K)|refine⟨rfl,?_⟩|refine ld ?_|refine IA fun σ hs=>?_|clear U K)<;>conv=>whnf)
     refine⟨hjlt,(pre4++⟨e4.a,e4.p,e4.b,e4.vn,e4.vs,Dd e4.k c⟩::post4,⟨e4.a,e4.p,e4.b,e4.vn,e4.vs,Dd e4.k c⟩),rfl,⟨(got.inv.change e4.b e4.vn e4.vs (Dd e4.k c)).congr fun a p=>?_,Vu _ (.head _),by rw[htk];exact got.is⟩,?_⟩
     ·rw[jF f c hjlt,Tb,hea4,hep4,htk,hgd]
      by_cases h1:a=f.arg∧p=f.path.take j++[s]
      ·rw[if_pos h1,if_pos h1,hek4,Tb,hea,hep,if_neg (fun h=>hne h.2),h1.1,h1.2]
      ·rw[if_neg h1,if_neg h1,Tb,hea,hep]
       by_cases h2:a=f.arg∧p=f.path.take j
       ·rw[if_pos h2,if_pos h2,hek,h2.1,h2.2]
       ·rw[if_neg h2,if_neg h2]
     ·rw[htk]
      refine EG (X:=[.box nx (KZ f.arg (f.path.take j++[s]))]) (e:=e4) rfl rfl rfl ?_
      first
       | (rw[Qs c hnd];exact hs)
       | (rw[PU c hnd];exact hs)
  ·have etk:f.path.take j=f.path:=Av hje
   rw[etk]at his hs hek hep
   conv=>whnf
   repeat'((first|apply st|(apply sq;intro K U)|(apply si;intro A B Y Z)|(apply Y;clear Z B Y A)|(apply U;clear U K)|refine⟨rfl,?_⟩|refine⟨kZ,?_⟩|(refine Es (fun hc=>?_)<;>(try rw[hc])<;>clear hc)|clear U K)<;>conv=>whnf)
   refine(r7 f c l1 l3 hok.1 hok.2.1 (by have:=hok.2.2.1;omega) l4).use (rest:=[.box nx (KZ f.arg f.path)]++HC L (pre2++e2::post2) pre2 post2) hs ?_;rintro r post σ ⟨rfl,vn',rfl⟩ hs
   conv=>whnf
   repeat'((first|(apply Y;clear Z B Y A)|fail)<;>conv=>whnf)
   refine Aa ⟨_,⟨rfl,_,(hinv.change e2.b vn' e2.vs (Cn e2.k f c)).congr fun a p=>?_,rfl⟩,(EG (X:=[.box nx (KZ f.arg f.path)]) (e:=e2) (e':=⟨e2.a,e2.p,e2.b,vn',e2.vs,Cn e2.k f c⟩) rfl rfl rfl hs).less (IV _ _)⟩;rw[Tb,hea,hep,hek,←hje];by_cases h1:a=f.arg∧p=f.path
   ·rw[if_pos h1,if_pos h1,h1.1,h1.2]
   ·rw[if_neg h1,if_neg h1]
def sC (w:AM) (us:List Nat) {kf:Int→List Int→Kn} {L:Nat} {es:List Cz} (h:Du kf es) (l:Fact) (hl:cD (BN l).1) {m:Nat} (hm:m<1000) (hb: ∀a p,kg m (kf a p)) :
    By Tryz.prog 193 [TW w us L,.a (Ju l)] (B7 L es) fun r post=>r= .ret (.t [])∧ ∃es',Du (fun a p=>DA a p (kf a p) l) es'∧post=B7 L es':=fun σ hs=>
 A8.mono (kU w us h (BN l).1 (BN l).2 hl hm hb σ hs) fun r σ' ⟨post,⟨h1,es',h2,h3⟩,h4⟩=>⟨post,⟨h1,es',h2.congr fun a p=>(oN a p (kf a p) l).symm,h3⟩,h4⟩
def Wf (ls:List Fact):Prop:= ∀l∈ls,cD (BN l).1
def cn {ls:List Fact} (h:Wf ls) (a:Int) (p:List Int):kg ls.length (kn ls a p):=by
 have hc:Ic 64 ls:=fun l hl ho=>(h l hl).cls ho
 obtain⟨h1,h2⟩:=jJ hc a p;obtain⟨h3,h4⟩:=cq a p ls k0;exact⟨by simpa using h1,by simpa using h2,by simpa[kn,k0]using h3,by simpa[kn,k0]using h4⟩
def vF:Du (kn []) []:=⟨fun x hx=>(by cases hx),fun a p _=>rfl,.nil,fun x hx=>(by cases hx)⟩
set_option maxHeartbeats 1000000 in
def eK (w:AM) (us:List Nat) (ls:List Fact) (b:Bool) (h:Wf ls) (hlen:ls.length<900) :
    By Tryz.prog 128 [.rp (wC w us),.l (Ew ls) b] [] fun r post=> ∃L es,r= .ret (TW w us L)∧Du (kn ls) es∧post=B7 L es:=by
 intro σ hs;have hM:=Mx;refine rZ kZ ?_
 conv=>whnf
 repeat'((first|apply st|(apply sq;intro K U)|(apply si;intro A B Y Z)|(apply Y;clear Z B Y A)|(apply U;clear U K)|(intro nn hnn;generalize hg:Az _ nn _=σ;refine CN hg fun hs=>?_;clear hg)|fail)<;>conv=>whnf)
 generalize nn=L at *;refine CD ls.length (fun k (x:List Cz)=>[(14,eI (BM k))]) (fun k x=>B7 L x) (fun k x=>Du (kn (ls.take k)) x) [] rfl vF hs ?_;clear hs hnn;rintro k es σ hk hinv hs;rcases BS ls hk with⟨l,hlk,hlt⟩|hke
 ·have hlm:l∈ls:=Ck hlk
  have htk:ls.take (k+1)=ls.take k++[l]:=AR hlk;have hbk: ∀a p,kg (ls.take k).length (kn (ls.take k) a p):=cn fun x hx=>h x (List.mem_of_mem_take hx)
  conv=>whnf
  repeat'((first|apply st|(apply sq;intro K U)|(apply si;intro A B Y Z)|(apply Y;clear Z B Y A)|(apply U;clear U K)|refine⟨rfl,?_⟩|refine⟨kZ,?_⟩|refine ix ?_|refine ld ?_|refine CX fun σ hs=>?_|(refine C8 (fun hc=>?_)<;>(try rw[hc])<;>clear hc)|(intro nn hnn;generalize hg:Az _ nn _=σ;refine CN hg fun hs=>?_;clear hg)|fail)<;>conv=>whnf)
  rename_i nb hnb _ hs;generalize nn=n7 at *;refine(sC w us hinv l (h l hlm) (m:=(ls.take k).length) (by rw[Mo];omega) hbk).use (rest:=[.box n7 (Ju l)]) (hs.perm (MU _ _)) ?_;clear hs;rintro r post σ ⟨rfl,es',hinv',rfl⟩ hs
  conv=>whnf
  repeat'((first|(apply si;intro A B Y Z)|(apply Y;clear Z B Y A)|(apply U;clear U K)|refine⟨rfl,?_⟩|clear U K)<;>conv=>whnf)
  refine⟨hlt,es',rfl,?_,hs.less (List.sublist_append_left _ _)⟩;rw[htk];exact hinv'.congr fun a p=>(jH _ _ _ _).symm
 ·have etk:ls.take k=ls:=Av hke
  rw[etk]at hinv
  conv=>whnf
  repeat'((first|apply st|(apply sq;intro K U)|(apply si;intro A B Y Z)|(apply Y;clear Z B Y A)|(apply U;clear U K)|refine⟨rfl,?_⟩|(refine Es (fun hc=>?_)<;>(try rw[hc])<;>clear hc)|clear U K)<;>conv=>whnf)
  exact Aa ⟨_,⟨L,es,rfl,hinv,rfl⟩,hs⟩
end Go.Gl
