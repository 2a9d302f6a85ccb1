import Derived.Test.YtijbpgdmpejgoaaGreatProg
import Derived.KernelRfl
import Derived.Test.YtijbpgdmpejgoaaGreatW5
import Derived.Test.YtijbpgdmpejgoaaGreatW12
set_option linter.all false
set_option linter.defProp false
noncomputable section
namespace Go.Gl
def SX (g:List (List Int)) (k:Nat): ∀(m d:Nat),d<3+k→(Ce g (k+m)).getD d 0=(Ce g k).getD d 0
 | 0,d,_=>rfl
 | m+1,d,h=>by
   rw[show k+(m+1)=k+m+1 from rfl,Ce,←SX g k m d h];rw[DS,cd (by rw[Eb];omega),←DS]
def SY (us:List Nat) (b:Nat): ∀(l:List Int) (s:Nat),(T4 us l s).testBit b=(s.testBit b||l.any fun c=>(us.getD c.toNat 0).testBit b)
 | [],s=>by simp[T4]
 | c::r,s=>by
   have:=SY us b r (s|||us.getD c.toNat 0);rw[QO,←Bool.or_assoc,←Nat.testBit_or,←this];rfl
def Z6 {α:Type} (f:α→Bool) (b:Bool): ∀(l:List α),(b||l.any fun x=>b||f x)=(b||l.any f)
 | []=>rfl
 | x::r=>by
   have:=Z6 f b r;simp only[QO];cases b
   ·simpa using this
   ·rfl
def any_congr {α:Type} {f g:α→Bool}: ∀ {l:List α},(∀x∈l,f x=g x)→l.any f=l.any g
 | [],_=>rfl
 | x::r,h=>by
   rw[QO,QO,h x (.head _),any_congr fun y hy=>h y (.tail _ hy)]
def Qw {g:List (List Int)} (ho:ordered g): ∀(k d b:Nat),k≤g.length→d<3+k→((Ce g k).getD d 0).testBit b=(b==0||IC g d b)
 | 0,d,b,_,hd=>by
   have e:(Ce g 0).getD d 0=1|||2 ^ d:=by
    rcases d with _|_|_|d
    ·rfl
    ·rfl
    ·rfl
    ·omega
   rw[e,Qo,D3 ho,par,if_pos (by omega),List.any_nil,Bool.or_false];rw[K5];simp only[Fj,Du];omega
 | k + 1,d,b,hk,hd=>by
   by_cases hlt:d<3+k
   ·rw[SX g k 1 d hlt]
    exact Qw ho k d b (by omega) hlt
   ·obtain rfl:d=3+k:=by omega
    have e:(Ce g (k+1)).getD (3+k) 0=T4 (Ce g k) (g.getD k []) (1|||2 ^ (3+k)):=by
     rw[Ce,DS,List.getElem?_append_right (by rw[Eb];omega),Eb,Nat.sub_self];rfl
    have hpar:par g (3+k)=g.getD k []:=by rw[par,if_neg (by omega),show 3+k - 3=k by omega]
    rw[e,SY,Qo,D3 ho,hpar]
    have hc:((g.getD k []).any fun c=>((Ce g k).getD c.toNat 0).testBit b)=(g.getD k []).any fun p=>(b==0)||IC g p.toNat b:=any_congr fun p hp=>by
     have:=ho (3+k) p (by rw[hpar];exact hp);exact Qw ho k p.toNat b (by omega) (by omega)
    rw[hc];have e2:(b==3+k)=(3+k==b):=by rw[K5];simp only[Du];omega
    rw[e2,Bool.or_assoc,Bool.or_left_comm,Z6,Bool.or_left_comm]
def Na {g:List (List Int)} (ho:ordered g) {d b:Nat} (hd:d<3+g.length):((B2 g).getD d 0).testBit b=(b==0||IC g d b):=Qw ho g.length d b (IE _) hd
def UI {g:List (List Int)} (ho:ordered g): ∀(d b:Nat),3≤d→IC g d b=true→3≤b:=by
 intro d
 induction d using Nat.strongRecOn with
 | _ d ih=>
   intro b h3 h;rw[D3 ho]at h;simp only[Fj,Du,JA]at h;rcases h with rfl|⟨p,hp,h⟩
   ·exact h3
   ·have:=ho d p hp
    exact ih p.toNat (by omega) b (by omega) h
def Dd (us:List Nat):Nat→Nat→Nat
 | 0,m=>m
 | k+1,m=>if(Dd us k m).testBit (3+k)then Dd us k m|||us.getD (3+k) 0 else Dd us k m
def Oi {g : List (List Int)} (ho:ordered g) (m:Nat): ∀(k b:Nat),k≤g.length→((Dd (B2 g) k m).testBit b=true↔m.testBit b=true∨ ∃d,3≤d∧d<3+k∧m.testBit d=true∧(b=0∨IC g d b=true))
 | 0,b,_=>by
   rw[Dd];exact⟨.inl,fun h=>h.elim id fun⟨d,h1,h2,_⟩=>by omega⟩
 | k + 1, b, hk=>by
   have ih:=Oi ho m k;rw[Dd];split
   ·rename_i hc
    rw[Nat.testBit_or,Fj,ih b (by omega),Na ho (by omega),Fj,Du];rw[ih _ (by omega)]at hc;constructor
    ·rintro((h|⟨d,h1,h2,h3,h4⟩)|h)
     ·exact .inl h
     ·exact .inr ⟨d,h1,by omega,h3,h4⟩
     ·rcases hc with hc|⟨d,h1,h2,h3,h4⟩
      ·exact .inr ⟨3+k,by omega,by omega,hc,h⟩
      ·refine .inr ⟨d,h1,by omega,h3,?_⟩
       rcases h with h|h
       ·exact .inl h
       ·rcases h4 with h4|h4
        ·omega
        ·exact .inr (LX ho _ _ _ h4 h)
    ·rintro(h|⟨d,h1,h2,h3,h4⟩)
     ·exact .inl (.inl h)
     ·by_cases e:d=3+k
      ·subst e;exact .inr h4
      ·exact .inl (.inr ⟨d,h1,by omega,h3,h4⟩)
   ·rename_i hc
    rw[ih b (by omega)];constructor
    ·rintro(h|⟨d,h1,h2,h3,h4⟩)
     ·exact .inl h
     ·exact .inr ⟨d,h1,by omega,h3,h4⟩
    ·rintro(h|⟨d,h1,h2,h3,h4⟩)
     ·exact .inl h
     ·by_cases e:d=3+k
      ·subst e;exact absurd ((ih _ (by omega)).2 (.inl h3)) hc
      ·exact .inr ⟨d,h1,by omega,h3,h4⟩
def JO: ∀(l:List Int) (bs:List Bool),(∀q∈l,0≤q∧q.toNat<bs.length)→ ∀b:Nat,(l.foldl (fun b q=>b.set q.toNat true) bs).getD b false=(bs.getD b false||l.contains (b:Int))
 | [],bs,_,b=>by simp
 | q ::r,bs,h,b=>by
   have hq:=h q (.head _);rw[List.foldl_cons,JO r _ (fun x hx=>by rw[List.length_set];exact h x (.tail _ hx)),Ep hq.2,List.contains_cons];split
   ·rename_i e
    subst e;have:((q.toNat:Int)==q)=true:=by rw[Du];omega
    rw[this];simp
   ·rename_i e
    have:((b:Int)==q)=false:=by rw[beq_eq_false_iff_ne];omega
    rw[this,Bool.false_or]
def Gn {g:List (List Int)} (ho:ordered g) {c:Nat} {bs:List Bool} (hc:c≤bs.length) (b:Nat):(I0 g c bs).getD b false=(bs.getD b false||(bs.getD c false&&(par g c).contains (b:Int))):=by
 rw[I0];split
 ·rename_i h
  rw[JO _ _ (fun q hq=>by have:=ho c q hq;omega),h,Ev]
 ·rename_i h
  have:bs.getD c false=false:=by simpa using h
  rw[this,Bool.false_and,Bool.or_false]
def Ft {g:List (List Int)} (ho:ordered g) {n:Nat} {S:List Bool} (hl:S.length=n): ∀(k b:Nat),(Cp g n k S).getD b false=true→ ∃d,S.getD d false=true∧IC g d b=true
 | 0,b,h=>⟨b,h,FQ ho b⟩
 | k + 1,b,h=>by
   rw[Cp,Gn ho (by rw[FD];omega),Fj,BV]at h;rcases h with h|⟨h1,h2⟩
   ·exact Ft ho hl k b h
   ·obtain⟨d,h3,h4⟩:=Ft ho hl k _ h1
    refine⟨d,h3,LX ho _ _ _ h4 ?_⟩;rw[D3 ho,Fj,JA];rw[List.contains_iff_mem]at h2;exact .inr ⟨_,h2,by rw[Jz];exact FQ ho b⟩
def Tq {g:List (List Int)} (ho:ordered g) {n:Nat} {S:List Bool} (hl:S.length=n) (k b:Nat) (h:(Cp g n k S).getD b false=true):(Cp g n (k+1) S).getD b false=true:=by
 rw[Cp,Gn ho (by rw[FD];omega),h];rfl
def Ig {g:List (List Int)} (ho:ordered g) {n:Nat} {S:List Bool} (hl:S.length=n): ∀(k b:Nat),S.getD b false=true→(Cp g n k S).getD b false=true
 | 0,_,h=>h
 | k+1,b,h=>Tq ho hl k b (Ig ho hl k b h)
def Gp {g:List (List Int)} (ho:ordered g) {n:Nat} {S:List Bool} (hl:S.length=n): ∀(k c:Nat),k≤n→n - k≤c→(Cp g n k S).getD c false=true→ ∀q∈par g c,(Cp g n k S).getD q.toNat false=true
 | 0,c,_,hc,h,q,hq=>by
   rw[Cp,DS,List.getElem?_eq_none (by omega)]at h;cases h
 | k + 1,c,hk,hc,h,q,hq=>by
   rw[Cp,Gn ho (by rw[FD];omega)]at h ⊢;have hoc:=ho c q hq;rw[Fj,BV]at h
   have hbase:(Cp g n k S).getD c false=true:=by
    rcases h with h|⟨-,h2⟩
    ·exact h
    ·rw[List.contains_iff_mem]at h2
     have:=ho _ _ h2;omega
   by_cases e:c=n - 1 - k
   ·subst e
    rw[hbase,Ev,Fj,List.contains_iff_mem];exact .inr (by rw[show((q.toNat:Nat):Int)=q by omega];exact hq)
   ·rw[Gp ho hl k c (by omega) (by omega) hbase q hq];rfl
def VV {g:List (List Int)} (ho:ordered g) {S:List Bool} (hl:S.length=3+g.length) (b:Nat):(Cp g (3+g.length) g.length S).getD b false=true↔ ∃d,S.getD d false=true∧IC g d b=true:=by
 refine⟨Ft ho hl _ b,?_⟩
 have key: ∀d,(Cp g (3+g.length) g.length S).getD d false=true→IC g d b=true→(Cp g (3+g.length) g.length S).getD b false=true:=by
  intro d
  induction d using Nat.strongRecOn with
  | _ d ih=>
    intro h1 h2;rw[D3 ho,Fj,Du,JA]at h2;rcases h2 with rfl|⟨p,hp,h2⟩
    ·exact h1
    ·have hop:=ho d p hp
     refine ih p.toNat (by omega) (Gp ho hl g.length d (by omega) ?_ h1 p hp) h2;omega
 rintro⟨d,h1,h2⟩;exact key d (Ig ho hl _ d h1) h2
def RB (n:Nat) (t:BB) (u:Nat×Nat):Prop:=
 t.1.length=n∧t.2.length=n∧(∀b,t.1.getD b false=u.1.testBit b)∧(∀b,b≠1→b≠2→t.2.getD b false=u.2.testBit b)∧u.1.testBit 1=false∧u.1.testBit 2=false
def F9 (m c b:Nat):(m|||2 ^ c).testBit b=(m.testBit b||b==c):=by
 rw[Nat.testBit_or,Nat.testBit_two_pow];congr 1;rw[K5];simp only[CL,Du];omega
def Mg {l:List Bool} {m c:Nat} (hc:c<l.length) {b:Nat} (h:l.getD b false=m.testBit b):(l.set c true).getD b false=(m|||2 ^ c).testBit b:=by
 rw[Ep hc,F9,←h];split
 ·rename_i e;subst e;simp
 ·rename_i e
  have:(b==c)=false:=by simpa using e
  rw[this,Bool.or_false]
def Qg (x:Fact×Bool):Bool:= !x.2&&(!(x.1.op==2)||x.1.cls==1||x.1.cls==2)
def XR {n : Nat} {x:Fact×Bool} {t:BB} {k:Kn} (h:RB n t (k.CV,k.GK)) (hc:x.1.op=2→0≤x.1.cls∧x.1.cls<n) :
    (Qg x=true→Lw x t=none)∧(Qg x=false→ ∃t',Lw x t=some t'∧RB n t' ((Co k x.1 x.2).CV,(Co k x.1 x.2).GK)):=by
 obtain⟨f,c⟩:=x;simp only at hc;obtain⟨h1,h2,h3,h4,h5,h6⟩:=h;unfold Qg Lw Co;simp only;by_cases ho:f.op=2
 ·have hc':=hc ho
  by_cases h12:f.cls=1∨f.cls=2
  ·rw[if_pos (.inr h12),if_pos ho]
   cases c with
   | true=>
     refine⟨fun h=>(by cases h),fun _=>⟨t,rfl,h1,h2,h3,fun b hb1 hb2=>?_,h5,h6⟩⟩;rw[if_pos rfl];show _=(k.GK|||2 ^ f.cls.toNat).testBit b;rw[F9,h4 b hb1 hb2];have:(b==f.cls.toNat)=false:=by rw[beq_eq_false_iff_ne];omega
     rw[this,Bool.or_false]
   | false=>
     refine⟨fun _=>rfl,fun h=>?_⟩;exfalso;rcases h12 with e|e<;>simp[e]at h
  ·have hn: ¬(f.op≠2∨f.cls=1∨f.cls=2):=by omega
   rw[if_neg hn,if_pos ho]
   have hb:(!c&&(!(f.op==2)||f.cls==1||f.cls==2))=false:=by
    have e1:(f.op==2)=true:=by simpa using ho
    have e2:(f.cls==1)=false:=by rw[beq_eq_false_iff_ne];omega
    have e3:(f.cls==2)=false:=by rw[beq_eq_false_iff_ne];omega
    rw[e1,e2,e3];simp
   rw[hb];refine⟨fun h=>(by cases h),fun _=>?_⟩;cases c with
   | true=>
     refine⟨_,rfl,h1,by simpa using h2,h3,fun b hb1 hb2=>?_,h5,h6⟩;exact Mg (by omega) (h4 b hb1 hb2)
   | false=>
     refine⟨_,rfl,by simpa using h1,h2,fun b=>?_,h4,?_,?_⟩
     ·exact Mg (by omega) (h3 b)
     ·show(k.CV|||2 ^ f.cls.toNat).testBit 1=false
      rw[F9,h5];have:(1==f.cls.toNat)=false:=by rw[beq_eq_false_iff_ne];omega
      rw[this];rfl
     ·show(k.CV|||2 ^ f.cls.toNat).testBit 2=false
      rw[F9,h6];have:(2==f.cls.toNat)=false:=by rw[beq_eq_false_iff_ne];omega
      rw[this];rfl
 ·rw[if_pos (.inl ho),if_neg ho]
  have e1:(f.op==2)=false:=by simpa using ho
  cases c with
  | true=>
    refine⟨fun h=>(by cases h),fun _=>⟨t,rfl,?_⟩⟩;split<;>exact⟨h1,h2,h3,h4,h5,h6⟩
  | false=>exact⟨fun _=>rfl,fun h=>by rw[e1]at h;cases h⟩
def P3 {n:Nat}: ∀(os:List Fact) {t:BB} {k:Kn},RB n t (k.CV,k.GK)→II n os→
    (os.any (fun l=>Qg (A8 l))=true→JH os t=none)∧(os.any (fun l=>Qg (A8 l))=false→ ∃t',JH os t=some t'∧RB n t' ((Eg os k).CV,(Eg os k).GK))
 | [],t,k,h,_=>⟨fun h=>(by cases h),fun _=>⟨t,rfl,h⟩⟩
 | l ::r,t,k,h,hc=>by
   obtain⟨s1,s2⟩:=XR h (hc l (.head _));rw[QO,JH];cases hb:Qg (A8 l)with
   | true=>exact⟨fun _=>by rw[s1 hb];rfl,fun h=>(by cases h)⟩
   | false=>
     obtain⟨t',h1,h2⟩:=s2 hb;rw[h1,Bool.false_or,Option.bind_some];exact P3 r h2 fun x hx=>hc x (.tail _ hx)
def cE {os:List Fact} {n:Nat} (hc:II n os):(os.any fun l=>Qg (A8 l))=((Eg os k0).whole||(Eg os k0).CV.testBit 1||(Eg os k0).CV.testBit 2):=by
 rw[K5,Fj,Fj,Kc,Kc,Jt];simp only[JA,Qg,BV,Fj,Bool.not_eq_true',Du,beq_eq_false_iff_ne,k0,Bool.false_or];constructor
 ·rintro⟨l,hl,hb,(h|h)|h⟩
  ·exact .inl (.inl ⟨l,hl,hb,h⟩)
  ·by_cases ho:(A8 l).1.op=2
   ·exact .inl (.inr ⟨l,hl,ho,hb,by rw[h];rfl⟩)
   ·exact .inl (.inl ⟨l,hl,hb,ho⟩)
  ·by_cases ho:(A8 l).1.op=2
   ·exact .inr ⟨l,hl,ho,hb,by rw[h];rfl⟩
   ·exact .inl (.inl ⟨l,hl,hb,ho⟩)
 ·rintro((⟨l,hl,hb,h⟩|⟨l,hl,ho,hb,h⟩)|⟨l,hl,ho,hb,h⟩)
  ·exact⟨l,hl,hb,.inl (.inl h)⟩
  ·have:=hc l hl ho
   exact⟨l,hl,hb,.inl (.inr (by omega))⟩
  ·have:=hc l hl ho
   exact⟨l,hl,hb,.inr (by omega)⟩
def Vh (w:AK) (A0 can:Int→Bool) (s:Int) (u:Nat×Nat):Option (Nat×Nat):=
 if A0 s&& !can s then none else some (if A0 s then u.1|||2 ^ (CA w s).toNat else u.1,if can s then u.2 else u.2|||2 ^ (CA w s).toNat)
def Hv (w:AK) (A0 can:Int→Bool):List Int→Nat×Nat→Option (Nat×Nat)
 | [],u=>some u
 | s::r,u=>(Vh w A0 can s u).bind (Hv w A0 can r)
def Wi {w:AK} {ls:List Fact} {a:Int} {p:List Int} {can A0:Int→Bool} (hn: ∀s,A0 s= !FO ls a (p++[s])) {n:Nat} (how: ∀s:Int,0≤s→s<w.owner.length→3≤CA w s∧CA w s<n) :
    ∀(sl:List Int) {t:BB} {u:Nat×Nat},(∀s∈sl,0≤s∧s<w.owner.length)→RB n t u→
    (JG w ls a p can sl t=none∧Hv w A0 can sl u=none)∨ ∃t' u',JG w ls a p can sl t=some t'∧Hv w A0 can sl u=some u'∧RB n t' u'
 | [],t,u,_,h=> .inr ⟨t,u,rfl,rfl,h⟩
 | s ::r,t,u,hsl,h=>by
   have hs:=hsl s (.head _);have ho:=how s hs.1 hs.2;rw[JG,Hv,SD,Vh,hn];obtain⟨h1,h2,h3,h4,h5,h6⟩:=h;split
   ·exact .inl ⟨rfl,rfl⟩
   ·rw[Option.bind_some,Option.bind_some]
    refine Wi hn how r (fun x hx=>hsl x (.tail _ hx)) ?_;have hb: ∀i,i<3→(i==(CA w s).toNat)=false:=fun i hi=>by rw[beq_eq_false_iff_ne];omega
    cases FO ls a (p++[s])<;>cases can s<;>refine⟨by simpa using h1,by simpa using h2,fun b=>?_,fun b hb1 hb2=>?_,?_,?_⟩
    all_goals simp only[Bool.not_false,Bool.not_true,Lu,if_true,if_false]
    all_goals first
     | exact h3 b
     | exact h4 b hb1 hb2
     | exact h5
     | exact h6
     | exact Mg (by omega) (h3 b)
     | exact Mg (by omega) (h4 b hb1 hb2)
     | (rw[F9,h5,hb 1 (by omega)];rfl)
     | (rw[F9,h6,hb 2 (by omega)];rfl)
def Gv (m:Nat):Nat:=m - m % 2
def TD (m b:Nat):(Gv m).testBit b=(m.testBit b&& !(b==0)):=by
 cases b with
 | zero=>
   simp[Gv,Nat.testBit_zero];omega
 | succ b=>
   rw[Nat.testBit_succ,Nat.testBit_succ,Gv,show(m - m % 2) / 2=m / 2 by omega];simp
def je {w : AK} (ho:ordered w.parents) {t:BB} {u:Nat×Nat} (h:RB (3+w.parents.length) t u) :
    (Y6 w t).isSome=(!u.2.testBit 0&&(Gv (Dd (B2 w.parents) w.parents.length u.1)&&&u.2==0)):=by
 obtain⟨h1,h2,h3,h4,h5,h6⟩:=h;rw[Y6,h4 0 (by decide) (by decide)];cases h0:u.2.testBit 0 with
 | true=>rfl
 | false =>
   rw[if_neg (by decide),Bool.not_false,Ev];have hl:(t.1.set 0 false).length=3+w.parents.length:=by simpa using h1
   have G:=VV ho hl;have F:=Oi ho u.1 w.parents.length
   have hS: ∀d,(t.1.set 0 false).getD d false=true↔d≠0∧u.1.testBit d=true:=fun d=>by
    rw[Ep (by omega)];split
    ·rename_i e;subst e;simp
    ·rename_i e;rw[h3];exact⟨fun h=>⟨e,h⟩,fun h=>h.2⟩
   have hlt: ∀b,u.1.testBit b=true→b<3+w.parents.length:=fun b hb=>by
    rw[←h3]at hb;rcases Nat.lt_or_ge b (3+w.parents.length)with h'|h'
    ·exact h'
    ·rw[DS,List.getElem?_eq_none (by omega)]at hb;cases hb
   have h3b: ∀d,d≠0→u.1.testBit d=true→3≤d:=fun d hd hb=>by
    rcases d with _|_|_|d
    ·exact absurd rfl hd
    ·rw[h5]at hb;cases hb
    ·rw[h6]at hb;cases hb
    ·omega
   have hM: ∀b,(Gv (Dd (B2 w.parents) w.parents.length u.1)).testBit b=true↔(Cp w.parents (3+w.parents.length) w.parents.length (t.1.set 0 false)).getD b false=true:=fun b=>by
    rw[TD,BV,F b (IE _),G,Bool.not_eq_true',beq_eq_false_iff_ne];constructor
    ·rintro⟨h|⟨d,q1,q2,q3,q4⟩,hb⟩
     ·exact⟨b,(hS b).2 ⟨hb,h⟩,FQ ho b⟩
     ·rcases q4 with e|q4
      ·exact absurd e hb
      ·exact⟨d,(hS d).2 ⟨by omega,q3⟩,q4⟩
    ·rintro⟨d,hd,hu⟩
     obtain⟨hd0,hdu⟩:=(hS d).1 hd;have hd3:=h3b d hd0 hdu;have:=UI ho d b hd3 hu;exact⟨.inr ⟨d,hd3,hlt d hdu,hdu,.inr hu⟩,by omega⟩
   have hany:((List.range (3+w.parents.length)).any fun c=>(Cp w.parents (3+w.parents.length) w.parents.length (t.1.set 0 false)).getD c false&&t.2.getD c false)= !(Gv (Dd (B2 w.parents) w.parents.length u.1)&&&u.2==0):=by
    rw[K5,Bool.not_eq_true',←Bool.not_eq_true,Nv,JA];constructor
    ·rintro⟨c,hc,hx⟩ hall
     rw[BV]at hx;have hm:=(hM c).2 hx.1;obtain⟨d,hd,hu⟩:=(G c).1 hx.1;obtain⟨hd0,hdu⟩:=(hS d).1 hd;have:=UI ho d c (h3b d hd0 hdu) hu;exact hall c hm (by rw[←h4 c (by omega) (by omega)];exact hx.2)
    ·intro hne
     rcases Classical.em (∃b,(Gv (Dd (B2 w.parents) w.parents.length u.1)).testBit b=true∧u.2.testBit b=true)with⟨b,hb1,hb2⟩|hno
     ·have hm:=(hM b).1 hb1
      obtain⟨d,hd,hu⟩:=(G b).1 hm;obtain⟨hd0,hdu⟩:=(hS d).1 hd;have:=UI ho d b (h3b d hd0 hdu) hu;have:=UH ho d b hu;have:=hlt d hdu;exact⟨b,List.mem_range.2 (by omega),by rw[hm,h4 b (by omega) (by omega),hb2];rfl⟩
     ·exact absurd (fun b h1 h2=>hno ⟨b,h1,h2⟩) hne
   rw[hany];cases(Gv (Dd (B2 w.parents) w.parents.length u.1)&&&u.2==0)<;>rfl
def MU (w:AK) (k:Kn) (A0 can:Int→Bool):Nat×Bool:=
 if k.whole||k.CV.testBit 1||k.CV.testBit 2||k.GK.testBit 0 then(0,false)else
 match Hv w A0 can k.AP (k.CV,k.GK)with
 | none=>(0,false)
 | some u=>(Gv (Dd (B2 w.parents) w.parents.length u.1),Gv (Dd (B2 w.parents) w.parents.length u.1)&&&u.2==0)
def Od {w:AK} {A0 can:Int→Bool} (how: ∀s:Int,0≤s→s<w.owner.length→3≤CA w s): ∀(sl:List Int) {u u':Nat×Nat},(∀s∈sl,0≤s∧s<w.owner.length)→Hv w A0 can sl u=some u'→u'.2.testBit 0=u.2.testBit 0
 | [],u,u',_,h=>by cases h;rfl
 | s ::r,u,u',hsl,h=>by
   have hs:=hsl s (.head _);have ho:=how s hs.1 hs.2;rw[Hv,Vh]at h;split at h
   ·cases h
   ·rw[Option.bind_some]at h
    rw[Od how r (fun x hx=>hsl x (.tail _ hx)) h];simp only;split
    ·rfl
    ·rw[F9]
     have:(0==(CA w s).toNat)=false:=by rw[beq_eq_false_iff_ne];omega
     rw[this,Bool.or_false]
def fq {w:AK} {ls:List Fact} {a:Int} {p:List Int} {can A0:Int→Bool} (ho:ordered w.parents) (how: ∀s:Int,0≤s→s<w.owner.length→3≤CA w s∧CA w s<3+w.parents.length) (hc:II (3+w.parents.length) ls) (hp:HR w.owner.length ls) (hn: ∀s,A0 s= !FO ls a (p++[s])) :
    (MU w (kn ls a p) A0 can).2=(R0 w ls a p can).isSome:=by
 have hcore:=Mn ls a p;have hsl:=Kg hp a p;generalize kn ls a p=k at *;have hc2:II (3+w.parents.length) (ls.filter (Lv a p)):=fun l hl=>hc l (K9.1 hl).1
 simp only[E0,Prod.mk.injEq]at hcore;obtain⟨-,-,-,c4,c5,c6⟩:=hcore;rw[MU,R0,c4,c5,c6,←cE hc2,hsl]
 have hR0:RB (3+w.parents.length) (tO w) (k0.CV,k0.GK):=by
  refine⟨by simp[tO],by simp[tO],fun b=>?_,fun b _ _=>?_,rfl,rfl⟩<;>
  ·simp only[tO,k0,Nat.zero_testBit,DS,List.getElem?_replicate]
   split<;>rfl
 obtain⟨f1,f2⟩:=P3 _ hR0 hc2;cases hbad:(ls.filter (Lv a p)).any fun l=>Qg (A8 l)with
 | true=>rw[f1 hbad];rfl
 | false=>
   obtain⟨t,ht,G⟩:=f2 hbad;rw[ht,Option.bind_some,Bool.false_or];have hin: ∀s∈Dl w.owner.length ls a p,0≤s∧s<(w.owner.length:Int):=fun s hs=>Lb hs
   rcases Wi (can:=can) hn (fun s h0 h1=>by have:=how s h0 h1;omega) (Dl w.owner.length ls a p) hin G with⟨e1,e2⟩|⟨t',u',e1,e2,hR'⟩
   ·rw[e1,e2]
    split<;>rfl
   ·rw[e1,e2,Option.bind_some,je ho hR']
    have:=Od (fun s h0 h1=>(how s h0 h1).1) _ hin e2;rw[this];simp only;cases((Eg (ls.filter (Lv a p)) k0).GK.testBit 0)<;>rfl
end Go.Gl
namespace Go.Gl
abbrev EW (a:Int) (p:List Int):V:= .a [eI a,eI (p.length:Int),eI (p.getD 0 0),eI (p.getD 1 0)]
structure C2 where
 a:Int
 p:List Int
 b:Nat
 vn:V
 vs:V
 k:Kn
abbrev C2.is (e:C2) (a:Int) (p:List Int):Bool:=e.a==a&&e.p==p
abbrev tk (b:Nat) (vn vs:V) (k:Kn):At:= .box b [eI k.low,eI k.high,vn,eU k.CV,eU k.GK,.b k.whole,.b k.A0,vs]
abbrev iA (b:Nat) (vn vs:V) (k:Kn):List At:=[tk b vn vs k,.own vn 1 (iL k.no),.own vs 1 (iL k.AP)]
abbrev SP (e:C2):List At:=iA e.b e.vn e.vs e.k
def Tw (es:List C2):List (V×V):=es.map fun e=>(EW e.a e.p,.p e.b 0)
def B5 (L:Nat) (es:List C2):List At:= .map L (Tw es)::es.flatMap SP
def Gz (L:Nat) (es pre post:List C2):List At:= .map L (Tw es)::(pre++post).flatMap SP
def Ja {e:C2} {a:Int} {p:List Int}:e.is a p=true↔e.a=a∧e.p=p:=by simp[C2.is]
def Mo {e:C2} {a:Int} {p:List Int}:e.is a p=false↔ ¬(e.a=a∧e.p=p):=by rw[←Ja,Bool.not_eq_true]
def Ql {a a':Int} {p p':List Int} (h:p.length≤2) (h':p'.length≤2):EF (EW a p) (EW a' p')=(a==a'&&p==p'):=by
 have e:EF (EW a p) (EW a' p')=(a==a'&&((p.length:Int)==p'.length&&(p.getD 0 0==p'.getD 0 0&&(p.getD 1 0==p'.getD 1 0)))):=by
  simp[EF,CD,EW]
 rw[e];congr 1
 match p,h,p',h' with
 | [],_,[],_=>rfl
 | [],_,[_],_=>simp
 | [],_,[_,_],_=>simp<;>omega
 | [_],_,[],_=>simp
 | [x],_,[y],_=>simp
 | [_],_,[_,_],_=>simp<;>omega
 | [_,_],_,[],_=>simp<;>omega
 | [_,_],_,[_],_=>simp<;>omega
 | [x,y],_,[z,u],_=>simp
def Nl (es:List C2): ∀kv∈Tw es,Bo (.a [.i64,.i64,.i64,.i64]) kv.1=true:=by
 intro kv h;obtain⟨e,_,rfl⟩:=Ls.1 h;rfl
def S1 {a:Int} {p:List Int} (hp:p.length≤2): ∀ {es:List C2},(∀e∈es,e.p.length≤2)→(∀e∈es,e.is a p=false)→C9 (EW a p) (Tw es)=none
 | [],_,_=>rfl
 | e ::r,hl,h=>by
   have he:=h e (.head _);rw[Tw,EA,C9,Ql hp (hl e (.head _))]
   have:(a==e.a&&p==e.p)=false:=by
    rw[←he,C2.is,K5];simp only[BV,Du];exact⟨fun⟨h1,h2⟩=>⟨h1.symm,h2.symm⟩,fun⟨h1,h2⟩=>⟨h1.symm,h2.symm⟩⟩
   rw[this,cond_false];exact S1 hp (fun x hx=>hl x (.tail _ hx)) (fun x hx=>h x (.tail _ hx))
def Ze {a:Int} {p:List Int} (hp:p.length≤2) (b:Nat) (vn vs:V) (k:Kn): ∀ {es:List C2},(∀e∈es,e.p.length≤2)→(∀e∈es,e.is a p=false)→ED (EW a p) (.p b 0) (Tw es)=Tw (es++[⟨a,p,b,vn,vs,k⟩])
 | [],_,_=>rfl
 | e ::r,hl,h=>by
   have he:=h e (.head _);have ih:=Ze hp b vn vs k (fun x hx=>hl x (.tail _ hx)) (fun x hx=>h x (.tail _ hx));simp only[Tw]at ih;rw[Tw,EA,ED,Ql hp (hl e (.head _))]
   have:(a==e.a&&p==e.p)=false:=by
    rw[←he,C2.is,K5];simp only[BV,Du];exact⟨fun⟨h1,h2⟩=>⟨h1.symm,h2.symm⟩,fun⟨h1,h2⟩=>⟨h1.symm,h2.symm⟩⟩
   rw[this,cond_false,ih];rfl
def S0 {a:Int} {p:List Int} (hp:p.length≤2) {e:C2} (he:e.is a p=true) {post:List C2}: ∀ {pre:List C2},(∀x∈pre++e::post,x.p.length≤2)→(∀x∈pre,x.is a p=false)→C9 (EW a p) (Tw (pre++e::post))=some (.p e.b 0)
 | [],hl,_=>by
   rw[List.nil_append,Tw,EA,C9,Ql hp (hl e (.head _))];obtain⟨h1,h2⟩:=Ja.1 he;rw[h1,h2];simp
 | x ::r,hl,h=>by
   have hx:=h x (.head _);rw[List.cons_append,Tw,EA,C9,Ql hp (hl x (.head _))]
   have:(a==x.a&&p==x.p)=false:=by
    rw[←hx,C2.is,K5];simp only[BV,Du];exact⟨fun⟨h1,h2⟩=>⟨h1.symm,h2.symm⟩,fun⟨h1,h2⟩=>⟨h1.symm,h2.symm⟩⟩
   rw[this,cond_false];exact S0 hp he (fun y hy=>hl y (.tail _ hy)) (fun y hy=>h y (.tail _ hy))
def fk (a : Int) (p:List Int): ∀(es:List C2),(∀e∈es,e.is a p=false)∨ ∃pre e post,es=pre++e::post∧e.is a p=true∧ ∀x∈pre,x.is a p=false
 | []=> .inl fun _ h=>by cases h
 | e ::r=>by
   cases h:e.is a p with
   | true=>exact .inr ⟨[],e,r,rfl,h,fun _ h=>by cases h⟩
   | false=>
     rcases fk a p r with h1|⟨pre,x,post,rfl,h1,h2⟩
     ·exact .inl fun x hx=>by
       rcases FE.1 hx with rfl|hx
       ·exact h
       ·exact h1 x hx
     ·exact .inr ⟨e::pre,x,post,rfl,h1,fun y hy=>by
       rcases FE.1 hy with rfl|hy
       ·exact h
       ·exact h2 y hy⟩
def S5 (L:Nat) (pre post:List C2) (e:C2):(B5 L (pre++e::post)).Perm (SP e++Gz L (pre++e::post) pre post):=by
 unfold B5 Gz;rw[List.flatMap_append,List.flatMap_cons,List.flatMap_append];refine List.Perm.trans ?_ (List.perm_middle.symm);refine List.Perm.cons _ ?_;rw[←T0,←T0];exact List.Perm.append_right _ Rt
def U3 {pre post:List C2} {e e':C2} (h1:e'.a=e.a) (h2:e'.p=e.p) (h3:e'.b=e.b):Tw (pre++e'::post)=Tw (pre++e::post):=by
 simp only[Tw,Tu,EA,h1,h2,h3]
def RQ {L:Nat} {pre post:List C2} {e e':C2} (h1:e'.a=e.a) (h2:e'.p=e.p) (h3:e'.b=e.b):Gz L (pre++e'::post) pre post=Gz L (pre++e::post) pre post:=by
 rw[Gz,Gz,U3 h1 h2 h3]
structure Dw (kf:Int→List Int→Kn) (es:List C2):Prop where
 val: ∀e∈es,e.k=kf e.a e.p
 QS: ∀a p,(∀e∈es,e.is a p=false)→kf a p=k0
 one:es.Pairwise fun e e'=>e.is e'.a e'.p=false
 len: ∀e∈es,e.p.length≤2
def PQ (es:List C2):Prop:= ∀e∈es,∀s∈e.k.AP,∃e'∈es,e'.is e.a (e.p++[s])=true
def Dw.congr {kf kf':Int→List Int→Kn} {es:List C2} (h:Dw kf es) (e: ∀a p,kf a p=kf' a p):Dw kf' es:=
 ⟨fun x hx=>(h.val x hx).trans (e _ _),fun a p hp=>(e a p).symm.trans (h.QS a p hp),h.one,h.len⟩
def Dw.add {kf:Int→List Int→Kn} {es:List C2} (h:Dw kf es) {a:Int} {p:List Int} (hp:p.length≤2) (hn: ∀e∈es,e.is a p=false) (b:Nat) (vn vs:V):Dw kf (es++[⟨a,p,b,vn,vs,k0⟩]):=by
 refine⟨fun x hx=>?_,fun a' p' h'=>h.QS a' p' fun x hx=>h' x (Mt _ hx),?_,fun x hx=>?_⟩
 ·rcases FX.1 hx with hx|hx
  ·exact h.val x hx
  ·rw[K8.1 hx];exact(h.QS a p hn).symm
 ·rw[List.pairwise_append]
  exact⟨h.one,List.pairwise_singleton _ _,fun x hx y hy=>by rw[K8.1 hy];exact hn x hx⟩
 ·rcases FX.1 hx with hx|hx
  ·exact h.len x hx
  ·rw[K8.1 hx];exact hp
def PQ.add {es:List C2} (h:PQ es) {a:Int} {p:List Int} (b:Nat) (vn vs:V):PQ (es++[⟨a,p,b,vn,vs,k0⟩]):=by
 intro e he s hs;rcases FX.1 he with he|he
 ·obtain⟨e',h1,h2⟩:=h e he s hs
  exact⟨e',Mt _ h1,h2⟩
 ·rw[K8.1 he]at hs
  cases hs
def Ry (kf:Int→List Int→Kn) (a:Int) (p:List Int) (k:Kn):Int→List Int→Kn:=fun a' p'=>if a'=a∧p'=p then k else kf a' p'
def Dw.change {kf:Int→List Int→Kn} {pre post:List C2} {e:C2} (h:Dw kf (pre++e::post)) (b:Nat) (vn vs:V) (k:Kn):Dw (Ry kf e.a e.p k) (pre++⟨e.a,e.p,b,vn,vs,k⟩::post):=by
 have h1:=h.one;rw[List.pairwise_append,List.pairwise_cons]at h1;obtain⟨o1,⟨o2,o3⟩,o4⟩:=h1;refine⟨fun x hx=>?_,fun a p hp=>?_,?_,fun x hx=>?_⟩
 ·rw [Ry]
  rcases FX.1 hx with hx|hx
  ·rw[if_neg]
   ·exact h.val x (Mt _ hx)
   ·have:=o4 x hx e (.head _)
    rw[Mo]at this;exact this
  ·rcases FE.1 hx with rfl|hx
   ·rw[if_pos ⟨rfl,rfl⟩]
   ·rw[if_neg]
    ·exact h.val x (LA _ (.tail _ hx))
    ·have:=o2 x hx
     rw[Mo]at this;exact fun⟨q1,q2⟩=>this ⟨q1.symm,q2.symm⟩
 ·have he:=Mo.1 (hp _ (LA _ (.head _)))
  rw[Ry,if_neg (fun⟨q1,q2⟩=>he ⟨q1.symm,q2.symm⟩)];refine h.QS a p fun x hx=>?_
  rcases FX.1 hx with hx|hx
  ·exact hp x (Mt _ hx)
  ·rcases FE.1 hx with rfl|hx
   ·exact Mo.2 he
   ·exact hp x (LA _ (.tail _ hx))
 ·rw[List.pairwise_append,List.pairwise_cons]
  refine⟨o1,⟨o2,o3⟩,fun x hx y hy=>?_⟩;rcases FE.1 hy with rfl|hy
  ·exact o4 x hx e (.head _)
  ·exact o4 x hx y (.tail _ hy)
 ·rcases FX.1 hx with hx|hx
  ·exact h.len x (Mt _ hx)
  ·rcases FE.1 hx with rfl|hx
   ·exact h.len e (LA _ (.head _))
   ·exact h.len x (LA _ (.tail _ hx))
def PQ.change {pre post:List C2} {e:C2} (h:PQ (pre++e::post)) (b:Nat) (vn vs:V) (k:Kn) (hs: ∀s∈k.AP,s∈e.k.AP∨ ∃e'∈pre++e::post,e'.is e.a (e.p++[s])=true):PQ (pre++⟨e.a,e.p,b,vn,vs,k⟩::post):=by
 have mov: ∀ {a p},(∃e'∈pre++e::post,e'.is a p=true)→ ∃e'∈pre++(⟨e.a,e.p,b,vn,vs,k⟩:C2)::post,e'.is a p=true:=by
  rintro a p ⟨x,hx,h'⟩;rcases FX.1 hx with hx|hx
  ·exact⟨x,Mt _ hx,h'⟩
  ·rcases FE.1 hx with rfl|hx
   ·exact⟨_,LA _ (.head _),h'⟩
   ·exact⟨x,LA _ (.tail _ hx),h'⟩
 intro x hx s hxs;rcases FX.1 hx with hx|hx
 ·exact mov (h x (Mt _ hx) s hxs)
 ·rcases FE.1 hx with rfl|hx
  ·rcases hs s hxs with h'|h'
   ·exact mov (h e (LA _ (.head _)) s h')
   ·exact mov h'
  ·exact mov (h x (LA _ (.tail _ hx)) s hxs)
def De (f:Fact) (c:Bool) (j:Nat) (a:Int) (p:List Int) (k:Kn):Kn:=
 if f.arg=a∧B4 f.path p=true then(if p.length<j then cS (Dj k c) (f.path.getD p.length 0)else if p.length=j then Dj k c else k)else k
def MP {path p:List Int}:B4 path p=true↔p.length≤path.length∧p=path.take p.length:=by
 rw[CR];constructor
 ·rintro⟨t,rfl⟩
  exact⟨by simp,by simp⟩
 ·rintro⟨h1,h2⟩
  exact⟨path.drop p.length,by conv=>rhs;rw[h2,K6,Nat.min_eq_left h1,List.take_append_drop]⟩
def dx (f:Fact) (c:Bool) (a:Int) (p:List Int) (k:Kn):De f c 0 a p k=if a=f.arg∧p= []then Dj k c else k:=by
 unfold De;by_cases h:f.arg=a∧B4 f.path p=true
 ·rw[if_pos h,if_neg (by omega)]
  by_cases hp:p.length=0
  ·rw[if_pos hp,if_pos ⟨h.1.symm,cZ.1 hp⟩]
  ·rw[if_neg hp,if_neg (fun h'=>hp (by rw[h'.2];rfl))]
 ·rw[if_neg h,if_neg]
  rintro⟨rfl,rfl⟩;exact h ⟨rfl,CR.2 ⟨f.path,by simp⟩⟩
def dy (f:Fact) (c:Bool) {j:Nat} (hj:j<f.path.length) (a:Int) (p:List Int) (k:Kn):De f c (j+1) a p k=if a=f.arg∧p=f.path.take (j+1)then Dj (De f c j a p k) c else if a=f.arg∧p=f.path.take j then cS (De f c j a p k) (f.path.getD j 0)else De f c j a p k:=by
 unfold De;by_cases h:f.arg=a∧B4 f.path p=true
 ·rw [if_pos h,if_pos h]
  obtain⟨h1,h2⟩:=h;rw[MP]at h2;obtain⟨h2,h3⟩:=h2;have l1:p=f.path.take (j+1)↔p.length=j+1:=⟨fun e=>by rw[e,K6];omega,fun e=>by rw[e]at h3;exact h3⟩
  have l2:p=f.path.take j↔p.length=j:=⟨fun e=>by rw[e,K6];omega,fun e=>by rw[e]at h3;exact h3⟩
  have n1:p.length≠j+1→ ¬(a=f.arg∧p=f.path.take (j+1)):=fun h h'=>h (l1.1 h'.2)
  have n2:p.length≠j→ ¬(a=f.arg∧p=f.path.take j):=fun h h'=>h (l2.1 h'.2)
  by_cases q1:p.length<j
  ·rw[if_pos (show p.length<j+1 by omega),if_neg (n1 (by omega)),if_neg (n2 (by omega)),if_pos q1]
  ·by_cases q2:p.length=j
   ·rw[if_pos (show p.length<j+1 by omega),if_neg (n1 (by omega)),if_pos (show a=f.arg∧p=f.path.take j from⟨h1.symm,l2.2 q2⟩),if_neg q1,if_pos q2,q2]
   ·by_cases q3:p.length=j+1
    ·rw[if_neg (show¬p.length<j+1 by omega),if_pos q3,if_pos (show a=f.arg∧p=f.path.take (j+1) from⟨h1.symm,l1.2 q3⟩),if_neg q1,if_neg q2]
    ·rw[if_neg (show¬p.length<j+1 by omega),if_neg q3,if_neg (n1 q3),if_neg (n2 q2),if_neg q1,if_neg q2]
 ·rw[if_neg h,if_neg h,if_neg,if_neg]
  ·rintro⟨rfl,rfl⟩
   exact h ⟨rfl,CR.2 ⟨f.path.drop j,by rw[List.take_append_drop]⟩⟩
  ·rintro⟨rfl,rfl⟩
   exact h ⟨rfl,CR.2 ⟨f.path.drop (j+1),by rw[List.take_append_drop]⟩⟩
def jR (a : Int) (p:List Int) (k:Kn) (l:Fact):DC a p k l=if a=(A8 l).1.arg∧p=(A8 l).1.path then Co (De (A8 l).1 (A8 l).2 (A8 l).1.path.length a p k) (A8 l).1 (A8 l).2 else De (A8 l).1 (A8 l).2 (A8 l).1.path.length a p k:=by
 unfold DC De;by_cases h:(A8 l).1.arg=a∧B4 (A8 l).1.path p=true
 ·rw [if_pos h,if_pos h]
  obtain⟨h1,h2⟩:=h;rw[MP]at h2;obtain⟨h2,h3⟩:=h2;by_cases hp:(A8 l).1.path=p
  ·rw[if_pos hp,if_pos ⟨h1.symm,hp.symm⟩,if_neg (by rw[hp];omega),if_pos (by rw[hp])]
  ·have hne:p.length<(A8 l).1.path.length:=by
    rcases Nat.lt_or_ge p.length (A8 l).1.path.length with h'|h'
    ·exact h'
    ·rw[List.take_of_length_le h']at h3
     exact absurd h3.symm hp
   rw[if_neg hp,if_neg (fun h=>hp h.2.symm),if_pos hne]
 ·rw[if_neg h,if_neg h,if_neg]
  rintro⟨rfl,rfl⟩;exact h ⟨rfl,MQ _⟩
def eC (ls:List Fact) (l:Fact) (a:Int) (p:List Int):kn (ls++[l]) a p=DC a p (kn ls a p) l:=by
 rw[kn,List.foldl_append];rfl
def QJ (l:List Int) (s:Int):(IS l s).length≤l.length+1:=by
 unfold IS;split
 ·omega
 ·rw[List.length_mergeSort];simp
def VZ (k:Kn) (f:Fact) (b:Bool):(Co k f b).no.length≤k.no.length+1:=by
 unfold Co
 repeat' split
 all_goals simp
def Zg (a:Int) (p:List Int): ∀(ls:List Fact) (k:Kn),(ls.foldl (DC a p) k).no.length≤k.no.length+ls.length∧(ls.foldl (DC a p) k).AP.length≤k.AP.length+ls.length
 | [],k=>⟨IE _,IE _⟩
 | l ::r,k=>by
   obtain⟨h1,h2⟩:=Zg a p r (DC a p k l)
   have h3:(DC a p k l).no.length≤k.no.length+1∧(DC a p k l).AP.length≤k.AP.length+1:=by
    unfold DC
    repeat' split
    ·have:=VZ (Dj k (A8 l).2) (A8 l).1 (A8 l).2
     rw[QD];simp only[Dj]at this ⊢;omega
    ·have:=QJ k.AP ((A8 l).1.path.getD p.length 0)
     simp only[cS,Dj]at this ⊢;omega
    ·omega
   rw[List.foldl_cons,Lt];omega
def eE {n:Nat} {ls:List Fact} (h:II n ls) (a:Int) (p:List Int):(kn ls a p).CV<2 ^ n∧(kn ls a p).GK<2 ^ n:=by
 have hc:=Mn ls a p;simp only[E0,Prod.mk.injEq]at hc;have hc2:II n (ls.filter (Lv a p)):=fun l hl=>h l (K9.1 hl).1
 rw[hc.2.2.2.1,hc.2.2.2.2.1];exact⟨Q4 hc2,ij hc2⟩
end Go.Gl
namespace Go.Gl
def Gr (no:List Int):Nat→Int→Int
 | 0,n=>n
 | k+1,n=>if no.contains n then Gr no k (n+1)else n
def from_ (no:List Int) (n:Int):Nat:=(no.filter fun x=>decide (n≤x)).length
def RH {no:List Int} {n:Int} (h:n∈no):from_ no (n+1)<from_ no n:=by
 induction no with
 | nil=>cases h
 | cons x r ih=>
   simp only[from_,List.filter_cons]at ih ⊢;by_cases hx:x=n
   ·subst hx
    have hle:(r.filter fun y=>decide (x+1≤y)).length≤(r.filter fun y=>decide (x≤y)).length:=by
     refine List.Sublist.length_le ?_
     have e:(r.filter fun y=>decide (x+1≤y))=(r.filter fun y=>decide (x≤y)).filter fun y=>decide (x+1≤y):=by
      rw[List.filter_filter];refine List.filter_congr fun y _=>?_
      rw[K5,BV,CL,CL];omega
     rw[e];exact List.filter_sublist
    rw[if_neg (by simp<;>omega),if_pos (by simp),Lt];omega
   ·have h':n∈r:=by
     rcases FE.1 h with e|e
     ·exact absurd e.symm hx
     ·exact e
    have:=ih h';by_cases h1:n≤x
    ·rw[if_pos (by rw[CL];omega),if_pos (by rw[CL];omega),Lt,Lt]
     omega
    ·rw[if_neg (by rw[CL];omega),if_neg (by rw[CL];omega)]
     omega
def Wg (no:List Int) (n:Int):from_ no n≤no.length:=Oy _ _
def Kr {no:List Int}: ∀(k:Nat) (n:Int),from_ no n≤k→n≤Gr no k n∧Gr no k n∉no∧ ∀j,n≤j→j<Gr no k n→j∈no
 | 0,n,h=>by
   refine⟨Int.le_refl _,fun hm=>?_,fun j h1 h2=>by simp only[Gr]at h2;omega⟩;have:=RH hm;simp only[Gr]at this;omega
 | k + 1,n,h=>by
   rw[Gr];split
   ·rename_i hc
    rw[List.contains_iff_mem]at hc;have hlt:=RH hc;obtain⟨h1,h2,h3⟩:=Kr (no:=no) k (n+1) (by omega);refine⟨by omega,h2,fun j hj1 hj2=>?_⟩;by_cases e:j=n
    ·subst e;exact hc
    ·exact h3 j (by omega) hj2
   ·rename_i hc
    exact⟨Int.le_refl _,fun hm=>hc (List.contains_iff_mem.2 hm),fun j h1 h2=>by omega⟩
def mr {no:List Int} {k:Nat} {n:Int} (h:n∈no):Gr no (k+1) n=Gr no k (n+1):=by rw[Gr,if_pos (List.contains_iff_mem.2 h)]
def fO {no:List Int} {k:Nat} {n:Int} (h:n∉no):Gr no k n=n:=by
 cases k with
 | zero=>rfl
 | succ k=>rw[Gr,if_neg (fun hc=>h (List.contains_iff_mem.1 hc))]
def W4 {no:List Int} {k k':Nat} {n:Int} (h:from_ no n≤k) (h':from_ no n≤k'):Gr no k n=Gr no k' n:=by
 obtain⟨a1,a2,a3⟩:=Kr k n h;obtain⟨b1,b2,b3⟩:=Kr k' n h';rcases Int.lt_trichotomy (Gr no k n) (Gr no k' n)with hl|he|hg
 ·exact absurd (b3 _ a1 hl) a2
 ·exact he
 ·exact absurd (a3 _ b1 hg) b2
def JZ (k:Kn):Int:=Gr k.no k.no.length k.low
def NH (kf:Int→List Int→Kn) (a:Int) (p:List Int):Bool:=(kf a p).AP.all fun s=> !(kf a (p++[s])).A0
def HQ (kf:Int→List Int→Kn) (a:Int) (p:List Int) (c:Nat):Bool:=O0 (kf a p).CV (1|||2 ^ c)&&((kf a p).GK&&&(1|||2 ^ c)==0&&NH kf a p)
def Qc (kf:Int→List Int→Kn) (a:Int) (p:List Int):Bool:=decide (JZ (kf a p)≤(kf a p).high)&&HQ kf a p 1
def J9 (kf:Int→List Int→Kn) (a:Int) (p:List Int):Bool:= !(kf a p).whole&&HQ kf a p 2
def MX (w:AK) (kf:Int→List Int→Kn) (a:Int):Nat→List Int→Bool
 | 0,p=>Qc kf a p||(J9 kf a p||(MU w (kf a p) (fun s=>(kf a (p++[s])).A0) (fun _=>false)).2)
 | d+1,p=>Qc kf a p||(J9 kf a p||(MU w (kf a p) (fun s=>(kf a (p++[s])).A0) (fun s=>MX w kf a d (p++[s]))).2)
def Yw (w:AK) (kf:Int→List Int→Kn):Bool:=(Bj 3).all fun a=>MX w kf a 2 []
def Wo {n:Nat} {ls:List Fact} (h:HR n ls) (a:Int) (p:List Int):NH (kn ls) a p=JJ n ls a p:=by
 rw[NH,JJ,Kg h];congr 1;funext s;rw[Lj,Bool.not_not]
def Zh {n m:Nat} {ls:List Fact} (hn:n≤64) (hc:II n ls) (h:HR m ls) (a:Int) (p:List Int):Qc (kn ls) a p=((R4 ls a p).isSome&&JJ m ls a p):=by
 have hcore:=Mn ls a p;have hc2:II n (ls.filter (Lv a p)):=fun l hl=>hc l (K9.1 hl).1
 simp only[E0,Prod.mk.injEq]at hcore;obtain⟨c1,c2,c3,c4,c5,-⟩:=hcore;rw[Qc,HQ,Wo h,c4,c5,←Bool.and_assoc (O0 _ _),Xk hn hc2,←Bool.and_assoc];congr 1;have hf:=P4 (ls.filter (Lv a p)) k0;rw[R4,show t0=(k0.low,k0.high,k0.no) from rfl,hf,JZ,c2,c3,c1];obtain⟨h1,h2,h3⟩:=Kr (no:=(Eg (ls.filter (Lv a p)) k0).no) _ (Eg (ls.filter (Lv a p)) k0).low (Wg _ _);have hs:=aX (high:=(Eg (ls.filter (Lv a p)) k0).high) h1 h2 h3;cases(ls.filter (Lv a p)).all fun l=>ga (A8 l)with
 | false=>simp
 | true=>rw[if_pos rfl,Option.bind_some,hs,Bool.and_true]
def WG {n m:Nat} {ls:List Fact} (hn:n≤64) (hc:II n ls) (h:HR m ls) (a:Int) (p:List Int):J9 (kn ls) a p=NA m ls a p:=by
 have hcore:=Mn ls a p;have hc2:II n (ls.filter (Lv a p)):=fun l hl=>hc l (K9.1 hl).1
 simp only[E0,Prod.mk.injEq]at hcore;obtain⟨-,-,-,c4,c5,c6⟩:=hcore;rw[J9,HQ,Wo h,c4,c5,c6,NA,←Uw hn hc2];simp only[Bool.and_assoc]
def Z2 {w:AK} {ls:List Fact} (ho:ordered w.parents) (how: ∀s:Int,0≤s→s<w.owner.length→3≤CA w s∧CA w s<3+w.parents.length) (hn:3+w.parents.length≤64) (hc:II (3+w.parents.length) ls) (hp:HR w.owner.length ls) (a:Int): ∀(d:Nat) (p:List Int),MX w (kn ls) a d p=Qe w ls a d p
 | 0,p=>by
   rw[MX,Qe,Zh hn hc hp,WG hn hc hp,fq ho how hc hp fun s=>Lj ls a (p++[s])]
 | d+1,p=>by
   rw[MX,Qe,Zh hn hc hp,WG hn hc hp,fq ho how hc hp fun s=>Lj ls a (p++[s])];have e:(fun s=>MX w (kn ls) a d (p++[s]))=fun s=>Qe w ls a d (p++[s]):=funext fun s=>Z2 ho how hn hc hp a d (p++[s])
   rw[e]
def iJ {w:AK} {ls:List Fact} (ho:ordered w.parents) (how: ∀s:Int,0≤s→s<w.owner.length→3≤CA w s∧CA w s<3+w.parents.length) (hn:3+w.parents.length≤64) (hc:II (3+w.parents.length) ls) (hp:HR w.owner.length ls):Yw w (kn ls)=I5 w ls:=by
 rw[Yw,I5];congr 1;funext a;exact Z2 ho how hn hc hp a 2 []
end Go.Gl
namespace Go.Gl
open Go.Proofs
attribute [local irreducible] BD Aw Ai AU AO Ah AV AW AN Ag AS AT Ay A9 Sat Ab A4 Aj W
section
variable {S:Type} (g:FuncId) (fi ca:List V) (H:S→List At) (f:Int→Bool) (J:S→Prop) (D:Int→Prop)
def PD {v:V} {xs:List Int} (hst:L7 Tryz.prog (.f (.func g) fi ca) eI (fun s=> .own v 1 (iL xs)::H s) f J D) (hD: ∀x∈xs,D x) (hxl:xs.length≤Ac) (s0:S) (hj0:J s0) :
    Bc Tryz.prog 103 [v,.f (.func g) fi ca] (.own v 1 (iL xs)::H s0) fun r post=>r= .ret (eI (L5 f xs 0))∧ ∃s',J s'∧post= .own v 1 (iL xs)::H s':=by
 intro σ hs;have hM:=Mx;refine Zz kZ ?_
 conv=>whnf
 repeat'((first|apply st|(apply sq;intro K U)|(apply si;intro A B Y Z)|(apply Y;clear Z B Y A)|(apply U;clear U K)|refine lo ?_|fail)<;>conv=>whnf)
 refine CZ xs.length (fun k (_:S)=>[(8,eI (BH k))]) (fun _ s=> .own v 1 (iL xs)::H s) (fun k s=>J s∧L5 f xs 0=L5 f (xs.drop k) k) s0 rfl ⟨hj0,rfl⟩ hs ?_;clear hs hj0;rintro k s σ hk ⟨hj,hn⟩ hs;have hck:BH k=k:=AM (by omega);rcases BM xs hk with⟨y,hy,hlt⟩|hke
 ·rw[drop_cons hy]at hn
  have hDy:=hD y (Cg hy);rw[L5]at hn
  conv=>whnf
  repeat'((first|apply st|(apply sq;intro K U)|(apply si;intro A B Y Z)|(apply Y;clear Z B Y A)|(apply U;clear U K)|refine⟨rfl,?_⟩|refine oi ?_|refine ol fun x hx=>?_|(refine Cv (fun hc=>?_)<;>(try rw[hc])<;>clear hc)|fail)<;>conv=>whnf)
  obtain rfl:x=y:=by rw[hck,Jz,hy]at hx;exact(Option.some.inj hx).symm
  refine hst.use hDy hj hs ?_;clear hs hj;intro s σ hj hs;cases hyes:f x
  ·rw[hyes,if_neg (by decide)]at hn
   conv=>whnf
   repeat'((first|apply st|(apply si;intro A B Y Z)|(apply Y;clear Z B Y A)|(apply U;clear U K)|refine⟨rfl,?_⟩|clear U K)<;>conv=>whnf)
   exact⟨hlt,_,rfl,⟨hj,hn⟩,hs⟩
  ·rw[hyes,if_pos rfl]at hn
   conv=>whnf
   repeat'((first|apply st|(apply sq;intro K U)|(apply si;intro A B Y Z)|(apply Y;clear Z B Y A)|(apply U;clear U K)|clear U K)<;>conv=>whnf)
   rw[hn];exact AQ ⟨_,⟨by rw[hck],s,hj,rfl⟩,hs⟩
 ·rw[Ap hke,L5]at hn
  conv=>whnf
  repeat'((first|apply st|(apply sq;intro K U)|(apply si;intro A B Y Z)|(apply Y;clear Z B Y A)|(apply U;clear U K)|refine⟨rfl,?_⟩|(refine EI (fun hc=>?_)<;>(try rw[hc])<;>clear hc)|clear U K)<;>conv=>whnf)
  rw[hn];exact AQ ⟨_,⟨rfl,s,hj,rfl⟩,hs⟩
def Mc {v:V} {xs:List Int} (hst:L7 Tryz.prog (.f (.func g) fi ca) eI (fun s=> .own v 1 (iL xs)::H s) f J D) (hD: ∀x∈xs,D x) (hxl:xs.length≤Ac) (s0:S) (hj0:J s0) :
    Bc Tryz.prog 72 [v,.f (.func g) fi ca] (.own v 1 (iL xs)::H s0) fun r post=>r= .ret (.b (xs.any f))∧ ∃s',J s'∧post= .own v 1 (iL xs)::H s':=by
 intro σ hs;refine gI kZ ?_
 conv=>whnf
 repeat'((first|(apply sq;intro K U)|(apply si;intro A B Y Z)|(apply Y;clear Z B Y A)|(apply U;clear U K)|fail)<;>conv=>whnf)
 refine(PD g fi ca H f J D hst hD hxl s0 hj0).use (rest:=[]) (by simpa using hs) ?_;rintro r post σ ⟨rfl,s',hj,rfl⟩ hs
 conv=>whnf
 repeat'((first|apply st|(apply Y;clear Z B Y A)|(apply U;clear U K)|refine⟨rfl,?_⟩|fail)<;>conv=>whnf)
 exact AQ ⟨_,⟨by rw[←S9 f xs 0],s',hj,rfl⟩,by simpa using hs⟩
def dq {v:V} {xs:List Int} (hst:L7 Tryz.prog (.f (.func g) fi ca) eI (fun s=> .own v 1 (iL xs)::H s) f J D):L7 Tryz.prog (.f (.func 217) [] [.rp [.f (.func g) fi ca]]) eI (fun s=> .own v 1 (iL xs)::H s) (fun y=> !f y) J D:=by
 intro y s hd hj σ hs;refine Bk ?_;show BD Tryz.prog 217 ([]++[eI y]++[.rp [.f (.func g) fi ca]]) σ _;refine Zr kZ ?_
 conv=>whnf
 repeat'((first|apply st|(apply sq;intro K U)|(apply si;intro A B Y Z)|(apply Y;clear Z B Y A)|(apply U;clear U K)|fail)<;>conv=>whnf)
 refine hst.use hd hj hs ?_;clear hs;intro s' σ hj' hs
 conv=>whnf
 repeat'((first|apply st|(apply Y;clear Z B Y A)|(apply U;clear U K)|fail)<;>conv=>whnf)
 exact AQ ⟨rfl,s',hj',hs⟩
def W0 {v:V} {xs:List Int} (hst:L7 Tryz.prog (.f (.func g) fi ca) eI (fun s=> .own v 1 (iL xs)::H s) f J D) (hD: ∀x∈xs,D x) (hxl:xs.length≤Ac) (s0:S) (hj0:J s0) :
    Bc Tryz.prog 177 [v,.f (.func g) fi ca] (.own v 1 (iL xs)::H s0) fun r post=>r= .ret (.b (xs.all f))∧ ∃s',J s'∧post= .own v 1 (iL xs)::H s':=by
 intro σ hs;refine Zu kZ ?_
 conv=>whnf
 repeat'((first|(apply sq;intro K U)|(apply si;intro A B Y Z)|(apply Y;clear Z B Y A)|(apply U;clear U K)|fail)<;>conv=>whnf)
 refine(Mc 217 [] [.rp [.f (.func g) fi ca]] H _ J D (dq g fi ca H f J D hst) hD hxl s0 hj0).use (rest:=[]) (by simpa using hs) ?_;rintro r post σ ⟨rfl,s',hj,rfl⟩ hs
 conv=>whnf
 repeat'((first|apply st|(apply Y;clear Z B Y A)|(apply U;clear U K)|fail)<;>conv=>whnf)
 refine AQ ⟨_,⟨?_,s',hj,rfl⟩,by simpa using hs⟩;rw[List.all_eq_not_any_not]
end
abbrev JT (l:Fact):List V:=xF (A8 l).1++[.b (A8 l).2]
abbrev Ex (ls:List Fact):List (List V):=ls.map JT
def dS (xs ys:List Int) (f g:Bool):Pure Tryz.prog 273 [.l (iL xs) f,.l (iL ys) g] (.b (xs==ys)):=by
 refine Pure.fit (by kernel_rfl) fun hf=>?_
 have hx:=L4 hf.1;have hy:=L4 hf.2.1;have hM:=Mx;refine jx kZ ?_;have hs:=Sn
 conv=>whnf
 repeat'((first|apply st|(apply sq;intro K U)|(apply si;intro A B Y Z)|(apply Y;clear Z B Y A)|(apply U;clear U K)|refine⟨rfl,?_⟩|(constructor<;>intro hc<;>(try rw[hc])<;>(replace hc:=bp hc)<;>(try simp(disch:=omega) only[BR,wrap64,AM]at hc))|clear U K)<;>conv=>whnf)
 ·exact AI (by(have:(xs==ys)=false:=by(simp;intro e;subst e;simp at hc));rw[this])
 have hl:xs.length=ys.length:=by omega
 refine CZ xs.length (fun k (_:Unit)=>[(13,eI (BH k))]) (fun _ _=>[]) (fun k _=>(xs==ys)=(xs.drop k==ys.drop k)) () rfl rfl Sat.nil ?_;clear hs;rintro k - σ hk hn hs;rcases BM xs hk with⟨x,hxk,hlt⟩|hke
 ·obtain⟨y,hyk⟩: ∃y,ys[k]? =some y:=⟨_,DZ (by omega)⟩
  rw[drop_cons hxk,drop_cons hyk]at hn
  conv=>whnf
  repeat'((first|apply st|(apply sq;intro K U)|(apply si;intro A B Y Z)|(apply Y;clear Z B Y A)|(apply U;clear U K)|apply dr|refine⟨rfl,?_⟩|refine ix ?_|(refine Cv (fun hc=>?_)<;>(try rw[hc])<;>clear hc)|(constructor<;>intro hc<;>(try rw[hc])<;>(replace hc:=bp hc))|clear U K)<;>conv=>whnf)
  ·exact AI (by rw[hn];simp[*])
  ·exact⟨hlt,(),rfl,by rw[hn];simp[*],hs⟩
 ·conv=>whnf
  repeat'((first|apply st|(apply sq;intro K U)|(apply si;intro A B Y Z)|(apply Y;clear Z B Y A)|(apply U;clear U K)|refine⟨rfl,?_⟩|(refine EI (fun hc=>?_)<;>(try rw[hc])<;>clear hc)|clear U K)<;>conv=>whnf)
  exact AI (by rw[hn,Ap hke,Ap (by omega)];rfl)
def eF (a b:Bool) (u:V):Pure Tryz.prog 274 [.l [] a,.l [] b,u] (.b true):=by
 refine jw kZ ?_;have hs:=Sn;have hM:=Mx
 conv=>whnf
 repeat'((first|apply st|(apply sq;intro K U)|(apply si;intro A B Y Z)|(apply Y;clear Z B Y A)|(apply U;clear U K)|refine⟨rfl,?_⟩|(constructor<;>intro hc<;>(try rw[hc])<;>(replace hc:=bp hc)<;>(try simp(disch:=omega) only[BR,wrap64,AM]at hc)<;>try(exfalso;omega))|fail)<;>conv=>whnf)
 refine CZ 0 (fun k (_:Unit)=>[(17,eI (BH k))]) (fun _ _=>[]) (fun _ _=>True) () rfl trivial Sat.nil ?_;clear hs;rintro k - σ hk - hs;obtain rfl:k=0:=by omega
 conv=>whnf
 repeat'((first|apply st|(apply sq;intro K U)|(apply si;intro A B Y Z)|(apply Y;clear Z B Y A)|(apply U;clear U K)|refine⟨rfl,?_⟩|(constructor<;>intro hc<;>(try rw[hc])<;>(replace hc:=bp hc)<;>(try simp(disch:=omega) only[BR,wrap64,AM]at hc))|clear U K)<;>conv=>whnf)
 ·exfalso
  simp at hc
 ·exact AI rfl
set_option maxHeartbeats 1000000 in
def dT (f g:Fact) (hf:f.kids= []) (hg:g.kids= []):Pure Tryz.prog 258 [.a (xF f),.a (xF g)] (.b (Gy f g)):=by
 have e:Gy f g=(f.op==g.op&&(f.arg==g.arg&&(f.cls==g.cls&&(f.n==g.n&&f.path==g.path)))):=by
  rw[Sk,hf,hg];simp[UE]
 obtain⟨o,a,p,c,n,k⟩:=f;obtain⟨o',a',p',c',n',k'⟩:=g;simp only[Fact.kids]at hf hg;subst hf;subst hg;refine j6 kZ ?_;have hs:=Sn;rw[e]
 conv=>whnf
 repeat'((first|apply st|(apply sq;intro K U)|(apply si;intro A B Y Z)|(apply Y;clear Z B Y A)|(apply U;clear U K)|refine⟨rfl,?_⟩|refine Pure.use (dS _ _ _ _) ?_|refine Pure.use (eF _ _ _) ?_|(constructor<;>intro hc<;>(try rw[hc])<;>(replace hc:=bp hc))|fail)<;>conv=>whnf)
 all_goals simp only[Fact.op,Fact.arg,Fact.cls,Fact.n,Fact.path]at *
 all_goals exact AI (by simp[*])
def UQ:EE JT 7:=fun l=>by
 refine⟨rfl,fun v hv=>?_⟩;rcases FX.1 hv with hv|hv
 ·exact(NU (A8 l).1).2 v (by show v∈F4 (A8 l).1;rw[B0];exact hv)
 ·simp at hv;subst hv;rfl
def PH (x y:Fact):Bool:=(A8 x).2==(A8 y).2&&Gy (A8 x).1 (A8 y).1
abbrev Vk (l:Fact):Prop:=(A8 l).1.kids= []
abbrev gj (f:Fact→Bool):Fact→Unit→Bool×Unit:=fun y _=>(f y,())
def dU (x:Fact) (hx1:Vk x) (n:Nat):C5 Tryz.prog (.f (.func 257) [] [.p n 0]) (fun y=> .a (JT y)) (fun _:Unit=>[.box n (JT x)]) (gj (PH x)) (fun y _=>Vk y):=by
 intro y s hy1 σ hs;refine Bk ?_;show BD Tryz.prog 257 ([]++[.a (JT y)]++[.p n 0]) σ _;refine j7 kZ ?_;unfold PH
 conv=>whnf
 repeat'((first|apply st|(apply sq;intro K U)|(apply si;intro A B Y Z)|(apply Y;clear Z B Y A)|(apply U;clear U K)|refine⟨kZ,?_⟩|refine ld ?_|refine Pure.use (dT _ _ hx1 hy1) ?_|(constructor<;>intro hc<;>(try rw[hc])<;>(replace hc:=bp hc))|fail)<;>conv=>whnf)
 all_goals exact AQ ⟨by simp[gj, *],hs⟩
section
variable {S:Type} (g:FuncId) (fi ca:List V) (H:S→List At)
def PC (stp:Fact→S→Bool×S) (D:Fact→S→Prop) {v:V} {xs:List Fact} (hst:C5 Tryz.prog (.f (.func g) fi ca) (fun y=> .a (JT y)) (fun s=> .own v 7 (Ex xs)::H s) stp D) (hxl:xs.length≤Ac) (s0:S) (hd:T1 stp D xs s0) :
    Bc Tryz.prog 272 [v,.f (.func g) fi ca] (.own v 7 (Ex xs)::H s0) fun r post=>r= .ret (eI (Bh stp xs 0 s0).1)∧post= .own v 7 (Ex xs)::H (Bh stp xs 0 s0).2:=by
 intro σ hs;have hM:=Mx;refine jy kZ ?_
 conv=>whnf
 repeat'((first|apply st|(apply sq;intro K U)|(apply si;intro A B Y Z)|(apply Y;clear Z B Y A)|(apply U;clear U K)|refine lo ?_|fail)<;>conv=>whnf)
 refine CZ xs.length (fun k (_:S)=>[(8,eI (BH k))]) (fun _ s=> .own v 7 (Ex xs)::H s) (fun k s=>T1 stp D (xs.drop k) s∧Bh stp xs 0 s0=Bh stp (xs.drop k) k s) s0 rfl ⟨hd,rfl⟩ hs ?_;clear hs;rintro k s σ hk ⟨hd,hn⟩ hs;have hck:BH k=k:=AM (by omega);rcases BM xs hk with⟨y,hy,hlt⟩|hke
 ·rw[drop_cons hy]at hn hd
  obtain⟨hd1,hd2⟩:=hd;rw[Bh]at hn
  conv=>whnf
  repeat'((first|apply st|(apply sq;intro K U)|(apply si;intro A B Y Z)|(apply Y;clear Z B Y A)|(apply U;clear U K)|refine⟨rfl,?_⟩|refine⟨kZ,?_⟩|refine oi ?_|refine ol fun x hx=>?_|(refine Cv (fun hc=>?_)<;>(try rw[hc])<;>clear hc)|fail)<;>conv=>whnf)
  obtain rfl:x=y:=by rw[hck,Jz,hy]at hx;exact(Option.some.inj hx).symm
  refine hst.use hd1 hs ?_;clear hs;intro σ hs;cases hyes:(stp x s).1
  ·rw[hyes,if_neg (by decide)]at hn
   conv=>whnf
   repeat'((first|apply st|(apply si;intro A B Y Z)|(apply Y;clear Z B Y A)|(apply U;clear U K)|refine⟨rfl,?_⟩|clear U K)<;>conv=>whnf)
   exact⟨hlt,_,rfl,⟨hd2,hn⟩,hs⟩
  ·rw[hyes,if_pos rfl]at hn
   conv=>whnf
   repeat'((first|apply st|(apply sq;intro K U)|(apply si;intro A B Y Z)|(apply Y;clear Z B Y A)|(apply U;clear U K)|clear U K)<;>conv=>whnf)
   rw[hn];exact AQ ⟨_,⟨by rw[hck],rfl⟩,hs⟩
 ·rw[Ap hke,Bh]at hn
  conv=>whnf
  repeat'((first|apply st|(apply sq;intro K U)|(apply si;intro A B Y Z)|(apply Y;clear Z B Y A)|(apply U;clear U K)|refine⟨rfl,?_⟩|(refine EI (fun hc=>?_)<;>(try rw[hc])<;>clear hc)|clear U K)<;>conv=>whnf)
  rw[hn];exact AQ ⟨_,⟨rfl,rfl⟩,hs⟩
def Lq (stp:Fact→S→Bool×S) (D:Fact→S→Prop) {v:V} {xs:List Fact} (hst:C5 Tryz.prog (.f (.func g) fi ca) (fun y=> .a (JT y)) (fun s=> .own v 7 (Ex xs)::H s) stp D) (hxl:xs.length≤Ac) (s0:S) (hd:T1 stp D xs s0) :
    Bc Tryz.prog 256 [v,.f (.func g) fi ca] (.own v 7 (Ex xs)::H s0) fun r post=>r= .ret (.b (decide ((Bh stp xs 0 s0).1≥0)))∧post= .own v 7 (Ex xs)::H (Bh stp xs 0 s0).2:=by
 intro σ hs;refine j8 kZ ?_
 conv=>whnf
 repeat'((first|(apply sq;intro K U)|(apply si;intro A B Y Z)|(apply Y;clear Z B Y A)|(apply U;clear U K)|fail)<;>conv=>whnf)
 refine(PC g fi ca H stp D hst hxl s0 hd).use (rest:=[]) (by simpa using hs) ?_;rintro r post σ ⟨rfl,rfl⟩ hs
 conv=>whnf
 repeat'((first|apply st|(apply Y;clear Z B Y A)|(apply U;clear U K)|refine⟨rfl,?_⟩|fail)<;>conv=>whnf)
 exact AQ ⟨_,⟨rfl,rfl⟩,by simpa using hs⟩
end
def bt (a:List Fact) (f:Bool) (hl:a.length≤1000000):Bc Tryz.prog 255 [.l (Ex a) f] [] fun r post=> ∃v,r= .ret v∧post= [.own v 7 (Ex a)]:=by
 intro σ hs;have hM:=Mx;refine j9 kZ ?_
 conv=>whnf
 repeat'((first|(apply sq;intro K U)|(apply si;intro A B Y Z)|(apply Y;clear Z B Y A)|(apply U;clear U K)|fail)<;>conv=>whnf)
 refine⟨fun e t=>?_,fun _=>?_⟩
 ·have hxe:a= []:=List.map_eq_nil_iff.1 e
  subst hxe
  conv=>whnf
  repeat'((first|apply st|(apply sq;intro K U)|(apply si;intro A B Y Z)|(apply Y;clear Z B Y A)|(apply U;clear U K)|(constructor<;>intro hc<;>(try rw[hc])<;>(replace hc:=bp hc))|clear U K)<;>conv=>whnf)
  ·exact AQ ⟨_,⟨_,rfl,rfl⟩,DN hs 7⟩
  ·replace hs:=DN hs 7
   refine NF hs 0 (xs:=[]) (ys:=[]) rfl (by simp) UQ fun v σ hs=>?_
   conv=>whnf
   repeat'((first|apply st|(apply Y;clear Z B Y A)|(apply U;clear U K)|fail)<;>conv=>whnf)
   exact AQ ⟨_,⟨_,rfl,rfl⟩,hs⟩
 ·conv=>whnf
  repeat'((first|apply st|(apply sq;intro K U)|(apply si;intro A B Y Z)|(apply Y;clear Z B Y A)|(apply U;clear U K)|fail)<;>conv=>whnf)
  replace hs:=DN hs 7;refine NF hs 0 (xs:=[]) (ys:=a) rfl (by simp;omega) UQ fun v σ hs=>?_
  conv=>whnf
  repeat'((first|apply st|(apply Y;clear Z B Y A)|(apply U;clear U K)|fail)<;>conv=>whnf)
  exact AQ ⟨_,⟨_,rfl,rfl⟩,hs⟩
def Sg {w:AK} {x:Fact} (h:IA w x):x=if(A8 x).2 then F2 (A8 x).1 else(A8 x).1:=by
 obtain⟨g,hn,hl,rfl|rfl⟩:=h
 ·have:=Fo hl
  have h5: ¬x.op=5:=by omega
  simp only[A8,if_neg h5];rfl
 ·rfl
def V0 {w:AK} {x y:Fact} (hx1:IA w x) (hy1:IA w y):PH x y=Gy x y:=by
 rw[K5,Lc];simp only[PH,BV,Du,Lc];constructor
 ·rintro⟨h1,h2⟩
  rw[Sg hx1,Sg hy1,h1,h2]
 ·rintro rfl
  exact⟨rfl,rfl⟩
def Po {w:AK} {x:Fact} (h:IA w x):Vk x:=by
 obtain⟨-,hn,hl⟩:=G8 h;have hlo:=Fo hl;have har:=DD _ hn;rw[Ko,BV,Du]at har
 have h0:By (A8 x).1.op=0:=by
  have h5: ¬(A8 x).1.op=5:=by omega
  have h6: ¬((A8 x).1.op=6∨(A8 x).1.op=7):=by omega
  simp[By,h5,h6]
  try omega
 rw[h0]at har;exact cZ.1 har.1
def X3 {w:AK} (a b:List Fact) (f g:Bool) (hla: ∀x∈a,IA w x) (hlb: ∀x∈b,IA w x) (hl:a.length+b.length<1000000):Pure Tryz.prog 228 [.l (Ex a) f,.l (Ex b) g] (.l (Ex (Cr a b)) false):=by
 have hM:=Mx;refine Pure.of ?_;refine kO kZ ?_;have hs:=Sn
 conv=>whnf
 repeat'((first|(apply sq;intro K U)|(apply si;intro A B Y Z)|(apply Y;clear Z B Y A)|(apply U;clear U K)|fail)<;>conv=>whnf)
 refine(bt a f (by omega)).use (rest:=[]) (by simpa using hs) ?_;clear hs;rintro r post σ ⟨v,rfl,rfl⟩ hs
 conv=>whnf
 repeat'((first|apply st|(apply sq;intro K U)|(apply si;intro A B Y Z)|(apply Y;clear Z B Y A)|(apply U;clear U K)|fail)<;>conv=>whnf)
 refine CZ b.length (fun k v=>[(5,v),(12,eI (BH k))]) (fun k v=>[.own v 7 (Ex (Cr a (b.take k)))]) (fun _ _=>True) v rfl trivial hs ?_;clear hs;rintro k v σ hk - hs;have hml:=Pt a (b.take k);rw[K6]at hml;rcases BM b hk with⟨x,hxk,hlt⟩|hke
 ·have hsn:=U5 a (b.take k) x
  rw[←AX hxk]at hsn;have hxg:=hlb x (Cg hxk)
  have hmem: ∀y∈Cr a (b.take k),IA w y:=fun y hy=>by
   rcases Ps _ _ _ hy with h|h
   ·exact hla y h
   ·exact hlb y (List.mem_of_mem_take h)
  generalize Cr a (b.take k)=m at *
  have hany:m.any (PH x)=m.any (Gy x):=by
   rw[K5,JA,JA];exact⟨fun⟨y,hy,h⟩=>⟨y,hy,by rw[←V0 hxg (hmem y hy)];exact h⟩,fun⟨y,hy,h⟩=>⟨y,hy,by rw[V0 hxg (hmem y hy)];exact h⟩⟩
  conv=>whnf
  repeat'((first|apply st|(apply sq;intro K U)|(apply si;intro A B Y Z)|(apply Y;clear Z B Y A)|(apply U;clear U K)|refine⟨rfl,?_⟩|refine⟨kZ,?_⟩|refine ix ?_|refine DT fun σ hs=>?_|(refine Cv (fun hc=>?_)<;>(try rw[hc])<;>clear hc)|(intro nn hnn;generalize hg:A7 _ nn _=σ;refine CY hg fun hs=>?_;clear hg)|fail)<;>conv=>whnf)
  generalize nn=n7 at *;have hs2:Sat σ [.own v 7 (Ex m),.box n7 (JT x)]:=hs.perm (.swap _ _ _);clear hs hnn;refine(Lq 257 [] [.p n7 0] (fun _:Unit=>[.box n7 (JT x)]) (gj (PH x)) (fun y _=>Vk y) ((dU x (Po hxg) n7).more [_]) (by omega) () (Gk fun y hy _=>Po (hmem y hy))).use (rest:=[]) hs2 ?_;clear hs2;rintro r post σ ⟨rfl,rfl⟩ hs;rw[Kk,hany];cases hy:m.any (Gy x)
  ·rw[hy,if_neg Bool.false_ne_true]at hsn
   conv=>whnf
   repeat'((first|apply st|(apply si;intro A B Y Z)|(apply Y;clear Z B Y A)|(apply U;clear U K)|refine⟨kZ,?_⟩|refine ld ?_|refine FI ?_|fail)<;>conv=>whnf)
   refine GC (Fh (x:=x) (xs:=m) (enc:=JT) hs 0 rfl (by omega) UQ fun v σ hs hsl=>?_)
   conv=>whnf
   repeat'((first|(apply si;intro A B Y Z)|(apply Y;clear Z B Y A)|(apply U;clear U K)|refine⟨rfl,?_⟩|clear U K)<;>conv=>whnf)
   exact⟨hlt,v,rfl,trivial,by rw[hsn];exact hs.less (.cons₂ _ (Lr _))⟩
  ·rw[hy,if_pos rfl]at hsn
   conv=>whnf
   repeat'((first|apply st|(apply si;intro A B Y Z)|(apply Y;clear Z B Y A)|(apply U;clear U K)|refine⟨rfl,?_⟩|refine EM ?_|clear U K)<;>conv=>whnf)
   exact⟨hlt,v,rfl,trivial,by rw[hsn];exact hs.less (.cons₂ _ (Lr _))⟩
 ·conv=>whnf
  repeat'((first|apply st|(apply sq;intro K U)|(apply si;intro A B Y Z)|(apply Y;clear Z B Y A)|(apply U;clear U K)|refine⟨rfl,?_⟩|(refine EI (fun hc=>?_)<;>(try rw[hc])<;>clear hc)|clear U K)<;>conv=>whnf)
  exact Yk (GA hs 0 rfl (vf:= .l (Ex (Cr a b)) false) (by rw[BC hke])) fun r σ h=>h.1
end Go.Gl
namespace Go.Gl
open Go.Proofs
abbrev aI:AJ:=(.seq [0,3] (.A3 [⟨(some 3),.R8 (.t 1),none⟩,
 ⟨(some 4),.mv (.c .pn),none⟩])
 (.seq [0,3,5,6] (.Bf [0,3,5,6] [⟨0,⟨(some 8),.mv (.t 0),none⟩,[],[]⟩,
  ⟨1,⟨(some 9),.FK (.t 8),none⟩,[],[]⟩,
  ⟨2,⟨(some 10),.JI 1 (.t 9),none⟩,[],[]⟩,
  ⟨3,⟨(some 11),.load none (.t 10),none⟩,[],[]⟩,
  ⟨4,⟨(some 12),.load (some 4) (.t 3),none⟩,[],[]⟩,
  ⟨5,⟨(some 13),.lookup (.a [.i64,.i64,.i64,.i64]) .pn true (.t 11) (.t 12),none⟩,[],[]⟩,
  ⟨6,⟨(some 7),.mv (.t 13),none⟩,[],[]⟩,
  ⟨7,⟨(some 14),.extract 0 (.t 7),none⟩,[],[]⟩,
  ⟨8,⟨(some 15),.extract 1 (.t 7),none⟩,[],[]⟩,
  ⟨9,⟨(some 5),.mv (.t 14),none⟩,[],[]⟩,
  ⟨10,⟨(some 6),.mv (.t 15),none⟩,[],[]⟩])
 (.seq [5] (.seq [0,3,5,17] (.A3 [⟨(some 16),.mv (.t 6),none⟩,
  ⟨(some 17),.not (.t 16),none⟩])
 (.cond (.t 17)
 (.seq [0,3,5] (.A3 [⟨(some 18),.build [(.i .i64 0),(.i .i64 0),(.l [] true)] [(0,1,(.c (.i .i64 (-1000000000)))),(1,1,(.c (.i .i64 1000000000)))],none⟩,
  ⟨(some 19),.build [(.i .i64 0),(.i .i64 0),(.l [] true),(.i .u64 0),(.i .u64 0),(.b false),(.b false),(.l [] true)] [(0,3,(.t 18))],none⟩,
  ⟨(some 20),.box (.t 19),none⟩,
  ⟨(some 5),.mv (.t 20),none⟩])
 (.Bf [5] [⟨0,⟨(some 21),.mv (.t 0),none⟩,[],[]⟩,
  ⟨1,⟨(some 22),.FK (.t 21),none⟩,[],[]⟩,
  ⟨2,⟨(some 23),.JI 1 (.t 22),none⟩,[],[]⟩,
  ⟨3,⟨(some 24),.load none (.t 23),none⟩,[],[]⟩,
  ⟨4,⟨(some 25),.load (some 4) (.t 3),none⟩,[],[]⟩,
  ⟨5,⟨(some 26),.mv (.t 5),none⟩,[],[]⟩,
  ⟨6,⟨none,.D6 (.a [.i64,.i64,.i64,.i64]) (.t 24) (.t 25) (.t 26),none⟩,[],[]⟩]))
 .skip))
 (.seq [4] (.A3 [⟨(some 27),.mv (.t 5),none⟩,
  ⟨(some 4),.mv (.t 27),none⟩])
 .ret))))
def dV:Tryz.f275.body.bind (res Tryz.prog Tryz.f275.ntmps [] [3])=some (erase aI):=by kernel_rfl
def ew {args:List V} (hn:args.length≤28) {σ:AH} {Q:R→AH→Prop} (h:W Tryz.prog aI (dA [4] Q) (Cz 0 args) σ):BD Tryz.prog 275 args σ Q:=
 Of Tryz.func275 (by kernel_rfl) dV rfl hn (gg h)
end Go.Gl
namespace Go.Gl
open Go.Proofs
attribute [local irreducible] BD Aw Ai AU AO Ah AV AW AN Ag AS AT Ay A9 Sat Ab A4 Aj W
abbrev Rv (w:AK) (us:List Nat) (L:Nat):V:= .rp [.rp (wC w us),.m L]
def O5 (es es':List C2):Prop:= ∃new:List C2,es'=es++new∧ ∀x∈new,x.k=k0
def O5.refl (es:List C2):O5 es es:=⟨[],by simp,by simp⟩
def O5.trans {a b c:List C2} (h1:O5 a b) (h2:O5 b c):O5 a c:=by
 obtain⟨x,rfl,hx⟩:=h1;obtain⟨y,rfl,hy⟩:=h2;refine⟨x++y,by simp,fun z hz=>?_⟩;rcases FX.1 hz with h|h
 ·exact hx z h
 ·exact hy z h
def O5.mem {a b:List C2} (h:O5 a b) {e:C2} (he:e∈a):e∈b:=by
 obtain⟨x,rfl,_⟩:=h;exact Mt _ he
structure iE (kf:Int→List Int→Kn) (es es':List C2) (a:Int) (p:List Int) (e:C2):Prop where
 inv:Dw kf es'
 ext:O5 es es'
 mem:e∈es'
 is:e.is a p=true
def iE.k {kf:Int→List Int→Kn} {es es':List C2} {a:Int} {p:List Int} {e:C2} (h:iE kf es es' a p e):e.k=kf a p:=by
 have:=h.inv.val e h.mem;obtain⟨h1,h2⟩:=Ja.1 h.is;rw[this,h1,h2]
def LO {σ:AH} {l:List At} (h:Sat σ l) (i:Nat) {n:Nat} {kvs:List (V×V)} {ks:KS} {z vk:V} {ok:Bool} {o:Option V} (hi:l[i]? =some (.map n kvs)) (hk:Bo ks vk=true) (hks: ∀kv∈kvs,Bo ks kv.1=true) (hf:C9 vk kvs=o) {K:V→Prop} (h':K (found z ok o)) :
    AS σ ks z ok (.m n) vk K:=Io h i hi hk hks (hf ▸ h')
def KF (w:AK) (us:List Nat) {kf:Int→List Int→Kn} {L:Nat} {es:List C2} (h:Dw kf es) {a:Int} {p:List Int} (hp:p.length≤2) :
    Bc Tryz.prog 275 [Rv w us L,EW a p] (B5 L es) fun r post=> ∃es' e,iE kf es es' a p e∧r= .ret (.p e.b 0)∧post=B5 L es':=by
 intro σ hs;refine ew kZ ?_;unfold B5 at hs;rcases fk a p es with hn|⟨pre,e,post,rfl,he,hpre⟩
 ·have hf:=S1 hp h.len hn
  conv=>whnf
  repeat'((first|apply st|(apply sq;intro K U)|(apply si;intro A B Y Z)|(apply Y;clear Z B Y A)|(apply U;clear U K)|apply dr|refine⟨kZ,?_⟩|refine FI ?_|refine LO hs 0 rfl rfl (Nl _) hf ?_|refine Ha hs 1 rfl rfl (Nl _) fun σ hs=>?_|(intro nn hnn;generalize hg:A7 _ nn _=σ;refine CY hg fun hs=>?_;clear hg)|fail)<;>conv=>whnf)
  simp only[List.set_cons_succ,List.set_cons_zero]at hs;change Sat σ (_:: .map L (ED (EW a p) (.p nn 0) (Tw es))::_)at hs;rw[Ze hp nn (.l [] true) (.l [] true) k0 h.len hn]at hs;have hs2:=DN (DN hs 1) 1;refine AQ ⟨_,⟨es++[⟨a,p,nn,.l [] true,.l [] true,k0⟩],⟨a,p,nn,.l [] true,.l [] true,k0⟩,⟨h.add hp hn _ _ _,⟨_,rfl,by simp⟩,by simp,by simp[C2.is]⟩,rfl,rfl⟩,?_⟩;unfold B5;rw[List.flatMap_append,List.flatMap_cons,List.flatMap_nil,H3];refine hs2.perm ((List.perm_middle (l₁:=[_,_,_])).trans (.cons _ (Rt.trans (List.Perm.append_left _ (List.reverse_perm _).symm))))
 ·have hf:=S0 hp he h.len hpre
  conv=>whnf
  repeat'((first|apply st|(apply sq;intro K U)|(apply si;intro A B Y Z)|(apply Y;clear Z B Y A)|(apply U;clear U K)|apply dr|refine⟨kZ,?_⟩|refine EM ?_|refine LO hs 0 rfl rfl (Nl _) hf ?_|fail)<;>conv=>whnf)
  exact AQ ⟨_,⟨_,e,⟨h,.refl _,by simp,he⟩,rfl,rfl⟩,hs⟩
def Ml (a:Int) (p:List Int) (s:Int) (hp:p.length<2):Pure Tryz.prog 276 [EW a p,eI s] (EW a (p++[s])):=by
 refine jv kZ ?_;have hs:=Sn
 match p,hp with
 | [],_=>
   conv=>whnf
   repeat'((first|apply st|(apply sq;intro K U)|(apply si;intro A B Y Z)|(apply Y;clear Z B Y A)|(apply U;clear U K)|refine⟨rfl,?_⟩|refine⟨kZ,?_⟩|refine Tx ?_|refine ld ?_|refine EV fun σ hs=>?_|refine DT fun σ hs=>?_|(intro nn hnn;generalize hg:A7 _ nn _=σ;refine CY hg fun hs=>?_;clear hg)|fail)<;>conv=>whnf)
   all_goals exact AI rfl
 | [x],_=>
   conv=>whnf
   repeat'((first|apply st|(apply sq;intro K U)|(apply si;intro A B Y Z)|(apply Y;clear Z B Y A)|(apply U;clear U K)|refine⟨rfl,?_⟩|refine⟨kZ,?_⟩|refine Tx ?_|refine ld ?_|refine EV fun σ hs=>?_|refine DT fun σ hs=>?_|(intro nn hnn;generalize hg:A7 _ nn _=σ;refine CY hg fun hs=>?_;clear hg)|fail)<;>conv=>whnf)
   all_goals exact AI rfl
set_option maxHeartbeats 1000000 in
def ml {b:Nat} {vn vs:V} {k:Kn} (f:Fact) (c:Bool) (hl:f.op=2∨f.op=3∨f.op=4) (hc:f.op=2→0≤f.cls∧f.cls<64) (hm:k.CV<18446744073709551616) (hn:k.GK<18446744073709551616) (hno:k.no.length<1000000) (hN: -1000000000≤f.n∧f.n≤1000000000) :
    Bc Tryz.prog 277 [.p b 0,.a (xF f++[.b c])] (iA b vn vs k) fun r post=>r= .ret (.t [])∧ ∃vn',post=iA b vn' vs (Co k f c):=by
 intro σ hs;have hM:=Mx;refine ju kZ ?_;rw[show xF f++[V.b c]= [eI f.op,eI f.arg,.l (iL f.path) false,eI f.cls,eI f.n,.l (f.kids.map F4) false,.b c] from rfl];have hw:IntKind.i64.wrap (f.n - 1)=f.n - 1:=wrap64 (by omega) (by omega);cases c<;>rcases hl with h2|h3|h4
 ·have hE:Co k f false= {k with CV:=k.CV|||2 ^ f.cls.toNat}:=by rw[Co,if_pos h2,if_neg Bool.false_ne_true]
  rw[hE]
  conv=>whnf
  repeat'((first|apply st|(apply sq;intro K U)|(apply si;intro A B Y Z)|(apply Y;clear Z B Y A)|(apply U;clear U K)|apply dr|refine⟨rfl,?_⟩|refine ld ?_|refine EV fun σ hs=>?_|refine EM ?_|refine Pure.use (G4 _ _ hm (by omega) (by omega)) ?_|(constructor<;>intro hc<;>(try rw[hc])<;>(replace hc:=bp hc)<;>try(exfalso;omega))|fail)<;>conv=>whnf)
  exact AQ ⟨_,⟨rfl,vn,rfl⟩,hs⟩
 ·have hE:Co k f false= {k with high:=if f.n - 1<k.high then f.n - 1 else k.high,whole:=true}:=by rw[Co,if_neg (by omega),if_pos h3,if_neg Bool.false_ne_true]
  rw[hE]
  conv=>whnf
  repeat'((first|apply st|(apply sq;intro K U)|(apply si;intro A B Y Z)|(apply Y;clear Z B Y A)|(apply U;clear U K)|apply dr|refine⟨rfl,?_⟩|refine ld ?_|refine EV fun σ hs=>?_|refine EM ?_|(constructor<;>intro hc<;>(try rw[hc])<;>(replace hc:=bp hc)<;>try(exfalso;omega))|fail)<;>conv=>whnf)
  rw[hw]at hs;exact AQ ⟨_,⟨rfl,vn,rfl⟩,hs⟩
 ·have hE:Co k f false= {k with low:=if f.n > k.low then f.n else k.low,high:=if f.n<k.high then f.n else k.high,whole:=true}:=by rw[Co,if_neg (by omega),if_neg (by omega),if_neg Bool.false_ne_true]
  rw[hE]
  conv=>whnf
  repeat'((first|apply st|(apply sq;intro K U)|(apply si;intro A B Y Z)|(apply Y;clear Z B Y A)|(apply U;clear U K)|apply dr|refine rk ?_ ?_|exact fun s e=>by cases e;rfl|refine⟨rfl,?_⟩|refine ld ?_|refine EV fun σ hs=>?_|(constructor<;>intro hc<;>(try rw[hc])<;>(replace hc:=bp hc)<;>try(exfalso;omega))|fail)<;>conv=>whnf)
  exact AQ ⟨_,⟨rfl,vn,rfl⟩,hs⟩
 ·have hE:Co k f true= {k with GK:=k.GK|||2 ^ f.cls.toNat}:=by rw[Co,if_pos h2,if_pos rfl]
  rw[hE]
  conv=>whnf
  repeat'((first|apply st|(apply sq;intro K U)|(apply si;intro A B Y Z)|(apply Y;clear Z B Y A)|(apply U;clear U K)|apply dr|refine⟨rfl,?_⟩|refine ld ?_|refine EV fun σ hs=>?_|refine FI ?_|refine Pure.use (G4 _ _ hn (by omega) (by omega)) ?_|(constructor<;>intro hc<;>(try rw[hc])<;>(replace hc:=bp hc)<;>try(exfalso;omega))|fail)<;>conv=>whnf)
  exact AQ ⟨_,⟨rfl,vn,rfl⟩,hs⟩
 ·have hE:Co k f true= {k with low:=if f.n > k.low then f.n else k.low}:=by rw[Co,if_neg (by omega),if_pos h3,if_pos rfl]
  rw[hE]
  conv=>whnf
  repeat'((first|apply st|(apply sq;intro K U)|(apply si;intro A B Y Z)|(apply Y;clear Z B Y A)|(apply U;clear U K)|apply dr|refine⟨rfl,?_⟩|refine ld ?_|refine EV fun σ hs=>?_|refine FI ?_|(constructor<;>intro hc<;>(try rw[hc])<;>(replace hc:=bp hc)<;>try(exfalso;omega))|fail)<;>conv=>whnf)
  exact AQ ⟨_,⟨rfl,vn,rfl⟩,hs⟩
 ·have hE:Co k f true= {k with no:=k.no++[f.n]}:=by rw[Co,if_neg (by omega),if_neg (by omega),if_pos rfl]
  rw[hE]
  conv=>whnf
  repeat'((first|apply st|(apply sq;intro K U)|(apply si;intro A B Y Z)|(apply Y;clear Z B Y A)|(apply U;clear U K)|apply dr|refine⟨rfl,?_⟩|refine ld ?_|refine EV fun σ hs=>?_|refine aq fun v σ hs hsl=>?_|(constructor<;>intro hc<;>(try rw[hc])<;>(replace hc:=bp hc)<;>try(exfalso;omega))|fail)<;>conv=>whnf)
  exact AQ ⟨_,⟨rfl,_,rfl⟩,hs⟩
def G0 {σ:AH} {X:List At} {L:Nat} {pre post:List C2} {e:C2} (h:Sat σ (X++B5 L (pre++e::post))):Sat σ (.box e.b [eI e.k.low,eI e.k.high,e.vn,eU e.k.CV,eU e.k.GK,.b e.k.whole,.b e.k.A0,e.vs]:: .own e.vn 1 (iL e.k.no):: .own e.vs 1 (iL e.k.AP)::(X++Gz L (pre++e::post) pre post)):=by
 have h2:Sat σ (SP e++(X++Gz L (pre++e::post) pre post)):=h.perm ((List.Perm.append_left X (S5 L pre post e)).trans (by rw[←T0,←T0];exact Rt.append_right _));exact h2
def EO {σ:AH} {X:List At} {L:Nat} {pre post:List C2} {e e':C2} (h1:e'.a=e.a) (h2:e'.p=e.p) (h3:e'.b=e.b) (h:Sat σ (SP e'++(X++Gz L (pre++e::post) pre post))):Sat σ (X++B5 L (pre++e'::post)):=by
 rw[←RQ h1 h2 h3]at h;exact h.perm ((List.Perm.append_left X (S5 L pre post e')).trans (by rw[←T0,←T0];exact Rt.append_right _)).symm
def Hs {α:Type} (a b c:α) (l:List α):(a::b::c::l).Perm (b::c::a::l):=(List.Perm.swap _ _ _).trans (.cons _ (.swap _ _ _))
def Li {α:Type} (a:α) (l:List α):(a::l).Perm (l++[a]):=(List.perm_append_singleton a l).symm
def fX (m:Nat) (k:Kn):Prop:=k.CV<18446744073709551616∧k.GK<18446744073709551616∧k.no.length≤m∧k.AP.length≤m
def dz (f:Fact) (c:Bool) (j:Nat) (a:Int) (p:List Int) (k:Kn):(De f c j a p k).CV=k.CV:=by unfold De;(repeat' split)<;>rfl
def jQ (f:Fact) (c:Bool) (j:Nat) (a:Int) (p:List Int) (k:Kn):(De f c j a p k).GK=k.GK:=by unfold De;(repeat' split)<;>rfl
def oO (f:Fact) (c:Bool) (j:Nat) (a:Int) (p:List Int) (k:Kn):(De f c j a p k).no=k.no:=by unfold De;(repeat' split)<;>rfl
def bO (f:Fact) (c:Bool) (j:Nat) (a:Int) (p:List Int) (k:Kn):(De f c j a p k).AP.length≤k.AP.length+1:=by
 unfold De
 repeat' split
 ·exact QJ _ _
 all_goals simp[Dj]
def oJ {m:Nat} {k:Kn} (h:fX m k) (f:Fact) (c:Bool) (j:Nat) (a:Int) (p:List Int):fX (m+1) (De f c j a p k):=by
 obtain⟨h1,h2,h3,h4⟩:=h;refine⟨by rw[dz];exact h1,by rw[jQ];exact h2,by rw[oO];omega,?_⟩;have:=bO f c j a p k;omega
def Pm {k:Kn} (c:Bool) (h:k.A0=true):Dj k c= {k with A0:=true}:=by simp[Dj,h]
def OO {k:Kn} (c:Bool) (h:k.A0=false):Dj k c= {k with A0:= !c}:=by simp[Dj,h]
abbrev J0 (a:Int) (p:List Int):List V:=[eI a,eI (p.length:Int),eI (p.getD 0 0),eI (p.getD 1 0)]
structure ZL (f:Fact):Prop where
 op:f.op=2∨f.op=3∨f.op=4
 path:f.path.length≤2
 cls:f.op=2→0≤f.cls∧f.cls<64
 n: -1000000000≤f.n∧f.n≤1000000000
set_option maxHeartbeats 2000000 in
def fP (w : AK) (us:List Nat) {kf:Int→List Int→Kn} {L:Nat} {es:List C2} (h:Dw kf es) (f:Fact) (c:Bool) (hl:ZL f) {m:Nat} (hm:m<1000) (hb: ∀a p,fX m (kf a p)) :
    Bc Tryz.prog 259 [Rv w us L,.a (xF f++[.b c])] (B5 L es) fun r post=>r= .ret (.t [])∧ ∃es',Dw (fun a p=>if a=f.arg∧p=f.path then Co (De f c f.path.length a p (kf a p)) f c else De f c f.path.length a p (kf a p)) es'∧post=B5 L es':=by
 intro σ hs;have hM:=Mx;obtain⟨l1,l2,l3,l4⟩:=hl;refine j5 kZ ?_;rw[show xF f++[V.b c]= [eI f.op,eI f.arg,.l (iL f.path) false,eI f.cls,eI f.n,.l (f.kids.map F4) false,.b c] from rfl]
 conv=>whnf
 repeat'((first|apply st|(apply sq;intro K U)|(apply si;intro A B Y Z)|(apply Y;clear Z B Y A)|(apply U;clear U K)|refine⟨kZ,?_⟩|refine ld ?_|refine DT fun σ hs=>?_|(intro nn hnn;generalize hg:A7 _ nn _=σ;refine CY hg fun hs=>?_;clear hg)|fail)<;>conv=>whnf)
 generalize nn=nx at *;refine(KF w us h (a:=f.arg) (p:=[]) (by simp)).use (rest:=[.box nx (J0 f.arg [])]) (hs.perm (Li _ _)) ?_;clear hs hnn;rintro r post σ ⟨es1,e1,got,rfl,rfl⟩ hs;have hek:=got.k;obtain⟨hea,hep⟩:=Ja.1 got.is;obtain⟨pre,post,rfl⟩:=List.append_of_mem got.mem;replace hs:=G0 (X:=[.box nx (J0 f.arg [])]) (hs.perm Rt);cases hnd:e1.k.A0<;>rw[hnd]at hs
 all_goals
  conv=>whnf
  repeat'((first|apply st|(apply sq;intro K U)|(apply si;intro A B Y Z)|(apply Y;clear Z B Y A)|(apply U;clear U K)|refine ld ?_|refine EV fun σ hs=>?_|fail)<;>conv=>whnf)
  obtain⟨e2,es2,Y,Z,hC⟩: ∃(e2:C2) (es2:List C2),(Dw (fun a p=>De f c 0 a p (kf a p)) es2∧e2∈es2∧e2.is f.arg (f.path.take 0)=true)∧e2.b=e1.b∧Sat σ (.box nx (J0 f.arg (f.path.take 0))::B5 L es2):=by
   refine⟨⟨e1.a,e1.p,e1.b,e1.vn,e1.vs,Dj e1.k c⟩,_,⟨(got.inv.change e1.b e1.vn e1.vs (Dj e1.k c)).congr fun a p=>?_,LA _ (.head _),got.is⟩,rfl,?_⟩
   ·rw[dx,Ry,hea,hep,hek]
    by_cases ha:a=f.arg∧p= []
    ·rw[if_pos ha,if_pos ha,ha.1,ha.2]
    ·rw[if_neg ha,if_neg ha]
   ·refine EO (X:=[.box nx (J0 f.arg [])]) (e:=e1) rfl rfl rfl ?_
    first
     | (rw[Pm c hnd];exact hs)
     | (rw[OO c hnd];exact hs)
  rw[←Z];clear hs hnd got hek hea hep;refine CZ f.path.length (fun j (x:List C2×C2)=>[(31,eI (BH j)),(5,.p x.2.b 0)]) (fun j x=> .box nx (J0 f.arg (f.path.take j))::B5 L x.1) (fun j x=>Dw (fun a p=>De f c j a p (kf a p)) x.1∧x.2∈x.1∧x.2.is f.arg (f.path.take j)=true) (es2,e2) rfl Y hC ?_;clear Y hC;generalize e2.b=b0 at *;clear Z e2 es2;rintro j ⟨es2,e2⟩ σ hj ⟨hinv,hmem,his⟩ hs;simp only at hinv hmem his hs
  have hek:e2.k=De f c j f.arg (f.path.take j) (kf f.arg (f.path.take j)):=by
   have:=hinv.val e2 hmem;obtain⟨h1,h2⟩:=Ja.1 his;rw[this,h1,h2]
  have hok:fX (m+1) e2.k:=by rw[hek];exact oJ (hb _ _) f c j _ _
  obtain⟨hea,hep⟩:=Ja.1 his;obtain⟨pre2,post2,rfl⟩:=List.append_of_mem hmem;replace hs:=G0 (X:=[.box nx (J0 f.arg (f.path.take j))]) hs;have hck:BH j=j:=AM (by omega);rcases BM f.path hj with⟨s,hsj,hjlt⟩|hje
  ·have hct:=fun b=>Ds e2.k.AP b s
   have hk4:=hok.2.2.2;have hsl0:cS e2.k s= {e2.k with AP:=IS e2.k.AP s}:=rfl
   have hne:f.path.take j++[s]≠f.path.take j:=by
    intro e;have:=congrArg List.length e;simp at this
   have hgd:f.path.getD j 0=s:=by rw[DS,hsj];rfl
   have htk:f.path.take (j+1)=f.path.take j++[s]:=AX hsj;cases hcB:e2.k.AP.contains s
   all_goals
    rw[hcB]at hct
    conv=>whnf
    repeat'((first|apply st|(apply sq;intro K U)|(apply si;intro A B Y Z)|(apply Y;clear Z B Y A)|(apply U;clear U K)|refine⟨rfl,?_⟩|refine⟨kZ,?_⟩|refine ix ?_|refine ld ?_|refine EV fun σ hs=>?_|refine DT fun σ hs=>?_|refine aq fun v σ hs hsl=>?_|refine FI ?_|refine EM ?_|(refine Cv (fun hc=>?_)<;>(try rw[hc])<;>clear hc)|refine Pure.T9 (hct false) (.cons (hs.QU 2 rfl) (.cons (.refl _) .nil)) rfl ?_|refine Pure.use (Ml f.arg (f.path.take j) s (by rw[K6];omega)) ?_|fail)<;>conv=>whnf)
   refine(Y9 (.inl hsl)).use (rest:=_) (hs.front (j:=2) rfl) ?_;clear hs;rintro r post σ ⟨rfl,rfl⟩ hs;replace hs:Sat σ (.box e2.b [eI e2.k.low,eI e2.k.high,e2.vn,eU e2.k.CV,eU e2.k.GK,.b e2.k.whole,.b e2.k.A0,v]:: .own e2.vn 1 (iL e2.k.no):: .own v 1 (iL ((e2.k.AP++[s]).mergeSort Gq))::([.box nx (J0 f.arg (f.path.take j))]++Gz L (pre2++e2::post2) pre2 post2)):=hs.perm (Hs _ _ _ _)
   conv=>whnf
   repeat'((first|(apply sq;intro K U)|(apply si;intro A B Y Z)|(apply Y;clear Z B Y A)|(apply U;clear U K)|refine⟨kZ,?_⟩|refine ld ?_|refine DT fun σ hs=>?_|refine Pure.use (Ml f.arg (f.path.take j) s (by rw[K6];omega)) ?_|fail)<;>conv=>whnf)
   have hs3: ∃vs3,Sat σ (.box nx (J0 f.arg (f.path.take j++[s]))::B5 L (pre2++⟨e2.a,e2.p,e2.b,e2.vn,vs3,cS e2.k s⟩::post2)):=⟨v,EO (X:=[_]) (e:=e2) rfl rfl rfl (by rw[hsl0,IS,if_neg (by rw[hcB];decide)];exact hs)⟩
   rotate_left
   have hs3: ∃vs3,Sat σ (.box nx (J0 f.arg (f.path.take j++[s]))::B5 L (pre2++⟨e2.a,e2.p,e2.b,e2.vn,vs3,cS e2.k s⟩::post2)):=⟨e2.vs,EO (X:=[_]) (e:=e2) rfl rfl rfl (by rw[hsl0,IS,if_pos hcB];exact hs)⟩
   all_goals
    clear hs;obtain⟨vs3,hs⟩:=hs3;have hinv3:=hinv.change e2.b e2.vn vs3 (cS e2.k s);refine(KF w us hinv3 (a:=f.arg) (p:=f.path.take j++[s]) (by rw[QP,K6];simp;omega)).use (rest:=[.box nx (J0 f.arg (f.path.take j++[s]))]) (hs.perm (Li _ _)) ?_;clear hs;rintro r post σ ⟨es4,e4,got,rfl,rfl⟩ hs;have hek4:=got.k;obtain⟨hea4,hep4⟩:=Ja.1 got.is;obtain⟨pre4,post4,rfl⟩:=List.append_of_mem got.mem;replace hs:=G0 (X:=[.box nx (J0 f.arg (f.path.take j++[s]))]) (hs.perm Rt);cases hnd:e4.k.A0<;>rw[hnd]at hs
    all_goals
     conv=>whnf
     repeat'((first|apply st|(apply si;intro A B Y Z)|(apply Y;clear Z B Y A)|(apply U;clear U K)|refine⟨rfl,?_⟩|refine ld ?_|refine EV fun σ hs=>?_|clear U K)<;>conv=>whnf)
     refine⟨hjlt,(pre4++⟨e4.a,e4.p,e4.b,e4.vn,e4.vs,Dj e4.k c⟩::post4,⟨e4.a,e4.p,e4.b,e4.vn,e4.vs,Dj e4.k c⟩),rfl,⟨(got.inv.change e4.b e4.vn e4.vs (Dj e4.k c)).congr fun a p=>?_,LA _ (.head _),by rw[htk];exact got.is⟩,?_⟩
     ·rw[dy f c hjlt,Ry,hea4,hep4,htk,hgd]
      by_cases h1:a=f.arg∧p=f.path.take j++[s]
      ·rw[if_pos h1,if_pos h1,hek4,Ry,hea,hep,if_neg (fun h=>hne h.2),h1.1,h1.2]
      ·rw[if_neg h1,if_neg h1,Ry,hea,hep]
       by_cases h2:a=f.arg∧p=f.path.take j
       ·rw[if_pos h2,if_pos h2,hek,h2.1,h2.2]
       ·rw[if_neg h2,if_neg h2]
     ·rw[htk]
      refine EO (X:=[.box nx (J0 f.arg (f.path.take j++[s]))]) (e:=e4) rfl rfl rfl ?_
      first
       | (rw[Pm c hnd];exact hs)
       | (rw[OO c hnd];exact hs)
  ·have etk:f.path.take j=f.path:=BC hje
   rw[etk]at his hs hek hep
   conv=>whnf
   repeat'((first|apply st|(apply sq;intro K U)|(apply si;intro A B Y Z)|(apply Y;clear Z B Y A)|(apply U;clear U K)|refine⟨rfl,?_⟩|refine⟨kZ,?_⟩|(refine EI (fun hc=>?_)<;>(try rw[hc])<;>clear hc)|clear U K)<;>conv=>whnf)
   refine(ml f c l1 l3 hok.1 hok.2.1 (by have:=hok.2.2.1;omega) l4).use (rest:=[.box nx (J0 f.arg f.path)]++Gz L (pre2++e2::post2) pre2 post2) hs ?_;rintro r post σ ⟨rfl,vn',rfl⟩ hs
   conv=>whnf
   repeat'((first|(apply Y;clear Z B Y A)|fail)<;>conv=>whnf)
   refine AQ ⟨_,⟨rfl,_,(hinv.change e2.b vn' e2.vs (Co e2.k f c)).congr fun a p=>?_,rfl⟩,(EO (X:=[.box nx (J0 f.arg f.path)]) (e:=e2) (e':=⟨e2.a,e2.p,e2.b,vn',e2.vs,Co e2.k f c⟩) rfl rfl rfl hs).less (JR _ _)⟩;rw[Ry,hea,hep,hek,←hje];by_cases h1:a=f.arg∧p=f.path
   ·rw[if_pos h1,if_pos h1,h1.1,h1.2]
   ·rw[if_neg h1,if_neg h1]
def mu (w:AK) (us:List Nat) {kf:Int→List Int→Kn} {L:Nat} {es:List C2} (h:Dw kf es) (l:Fact) (hl:ZL (A8 l).1) {m:Nat} (hm:m<1000) (hb: ∀a p,fX m (kf a p)) :
    Bc Tryz.prog 259 [Rv w us L,.a (JT l)] (B5 L es) fun r post=>r= .ret (.t [])∧ ∃es',Dw (fun a p=>DC a p (kf a p) l) es'∧post=B5 L es':=fun σ hs=>
 BD.mono (fP w us h (A8 l).1 (A8 l).2 hl hm hb σ hs) fun r σ' ⟨post,⟨h1,es',h2,h3⟩,h4⟩=>⟨post,⟨h1,es',h2.congr fun a p=>(jR a p (kf a p) l).symm,h3⟩,h4⟩
def Ub (ls:List Fact):Prop:= ∀l∈ls,ZL (A8 l).1
def Zf {ls:List Fact} (h:Ub ls) (a:Int) (p:List Int):fX ls.length (kn ls a p):=by
 have hc:II 64 ls:=fun l hl ho=>(h l hl).cls ho
 obtain⟨h1,h2⟩:=eE hc a p;obtain⟨h3,h4⟩:=Zg a p ls k0;exact⟨by simpa using h1,by simpa using h2,by simpa[kn,k0]using h3,by simpa[kn,k0]using h4⟩
def th:Dw (kn []) []:=⟨fun x hx=>(by cases hx),fun a p _=>rfl,.nil,fun x hx=>(by cases hx)⟩
set_option maxHeartbeats 1000000 in
def aW (w:AK) (us:List Nat) (ls:List Fact) (b:Bool) (h:Ub ls) (hlen:ls.length<900) :
    Bc Tryz.prog 230 [.rp (wC w us),.l (Ex ls) b] [] fun r post=> ∃L es,r= .ret (Rv w us L)∧Dw (kn ls) es∧post=B5 L es:=by
 intro σ hs;have hM:=Mx;refine kN kZ ?_
 conv=>whnf
 repeat'((first|apply st|(apply sq;intro K U)|(apply si;intro A B Y Z)|(apply Y;clear Z B Y A)|(apply U;clear U K)|(intro nn hnn;generalize hg:A7 _ nn _=σ;refine CY hg fun hs=>?_;clear hg)|fail)<;>conv=>whnf)
 generalize nn=L at *;refine CZ ls.length (fun k (x:List C2)=>[(14,eI (BH k))]) (fun k x=>B5 L x) (fun k x=>Dw (kn (ls.take k)) x) [] rfl th hs ?_;clear hs hnn;rintro k es σ hk hinv hs;rcases BM ls hk with⟨l,hlk,hlt⟩|hke
 ·have hlm:l∈ls:=Cg hlk
  have htk:ls.take (k+1)=ls.take k++[l]:=AX hlk;have hbk: ∀a p,fX (ls.take k).length (kn (ls.take k) a p):=Zf fun x hx=>h x (List.mem_of_mem_take hx)
  conv=>whnf
  repeat'((first|apply st|(apply sq;intro K U)|(apply si;intro A B Y Z)|(apply Y;clear Z B Y A)|(apply U;clear U K)|refine⟨rfl,?_⟩|refine⟨kZ,?_⟩|refine ix ?_|refine ld ?_|refine DT fun σ hs=>?_|(refine Cv (fun hc=>?_)<;>(try rw[hc])<;>clear hc)|(intro nn hnn;generalize hg:A7 _ nn _=σ;refine CY hg fun hs=>?_;clear hg)|fail)<;>conv=>whnf)
  rename_i nb hnb _ hs;generalize nn=n7 at *;refine(mu w us hinv l (h l hlm) (m:=(ls.take k).length) (by rw[K6];omega) hbk).use (rest:=[.box n7 (JT l)]) (hs.perm (Li _ _)) ?_;clear hs;rintro r post σ ⟨rfl,es',hinv',rfl⟩ hs
  conv=>whnf
  repeat'((first|(apply si;intro A B Y Z)|(apply Y;clear Z B Y A)|(apply U;clear U K)|refine⟨rfl,?_⟩|clear U K)<;>conv=>whnf)
  refine⟨hlt,es',rfl,?_,hs.less (List.sublist_append_left _ _)⟩;rw[htk];exact hinv'.congr fun a p=>(eC _ _ _ _).symm
 ·have etk:ls.take k=ls:=BC hke
  rw[etk]at hinv
  conv=>whnf
  repeat'((first|apply st|(apply sq;intro K U)|(apply si;intro A B Y Z)|(apply Y;clear Z B Y A)|(apply U;clear U K)|refine⟨rfl,?_⟩|(refine EI (fun hc=>?_)<;>(try rw[hc])<;>clear hc)|clear U K)<;>conv=>whnf)
  exact AQ ⟨_,⟨L,es,rfl,hinv,rfl⟩,hs⟩
end Go.Gl
