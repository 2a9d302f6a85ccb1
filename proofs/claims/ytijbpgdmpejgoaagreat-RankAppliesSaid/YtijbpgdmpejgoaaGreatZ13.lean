import Derived.Test.YtijbpgdmpejgoaaGreatProg
import Derived.KernelRfl
import Derived.Test.YtijbpgdmpejgoaaGreatZ5
import Derived.Test.YtijbpgdmpejgoaaGreatZ12
set_option linter.all false
set_option linter.defProp false
noncomputable section
namespace Go.Gl
def Rx (g:List (List Int)) (k:Nat): ∀(m d:Nat),d<3+k→(CV g (k+m)).getD d 0=(CV g k).getD d 0
 | 0,d,_=>rfl
 | m+1,d,h=>by
   rw[show k+(m+1)=k+m+1 from rfl,CV,←Rx g k m d h];rw[Dc,ei (by rw[EN];omega),←Dc]
def Ry (us:List Nat) (b:Nat): ∀(l:List Int) (s:Nat),(TY us l s).testBit b=(s.testBit b||l.any fun c=>(us.getD c.toNat 0).testBit b)
 | [],s=>by simp[TY]
 | c::r,s=>by
   have:=Ry us b r (s|||us.getD c.toNat 0);rw[Q7,←Bool.or_assoc,←Nat.testBit_or,←this];rfl
def Y8 {α:Type} (f:α→Bool) (b:Bool): ∀(l:List α),(b||l.any fun x=>b||f x)=(b||l.any f)
 | []=>rfl
 | x::r=>by
   have:=Y8 f b r;simp only[Q7];cases b
   ·simpa using this
   ·rfl
def any_congr {α:Type} {f g:α→Bool}: ∀ {l:List α},(∀x∈l,f x=g x)→l.any f=l.any g
 | [],_=>rfl
 | x::r,h=>by
   rw[Q7,Q7,h x (.head _),any_congr fun y hy=>h y (.tail _ hy)]
def QN {g:List (List Int)} (ho:ordered g): ∀(k d b:Nat),k≤g.length→d<3+k→((CV g k).getD d 0).testBit b=(b==0||Ik g d b)
 | 0,d,b,_,hd=>by
   have e:(CV g 0).getD d 0=1|||2 ^ d:=by
    rcases d with _|_|_|d
    ·rfl
    ·rfl
    ·rfl
    ·omega
   rw[e,QH,Eb ho,par,if_pos (by omega),List.any_nil,Bool.or_false];rw[Kk];simp only[FU,Dn];omega
 | k + 1,d,b,hk,hd=>by
   by_cases hlt:d<3+k
   ·rw[Rx g k 1 d hlt]
    exact QN ho k d b (by omega) hlt
   ·obtain rfl:d=3+k:=by omega
    have e:(CV g (k+1)).getD (3+k) 0=TY (CV g k) (g.getD k []) (1|||2 ^ (3+k)):=by
     rw[CV,Dc,List.getElem?_append_right (by rw[EN];omega),EN,Nat.sub_self];rfl
    have hpar:par g (3+k)=g.getD k []:=by rw[par,if_neg (by omega),show 3+k - 3=k by omega]
    rw[e,Ry,QH,Eb ho,hpar]
    have hc:((g.getD k []).any fun c=>((CV g k).getD c.toNat 0).testBit b)=(g.getD k []).any fun p=>(b==0)||Ik g p.toNat b:=any_congr fun p hp=>by
     have:=ho (3+k) p (by rw[hpar];exact hp);exact QN ho k p.toNat b (by omega) (by omega)
    rw[hc];have e2:(b==3+k)=(3+k==b):=by rw[Kk];simp only[Dn];omega
    rw[e2,Bool.or_assoc,Bool.or_left_comm,Y8,Bool.or_left_comm]
def M6 {g:List (List Int)} (ho:ordered g) {d b:Nat} (hd:d<3+g.length):((B0 g).getD d 0).testBit b=(b==0||Ik g d b):=QN ho g.length d b (Ja _) hd
def Tj {g:List (List Int)} (ho:ordered g): ∀(d b:Nat),3≤d→Ik g d b=true→3≤b:=by
 intro d
 induction d using Nat.strongRecOn with
 | _ d ih=>
   intro b h3 h;rw[Eb ho]at h;simp only[FU,Dn,Ip]at h;rcases h with rfl|⟨p,hp,h⟩
   ·exact h3
   ·have:=ho d p hp
    exact ih p.toNat (by omega) b (by omega) h
def DV (us:List Nat):Nat→Nat→Nat
 | 0,m=>m
 | k+1,m=>if(DV us k m).testBit (3+k)then DV us k m|||us.getD (3+k) 0 else DV us k m
def OC {g : List (List Int)} (ho:ordered g) (m:Nat): ∀(k b:Nat),k≤g.length→((DV (B0 g) k m).testBit b=true↔m.testBit b=true∨ ∃d,3≤d∧d<3+k∧m.testBit d=true∧(b=0∨Ik g d b=true))
 | 0,b,_=>by
   rw[DV];exact⟨.inl,fun h=>h.elim id fun⟨d,h1,h2,_⟩=>by omega⟩
 | k + 1, b, hk=>by
   have ih:=OC ho m k;rw[DV];split
   ·rename_i hc
    rw[Nat.testBit_or,FU,ih b (by omega),M6 ho (by omega),FU,Dn];rw[ih _ (by omega)]at hc;constructor
    ·rintro((h|⟨d,h1,h2,h3,h4⟩)|h)
     ·exact .inl h
     ·exact .inr ⟨d,h1,by omega,h3,h4⟩
     ·rcases hc with hc|⟨d,h1,h2,h3,h4⟩
      ·exact .inr ⟨3+k,by omega,by omega,hc,h⟩
      ·refine .inr ⟨d,h1,by omega,h3,?_⟩
       rcases h with h|h
       ·exact .inl h
       ·rcases h4 with h4|h4
        ·omega
        ·exact .inr (K9 ho _ _ _ h4 h)
    ·rintro(h|⟨d,h1,h2,h3,h4⟩)
     ·exact .inl (.inl h)
     ·by_cases e:d=3+k
      ·subst e;exact .inr h4
      ·exact .inl (.inr ⟨d,h1,by omega,h3,h4⟩)
   ·rename_i hc
    rw[ih b (by omega)];constructor
    ·rintro(h|⟨d,h1,h2,h3,h4⟩)
     ·exact .inl h
     ·exact .inr ⟨d,h1,by omega,h3,h4⟩
    ·rintro(h|⟨d,h1,h2,h3,h4⟩)
     ·exact .inl h
     ·by_cases e:d=3+k
      ·subst e;exact absurd ((ih _ (by omega)).2 (.inl h3)) hc
      ·exact .inr ⟨d,h1,by omega,h3,h4⟩
def I4: ∀(l:List Int) (bs:List Bool),(∀q∈l,0≤q∧q.toNat<bs.length)→ ∀b:Nat,(l.foldl (fun b q=>b.set q.toNat true) bs).getD b false=(bs.getD b false||l.contains (b:Int))
 | [],bs,_,b=>by simp
 | q ::r,bs,h,b=>by
   have hq:=h q (.head _);rw[List.foldl_cons,I4 r _ (fun x hx=>by rw[List.length_set];exact h x (.tail _ hx)),Eg hq.2,List.contains_cons];split
   ·rename_i e
    subst e;have:((q.toNat:Int)==q)=true:=by rw[Dn];omega
    rw[this];simp
   ·rename_i e
    have:((b:Int)==q)=false:=by rw[beq_eq_false_iff_ne];omega
    rw[this,Bool.false_or]
def GY {g:List (List Int)} (ho:ordered g) {c:Nat} {bs:List Bool} (hc:c≤bs.length) (b:Nat):(Ie g c bs).getD b false=(bs.getD b false||(bs.getD c false&&(par g c).contains (b:Int))):=by
 rw[Ie];split
 ·rename_i h
  rw[I4 _ _ (fun q hq=>by have:=ho c q hq;omega),h,EW]
 ·rename_i h
  have:bs.getD c false=false:=by simpa using h
  rw[this,Bool.false_and,Bool.or_false]
def Fc {g:List (List Int)} (ho:ordered g) {n:Nat} {S:List Bool} (hl:S.length=n): ∀(k b:Nat),(Ck g n k S).getD b false=true→ ∃d,S.getD d false=true∧Ik g d b=true
 | 0,b,h=>⟨b,h,FI ho b⟩
 | k + 1,b,h=>by
   rw[Ck,GY ho (by rw[E5];omega),FU,BY]at h;rcases h with h|⟨h1,h2⟩
   ·exact Fc ho hl k b h
   ·obtain⟨d,h3,h4⟩:=Fc ho hl k _ h1
    refine⟨d,h3,K9 ho _ _ _ h4 ?_⟩;rw[Eb ho,FU,Ip];rw[List.contains_iff_mem]at h2;exact .inr ⟨_,h2,by rw[Jb];exact FI ho b⟩
def TI {g:List (List Int)} (ho:ordered g) {n:Nat} {S:List Bool} (hl:S.length=n) (k b:Nat) (h:(Ck g n k S).getD b false=true):(Ck g n (k+1) S).getD b false=true:=by
 rw[Ck,GY ho (by rw[E5];omega),h];rfl
def IJ {g:List (List Int)} (ho:ordered g) {n:Nat} {S:List Bool} (hl:S.length=n): ∀(k b:Nat),S.getD b false=true→(Ck g n k S).getD b false=true
 | 0,_,h=>h
 | k+1,b,h=>TI ho hl k b (IJ ho hl k b h)
def GZ {g:List (List Int)} (ho:ordered g) {n:Nat} {S:List Bool} (hl:S.length=n): ∀(k c:Nat),k≤n→n - k≤c→(Ck g n k S).getD c false=true→ ∀q∈par g c,(Ck g n k S).getD q.toNat false=true
 | 0,c,_,hc,h,q,hq=>by
   rw[Ck,Dc,List.getElem?_eq_none (by omega)]at h;cases h
 | k + 1,c,hk,hc,h,q,hq=>by
   rw[Ck,GY ho (by rw[E5];omega)]at h ⊢;have hoc:=ho c q hq;rw[FU,BY]at h
   have hbase:(Ck g n k S).getD c false=true:=by
    rcases h with h|⟨-,h2⟩
    ·exact h
    ·rw[List.contains_iff_mem]at h2
     have:=ho _ _ h2;omega
   by_cases e:c=n - 1 - k
   ·subst e
    rw[hbase,EW,FU,List.contains_iff_mem];exact .inr (by rw[show((q.toNat:Nat):Int)=q by omega];exact hq)
   ·rw[GZ ho hl k c (by omega) (by omega) hbase q hq];rfl
def Up {g:List (List Int)} (ho:ordered g) {S:List Bool} (hl:S.length=3+g.length) (b:Nat):(Ck g (3+g.length) g.length S).getD b false=true↔ ∃d,S.getD d false=true∧Ik g d b=true:=by
 refine⟨Fc ho hl _ b,?_⟩
 have key: ∀d,(Ck g (3+g.length) g.length S).getD d false=true→Ik g d b=true→(Ck g (3+g.length) g.length S).getD b false=true:=by
  intro d
  induction d using Nat.strongRecOn with
  | _ d ih=>
    intro h1 h2;rw[Eb ho,FU,Dn,Ip]at h2;rcases h2 with rfl|⟨p,hp,h2⟩
    ·exact h1
    ·have hop:=ho d p hp
     refine ih p.toNat (by omega) (GZ ho hl g.length d (by omega) ?_ h1 p hp) h2;omega
 rintro⟨d,h1,h2⟩;exact key d (IJ ho hl _ d h1) h2
def RB (n:Nat) (t:BB) (u:Nat×Nat):Prop:=
 t.1.length=n∧t.2.length=n∧(∀b,t.1.getD b false=u.1.testBit b)∧(∀b,b≠1→b≠2→t.2.getD b false=u.2.testBit b)∧u.1.testBit 1=false∧u.1.testBit 2=false
def Fv (m c b:Nat):(m|||2 ^ c).testBit b=(m.testBit b||b==c):=by
 rw[Nat.testBit_or,Nat.testBit_two_pow];congr 1;rw[Kk];simp only[CY,Dn];omega
def MF {l:List Bool} {m c:Nat} (hc:c<l.length) {b:Nat} (h:l.getD b false=m.testBit b):(l.set c true).getD b false=(m|||2 ^ c).testBit b:=by
 rw[Eg hc,Fv,←h];split
 ·rename_i e;subst e;simp
 ·rename_i e
  have:(b==c)=false:=by simpa using e
  rw[this,Bool.or_false]
def P7 (x:Fact×Bool):Bool:= !x.2&&(!(x.1.op==2)||x.1.cls==1||x.1.cls==2)
def Wc {n : Nat} {x:Fact×Bool} {t:BB} {k:Kn} (h:RB n t (k.CM,k.F7)) (hc:x.1.op=2→0≤x.1.cls∧x.1.cls<n) :
    (P7 x=true→LX x t=none)∧(P7 x=false→ ∃t',LX x t=some t'∧RB n t' ((Ci k x.1 x.2).CM,(Ci k x.1 x.2).F7)):=by
 obtain⟨f,c⟩:=x;simp only at hc;obtain⟨h1,h2,h3,h4,h5,h6⟩:=h;unfold P7 LX Ci;simp only;by_cases ho:f.op=2
 ·have hc':=hc ho
  by_cases h12:f.cls=1∨f.cls=2
  ·rw[if_pos (.inr h12),if_pos ho]
   cases c with
   | true=>
     refine⟨fun h=>(by cases h),fun _=>⟨t,rfl,h1,h2,h3,fun b hb1 hb2=>?_,h5,h6⟩⟩;rw[if_pos rfl];show _=(k.F7|||2 ^ f.cls.toNat).testBit b;rw[Fv,h4 b hb1 hb2];have:(b==f.cls.toNat)=false:=by rw[beq_eq_false_iff_ne];omega
     rw[this,Bool.or_false]
   | false=>
     refine⟨fun _=>rfl,fun h=>?_⟩;exfalso;rcases h12 with e|e<;>simp[e]at h
  ·have hn: ¬(f.op≠2∨f.cls=1∨f.cls=2):=by omega
   rw[if_neg hn,if_pos ho]
   have hb:(!c&&(!(f.op==2)||f.cls==1||f.cls==2))=false:=by
    have e1:(f.op==2)=true:=by simpa using ho
    have e2:(f.cls==1)=false:=by rw[beq_eq_false_iff_ne];omega
    have e3:(f.cls==2)=false:=by rw[beq_eq_false_iff_ne];omega
    rw[e1,e2,e3];simp
   rw[hb];refine⟨fun h=>(by cases h),fun _=>?_⟩;cases c with
   | true=>
     refine⟨_,rfl,h1,by simpa using h2,h3,fun b hb1 hb2=>?_,h5,h6⟩;exact MF (by omega) (h4 b hb1 hb2)
   | false=>
     refine⟨_,rfl,by simpa using h1,h2,fun b=>?_,h4,?_,?_⟩
     ·exact MF (by omega) (h3 b)
     ·show(k.CM|||2 ^ f.cls.toNat).testBit 1=false
      rw[Fv,h5];have:(1==f.cls.toNat)=false:=by rw[beq_eq_false_iff_ne];omega
      rw[this];rfl
     ·show(k.CM|||2 ^ f.cls.toNat).testBit 2=false
      rw[Fv,h6];have:(2==f.cls.toNat)=false:=by rw[beq_eq_false_iff_ne];omega
      rw[this];rfl
 ·rw[if_pos (.inl ho),if_neg ho]
  have e1:(f.op==2)=false:=by simpa using ho
  cases c with
  | true=>
    refine⟨fun h=>(by cases h),fun _=>⟨t,rfl,?_⟩⟩;split<;>exact⟨h1,h2,h3,h4,h5,h6⟩
  | false=>exact⟨fun _=>rfl,fun h=>by rw[e1]at h;cases h⟩
def PZ {n:Nat}: ∀(os:List Fact) {t:BB} {k:Kn},RB n t (k.CM,k.F7)→Hv n os→
    (os.any (fun l=>P7 (A5 l))=true→Ix os t=none)∧(os.any (fun l=>P7 (A5 l))=false→ ∃t',Ix os t=some t'∧RB n t' ((EU os k).CM,(EU os k).F7))
 | [],t,k,h,_=>⟨fun h=>(by cases h),fun _=>⟨t,rfl,h⟩⟩
 | l ::r,t,k,h,hc=>by
   obtain⟨s1,s2⟩:=Wc h (hc l (.head _));rw[Q7,Ix];cases hb:P7 (A5 l)with
   | true=>exact⟨fun _=>by rw[s1 hb];rfl,fun h=>(by cases h)⟩
   | false=>
     obtain⟨t',h1,h2⟩:=s2 hb;rw[h1,Bool.false_or,Option.bind_some];exact PZ r h2 fun x hx=>hc x (.tail _ hx)
def aX {os:List Fact} {n:Nat} (hc:Hv n os):(os.any fun l=>P7 (A5 l))=((EU os k0).whole||(EU os k0).CM.testBit 1||(EU os k0).CM.testBit 2):=by
 rw[Kk,FU,FU,KC,KC,JW];simp only[Ip,P7,BY,FU,Bool.not_eq_true',Dn,beq_eq_false_iff_ne,k0,Bool.false_or];constructor
 ·rintro⟨l,hl,hb,(h|h)|h⟩
  ·exact .inl (.inl ⟨l,hl,hb,h⟩)
  ·by_cases ho:(A5 l).1.op=2
   ·exact .inl (.inr ⟨l,hl,ho,hb,by rw[h];rfl⟩)
   ·exact .inl (.inl ⟨l,hl,hb,ho⟩)
  ·by_cases ho:(A5 l).1.op=2
   ·exact .inr ⟨l,hl,ho,hb,by rw[h];rfl⟩
   ·exact .inl (.inl ⟨l,hl,hb,ho⟩)
 ·rintro((⟨l,hl,hb,h⟩|⟨l,hl,ho,hb,h⟩)|⟨l,hl,ho,hb,h⟩)
  ·exact⟨l,hl,hb,.inl (.inl h)⟩
  ·have:=hc l hl ho
   exact⟨l,hl,hb,.inl (.inr (by omega))⟩
  ·have:=hc l hl ho
   exact⟨l,hl,hb,.inr (by omega)⟩
def U3 (w:AK) (A1 can:Int→Bool) (s:Int) (u:Nat×Nat):Option (Nat×Nat):=
 if A1 s&& !can s then none else some (if A1 s then u.1|||2 ^ (CX w s).toNat else u.1,if can s then u.2 else u.2|||2 ^ (CX w s).toNat)
def Hb (w:AK) (A1 can:Int→Bool):List Int→Nat×Nat→Option (Nat×Nat)
 | [],u=>some u
 | s::r,u=>(U3 w A1 can s u).bind (Hb w A1 can r)
def Vp {w:AK} {ls:List Fact} {a:Int} {p:List Int} {can A1:Int→Bool} (hn: ∀s,A1 s= !FG ls a (p++[s])) {n:Nat} (how: ∀s:Int,0≤s→s<w.owner.length→3≤CX w s∧CX w s<n) :
    ∀(sl:List Int) {t:BB} {u:Nat×Nat},(∀s∈sl,0≤s∧s<w.owner.length)→RB n t u→
    (Iw w ls a p can sl t=none∧Hb w A1 can sl u=none)∨ ∃t' u',Iw w ls a p can sl t=some t'∧Hb w A1 can sl u=some u'∧RB n t' u'
 | [],t,u,_,h=> .inr ⟨t,u,rfl,rfl,h⟩
 | s ::r,t,u,hsl,h=>by
   have hs:=hsl s (.head _);have ho:=how s hs.1 hs.2;rw[Iw,Hb,Re,U3,hn];obtain⟨h1,h2,h3,h4,h5,h6⟩:=h;split
   ·exact .inl ⟨rfl,rfl⟩
   ·rw[Option.bind_some,Option.bind_some]
    refine Vp hn how r (fun x hx=>hsl x (.tail _ hx)) ?_;have hb: ∀i,i<3→(i==(CX w s).toNat)=false:=fun i hi=>by rw[beq_eq_false_iff_ne];omega
    cases FG ls a (p++[s])<;>cases can s<;>refine⟨by simpa using h1,by simpa using h2,fun b=>?_,fun b hb1 hb2=>?_,?_,?_⟩
    all_goals simp only[Bool.not_false,Bool.not_true,LU,if_true,if_false]
    all_goals first
     | exact h3 b
     | exact h4 b hb1 hb2
     | exact h5
     | exact h6
     | exact MF (by omega) (h3 b)
     | exact MF (by omega) (h4 b hb1 hb2)
     | (rw[Fv,h5,hb 1 (by omega)];rfl)
     | (rw[Fv,h6,hb 2 (by omega)];rfl)
def Gh (m:Nat):Nat:=m - m % 2
def Sc (m b:Nat):(Gh m).testBit b=(m.testBit b&& !(b==0)):=by
 cases b with
 | zero=>
   simp[Gh,Nat.testBit_zero];omega
 | succ b=>
   rw[Nat.testBit_succ,Nat.testBit_succ,Gh,show(m - m % 2) / 2=m / 2 by omega];simp
def hZ {w : AK} (ho:ordered w.parents) {t:BB} {u:Nat×Nat} (h:RB (3+w.parents.length) t u) :
    (YG w t).isSome=(!u.2.testBit 0&&(Gh (DV (B0 w.parents) w.parents.length u.1)&&&u.2==0)):=by
 obtain⟨h1,h2,h3,h4,h5,h6⟩:=h;rw[YG,h4 0 (by decide) (by decide)];cases h0:u.2.testBit 0 with
 | true=>rfl
 | false =>
   rw[if_neg (by decide),Bool.not_false,EW];have hl:(t.1.set 0 false).length=3+w.parents.length:=by simpa using h1
   have G:=Up ho hl;have F:=OC ho u.1 w.parents.length
   have hS: ∀d,(t.1.set 0 false).getD d false=true↔d≠0∧u.1.testBit d=true:=fun d=>by
    rw[Eg (by omega)];split
    ·rename_i e;subst e;simp
    ·rename_i e;rw[h3];exact⟨fun h=>⟨e,h⟩,fun h=>h.2⟩
   have hlt: ∀b,u.1.testBit b=true→b<3+w.parents.length:=fun b hb=>by
    rw[←h3]at hb;rcases Nat.lt_or_ge b (3+w.parents.length)with h'|h'
    ·exact h'
    ·rw[Dc,List.getElem?_eq_none (by omega)]at hb;cases hb
   have h3b: ∀d,d≠0→u.1.testBit d=true→3≤d:=fun d hd hb=>by
    rcases d with _|_|_|d
    ·exact absurd rfl hd
    ·rw[h5]at hb;cases hb
    ·rw[h6]at hb;cases hb
    ·omega
   have hM: ∀b,(Gh (DV (B0 w.parents) w.parents.length u.1)).testBit b=true↔(Ck w.parents (3+w.parents.length) w.parents.length (t.1.set 0 false)).getD b false=true:=fun b=>by
    rw[Sc,BY,F b (Ja _),G,Bool.not_eq_true',beq_eq_false_iff_ne];constructor
    ·rintro⟨h|⟨d,q1,q2,q3,q4⟩,hb⟩
     ·exact⟨b,(hS b).2 ⟨hb,h⟩,FI ho b⟩
     ·rcases q4 with e|q4
      ·exact absurd e hb
      ·exact⟨d,(hS d).2 ⟨by omega,q3⟩,q4⟩
    ·rintro⟨d,hd,hu⟩
     obtain⟨hd0,hdu⟩:=(hS d).1 hd;have hd3:=h3b d hd0 hdu;have:=Tj ho d b hd3 hu;exact⟨.inr ⟨d,hd3,hlt d hdu,hdu,.inr hu⟩,by omega⟩
   have hany:((List.range (3+w.parents.length)).any fun c=>(Ck w.parents (3+w.parents.length) w.parents.length (t.1.set 0 false)).getD c false&&t.2.getD c false)= !(Gh (DV (B0 w.parents) w.parents.length u.1)&&&u.2==0):=by
    rw[Kk,Bool.not_eq_true',←Bool.not_eq_true,NP,Ip];constructor
    ·rintro⟨c,hc,hx⟩ hall
     rw[BY]at hx;have hm:=(hM c).2 hx.1;obtain⟨d,hd,hu⟩:=(G c).1 hx.1;obtain⟨hd0,hdu⟩:=(hS d).1 hd;have:=Tj ho d c (h3b d hd0 hdu) hu;exact hall c hm (by rw[←h4 c (by omega) (by omega)];exact hx.2)
    ·intro hne
     rcases Classical.em (∃b,(Gh (DV (B0 w.parents) w.parents.length u.1)).testBit b=true∧u.2.testBit b=true)with⟨b,hb1,hb2⟩|hno
     ·have hm:=(hM b).1 hb1
      obtain⟨d,hd,hu⟩:=(G b).1 hm;obtain⟨hd0,hdu⟩:=(hS d).1 hd;have:=Tj ho d b (h3b d hd0 hdu) hu;have:=Ya ho d b hu;have:=hlt d hdu;exact⟨b,List.mem_range.2 (by omega),by rw[hm,h4 b (by omega) (by omega),hb2];rfl⟩
     ·exact absurd (fun b h1 h2=>hno ⟨b,h1,h2⟩) hne
   rw[hany];cases(Gh (DV (B0 w.parents) w.parents.length u.1)&&&u.2==0)<;>rfl
def L0 (w:AK) (k:Kn) (A1 can:Int→Bool):Nat×Bool:=
 if k.whole||k.CM.testBit 1||k.CM.testBit 2||k.F7.testBit 0 then(0,false)else
 match Hb w A1 can k.AS (k.CM,k.F7)with
 | none=>(0,false)
 | some u=>(Gh (DV (B0 w.parents) w.parents.length u.1),Gh (DV (B0 w.parents) w.parents.length u.1)&&&u.2==0)
def N7 {w:AK} {A1 can:Int→Bool} (how: ∀s:Int,0≤s→s<w.owner.length→3≤CX w s): ∀(sl:List Int) {u u':Nat×Nat},(∀s∈sl,0≤s∧s<w.owner.length)→Hb w A1 can sl u=some u'→u'.2.testBit 0=u.2.testBit 0
 | [],u,u',_,h=>by cases h;rfl
 | s ::r,u,u',hsl,h=>by
   have hs:=hsl s (.head _);have ho:=how s hs.1 hs.2;rw[Hb,U3]at h;split at h
   ·cases h
   ·rw[Option.bind_some]at h
    rw[N7 how r (fun x hx=>hsl x (.tail _ hx)) h];simp only;split
    ·rfl
    ·rw[Fv]
     have:(0==(CX w s).toNat)=false:=by rw[beq_eq_false_iff_ne];omega
     rw[this,Bool.or_false]
def du {w:AK} {ls:List Fact} {a:Int} {p:List Int} {can A1:Int→Bool} (ho:ordered w.parents) (how: ∀s:Int,0≤s→s<w.owner.length→3≤CX w s∧CX w s<3+w.parents.length) (hc:Hv (3+w.parents.length) ls) (hp:HD w.owner.length ls) (hn: ∀s,A1 s= !FG ls a (p++[s])) :
    (L0 w (kn ls a p) A1 can).2=(RP w ls a p can).isSome:=by
 have hcore:=MM ls a p;have hsl:=KF hp a p;generalize kn ls a p=k at *;have hc2:Hv (3+w.parents.length) (ls.filter (LV a p)):=fun l hl=>hc l (Kl.1 hl).1
 simp only[Es,Prod.mk.injEq]at hcore;obtain⟨-,-,-,c4,c5,c6⟩:=hcore;rw[L0,RP,c4,c5,c6,←aX hc2,hsl]
 have hR0:RB (3+w.parents.length) (tO w) (k0.CM,k0.F7):=by
  refine⟨by simp[tO],by simp[tO],fun b=>?_,fun b _ _=>?_,rfl,rfl⟩<;>
  ·simp only[tO,k0,Nat.zero_testBit,Dc,List.getElem?_replicate]
   split<;>rfl
 obtain⟨f1,f2⟩:=PZ _ hR0 hc2;cases hbad:(ls.filter (LV a p)).any fun l=>P7 (A5 l)with
 | true=>rw[f1 hbad];rfl
 | false=>
   obtain⟨t,ht,G⟩:=f2 hbad;rw[ht,Option.bind_some,Bool.false_or];have hin: ∀s∈Dg w.owner.length ls a p,0≤s∧s<(w.owner.length:Int):=fun s hs=>LC hs
   rcases Vp (can:=can) hn (fun s h0 h1=>by have:=how s h0 h1;omega) (Dg w.owner.length ls a p) hin G with⟨e1,e2⟩|⟨t',u',e1,e2,hR'⟩
   ·rw[e1,e2]
    split<;>rfl
   ·rw[e1,e2,Option.bind_some,hZ ho hR']
    have:=N7 (fun s h0 h1=>(how s h0 h1).1) _ hin e2;rw[this];simp only;cases((EU (ls.filter (LV a p)) k0).F7.testBit 0)<;>rfl
end Go.Gl
namespace Go.Gl
abbrev EL (a:Int) (p:List Int):V:= .a [eI a,eI (p.length:Int),eI (p.getD 0 0),eI (p.getD 1 0)]
structure Cz where
 a:Int
 p:List Int
 b:Nat
 vn:V
 vs:V
 k:Kn
abbrev Cz.is (e:Cz) (a:Int) (p:List Int):Bool:=e.a==a&&e.p==p
abbrev sN (b:Nat) (vn vs:V) (k:Kn):At:= .box b [eI k.low,eI k.high,vn,eU k.CM,eU k.F7,.b k.whole,.b k.A1,vs]
abbrev fS (b:Nat) (vn vs:V) (k:Kn):List At:=[sN b vn vs k,.own vn 1 (iL k.no),.own vs 1 (iL k.AS)]
abbrev Rq (e:Cz):List At:=fS e.b e.vn e.vs e.k
def TO (es:List Cz):List (V×V):=es.map fun e=>(EL e.a e.p,.p e.b 0)
def B3 (L:Nat) (es:List Cz):List At:= .map L (TO es)::es.flatMap Rq
def Gm (L:Nat) (es pre post:List Cz):List At:= .map L (TO es)::(pre++post).flatMap Rq
def JE {e:Cz} {a:Int} {p:List Int}:e.is a p=true↔e.a=a∧e.p=p:=by simp[Cz.is]
def MN {e:Cz} {a:Int} {p:List Int}:e.is a p=false↔ ¬(e.a=a∧e.p=p):=by rw[←JE,Bool.not_eq_true]
def QD {a a':Int} {p p':List Int} (h:p.length≤2) (h':p'.length≤2):D6 (EL a p) (EL a' p')=(a==a'&&p==p'):=by
 have e:D6 (EL a p) (EL a' p')=(a==a'&&((p.length:Int)==p'.length&&(p.getD 0 0==p'.getD 0 0&&(p.getD 1 0==p'.getD 1 0)))):=by
  simp[D6,CC,EL]
 rw[e];congr 1
 match p,h,p',h' with
 | [],_,[],_=>rfl
 | [],_,[_],_=>simp
 | [],_,[_,_],_=>simp<;>omega
 | [_],_,[],_=>simp
 | [x],_,[y],_=>simp
 | [_],_,[_,_],_=>simp<;>omega
 | [_,_],_,[],_=>simp<;>omega
 | [_,_],_,[_],_=>simp<;>omega
 | [x,y],_,[z,u],_=>simp
def NG (es:List Cz): ∀kv∈TO es,Bo (.a [.i64,.i64,.i64,.i64]) kv.1=true:=by
 intro kv h;obtain⟨e,_,rfl⟩:=MT.1 h;rfl
def SO {a:Int} {p:List Int} (hp:p.length≤2): ∀ {es:List Cz},(∀e∈es,e.p.length≤2)→(∀e∈es,e.is a p=false)→C6 (EL a p) (TO es)=none
 | [],_,_=>rfl
 | e ::r,hl,h=>by
   have he:=h e (.head _);rw[TO,Et,C6,QD hp (hl e (.head _))]
   have:(a==e.a&&p==e.p)=false:=by
    rw[←he,Cz.is,Kk];simp only[BY,Dn];exact⟨fun⟨h1,h2⟩=>⟨h1.symm,h2.symm⟩,fun⟨h1,h2⟩=>⟨h1.symm,h2.symm⟩⟩
   rw[this,cond_false];exact SO hp (fun x hx=>hl x (.tail _ hx)) (fun x hx=>h x (.tail _ hx))
def Yj {a:Int} {p:List Int} (hp:p.length≤2) (b:Nat) (vn vs:V) (k:Kn): ∀ {es:List Cz},(∀e∈es,e.p.length≤2)→(∀e∈es,e.is a p=false)→D5 (EL a p) (.p b 0) (TO es)=TO (es++[⟨a,p,b,vn,vs,k⟩])
 | [],_,_=>rfl
 | e ::r,hl,h=>by
   have he:=h e (.head _);have ih:=Yj hp b vn vs k (fun x hx=>hl x (.tail _ hx)) (fun x hx=>h x (.tail _ hx));simp only[TO]at ih;rw[TO,Et,D5,QD hp (hl e (.head _))]
   have:(a==e.a&&p==e.p)=false:=by
    rw[←he,Cz.is,Kk];simp only[BY,Dn];exact⟨fun⟨h1,h2⟩=>⟨h1.symm,h2.symm⟩,fun⟨h1,h2⟩=>⟨h1.symm,h2.symm⟩⟩
   rw[this,cond_false,ih];rfl
def SN {a:Int} {p:List Int} (hp:p.length≤2) {e:Cz} (he:e.is a p=true) {post:List Cz}: ∀ {pre:List Cz},(∀x∈pre++e::post,x.p.length≤2)→(∀x∈pre,x.is a p=false)→C6 (EL a p) (TO (pre++e::post))=some (.p e.b 0)
 | [],hl,_=>by
   rw[List.nil_append,TO,Et,C6,QD hp (hl e (.head _))];obtain⟨h1,h2⟩:=JE.1 he;rw[h1,h2];simp
 | x ::r,hl,h=>by
   have hx:=h x (.head _);rw[List.cons_append,TO,Et,C6,QD hp (hl x (.head _))]
   have:(a==x.a&&p==x.p)=false:=by
    rw[←hx,Cz.is,Kk];simp only[BY,Dn];exact⟨fun⟨h1,h2⟩=>⟨h1.symm,h2.symm⟩,fun⟨h1,h2⟩=>⟨h1.symm,h2.symm⟩⟩
   rw[this,cond_false];exact SN hp he (fun y hy=>hl y (.tail _ hy)) (fun y hy=>h y (.tail _ hy))
def dk (a : Int) (p:List Int): ∀(es:List Cz),(∀e∈es,e.is a p=false)∨ ∃pre e post,es=pre++e::post∧e.is a p=true∧ ∀x∈pre,x.is a p=false
 | []=> .inl fun _ h=>by cases h
 | e ::r=>by
   cases h:e.is a p with
   | true=>exact .inr ⟨[],e,r,rfl,h,fun _ h=>by cases h⟩
   | false=>
     rcases dk a p r with h1|⟨pre,x,post,rfl,h1,h2⟩
     ·exact .inl fun x hx=>by
       rcases Fh.1 hx with rfl|hx
       ·exact h
       ·exact h1 x hx
     ·exact .inr ⟨e::pre,x,post,rfl,h1,fun y hy=>by
       rcases Fh.1 hy with rfl|hy
       ·exact h
       ·exact h2 y hy⟩
def SU (L:Nat) (pre post:List Cz) (e:Cz):(B3 L (pre++e::post)).Perm (Rq e++Gm L (pre++e::post) pre post):=by
 unfold B3 Gm;rw[List.flatMap_append,List.flatMap_cons,List.flatMap_append];refine List.Perm.trans ?_ (List.perm_middle.symm);refine List.Perm.cons _ ?_;rw[←TW,←TW];exact List.Perm.append_right _ Q8
def UN {pre post:List Cz} {e e':Cz} (h1:e'.a=e.a) (h2:e'.p=e.p) (h3:e'.b=e.b):TO (pre++e'::post)=TO (pre++e::post):=by
 simp only[TO,TN,Et,h1,h2,h3]
def Qo {L:Nat} {pre post:List Cz} {e e':Cz} (h1:e'.a=e.a) (h2:e'.p=e.p) (h3:e'.b=e.b):Gm L (pre++e'::post) pre post=Gm L (pre++e::post) pre post:=by
 rw[Gm,Gm,UN h1 h2 h3]
structure Dq (kf:Int→List Int→Kn) (es:List Cz):Prop where
 val: ∀e∈es,e.k=kf e.a e.p
 Xz: ∀a p,(∀e∈es,e.is a p=false)→kf a p=k0
 one:es.Pairwise fun e e'=>e.is e'.a e'.p=false
 len: ∀e∈es,e.p.length≤2
def Oy (es:List Cz):Prop:= ∀e∈es,∀s∈e.k.AS,∃e'∈es,e'.is e.a (e.p++[s])=true
def Dq.congr {kf kf':Int→List Int→Kn} {es:List Cz} (h:Dq kf es) (e: ∀a p,kf a p=kf' a p):Dq kf' es:=
 ⟨fun x hx=>(h.val x hx).trans (e _ _),fun a p hp=>(e a p).symm.trans (h.Xz a p hp),h.one,h.len⟩
def Dq.add {kf:Int→List Int→Kn} {es:List Cz} (h:Dq kf es) {a:Int} {p:List Int} (hp:p.length≤2) (hn: ∀e∈es,e.is a p=false) (b:Nat) (vn vs:V):Dq kf (es++[⟨a,p,b,vn,vs,k0⟩]):=by
 refine⟨fun x hx=>?_,fun a' p' h'=>h.Xz a' p' fun x hx=>h' x (OO _ hx),?_,fun x hx=>?_⟩
 ·rcases FQ.1 hx with hx|hx
  ·exact h.val x hx
  ·rw[Kj.1 hx];exact(h.Xz a p hn).symm
 ·rw[List.pairwise_append]
  exact⟨h.one,List.pairwise_singleton _ _,fun x hx y hy=>by rw[Kj.1 hy];exact hn x hx⟩
 ·rcases FQ.1 hx with hx|hx
  ·exact h.len x hx
  ·rw[Kj.1 hx];exact hp
def Oy.add {es:List Cz} (h:Oy es) {a:Int} {p:List Int} (b:Nat) (vn vs:V):Oy (es++[⟨a,p,b,vn,vs,k0⟩]):=by
 intro e he s hs;rcases FQ.1 he with he|he
 ·obtain⟨e',h1,h2⟩:=h e he s hs
  exact⟨e',OO _ h1,h2⟩
 ·rw[Kj.1 he]at hs
  cases hs
def RN (kf:Int→List Int→Kn) (a:Int) (p:List Int) (k:Kn):Int→List Int→Kn:=fun a' p'=>if a'=a∧p'=p then k else kf a' p'
def Dq.change {kf:Int→List Int→Kn} {pre post:List Cz} {e:Cz} (h:Dq kf (pre++e::post)) (b:Nat) (vn vs:V) (k:Kn):Dq (RN kf e.a e.p k) (pre++⟨e.a,e.p,b,vn,vs,k⟩::post):=by
 have h1:=h.one;rw[List.pairwise_append,List.pairwise_cons]at h1;obtain⟨o1,⟨o2,o3⟩,o4⟩:=h1;refine⟨fun x hx=>?_,fun a p hp=>?_,?_,fun x hx=>?_⟩
 ·rw [RN]
  rcases FQ.1 hx with hx|hx
  ·rw[if_neg]
   ·exact h.val x (OO _ hx)
   ·have:=o4 x hx e (.head _)
    rw[MN]at this;exact this
  ·rcases Fh.1 hx with rfl|hx
   ·rw[if_pos ⟨rfl,rfl⟩]
   ·rw[if_neg]
    ·exact h.val x (OK _ (.tail _ hx))
    ·have:=o2 x hx
     rw[MN]at this;exact fun⟨q1,q2⟩=>this ⟨q1.symm,q2.symm⟩
 ·have he:=MN.1 (hp _ (OK _ (.head _)))
  rw[RN,if_neg (fun⟨q1,q2⟩=>he ⟨q1.symm,q2.symm⟩)];refine h.Xz a p fun x hx=>?_
  rcases FQ.1 hx with hx|hx
  ·exact hp x (OO _ hx)
  ·rcases Fh.1 hx with rfl|hx
   ·exact MN.2 he
   ·exact hp x (OK _ (.tail _ hx))
 ·rw[List.pairwise_append,List.pairwise_cons]
  refine⟨o1,⟨o2,o3⟩,fun x hx y hy=>?_⟩;rcases Fh.1 hy with rfl|hy
  ·exact o4 x hx e (.head _)
  ·exact o4 x hx y (.tail _ hy)
 ·rcases FQ.1 hx with hx|hx
  ·exact h.len x (OO _ hx)
  ·rcases Fh.1 hx with rfl|hx
   ·exact h.len e (OK _ (.head _))
   ·exact h.len x (OK _ (.tail _ hx))
def Oy.change {pre post:List Cz} {e:Cz} (h:Oy (pre++e::post)) (b:Nat) (vn vs:V) (k:Kn) (hs: ∀s∈k.AS,s∈e.k.AS∨ ∃e'∈pre++e::post,e'.is e.a (e.p++[s])=true):Oy (pre++⟨e.a,e.p,b,vn,vs,k⟩::post):=by
 have mov: ∀ {a p},(∃e'∈pre++e::post,e'.is a p=true)→ ∃e'∈pre++(⟨e.a,e.p,b,vn,vs,k⟩:Cz)::post,e'.is a p=true:=by
  rintro a p ⟨x,hx,h'⟩;rcases FQ.1 hx with hx|hx
  ·exact⟨x,OO _ hx,h'⟩
  ·rcases Fh.1 hx with rfl|hx
   ·exact⟨_,OK _ (.head _),h'⟩
   ·exact⟨x,OK _ (.tail _ hx),h'⟩
 intro x hx s hxs;rcases FQ.1 hx with hx|hx
 ·exact mov (h x (OO _ hx) s hxs)
 ·rcases Fh.1 hx with rfl|hx
  ·rcases hs s hxs with h'|h'
   ·exact mov (h e (OK _ (.head _)) s h')
   ·exact mov h'
  ·exact mov (h x (OK _ (.tail _ hx)) s hxs)
def DW (f:Fact) (c:Bool) (j:Nat) (a:Int) (p:List Int) (k:Kn):Kn:=
 if f.arg=a∧B2 f.path p=true then(if p.length<j then aw (De k c) (f.path.getD p.length 0)else if p.length=j then De k c else k)else k
def Lu {path p:List Int}:B2 path p=true↔p.length≤path.length∧p=path.take p.length:=by
 rw[CK];constructor
 ·rintro⟨t,rfl⟩
  exact⟨by simp,by simp⟩
 ·rintro⟨h1,h2⟩
  exact⟨path.drop p.length,by conv=>rhs;rw[h2,MS,Nat.min_eq_left h1,List.take_append_drop]⟩
def cP (f:Fact) (c:Bool) (a:Int) (p:List Int) (k:Kn):DW f c 0 a p k=if a=f.arg∧p= []then De k c else k:=by
 unfold DW;by_cases h:f.arg=a∧B2 f.path p=true
 ·rw[if_pos h,if_neg (by omega)]
  by_cases hp:p.length=0
  ·rw[if_pos hp,if_pos ⟨h.1.symm,bB.1 hp⟩]
  ·rw[if_neg hp,if_neg (fun h'=>hp (by rw[h'.2];rfl))]
 ·rw[if_neg h,if_neg]
  rintro⟨rfl,rfl⟩;exact h ⟨rfl,CK.2 ⟨f.path,by simp⟩⟩
def cQ (f:Fact) (c:Bool) {j:Nat} (hj:j<f.path.length) (a:Int) (p:List Int) (k:Kn):DW f c (j+1) a p k=if a=f.arg∧p=f.path.take (j+1)then De (DW f c j a p k) c else if a=f.arg∧p=f.path.take j then aw (DW f c j a p k) (f.path.getD j 0)else DW f c j a p k:=by
 unfold DW;by_cases h:f.arg=a∧B2 f.path p=true
 ·rw [if_pos h,if_pos h]
  obtain⟨h1,h2⟩:=h;rw[Lu]at h2;obtain⟨h2,h3⟩:=h2;have l1:p=f.path.take (j+1)↔p.length=j+1:=⟨fun e=>by rw[e,MS];omega,fun e=>by rw[e]at h3;exact h3⟩
  have l2:p=f.path.take j↔p.length=j:=⟨fun e=>by rw[e,MS];omega,fun e=>by rw[e]at h3;exact h3⟩
  have n1:p.length≠j+1→ ¬(a=f.arg∧p=f.path.take (j+1)):=fun h h'=>h (l1.1 h'.2)
  have n2:p.length≠j→ ¬(a=f.arg∧p=f.path.take j):=fun h h'=>h (l2.1 h'.2)
  by_cases q1:p.length<j
  ·rw[if_pos (show p.length<j+1 by omega),if_neg (n1 (by omega)),if_neg (n2 (by omega)),if_pos q1]
  ·by_cases q2:p.length=j
   ·rw[if_pos (show p.length<j+1 by omega),if_neg (n1 (by omega)),if_pos (show a=f.arg∧p=f.path.take j from⟨h1.symm,l2.2 q2⟩),if_neg q1,if_pos q2,q2]
   ·by_cases q3:p.length=j+1
    ·rw[if_neg (show¬p.length<j+1 by omega),if_pos q3,if_pos (show a=f.arg∧p=f.path.take (j+1) from⟨h1.symm,l1.2 q3⟩),if_neg q1,if_neg q2]
    ·rw[if_neg (show¬p.length<j+1 by omega),if_neg q3,if_neg (n1 q3),if_neg (n2 q2),if_neg q1,if_neg q2]
 ·rw[if_neg h,if_neg h,if_neg,if_neg]
  ·rintro⟨rfl,rfl⟩
   exact h ⟨rfl,CK.2 ⟨f.path.drop j,by rw[List.take_append_drop]⟩⟩
  ·rintro⟨rfl,rfl⟩
   exact h ⟨rfl,CK.2 ⟨f.path.drop (j+1),by rw[List.take_append_drop]⟩⟩
def gk (a : Int) (p:List Int) (k:Kn) (l:Fact):DA a p k l=if a=(A5 l).1.arg∧p=(A5 l).1.path then Ci (DW (A5 l).1 (A5 l).2 (A5 l).1.path.length a p k) (A5 l).1 (A5 l).2 else DW (A5 l).1 (A5 l).2 (A5 l).1.path.length a p k:=by
 unfold DA DW;by_cases h:(A5 l).1.arg=a∧B2 (A5 l).1.path p=true
 ·rw [if_pos h,if_pos h]
  obtain⟨h1,h2⟩:=h;rw[Lu]at h2;obtain⟨h2,h3⟩:=h2;by_cases hp:(A5 l).1.path=p
  ·rw[if_pos hp,if_pos ⟨h1.symm,hp.symm⟩,if_neg (by rw[hp];omega),if_pos (by rw[hp])]
  ·have hne:p.length<(A5 l).1.path.length:=by
    rcases Nat.lt_or_ge p.length (A5 l).1.path.length with h'|h'
    ·exact h'
    ·rw[List.take_of_length_le h']at h3
     exact absurd h3.symm hp
   rw[if_neg hp,if_neg (fun h=>hp h.2.symm),if_pos hne]
 ·rw[if_neg h,if_neg h,if_neg]
  rintro⟨rfl,rfl⟩;exact h ⟨rfl,Lv _⟩
def cV (ls:List Fact) (l:Fact) (a:Int) (p:List Int):kn (ls++[l]) a p=DA a p (kn ls a p) l:=by
 rw[kn,List.foldl_append];rfl
def Pr (l:List Int) (s:Int):(H7 l s).length≤l.length+1:=by
 unfold H7;split
 ·omega
 ·rw[List.length_mergeSort];simp
def Uu (k:Kn) (f:Fact) (b:Bool):(Ci k f b).no.length≤k.no.length+1:=by
 unfold Ci
 repeat' split
 all_goals simp
def Yl (a:Int) (p:List Int): ∀(ls:List Fact) (k:Kn),(ls.foldl (DA a p) k).no.length≤k.no.length+ls.length∧(ls.foldl (DA a p) k).AS.length≤k.AS.length+ls.length
 | [],k=>⟨Ja _,Ja _⟩
 | l ::r,k=>by
   obtain⟨h1,h2⟩:=Yl a p r (DA a p k l)
   have h3:(DA a p k l).no.length≤k.no.length+1∧(DA a p k l).AS.length≤k.AS.length+1:=by
    unfold DA
    repeat' split
    ·have:=Uu (De k (A5 l).2) (A5 l).1 (A5 l).2
     rw[Pk];simp only[De]at this ⊢;omega
    ·have:=Pr k.AS ((A5 l).1.path.getD p.length 0)
     simp only[aw,De]at this ⊢;omega
    ·omega
   rw[List.foldl_cons,MC];omega
def cW {n:Nat} {ls:List Fact} (h:Hv n ls) (a:Int) (p:List Int):(kn ls a p).CM<2 ^ n∧(kn ls a p).F7<2 ^ n:=by
 have hc:=MM ls a p;simp only[Es,Prod.mk.injEq]at hc;have hc2:Hv n (ls.filter (LV a p)):=fun l hl=>h l (Kl.1 hl).1
 rw[hc.2.2.2.1,hc.2.2.2.2.1];exact⟨QU hc2,gE hc2⟩
end Go.Gl
namespace Go.Gl
def Hj (no:List Int):Nat→Int→Int
 | 0,n=>n
 | k+1,n=>if no.contains n then Hj no k (n+1)else n
def from_ (no:List Int) (n:Int):Nat:=(no.filter fun x=>decide (n≤x)).length
def Qg {no:List Int} {n:Int} (h:n∈no):from_ no (n+1)<from_ no n:=by
 induction no with
 | nil=>cases h
 | cons x r ih=>
   simp only[from_,List.filter_cons]at ih ⊢;by_cases hx:x=n
   ·subst hx
    have hle:(r.filter fun y=>decide (x+1≤y)).length≤(r.filter fun y=>decide (x≤y)).length:=by
     refine List.Sublist.length_le ?_
     have e:(r.filter fun y=>decide (x+1≤y))=(r.filter fun y=>decide (x≤y)).filter fun y=>decide (x+1≤y):=by
      rw[List.filter_filter];refine List.filter_congr fun y _=>?_
      rw[Kk,BY,CY,CY];omega
     rw[e];exact List.filter_sublist
    rw[if_neg (by simp<;>omega),if_pos (by simp),MC];omega
   ·have h':n∈r:=by
     rcases Fh.1 h with e|e
     ·exact absurd e.symm hx
     ·exact e
    have:=ih h';by_cases h1:n≤x
    ·rw[if_pos (by rw[CY];omega),if_pos (by rw[CY];omega),MC,MC]
     omega
    ·rw[if_neg (by rw[CY];omega),if_neg (by rw[CY];omega)]
     omega
def Vn (no:List Int) (n:Int):from_ no n≤no.length:=OJ _ _
def KT {no:List Int}: ∀(k:Nat) (n:Int),from_ no n≤k→n≤Hj no k n∧Hj no k n∉no∧ ∀j,n≤j→j<Hj no k n→j∈no
 | 0,n,h=>by
   refine⟨Int.le_refl _,fun hm=>?_,fun j h1 h2=>by simp only[Hj]at h2;omega⟩;have:=Qg hm;simp only[Hj]at this;omega
 | k + 1,n,h=>by
   rw[Hj];split
   ·rename_i hc
    rw[List.contains_iff_mem]at hc;have hlt:=Qg hc;obtain⟨h1,h2,h3⟩:=KT (no:=no) k (n+1) (by omega);refine⟨by omega,h2,fun j hj1 hj2=>?_⟩;by_cases e:j=n
    ·subst e;exact hc
    ·exact h3 j (by omega) hj2
   ·rename_i hc
    exact⟨Int.le_refl _,fun hm=>hc (List.contains_iff_mem.2 hm),fun j h1 h2=>by omega⟩
def lK {no:List Int} {k:Nat} {n:Int} (h:n∈no):Hj no (k+1) n=Hj no k (n+1):=by rw[Hj,if_pos (List.contains_iff_mem.2 h)]
def dW {no:List Int} {k:Nat} {n:Int} (h:n∉no):Hj no k n=n:=by
 cases k with
 | zero=>rfl
 | succ k=>rw[Hj,if_neg (fun hc=>h (List.contains_iff_mem.1 hc))]
def V7 {no:List Int} {k k':Nat} {n:Int} (h:from_ no n≤k) (h':from_ no n≤k'):Hj no k n=Hj no k' n:=by
 obtain⟨a1,a2,a3⟩:=KT k n h;obtain⟨b1,b2,b3⟩:=KT k' n h';rcases Int.lt_trichotomy (Hj no k n) (Hj no k' n)with hl|he|hg
 ·exact absurd (b3 _ a1 hl) a2
 ·exact he
 ·exact absurd (a3 _ b1 hg) b2
def JD (k:Kn):Int:=Hj k.no k.no.length k.low
def Mm (kf:Int→List Int→Kn) (a:Int) (p:List Int):Bool:=(kf a p).AS.all fun s=> !(kf a (p++[s])).A1
def HC (kf:Int→List Int→Kn) (a:Int) (p:List Int) (c:Nat):Bool:=OQ (kf a p).CM (1|||2 ^ c)&&((kf a p).F7&&&(1|||2 ^ c)==0&&Mm kf a p)
def P4 (kf:Int→List Int→Kn) (a:Int) (p:List Int):Bool:=decide (JD (kf a p)≤(kf a p).high)&&HC kf a p 1
def Jj (kf:Int→List Int→Kn) (a:Int) (p:List Int):Bool:= !(kf a p).whole&&HC kf a p 2
def L4 (w:AK) (kf:Int→List Int→Kn) (a:Int):Nat→List Int→Bool
 | 0,p=>P4 kf a p||(Jj kf a p||(L0 w (kf a p) (fun s=>(kf a (p++[s])).A1) (fun _=>false)).2)
 | d+1,p=>P4 kf a p||(Jj kf a p||(L0 w (kf a p) (fun s=>(kf a (p++[s])).A1) (fun s=>L4 w kf a d (p++[s]))).2)
def X6 (w:AK) (kf:Int→List Int→Kn):Bool:=(Bk 3).all fun a=>L4 w kf a 2 []
def Vu {n:Nat} {ls:List Fact} (h:HD n ls) (a:Int) (p:List Int):Mm (kn ls) a p=Iz n ls a p:=by
 rw[Mm,Iz,KF h];congr 1;funext s;rw[LL,Bool.not_not]
def Ym {n m:Nat} {ls:List Fact} (hn:n≤64) (hc:Hv n ls) (h:HD m ls) (a:Int) (p:List Int):P4 (kn ls) a p=((RT ls a p).isSome&&Iz m ls a p):=by
 have hcore:=MM ls a p;have hc2:Hv n (ls.filter (LV a p)):=fun l hl=>hc l (Kl.1 hl).1
 simp only[Es,Prod.mk.injEq]at hcore;obtain⟨c1,c2,c3,c4,c5,-⟩:=hcore;rw[P4,HC,Vu h,c4,c5,←Bool.and_assoc (OQ _ _),Wv hn hc2,←Bool.and_assoc];congr 1;have hf:=Pa (ls.filter (LV a p)) k0;rw[RT,show t0=(k0.low,k0.high,k0.no) from rfl,hf,JD,c2,c3,c1];obtain⟨h1,h2,h3⟩:=KT (no:=(EU (ls.filter (LV a p)) k0).no) _ (EU (ls.filter (LV a p)) k0).low (Vn _ _);have hs:=ZY (high:=(EU (ls.filter (LV a p)) k0).high) h1 h2 h3;cases(ls.filter (LV a p)).all fun l=>er (A5 l)with
 | false=>simp
 | true=>rw[if_pos rfl,Option.bind_some,hs,Bool.and_true]
def VY {n m:Nat} {ls:List Fact} (hn:n≤64) (hc:Hv n ls) (h:HD m ls) (a:Int) (p:List Int):Jj (kn ls) a p=Mg m ls a p:=by
 have hcore:=MM ls a p;have hc2:Hv n (ls.filter (LV a p)):=fun l hl=>hc l (Kl.1 hl).1
 simp only[Es,Prod.mk.injEq]at hcore;obtain⟨-,-,-,c4,c5,c6⟩:=hcore;rw[Jj,HC,Vu h,c4,c5,c6,Mg,←UI hn hc2];simp only[Bool.and_assoc]
def Y5 {w:AK} {ls:List Fact} (ho:ordered w.parents) (how: ∀s:Int,0≤s→s<w.owner.length→3≤CX w s∧CX w s<3+w.parents.length) (hn:3+w.parents.length≤64) (hc:Hv (3+w.parents.length) ls) (hp:HD w.owner.length ls) (a:Int): ∀(d:Nat) (p:List Int),L4 w (kn ls) a d p=P5 w ls a d p
 | 0,p=>by
   rw[L4,P5,Ym hn hc hp,VY hn hc hp,du ho how hc hp fun s=>LL ls a (p++[s])]
 | d+1,p=>by
   rw[L4,P5,Ym hn hc hp,VY hn hc hp,du ho how hc hp fun s=>LL ls a (p++[s])];have e:(fun s=>L4 w (kn ls) a d (p++[s]))=fun s=>P5 w ls a d (p++[s]):=funext fun s=>Y5 ho how hn hc hp a d (p++[s])
   rw[e]
def fb {w:AK} {ls:List Fact} (ho:ordered w.parents) (how: ∀s:Int,0≤s→s<w.owner.length→3≤CX w s∧CX w s<3+w.parents.length) (hn:3+w.parents.length≤64) (hc:Hv (3+w.parents.length) ls) (hp:HD w.owner.length ls):X6 w (kn ls)=Il w ls:=by
 rw[X6,Il];congr 1;funext a;exact Y5 ho how hn hc hp a 2 []
end Go.Gl
namespace Go.Gl
open Go.Proofs
attribute [local irreducible] BC Ax Ai AU AO Ag AV AW AM Af AR AT A0 A9 Sat Ab A6 Ak W
section
variable {S:Type} (g:FuncId) (fi ca:List V) (H:S→List At) (f:Int→Bool) (J:S→Prop) (D:Int→Prop)
def Og {v:V} {xs:List Int} (hst:Le Tryz.prog (.f (.func g) fi ca) eI (fun s=> .own v 1 (iL xs)::H s) f J D) (hD: ∀x∈xs,D x) (hxl:xs.length≤Ae) (s0:S) (hj0:J s0) :
    Bd Tryz.prog 103 [v,.f (.func g) fi ca] (.own v 1 (iL xs)::H s0) fun r post=>r= .ret (eI (Lb f xs 0))∧ ∃s',J s'∧post= .own v 1 (iL xs)::H s':=by
 intro σ hs;have hM:=Mx;refine Y3 kZ ?_
 conv=>whnf
 repeat'((first|apply st|(apply sq;intro K U)|(apply si;intro A B Y Z)|(apply Y;clear Z B Y A)|(apply U;clear U K)|refine lo ?_|fail)<;>conv=>whnf)
 refine CZ xs.length (fun k (_:S)=>[(8,eI (BL k))]) (fun _ s=> .own v 1 (iL xs)::H s) (fun k s=>J s∧Lb f xs 0=Lb f (xs.drop k) k) s0 rfl ⟨hj0,rfl⟩ hs ?_;clear hs hj0;rintro k s σ hk ⟨hj,hn⟩ hs;have hck:BL k=k:=AL (by omega);rcases BS xs hk with⟨y,hy,hlt⟩|hke
 ·rw[drop_cons hy]at hn
  have hDy:=hD y (Cj hy);rw[Lb]at hn
  conv=>whnf
  repeat'((first|apply st|(apply sq;intro K U)|(apply si;intro A B Y Z)|(apply Y;clear Z B Y A)|(apply U;clear U K)|refine⟨rfl,?_⟩|refine oi ?_|refine ol fun x hx=>?_|(refine Cs (fun hc=>?_)<;>(try rw[hc])<;>clear hc)|fail)<;>conv=>whnf)
  obtain rfl:x=y:=by rw[hck,Jb,hy]at hx;exact(Option.some.inj hx).symm
  refine hst.use hDy hj hs ?_;clear hs hj;intro s σ hj hs;cases hyes:f x
  ·rw[hyes,if_neg (by decide)]at hn
   conv=>whnf
   repeat'((first|apply st|(apply si;intro A B Y Z)|(apply Y;clear Z B Y A)|(apply U;clear U K)|refine⟨rfl,?_⟩|clear U K)<;>conv=>whnf)
   exact⟨hlt,_,rfl,⟨hj,hn⟩,hs⟩
  ·rw[hyes,if_pos rfl]at hn
   conv=>whnf
   repeat'((first|apply st|(apply sq;intro K U)|(apply si;intro A B Y Z)|(apply Y;clear Z B Y A)|(apply U;clear U K)|clear U K)<;>conv=>whnf)
   rw[hn];exact AP ⟨_,⟨by rw[hck],s,hj,rfl⟩,hs⟩
 ·rw[An hke,Lb]at hn
  conv=>whnf
  repeat'((first|apply st|(apply sq;intro K U)|(apply si;intro A B Y Z)|(apply Y;clear Z B Y A)|(apply U;clear U K)|refine⟨rfl,?_⟩|(refine EV (fun hc=>?_)<;>(try rw[hc])<;>clear hc)|clear U K)<;>conv=>whnf)
  rw[hn];exact AP ⟨_,⟨rfl,s,hj,rfl⟩,hs⟩
def MA {v:V} {xs:List Int} (hst:Le Tryz.prog (.f (.func g) fi ca) eI (fun s=> .own v 1 (iL xs)::H s) f J D) (hD: ∀x∈xs,D x) (hxl:xs.length≤Ae) (s0:S) (hj0:J s0) :
    Bd Tryz.prog 72 [v,.f (.func g) fi ca] (.own v 1 (iL xs)::H s0) fun r post=>r= .ret (.b (xs.any f))∧ ∃s',J s'∧post= .own v 1 (iL xs)::H s':=by
 intro σ hs;refine eM kZ ?_
 conv=>whnf
 repeat'((first|(apply sq;intro K U)|(apply si;intro A B Y Z)|(apply Y;clear Z B Y A)|(apply U;clear U K)|fail)<;>conv=>whnf)
 refine(Og g fi ca H f J D hst hD hxl s0 hj0).use (rest:=[]) (by simpa using hs) ?_;rintro r post σ ⟨rfl,s',hj,rfl⟩ hs
 conv=>whnf
 repeat'((first|apply st|(apply Y;clear Z B Y A)|(apply U;clear U K)|refine⟨rfl,?_⟩|fail)<;>conv=>whnf)
 exact AP ⟨_,⟨by rw[←SY f xs 0],s',hj,rfl⟩,by simpa using hs⟩
def cK {v:V} {xs:List Int} (hst:Le Tryz.prog (.f (.func g) fi ca) eI (fun s=> .own v 1 (iL xs)::H s) f J D):Le Tryz.prog (.f (.func 217) [] [.rp [.f (.func g) fi ca]]) eI (fun s=> .own v 1 (iL xs)::H s) (fun y=> !f y) J D:=by
 intro y s hd hj σ hs;refine Bl ?_;show BC Tryz.prog 217 ([]++[eI y]++[.rp [.f (.func g) fi ca]]) σ _;refine Yv kZ ?_
 conv=>whnf
 repeat'((first|apply st|(apply sq;intro K U)|(apply si;intro A B Y Z)|(apply Y;clear Z B Y A)|(apply U;clear U K)|fail)<;>conv=>whnf)
 refine hst.use hd hj hs ?_;clear hs;intro s' σ hj' hs
 conv=>whnf
 repeat'((first|apply st|(apply Y;clear Z B Y A)|(apply U;clear U K)|fail)<;>conv=>whnf)
 exact AP ⟨rfl,s',hj',hs⟩
def V6 {v:V} {xs:List Int} (hst:Le Tryz.prog (.f (.func g) fi ca) eI (fun s=> .own v 1 (iL xs)::H s) f J D) (hD: ∀x∈xs,D x) (hxl:xs.length≤Ae) (s0:S) (hj0:J s0) :
    Bd Tryz.prog 177 [v,.f (.func g) fi ca] (.own v 1 (iL xs)::H s0) fun r post=>r= .ret (.b (xs.all f))∧ ∃s',J s'∧post= .own v 1 (iL xs)::H s':=by
 intro σ hs;refine Yy kZ ?_
 conv=>whnf
 repeat'((first|(apply sq;intro K U)|(apply si;intro A B Y Z)|(apply Y;clear Z B Y A)|(apply U;clear U K)|fail)<;>conv=>whnf)
 refine(MA 217 [] [.rp [.f (.func g) fi ca]] H _ J D (cK g fi ca H f J D hst) hD hxl s0 hj0).use (rest:=[]) (by simpa using hs) ?_;rintro r post σ ⟨rfl,s',hj,rfl⟩ hs
 conv=>whnf
 repeat'((first|apply st|(apply Y;clear Z B Y A)|(apply U;clear U K)|fail)<;>conv=>whnf)
 refine AP ⟨_,⟨?_,s',hj,rfl⟩,by simpa using hs⟩;rw[List.all_eq_not_any_not]
end
abbrev I8 (l:Fact):List V:=xF (A5 l).1++[.b (A5 l).2]
abbrev En (ls:List Fact):List (List V):=ls.map I8
def bk (xs ys:List Int) (f g:Bool):Pure Tryz.prog 273 [.l (iL xs) f,.l (iL ys) g] (.b (xs==ys)):=by
 refine Pure.fit (by kernel_rfl) fun hf=>?_
 have hx:=Jl hf.1;have hy:=Jl hf.2.1;have hM:=Mx;refine iS kZ ?_;have hs:=Sn
 conv=>whnf
 repeat'((first|apply st|(apply sq;intro K U)|(apply si;intro A B Y Z)|(apply Y;clear Z B Y A)|(apply U;clear U K)|refine⟨rfl,?_⟩|(constructor<;>intro hc<;>(try rw[hc])<;>(replace hc:=bp hc)<;>(try simp(disch:=omega) only[BQ,wrap64,AL]at hc))|clear U K)<;>conv=>whnf)
 ·exact AI (by(have:(xs==ys)=false:=by(simp;intro e;subst e;simp at hc));rw[this])
 have hl:xs.length=ys.length:=by omega
 refine CZ xs.length (fun k (_:Unit)=>[(13,eI (BL k))]) (fun _ _=>[]) (fun k _=>(xs==ys)=(xs.drop k==ys.drop k)) () rfl rfl Sat.nil ?_;clear hs;rintro k - σ hk hn hs;rcases BS xs hk with⟨x,hxk,hlt⟩|hke
 ·obtain⟨y,hyk⟩: ∃y,ys[k]? =some y:=⟨_,Da (by omega)⟩
  rw[drop_cons hxk,drop_cons hyk]at hn
  conv=>whnf
  repeat'((first|apply st|(apply sq;intro K U)|(apply si;intro A B Y Z)|(apply Y;clear Z B Y A)|(apply U;clear U K)|apply dr|refine⟨rfl,?_⟩|refine ix ?_|(refine Cs (fun hc=>?_)<;>(try rw[hc])<;>clear hc)|(constructor<;>intro hc<;>(try rw[hc])<;>(replace hc:=bp hc))|clear U K)<;>conv=>whnf)
  ·exact AI (by rw[hn];simp[*])
  ·exact⟨hlt,(),rfl,by rw[hn];simp[*],hs⟩
 ·conv=>whnf
  repeat'((first|apply st|(apply sq;intro K U)|(apply si;intro A B Y Z)|(apply Y;clear Z B Y A)|(apply U;clear U K)|refine⟨rfl,?_⟩|(refine EV (fun hc=>?_)<;>(try rw[hc])<;>clear hc)|clear U K)<;>conv=>whnf)
  exact AI (by rw[hn,An hke,An (by omega)];rfl)
def cX (a b:Bool) (u:V):Pure Tryz.prog 274 [.l [] a,.l [] b,u] (.b true):=by
 refine iR kZ ?_;have hs:=Sn;have hM:=Mx
 conv=>whnf
 repeat'((first|apply st|(apply sq;intro K U)|(apply si;intro A B Y Z)|(apply Y;clear Z B Y A)|(apply U;clear U K)|refine⟨rfl,?_⟩|(constructor<;>intro hc<;>(try rw[hc])<;>(replace hc:=bp hc)<;>(try simp(disch:=omega) only[BQ,wrap64,AL]at hc)<;>try(exfalso;omega))|fail)<;>conv=>whnf)
 refine CZ 0 (fun k (_:Unit)=>[(17,eI (BL k))]) (fun _ _=>[]) (fun _ _=>True) () rfl trivial Sat.nil ?_;clear hs;rintro k - σ hk - hs;obtain rfl:k=0:=by omega
 conv=>whnf
 repeat'((first|apply st|(apply sq;intro K U)|(apply si;intro A B Y Z)|(apply Y;clear Z B Y A)|(apply U;clear U K)|refine⟨rfl,?_⟩|(constructor<;>intro hc<;>(try rw[hc])<;>(replace hc:=bp hc)<;>(try simp(disch:=omega) only[BQ,wrap64,AL]at hc))|clear U K)<;>conv=>whnf)
 ·exfalso
  simp at hc
 ·exact AI rfl
set_option maxHeartbeats 1000000 in
def bn (f g:Fact) (hf:f.kids= []) (hg:g.kids= []):Pure Tryz.prog 258 [.a (xF f),.a (xF g)] (.b (Gk f g)):=by
 have e:Gk f g=(f.op==g.op&&(f.arg==g.arg&&(f.cls==g.cls&&(f.n==g.n&&f.path==g.path)))):=by
  rw[SA,hf,hg];simp[Th]
 obtain⟨o,a,p,c,n,k⟩:=f;obtain⟨o',a',p',c',n',k'⟩:=g;simp only[Fact.kids]at hf hg;subst hf;subst hg;refine iZ kZ ?_;have hs:=Sn;rw[e]
 conv=>whnf
 repeat'((first|apply st|(apply sq;intro K U)|(apply si;intro A B Y Z)|(apply Y;clear Z B Y A)|(apply U;clear U K)|refine⟨rfl,?_⟩|refine Pure.use (bk _ _ _ _) ?_|refine Pure.use (cX _ _ _) ?_|(constructor<;>intro hc<;>(try rw[hc])<;>(replace hc:=bp hc))|fail)<;>conv=>whnf)
 all_goals simp only[Fact.op,Fact.arg,Fact.cls,Fact.n,Fact.path]at *
 all_goals exact AI (by simp[*])
def Tp:Er I8 7:=fun l=>by
 refine⟨rfl,fun v hv=>?_⟩;rcases FQ.1 hv with hv|hv
 ·exact(QE (A5 l).1).2 v (by show v∈Fq (A5 l).1;rw[B5];exact hv)
 ·simp at hv;subst hv;rfl
def Ol (x y:Fact):Bool:=(A5 x).2==(A5 y).2&&Gk (A5 x).1 (A5 y).1
abbrev U7 (l:Fact):Prop:=(A5 l).1.kids= []
abbrev fB (f:Fact→Bool):Fact→Unit→Bool×Unit:=fun y _=>(f y,())
def bo (x:Fact) (hx1:U7 x) (n:Nat):C2 Tryz.prog (.f (.func 257) [] [.p n 0]) (fun y=> .a (I8 y)) (fun _:Unit=>[.box n (I8 x)]) (fB (Ol x)) (fun y _=>U7 y):=by
 intro y s hy1 σ hs;refine Bl ?_;show BC Tryz.prog 257 ([]++[.a (I8 y)]++[.p n 0]) σ _;refine ia kZ ?_;unfold Ol
 conv=>whnf
 repeat'((first|apply st|(apply sq;intro K U)|(apply si;intro A B Y Z)|(apply Y;clear Z B Y A)|(apply U;clear U K)|refine⟨kZ,?_⟩|refine ld ?_|refine Pure.use (bn _ _ hx1 hy1) ?_|(constructor<;>intro hc<;>(try rw[hc])<;>(replace hc:=bp hc))|fail)<;>conv=>whnf)
 all_goals exact AP ⟨by simp[fB, *],hs⟩
section
variable {S:Type} (g:FuncId) (fi ca:List V) (H:S→List At)
def Of (stp:Fact→S→Bool×S) (D:Fact→S→Prop) {v:V} {xs:List Fact} (hst:C2 Tryz.prog (.f (.func g) fi ca) (fun y=> .a (I8 y)) (fun s=> .own v 7 (En xs)::H s) stp D) (hxl:xs.length≤Ae) (s0:S) (hd:TX stp D xs s0) :
    Bd Tryz.prog 272 [v,.f (.func g) fi ca] (.own v 7 (En xs)::H s0) fun r post=>r= .ret (eI (Bj stp xs 0 s0).1)∧post= .own v 7 (En xs)::H (Bj stp xs 0 s0).2:=by
 intro σ hs;have hM:=Mx;refine iT kZ ?_
 conv=>whnf
 repeat'((first|apply st|(apply sq;intro K U)|(apply si;intro A B Y Z)|(apply Y;clear Z B Y A)|(apply U;clear U K)|refine lo ?_|fail)<;>conv=>whnf)
 refine CZ xs.length (fun k (_:S)=>[(8,eI (BL k))]) (fun _ s=> .own v 7 (En xs)::H s) (fun k s=>TX stp D (xs.drop k) s∧Bj stp xs 0 s0=Bj stp (xs.drop k) k s) s0 rfl ⟨hd,rfl⟩ hs ?_;clear hs;rintro k s σ hk ⟨hd,hn⟩ hs;have hck:BL k=k:=AL (by omega);rcases BS xs hk with⟨y,hy,hlt⟩|hke
 ·rw[drop_cons hy]at hn hd
  obtain⟨hd1,hd2⟩:=hd;rw[Bj]at hn
  conv=>whnf
  repeat'((first|apply st|(apply sq;intro K U)|(apply si;intro A B Y Z)|(apply Y;clear Z B Y A)|(apply U;clear U K)|refine⟨rfl,?_⟩|refine⟨kZ,?_⟩|refine oi ?_|refine ol fun x hx=>?_|(refine Cs (fun hc=>?_)<;>(try rw[hc])<;>clear hc)|fail)<;>conv=>whnf)
  obtain rfl:x=y:=by rw[hck,Jb,hy]at hx;exact(Option.some.inj hx).symm
  refine hst.use hd1 hs ?_;clear hs;intro σ hs;cases hyes:(stp x s).1
  ·rw[hyes,if_neg (by decide)]at hn
   conv=>whnf
   repeat'((first|apply st|(apply si;intro A B Y Z)|(apply Y;clear Z B Y A)|(apply U;clear U K)|refine⟨rfl,?_⟩|clear U K)<;>conv=>whnf)
   exact⟨hlt,_,rfl,⟨hd2,hn⟩,hs⟩
  ·rw[hyes,if_pos rfl]at hn
   conv=>whnf
   repeat'((first|apply st|(apply sq;intro K U)|(apply si;intro A B Y Z)|(apply Y;clear Z B Y A)|(apply U;clear U K)|clear U K)<;>conv=>whnf)
   rw[hn];exact AP ⟨_,⟨by rw[hck],rfl⟩,hs⟩
 ·rw[An hke,Bj]at hn
  conv=>whnf
  repeat'((first|apply st|(apply sq;intro K U)|(apply si;intro A B Y Z)|(apply Y;clear Z B Y A)|(apply U;clear U K)|refine⟨rfl,?_⟩|(refine EV (fun hc=>?_)<;>(try rw[hc])<;>clear hc)|clear U K)<;>conv=>whnf)
  rw[hn];exact AP ⟨_,⟨rfl,rfl⟩,hs⟩
def LS (stp:Fact→S→Bool×S) (D:Fact→S→Prop) {v:V} {xs:List Fact} (hst:C2 Tryz.prog (.f (.func g) fi ca) (fun y=> .a (I8 y)) (fun s=> .own v 7 (En xs)::H s) stp D) (hxl:xs.length≤Ae) (s0:S) (hd:TX stp D xs s0) :
    Bd Tryz.prog 256 [v,.f (.func g) fi ca] (.own v 7 (En xs)::H s0) fun r post=>r= .ret (.b (decide ((Bj stp xs 0 s0).1≥0)))∧post= .own v 7 (En xs)::H (Bj stp xs 0 s0).2:=by
 intro σ hs;refine ib kZ ?_
 conv=>whnf
 repeat'((first|(apply sq;intro K U)|(apply si;intro A B Y Z)|(apply Y;clear Z B Y A)|(apply U;clear U K)|fail)<;>conv=>whnf)
 refine(Of g fi ca H stp D hst hxl s0 hd).use (rest:=[]) (by simpa using hs) ?_;rintro r post σ ⟨rfl,rfl⟩ hs
 conv=>whnf
 repeat'((first|apply st|(apply Y;clear Z B Y A)|(apply U;clear U K)|refine⟨rfl,?_⟩|fail)<;>conv=>whnf)
 exact AP ⟨_,⟨rfl,rfl⟩,by simpa using hs⟩
end
def aL (a:List Fact) (f:Bool) (hl:a.length≤1000000):Bd Tryz.prog 255 [.l (En a) f] [] fun r post=> ∃v,r= .ret v∧post= [.own v 7 (En a)]:=by
 intro σ hs;have hM:=Mx;refine ic kZ ?_
 conv=>whnf
 repeat'((first|(apply sq;intro K U)|(apply si;intro A B Y Z)|(apply Y;clear Z B Y A)|(apply U;clear U K)|fail)<;>conv=>whnf)
 refine⟨fun e t=>?_,fun _=>?_⟩
 ·have hxe:a= []:=List.map_eq_nil_iff.1 e
  subst hxe
  conv=>whnf
  repeat'((first|apply st|(apply sq;intro K U)|(apply si;intro A B Y Z)|(apply Y;clear Z B Y A)|(apply U;clear U K)|(constructor<;>intro hc<;>(try rw[hc])<;>(replace hc:=bp hc))|clear U K)<;>conv=>whnf)
  ·exact AP ⟨_,⟨_,rfl,rfl⟩,DK hs 7⟩
  ·replace hs:=DK hs 7
   refine Mj hs 0 (xs:=[]) (ys:=[]) rfl (by simp) Tp fun v σ hs=>?_
   conv=>whnf
   repeat'((first|apply st|(apply Y;clear Z B Y A)|(apply U;clear U K)|fail)<;>conv=>whnf)
   exact AP ⟨_,⟨_,rfl,rfl⟩,hs⟩
 ·conv=>whnf
  repeat'((first|apply st|(apply sq;intro K U)|(apply si;intro A B Y Z)|(apply Y;clear Z B Y A)|(apply U;clear U K)|fail)<;>conv=>whnf)
  replace hs:=DK hs 7;refine Mj hs 0 (xs:=[]) (ys:=a) rfl (by simp;omega) Tp fun v σ hs=>?_
  conv=>whnf
  repeat'((first|apply st|(apply Y;clear Z B Y A)|(apply U;clear U K)|fail)<;>conv=>whnf)
  exact AP ⟨_,⟨_,rfl,rfl⟩,hs⟩
def R6 {w:AK} {x:Fact} (h:Hp w x):x=if(A5 x).2 then Fj (A5 x).1 else(A5 x).1:=by
 obtain⟨g,hn,hl,rfl|rfl⟩:=h
 ·have:=FX hl
  have h5: ¬x.op=5:=by omega
  simp only[A5,if_neg h5];rfl
 ·rfl
def VK {w:AK} {x y:Fact} (hx1:Hp w x) (hy1:Hp w y):Ol x y=Gk x y:=by
 rw[Kk,LD];simp only[Ol,BY,Dn,LD];constructor
 ·rintro⟨h1,h2⟩
  rw[R6 hx1,R6 hy1,h1,h2]
 ·rintro rfl
  exact⟨rfl,rfl⟩
def PJ {w:AK} {x:Fact} (h:Hp w x):U7 x:=by
 obtain⟨-,hn,hl⟩:=Gy h;have hlo:=FX hl;have har:=DB _ hn;rw[KN,BY,Dn]at har
 have h0:B1 (A5 x).1.op=0:=by
  have h5: ¬(A5 x).1.op=5:=by omega
  have h6: ¬((A5 x).1.op=6∨(A5 x).1.op=7):=by omega
  simp[B1,h5,h6]
  try omega
 rw[h0]at har;exact bB.1 har.1
def XG {w:AK} (a b:List Fact) (f g:Bool) (hla: ∀x∈a,Hp w x) (hlb: ∀x∈b,Hp w x) (hl:a.length+b.length<1000000):Pure Tryz.prog 228 [.l (En a) f,.l (En b) g] (.l (En (Cm a b)) false):=by
 have hM:=Mx;refine Pure.of ?_;refine jB kZ ?_;have hs:=Sn
 conv=>whnf
 repeat'((first|(apply sq;intro K U)|(apply si;intro A B Y Z)|(apply Y;clear Z B Y A)|(apply U;clear U K)|fail)<;>conv=>whnf)
 refine(aL a f (by omega)).use (rest:=[]) (by simpa using hs) ?_;clear hs;rintro r post σ ⟨v,rfl,rfl⟩ hs
 conv=>whnf
 repeat'((first|apply st|(apply sq;intro K U)|(apply si;intro A B Y Z)|(apply Y;clear Z B Y A)|(apply U;clear U K)|fail)<;>conv=>whnf)
 refine CZ b.length (fun k v=>[(5,v),(12,eI (BL k))]) (fun k v=>[.own v 7 (En (Cm a (b.take k)))]) (fun _ _=>True) v rfl trivial hs ?_;clear hs;rintro k v σ hk - hs;have hml:=PO a (b.take k);rw[MS]at hml;rcases BS b hk with⟨x,hxk,hlt⟩|hke
 ·have hsn:=UP a (b.take k) x
  rw[←AX hxk]at hsn;have hxg:=hlb x (Cj hxk)
  have hmem: ∀y∈Cm a (b.take k),Hp w y:=fun y hy=>by
   rcases PN _ _ _ hy with h|h
   ·exact hla y h
   ·exact hlb y (List.mem_of_mem_take h)
  generalize Cm a (b.take k)=m at *
  have hany:m.any (Ol x)=m.any (Gk x):=by
   rw[Kk,Ip,Ip];exact⟨fun⟨y,hy,h⟩=>⟨y,hy,by rw[←VK hxg (hmem y hy)];exact h⟩,fun⟨y,hy,h⟩=>⟨y,hy,by rw[VK hxg (hmem y hy)];exact h⟩⟩
  conv=>whnf
  repeat'((first|apply st|(apply sq;intro K U)|(apply si;intro A B Y Z)|(apply Y;clear Z B Y A)|(apply U;clear U K)|refine⟨rfl,?_⟩|refine⟨kZ,?_⟩|refine ix ?_|refine DJ fun σ hs=>?_|(refine Cs (fun hc=>?_)<;>(try rw[hc])<;>clear hc)|(intro nn hnn;generalize hg:A8 _ nn _=σ;refine CW hg fun hs=>?_;clear hg)|fail)<;>conv=>whnf)
  generalize nn=n7 at *;have hs2:Sat σ [.own v 7 (En m),.box n7 (I8 x)]:=hs.perm (.swap _ _ _);clear hs hnn;refine(LS 257 [] [.p n7 0] (fun _:Unit=>[.box n7 (I8 x)]) (fB (Ol x)) (fun y _=>U7 y) ((bo x (PJ hxg) n7).more [_]) (by omega) () (GW fun y hy _=>PJ (hmem y hy))).use (rest:=[]) hs2 ?_;clear hs2;rintro r post σ ⟨rfl,rfl⟩ hs;rw[KJ,hany];cases hy:m.any (Gk x)
  ·rw[hy,if_neg Bool.false_ne_true]at hsn
   conv=>whnf
   repeat'((first|apply st|(apply si;intro A B Y Z)|(apply Y;clear Z B Y A)|(apply U;clear U K)|refine⟨kZ,?_⟩|refine ld ?_|refine E7 ?_|fail)<;>conv=>whnf)
   refine HS (Fo (x:=x) (xs:=m) (enc:=I8) hs 0 rfl (by omega) Tp fun v σ hs hsl=>?_)
   conv=>whnf
   repeat'((first|(apply si;intro A B Y Z)|(apply Y;clear Z B Y A)|(apply U;clear U K)|refine⟨rfl,?_⟩|clear U K)<;>conv=>whnf)
   exact⟨hlt,v,rfl,trivial,by rw[hsn];exact hs.less (.cons₂ _ (Lx _))⟩
  ·rw[hy,if_pos rfl]at hsn
   conv=>whnf
   repeat'((first|apply st|(apply si;intro A B Y Z)|(apply Y;clear Z B Y A)|(apply U;clear U K)|refine⟨rfl,?_⟩|refine EA ?_|clear U K)<;>conv=>whnf)
   exact⟨hlt,v,rfl,trivial,by rw[hsn];exact hs.less (.cons₂ _ (Lx _))⟩
 ·conv=>whnf
  repeat'((first|apply st|(apply sq;intro K U)|(apply si;intro A B Y Z)|(apply Y;clear Z B Y A)|(apply U;clear U K)|refine⟨rfl,?_⟩|(refine EV (fun hc=>?_)<;>(try rw[hc])<;>clear hc)|clear U K)<;>conv=>whnf)
  exact Xu (Fw hs 0 rfl (vf:= .l (En (Cm a b)) false) (by rw[BK hke])) fun r σ h=>h.1
end Go.Gl
namespace Go.Gl
open Go.Proofs
abbrev ZI:AJ:=(.seq [0,3] (.A4 [⟨(some 3),.RX (.t 1),none⟩,
 ⟨(some 4),.mv (.c .pn),none⟩])
 (.seq [0,3,5,6] (.Ba [0,3,5,6] [⟨0,⟨(some 8),.mv (.t 0),none⟩,[],[]⟩,
  ⟨1,⟨(some 9),.FD (.t 8),none⟩,[],[]⟩,
  ⟨2,⟨(some 10),.Iy 1 (.t 9),none⟩,[],[]⟩,
  ⟨3,⟨(some 11),.load none (.t 10),none⟩,[],[]⟩,
  ⟨4,⟨(some 12),.load (some 4) (.t 3),none⟩,[],[]⟩,
  ⟨5,⟨(some 13),.lookup (.a [.i64,.i64,.i64,.i64]) .pn true (.t 11) (.t 12),none⟩,[],[]⟩,
  ⟨6,⟨(some 7),.mv (.t 13),none⟩,[],[]⟩,
  ⟨7,⟨(some 14),.extract 0 (.t 7),none⟩,[],[]⟩,
  ⟨8,⟨(some 15),.extract 1 (.t 7),none⟩,[],[]⟩,
  ⟨9,⟨(some 5),.mv (.t 14),none⟩,[],[]⟩,
  ⟨10,⟨(some 6),.mv (.t 15),none⟩,[],[]⟩])
 (.seq [5] (.seq [0,3,5,17] (.A4 [⟨(some 16),.mv (.t 6),none⟩,
  ⟨(some 17),.not (.t 16),none⟩])
 (.cond (.t 17)
 (.seq [0,3,5] (.A4 [⟨(some 18),.build [(.i .i64 0),(.i .i64 0),(.l [] true)] [(0,1,(.c (.i .i64 (-1000000000)))),(1,1,(.c (.i .i64 1000000000)))],none⟩,
  ⟨(some 19),.build [(.i .i64 0),(.i .i64 0),(.l [] true),(.i .u64 0),(.i .u64 0),(.b false),(.b false),(.l [] true)] [(0,3,(.t 18))],none⟩,
  ⟨(some 20),.box (.t 19),none⟩,
  ⟨(some 5),.mv (.t 20),none⟩])
 (.Ba [5] [⟨0,⟨(some 21),.mv (.t 0),none⟩,[],[]⟩,
  ⟨1,⟨(some 22),.FD (.t 21),none⟩,[],[]⟩,
  ⟨2,⟨(some 23),.Iy 1 (.t 22),none⟩,[],[]⟩,
  ⟨3,⟨(some 24),.load none (.t 23),none⟩,[],[]⟩,
  ⟨4,⟨(some 25),.load (some 4) (.t 3),none⟩,[],[]⟩,
  ⟨5,⟨(some 26),.mv (.t 5),none⟩,[],[]⟩,
  ⟨6,⟨none,.D0 (.a [.i64,.i64,.i64,.i64]) (.t 24) (.t 25) (.t 26),none⟩,[],[]⟩]))
 .skip))
 (.seq [4] (.A4 [⟨(some 27),.mv (.t 5),none⟩,
  ⟨(some 4),.mv (.t 27),none⟩])
 .ret))))
def bq:Tryz.f275.body.bind (res Tryz.prog Tryz.f275.ntmps [] [3])=some (erase ZI):=by kernel_rfl
def dF {args:List V} (hn:args.length≤28) {σ:AH} {Q:R→AH→Prop} (h:W Tryz.prog ZI (bS [4] Q) (Cv 0 args) σ):BC Tryz.prog 275 args σ Q:=
 N9 Tryz.func275 (by kernel_rfl) bq rfl hn (e8 h)
end Go.Gl
namespace Go.Gl
open Go.Proofs
attribute [local irreducible] BC Ax Ai AU AO Ag AV AW AM Af AR AT A0 A9 Sat Ab A6 Ak W
abbrev RC (w:AK) (us:List Nat) (L:Nat):V:= .rp [.rp (wC w us),.m L]
def OT (es es':List Cz):Prop:= ∃new:List Cz,es'=es++new∧ ∀x∈new,x.k=k0
def OT.refl (es:List Cz):OT es es:=⟨[],by simp,by simp⟩
def OT.trans {a b c:List Cz} (h1:OT a b) (h2:OT b c):OT a c:=by
 obtain⟨x,rfl,hx⟩:=h1;obtain⟨y,rfl,hy⟩:=h2;refine⟨x++y,by simp,fun z hz=>?_⟩;rcases FQ.1 hz with h|h
 ·exact hx z h
 ·exact hy z h
def OT.mem {a b:List Cz} (h:OT a b) {e:Cz} (he:e∈a):e∈b:=by
 obtain⟨x,rfl,_⟩:=h;exact OO _ he
structure fV (kf:Int→List Int→Kn) (es es':List Cz) (a:Int) (p:List Int) (e:Cz):Prop where
 inv:Dq kf es'
 ext:OT es es'
 mem:e∈es'
 is:e.is a p=true
def fV.k {kf:Int→List Int→Kn} {es es':List Cz} {a:Int} {p:List Int} {e:Cz} (h:fV kf es es' a p e):e.k=kf a p:=by
 have:=h.inv.val e h.mem;obtain⟨h1,h2⟩:=JE.1 h.is;rw[this,h1,h2]
def K3 {σ:AH} {l:List At} (h:Sat σ l) (i:Nat) {n:Nat} {kvs:List (V×V)} {ks:KS} {z vk:V} {ok:Bool} {o:Option V} (hi:l[i]? =some (.map n kvs)) (hk:Bo ks vk=true) (hks: ∀kv∈kvs,Bo ks kv.1=true) (hf:C6 vk kvs=o) {K:V→Prop} (h':K (found z ok o)) :
    AR σ ks z ok (.m n) vk K:=IQ h i hi hk hks (hf ▸ h')
def Jr (w:AK) (us:List Nat) {kf:Int→List Int→Kn} {L:Nat} {es:List Cz} (h:Dq kf es) {a:Int} {p:List Int} (hp:p.length≤2) :
    Bd Tryz.prog 275 [RC w us L,EL a p] (B3 L es) fun r post=> ∃es' e,fV kf es es' a p e∧r= .ret (.p e.b 0)∧post=B3 L es':=by
 intro σ hs;refine dF kZ ?_;unfold B3 at hs;rcases dk a p es with hn|⟨pre,e,post,rfl,he,hpre⟩
 ·have hf:=SO hp h.len hn
  conv=>whnf
  repeat'((first|apply st|(apply sq;intro K U)|(apply si;intro A B Y Z)|(apply Y;clear Z B Y A)|(apply U;clear U K)|apply dr|refine⟨kZ,?_⟩|refine E7 ?_|refine K3 hs 0 rfl rfl (NG _) hf ?_|refine HL hs 1 rfl rfl (NG _) fun σ hs=>?_|(intro nn hnn;generalize hg:A8 _ nn _=σ;refine CW hg fun hs=>?_;clear hg)|fail)<;>conv=>whnf)
  simp only[List.set_cons_succ,List.set_cons_zero]at hs;change Sat σ (_:: .map L (D5 (EL a p) (.p nn 0) (TO es))::_)at hs;rw[Yj hp nn (.l [] true) (.l [] true) k0 h.len hn]at hs;have hs2:=DK (DK hs 1) 1;refine AP ⟨_,⟨es++[⟨a,p,nn,.l [] true,.l [] true,k0⟩],⟨a,p,nn,.l [] true,.l [] true,k0⟩,⟨h.add hp hn _ _ _,⟨_,rfl,by simp⟩,by simp,by simp[Cz.is]⟩,rfl,rfl⟩,?_⟩;unfold B3;rw[List.flatMap_append,List.flatMap_cons,List.flatMap_nil,Hs];refine hs2.perm ((List.perm_middle (l₁:=[_,_,_])).trans (.cons _ (Q8.trans (List.Perm.append_left _ (List.reverse_perm _).symm))))
 ·have hf:=SN hp he h.len hpre
  conv=>whnf
  repeat'((first|apply st|(apply sq;intro K U)|(apply si;intro A B Y Z)|(apply Y;clear Z B Y A)|(apply U;clear U K)|apply dr|refine⟨kZ,?_⟩|refine EA ?_|refine K3 hs 0 rfl rfl (NG _) hf ?_|fail)<;>conv=>whnf)
  exact AP ⟨_,⟨_,e,⟨h,.refl _,by simp,he⟩,rfl,rfl⟩,hs⟩
def MK (a:Int) (p:List Int) (s:Int) (hp:p.length<2):Pure Tryz.prog 276 [EL a p,eI s] (EL a (p++[s])):=by
 refine iQ kZ ?_;have hs:=Sn
 match p,hp with
 | [],_=>
   conv=>whnf
   repeat'((first|apply st|(apply sq;intro K U)|(apply si;intro A B Y Z)|(apply Y;clear Z B Y A)|(apply U;clear U K)|refine⟨rfl,?_⟩|refine⟨kZ,?_⟩|refine TQ ?_|refine ld ?_|refine El fun σ hs=>?_|refine DJ fun σ hs=>?_|(intro nn hnn;generalize hg:A8 _ nn _=σ;refine CW hg fun hs=>?_;clear hg)|fail)<;>conv=>whnf)
   all_goals exact AI rfl
 | [x],_=>
   conv=>whnf
   repeat'((first|apply st|(apply sq;intro K U)|(apply si;intro A B Y Z)|(apply Y;clear Z B Y A)|(apply U;clear U K)|refine⟨rfl,?_⟩|refine⟨kZ,?_⟩|refine TQ ?_|refine ld ?_|refine El fun σ hs=>?_|refine DJ fun σ hs=>?_|(intro nn hnn;generalize hg:A8 _ nn _=σ;refine CW hg fun hs=>?_;clear hg)|fail)<;>conv=>whnf)
   all_goals exact AI rfl
set_option maxHeartbeats 1000000 in
def lH {b:Nat} {vn vs:V} {k:Kn} (f:Fact) (c:Bool) (hl:f.op=2∨f.op=3∨f.op=4) (hc:f.op=2→0≤f.cls∧f.cls<64) (hm:k.CM<18446744073709551616) (hn:k.F7<18446744073709551616) (hno:k.no.length<1000000) (hN: -1000000000≤f.n∧f.n≤1000000000) :
    Bd Tryz.prog 277 [.p b 0,.a (xF f++[.b c])] (fS b vn vs k) fun r post=>r= .ret (.t [])∧ ∃vn',post=fS b vn' vs (Ci k f c):=by
 intro σ hs;have hM:=Mx;refine iP kZ ?_;rw[show xF f++[V.b c]= [eI f.op,eI f.arg,.l (iL f.path) false,eI f.cls,eI f.n,.l (f.kids.map Fq) false,.b c] from rfl];have hw:IntKind.i64.wrap (f.n - 1)=f.n - 1:=wrap64 (by omega) (by omega);cases c<;>rcases hl with h2|h3|h4
 ·have hE:Ci k f false= {k with CM:=k.CM|||2 ^ f.cls.toNat}:=by rw[Ci,if_pos h2,if_neg Bool.false_ne_true]
  rw[hE]
  conv=>whnf
  repeat'((first|apply st|(apply sq;intro K U)|(apply si;intro A B Y Z)|(apply Y;clear Z B Y A)|(apply U;clear U K)|apply dr|refine⟨rfl,?_⟩|refine ld ?_|refine El fun σ hs=>?_|refine EA ?_|refine Pure.use (Gt _ _ hm (by omega) (by omega)) ?_|(constructor<;>intro hc<;>(try rw[hc])<;>(replace hc:=bp hc)<;>try(exfalso;omega))|fail)<;>conv=>whnf)
  exact AP ⟨_,⟨rfl,vn,rfl⟩,hs⟩
 ·have hE:Ci k f false= {k with high:=if f.n - 1<k.high then f.n - 1 else k.high,whole:=true}:=by rw[Ci,if_neg (by omega),if_pos h3,if_neg Bool.false_ne_true]
  rw[hE]
  conv=>whnf
  repeat'((first|apply st|(apply sq;intro K U)|(apply si;intro A B Y Z)|(apply Y;clear Z B Y A)|(apply U;clear U K)|apply dr|refine⟨rfl,?_⟩|refine ld ?_|refine El fun σ hs=>?_|refine EA ?_|(constructor<;>intro hc<;>(try rw[hc])<;>(replace hc:=bp hc)<;>try(exfalso;omega))|fail)<;>conv=>whnf)
  rw[hw]at hs;exact AP ⟨_,⟨rfl,vn,rfl⟩,hs⟩
 ·have hE:Ci k f false= {k with low:=if f.n > k.low then f.n else k.low,high:=if f.n<k.high then f.n else k.high,whole:=true}:=by rw[Ci,if_neg (by omega),if_neg (by omega),if_neg Bool.false_ne_true]
  rw[hE]
  conv=>whnf
  repeat'((first|apply st|(apply sq;intro K U)|(apply si;intro A B Y Z)|(apply Y;clear Z B Y A)|(apply U;clear U K)|apply dr|refine rk ?_ ?_|exact fun s e=>by cases e;rfl|refine⟨rfl,?_⟩|refine ld ?_|refine El fun σ hs=>?_|(constructor<;>intro hc<;>(try rw[hc])<;>(replace hc:=bp hc)<;>try(exfalso;omega))|fail)<;>conv=>whnf)
  exact AP ⟨_,⟨rfl,vn,rfl⟩,hs⟩
 ·have hE:Ci k f true= {k with F7:=k.F7|||2 ^ f.cls.toNat}:=by rw[Ci,if_pos h2,if_pos rfl]
  rw[hE]
  conv=>whnf
  repeat'((first|apply st|(apply sq;intro K U)|(apply si;intro A B Y Z)|(apply Y;clear Z B Y A)|(apply U;clear U K)|apply dr|refine⟨rfl,?_⟩|refine ld ?_|refine El fun σ hs=>?_|refine E7 ?_|refine Pure.use (Gt _ _ hn (by omega) (by omega)) ?_|(constructor<;>intro hc<;>(try rw[hc])<;>(replace hc:=bp hc)<;>try(exfalso;omega))|fail)<;>conv=>whnf)
  exact AP ⟨_,⟨rfl,vn,rfl⟩,hs⟩
 ·have hE:Ci k f true= {k with low:=if f.n > k.low then f.n else k.low}:=by rw[Ci,if_neg (by omega),if_pos h3,if_pos rfl]
  rw[hE]
  conv=>whnf
  repeat'((first|apply st|(apply sq;intro K U)|(apply si;intro A B Y Z)|(apply Y;clear Z B Y A)|(apply U;clear U K)|apply dr|refine⟨rfl,?_⟩|refine ld ?_|refine El fun σ hs=>?_|refine E7 ?_|(constructor<;>intro hc<;>(try rw[hc])<;>(replace hc:=bp hc)<;>try(exfalso;omega))|fail)<;>conv=>whnf)
  exact AP ⟨_,⟨rfl,vn,rfl⟩,hs⟩
 ·have hE:Ci k f true= {k with no:=k.no++[f.n]}:=by rw[Ci,if_neg (by omega),if_neg (by omega),if_pos rfl]
  rw[hE]
  conv=>whnf
  repeat'((first|apply st|(apply sq;intro K U)|(apply si;intro A B Y Z)|(apply Y;clear Z B Y A)|(apply U;clear U K)|apply dr|refine⟨rfl,?_⟩|refine ld ?_|refine El fun σ hs=>?_|refine aq fun v σ hs hsl=>?_|(constructor<;>intro hc<;>(try rw[hc])<;>(replace hc:=bp hc)<;>try(exfalso;omega))|fail)<;>conv=>whnf)
  exact AP ⟨_,⟨rfl,_,rfl⟩,hs⟩
def Gn {σ:AH} {X:List At} {L:Nat} {pre post:List Cz} {e:Cz} (h:Sat σ (X++B3 L (pre++e::post))):Sat σ (.box e.b [eI e.k.low,eI e.k.high,e.vn,eU e.k.CM,eU e.k.F7,.b e.k.whole,.b e.k.A1,e.vs]:: .own e.vn 1 (iL e.k.no):: .own e.vs 1 (iL e.k.AS)::(X++Gm L (pre++e::post) pre post)):=by
 have h2:Sat σ (Rq e++(X++Gm L (pre++e::post) pre post)):=h.perm ((List.Perm.append_left X (SU L pre post e)).trans (by rw[←TW,←TW];exact Q8.append_right _));exact h2
def EE {σ:AH} {X:List At} {L:Nat} {pre post:List Cz} {e e':Cz} (h1:e'.a=e.a) (h2:e'.p=e.p) (h3:e'.b=e.b) (h:Sat σ (Rq e'++(X++Gm L (pre++e::post) pre post))):Sat σ (X++B3 L (pre++e'::post)):=by
 rw[←Qo h1 h2 h3]at h;exact h.perm ((List.Perm.append_left X (SU L pre post e')).trans (by rw[←TW,←TW];exact Q8.append_right _)).symm
def HZ {α:Type} (a b c:α) (l:List α):(a::b::c::l).Perm (b::c::a::l):=(List.Perm.swap _ _ _).trans (.cons _ (.swap _ _ _))
def LK {α:Type} (a:α) (l:List α):(a::l).Perm (l++[a]):=(List.perm_append_singleton a l).symm
def dd (m:Nat) (k:Kn):Prop:=k.CM<18446744073709551616∧k.F7<18446744073709551616∧k.no.length≤m∧k.AS.length≤m
def cR (f:Fact) (c:Bool) (j:Nat) (a:Int) (p:List Int) (k:Kn):(DW f c j a p k).CM=k.CM:=by unfold DW;(repeat' split)<;>rfl
def gj (f:Fact) (c:Bool) (j:Nat) (a:Int) (p:List Int) (k:Kn):(DW f c j a p k).F7=k.F7:=by unfold DW;(repeat' split)<;>rfl
def mU (f:Fact) (c:Bool) (j:Nat) (a:Int) (p:List Int) (k:Kn):(DW f c j a p k).no=k.no:=by unfold DW;(repeat' split)<;>rfl
def Zz (f:Fact) (c:Bool) (j:Nat) (a:Int) (p:List Int) (k:Kn):(DW f c j a p k).AS.length≤k.AS.length+1:=by
 unfold DW
 repeat' split
 ·exact Pr _ _
 all_goals simp[De]
def mT {m:Nat} {k:Kn} (h:dd m k) (f:Fact) (c:Bool) (j:Nat) (a:Int) (p:List Int):dd (m+1) (DW f c j a p k):=by
 obtain⟨h1,h2,h3,h4⟩:=h;refine⟨by rw[cR];exact h1,by rw[gj];exact h2,by rw[mU];omega,?_⟩;have:=Zz f c j a p k;omega
def PH {k:Kn} (c:Bool) (h:k.A1=true):De k c= {k with A1:=true}:=by simp[De,h]
def Nt {k:Kn} (c:Bool) (h:k.A1=false):De k c= {k with A1:= !c}:=by simp[De,h]
abbrev Jc (a:Int) (p:List Int):List V:=[eI a,eI (p.length:Int),eI (p.getD 0 0),eI (p.getD 1 0)]
structure YT (f:Fact):Prop where
 op:f.op=2∨f.op=3∨f.op=4
 path:f.path.length≤2
 cls:f.op=2→0≤f.cls∧f.cls<64
 n: -1000000000≤f.n∧f.n≤1000000000
set_option maxHeartbeats 2000000 in
def dX (w : AK) (us:List Nat) {kf:Int→List Int→Kn} {L:Nat} {es:List Cz} (h:Dq kf es) (f:Fact) (c:Bool) (hl:YT f) {m:Nat} (hm:m<1000) (hb: ∀a p,dd m (kf a p)) :
    Bd Tryz.prog 259 [RC w us L,.a (xF f++[.b c])] (B3 L es) fun r post=>r= .ret (.t [])∧ ∃es',Dq (fun a p=>if a=f.arg∧p=f.path then Ci (DW f c f.path.length a p (kf a p)) f c else DW f c f.path.length a p (kf a p)) es'∧post=B3 L es':=by
 intro σ hs;have hM:=Mx;obtain⟨l1,l2,l3,l4⟩:=hl;refine iY kZ ?_;rw[show xF f++[V.b c]= [eI f.op,eI f.arg,.l (iL f.path) false,eI f.cls,eI f.n,.l (f.kids.map Fq) false,.b c] from rfl]
 conv=>whnf
 repeat'((first|apply st|(apply sq;intro K U)|(apply si;intro A B Y Z)|(apply Y;clear Z B Y A)|(apply U;clear U K)|refine⟨kZ,?_⟩|refine ld ?_|refine DJ fun σ hs=>?_|(intro nn hnn;generalize hg:A8 _ nn _=σ;refine CW hg fun hs=>?_;clear hg)|fail)<;>conv=>whnf)
 generalize nn=nx at *;refine(Jr w us h (a:=f.arg) (p:=[]) (by simp)).use (rest:=[.box nx (Jc f.arg [])]) (hs.perm (LK _ _)) ?_;clear hs hnn;rintro r post σ ⟨es1,e1,got,rfl,rfl⟩ hs;have hek:=got.k;obtain⟨hea,hep⟩:=JE.1 got.is;obtain⟨pre,post,rfl⟩:=List.append_of_mem got.mem;replace hs:=Gn (X:=[.box nx (Jc f.arg [])]) (hs.perm Q8);cases hnd:e1.k.A1<;>rw[hnd]at hs
 all_goals
  conv=>whnf
  repeat'((first|apply st|(apply sq;intro K U)|(apply si;intro A B Y Z)|(apply Y;clear Z B Y A)|(apply U;clear U K)|refine ld ?_|refine El fun σ hs=>?_|fail)<;>conv=>whnf)
  obtain⟨e2,es2,Y,Z,hC⟩: ∃(e2:Cz) (es2:List Cz),(Dq (fun a p=>DW f c 0 a p (kf a p)) es2∧e2∈es2∧e2.is f.arg (f.path.take 0)=true)∧e2.b=e1.b∧Sat σ (.box nx (Jc f.arg (f.path.take 0))::B3 L es2):=by
   refine⟨⟨e1.a,e1.p,e1.b,e1.vn,e1.vs,De e1.k c⟩,_,⟨(got.inv.change e1.b e1.vn e1.vs (De e1.k c)).congr fun a p=>?_,OK _ (.head _),got.is⟩,rfl,?_⟩
   ·rw[cP,RN,hea,hep,hek]
    by_cases ha:a=f.arg∧p= []
    ·rw[if_pos ha,if_pos ha,ha.1,ha.2]
    ·rw[if_neg ha,if_neg ha]
   ·refine EE (X:=[.box nx (Jc f.arg [])]) (e:=e1) rfl rfl rfl ?_
    first
     | (rw[PH c hnd];exact hs)
     | (rw[Nt c hnd];exact hs)
  rw[←Z];clear hs hnd got hek hea hep;refine CZ f.path.length (fun j (x:List Cz×Cz)=>[(31,eI (BL j)),(5,.p x.2.b 0)]) (fun j x=> .box nx (Jc f.arg (f.path.take j))::B3 L x.1) (fun j x=>Dq (fun a p=>DW f c j a p (kf a p)) x.1∧x.2∈x.1∧x.2.is f.arg (f.path.take j)=true) (es2,e2) rfl Y hC ?_;clear Y hC;generalize e2.b=b0 at *;clear Z e2 es2;rintro j ⟨es2,e2⟩ σ hj ⟨hinv,hmem,his⟩ hs;simp only at hinv hmem his hs
  have hek:e2.k=DW f c j f.arg (f.path.take j) (kf f.arg (f.path.take j)):=by
   have:=hinv.val e2 hmem;obtain⟨h1,h2⟩:=JE.1 his;rw[this,h1,h2]
  have hok:dd (m+1) e2.k:=by rw[hek];exact mT (hb _ _) f c j _ _
  obtain⟨hea,hep⟩:=JE.1 his;obtain⟨pre2,post2,rfl⟩:=List.append_of_mem hmem;replace hs:=Gn (X:=[.box nx (Jc f.arg (f.path.take j))]) hs;have hck:BL j=j:=AL (by omega);rcases BS f.path hj with⟨s,hsj,hjlt⟩|hje
  ·have hct:=fun b=>Dl e2.k.AS b s
   have hk4:=hok.2.2.2;have hsl0:aw e2.k s= {e2.k with AS:=H7 e2.k.AS s}:=rfl
   have hne:f.path.take j++[s]≠f.path.take j:=by
    intro e;have:=congrArg List.length e;simp at this
   have hgd:f.path.getD j 0=s:=by rw[Dc,hsj];rfl
   have htk:f.path.take (j+1)=f.path.take j++[s]:=AX hsj;cases hcB:e2.k.AS.contains s
   all_goals
    rw[hcB]at hct
    conv=>whnf
    repeat'((first|apply st|(apply sq;intro K U)|(apply si;intro A B Y Z)|(apply Y;clear Z B Y A)|(apply U;clear U K)|refine⟨rfl,?_⟩|refine⟨kZ,?_⟩|refine ix ?_|refine ld ?_|refine El fun σ hs=>?_|refine DJ fun σ hs=>?_|refine aq fun v σ hs hsl=>?_|refine E7 ?_|refine EA ?_|(refine Cs (fun hc=>?_)<;>(try rw[hc])<;>clear hc)|refine Pure.YC (hct false) (.cons (hs.RL 2 rfl) (.cons (.refl _) .nil)) rfl ?_|refine Pure.use (MK f.arg (f.path.take j) s (by rw[MS];omega)) ?_|fail)<;>conv=>whnf)
   refine(YJ (.inl hsl)).use (rest:=_) (hs.front (j:=2) rfl) ?_;clear hs;rintro r post σ ⟨rfl,rfl⟩ hs;replace hs:Sat σ (.box e2.b [eI e2.k.low,eI e2.k.high,e2.vn,eU e2.k.CM,eU e2.k.F7,.b e2.k.whole,.b e2.k.A1,v]:: .own e2.vn 1 (iL e2.k.no):: .own v 1 (iL ((e2.k.AS++[s]).mergeSort Ga))::([.box nx (Jc f.arg (f.path.take j))]++Gm L (pre2++e2::post2) pre2 post2)):=hs.perm (HZ _ _ _ _)
   conv=>whnf
   repeat'((first|(apply sq;intro K U)|(apply si;intro A B Y Z)|(apply Y;clear Z B Y A)|(apply U;clear U K)|refine⟨kZ,?_⟩|refine ld ?_|refine DJ fun σ hs=>?_|refine Pure.use (MK f.arg (f.path.take j) s (by rw[MS];omega)) ?_|fail)<;>conv=>whnf)
   have hs3: ∃vs3,Sat σ (.box nx (Jc f.arg (f.path.take j++[s]))::B3 L (pre2++⟨e2.a,e2.p,e2.b,e2.vn,vs3,aw e2.k s⟩::post2)):=⟨v,EE (X:=[_]) (e:=e2) rfl rfl rfl (by rw[hsl0,H7,if_neg (by rw[hcB];decide)];exact hs)⟩
   rotate_left
   have hs3: ∃vs3,Sat σ (.box nx (Jc f.arg (f.path.take j++[s]))::B3 L (pre2++⟨e2.a,e2.p,e2.b,e2.vn,vs3,aw e2.k s⟩::post2)):=⟨e2.vs,EE (X:=[_]) (e:=e2) rfl rfl rfl (by rw[hsl0,H7,if_pos hcB];exact hs)⟩
   all_goals
    clear hs;obtain⟨vs3,hs⟩:=hs3;have hinv3:=hinv.change e2.b e2.vn vs3 (aw e2.k s);refine(Jr w us hinv3 (a:=f.arg) (p:=f.path.take j++[s]) (by rw[RA,MS];simp;omega)).use (rest:=[.box nx (Jc f.arg (f.path.take j++[s]))]) (hs.perm (LK _ _)) ?_;clear hs;rintro r post σ ⟨es4,e4,got,rfl,rfl⟩ hs;have hek4:=got.k;obtain⟨hea4,hep4⟩:=JE.1 got.is;obtain⟨pre4,post4,rfl⟩:=List.append_of_mem got.mem;replace hs:=Gn (X:=[.box nx (Jc f.arg (f.path.take j++[s]))]) (hs.perm Q8);cases hnd:e4.k.A1<;>rw[hnd]at hs
    all_goals
     conv=>whnf
     repeat'((first|apply st|(apply si;intro A B Y Z)|(apply Y;clear Z B Y A)|(apply U;clear U K)|refine⟨rfl,?_⟩|refine ld ?_|refine El fun σ hs=>?_|clear U K)<;>conv=>whnf)
     refine⟨hjlt,(pre4++⟨e4.a,e4.p,e4.b,e4.vn,e4.vs,De e4.k c⟩::post4,⟨e4.a,e4.p,e4.b,e4.vn,e4.vs,De e4.k c⟩),rfl,⟨(got.inv.change e4.b e4.vn e4.vs (De e4.k c)).congr fun a p=>?_,OK _ (.head _),by rw[htk];exact got.is⟩,?_⟩
     ·rw[cQ f c hjlt,RN,hea4,hep4,htk,hgd]
      by_cases h1:a=f.arg∧p=f.path.take j++[s]
      ·rw[if_pos h1,if_pos h1,hek4,RN,hea,hep,if_neg (fun h=>hne h.2),h1.1,h1.2]
      ·rw[if_neg h1,if_neg h1,RN,hea,hep]
       by_cases h2:a=f.arg∧p=f.path.take j
       ·rw[if_pos h2,if_pos h2,hek,h2.1,h2.2]
       ·rw[if_neg h2,if_neg h2]
     ·rw[htk]
      refine EE (X:=[.box nx (Jc f.arg (f.path.take j++[s]))]) (e:=e4) rfl rfl rfl ?_
      first
       | (rw[PH c hnd];exact hs)
       | (rw[Nt c hnd];exact hs)
  ·have etk:f.path.take j=f.path:=BK hje
   rw[etk]at his hs hek hep
   conv=>whnf
   repeat'((first|apply st|(apply sq;intro K U)|(apply si;intro A B Y Z)|(apply Y;clear Z B Y A)|(apply U;clear U K)|refine⟨rfl,?_⟩|refine⟨kZ,?_⟩|(refine EV (fun hc=>?_)<;>(try rw[hc])<;>clear hc)|clear U K)<;>conv=>whnf)
   refine(lH f c l1 l3 hok.1 hok.2.1 (by have:=hok.2.2.1;omega) l4).use (rest:=[.box nx (Jc f.arg f.path)]++Gm L (pre2++e2::post2) pre2 post2) hs ?_;rintro r post σ ⟨rfl,vn',rfl⟩ hs
   conv=>whnf
   repeat'((first|(apply Y;clear Z B Y A)|fail)<;>conv=>whnf)
   refine AP ⟨_,⟨rfl,_,(hinv.change e2.b vn' e2.vs (Ci e2.k f c)).congr fun a p=>?_,rfl⟩,(EE (X:=[.box nx (Jc f.arg f.path)]) (e:=e2) (e':=⟨e2.a,e2.p,e2.b,vn',e2.vs,Ci e2.k f c⟩) rfl rfl rfl hs).less (Kh _ _)⟩;rw[RN,hea,hep,hek,←hje];by_cases h1:a=f.arg∧p=f.path
   ·rw[if_pos h1,if_pos h1,h1.1,h1.2]
   ·rw[if_neg h1,if_neg h1]
def lL (w:AK) (us:List Nat) {kf:Int→List Int→Kn} {L:Nat} {es:List Cz} (h:Dq kf es) (l:Fact) (hl:YT (A5 l).1) {m:Nat} (hm:m<1000) (hb: ∀a p,dd m (kf a p)) :
    Bd Tryz.prog 259 [RC w us L,.a (I8 l)] (B3 L es) fun r post=>r= .ret (.t [])∧ ∃es',Dq (fun a p=>DA a p (kf a p) l) es'∧post=B3 L es':=fun σ hs=>
 BC.mono (dX w us h (A5 l).1 (A5 l).2 hl hm hb σ hs) fun r σ' ⟨post,⟨h1,es',h2,h3⟩,h4⟩=>⟨post,⟨h1,es',h2.congr fun a p=>(gk a p (kf a p) l).symm,h3⟩,h4⟩
def T0 (ls:List Fact):Prop:= ∀l∈ls,YT (A5 l).1
def Yk {ls:List Fact} (h:T0 ls) (a:Int) (p:List Int):dd ls.length (kn ls a p):=by
 have hc:Hv 64 ls:=fun l hl ho=>(h l hl).cls ho
 obtain⟨h1,h2⟩:=cW hc a p;obtain⟨h3,h4⟩:=Yl a p ls k0;exact⟨by simpa using h1,by simpa using h2,by simpa[kn,k0]using h3,by simpa[kn,k0]using h4⟩
def sK:Dq (kn []) []:=⟨fun x hx=>(by cases hx),fun a p _=>rfl,.nil,fun x hx=>(by cases hx)⟩
set_option maxHeartbeats 1000000 in
def ZX (w:AK) (us:List Nat) (ls:List Fact) (b:Bool) (h:T0 ls) (hlen:ls.length<900) :
    Bd Tryz.prog 230 [.rp (wC w us),.l (En ls) b] [] fun r post=> ∃L es,r= .ret (RC w us L)∧Dq (kn ls) es∧post=B3 L es:=by
 intro σ hs;have hM:=Mx;refine jA kZ ?_
 conv=>whnf
 repeat'((first|apply st|(apply sq;intro K U)|(apply si;intro A B Y Z)|(apply Y;clear Z B Y A)|(apply U;clear U K)|(intro nn hnn;generalize hg:A8 _ nn _=σ;refine CW hg fun hs=>?_;clear hg)|fail)<;>conv=>whnf)
 generalize nn=L at *;refine CZ ls.length (fun k (x:List Cz)=>[(14,eI (BL k))]) (fun k x=>B3 L x) (fun k x=>Dq (kn (ls.take k)) x) [] rfl sK hs ?_;clear hs hnn;rintro k es σ hk hinv hs;rcases BS ls hk with⟨l,hlk,hlt⟩|hke
 ·have hlm:l∈ls:=Cj hlk
  have htk:ls.take (k+1)=ls.take k++[l]:=AX hlk;have hbk: ∀a p,dd (ls.take k).length (kn (ls.take k) a p):=Yk fun x hx=>h x (List.mem_of_mem_take hx)
  conv=>whnf
  repeat'((first|apply st|(apply sq;intro K U)|(apply si;intro A B Y Z)|(apply Y;clear Z B Y A)|(apply U;clear U K)|refine⟨rfl,?_⟩|refine⟨kZ,?_⟩|refine ix ?_|refine ld ?_|refine DJ fun σ hs=>?_|(refine Cs (fun hc=>?_)<;>(try rw[hc])<;>clear hc)|(intro nn hnn;generalize hg:A8 _ nn _=σ;refine CW hg fun hs=>?_;clear hg)|fail)<;>conv=>whnf)
  rename_i nb hnb _ hs;generalize nn=n7 at *;refine(lL w us hinv l (h l hlm) (m:=(ls.take k).length) (by rw[MS];omega) hbk).use (rest:=[.box n7 (I8 l)]) (hs.perm (LK _ _)) ?_;clear hs;rintro r post σ ⟨rfl,es',hinv',rfl⟩ hs
  conv=>whnf
  repeat'((first|(apply si;intro A B Y Z)|(apply Y;clear Z B Y A)|(apply U;clear U K)|refine⟨rfl,?_⟩|clear U K)<;>conv=>whnf)
  refine⟨hlt,es',rfl,?_,hs.less (List.sublist_append_left _ _)⟩;rw[htk];exact hinv'.congr fun a p=>(cV _ _ _ _).symm
 ·have etk:ls.take k=ls:=BK hke
  rw[etk]at hinv
  conv=>whnf
  repeat'((first|apply st|(apply sq;intro K U)|(apply si;intro A B Y Z)|(apply Y;clear Z B Y A)|(apply U;clear U K)|refine⟨rfl,?_⟩|(refine EV (fun hc=>?_)<;>(try rw[hc])<;>clear hc)|clear U K)<;>conv=>whnf)
  exact AP ⟨_,⟨L,es,rfl,hinv,rfl⟩,hs⟩
end Go.Gl
