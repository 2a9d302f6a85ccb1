import Derived.Test.YtegbmnmnaijioaaGreatProg
import Derived.KernelRfl
import Derived.Test.YtegbmnmnaijioaaGreatX6
import Derived.Test.YtegbmnmnaijioaaGreatX10
set_option linter.all false
set_option linter.defProp false
set_option maxHeartbeats 8000000
noncomputable section
namespace Go.Gl
def We (g:List (List Int)) (k:Nat): ∀(m d:Nat),d<3+k->(Bq g (k+m)).getD d 0=(Bq g k).getD d 0
 | 0,d,_=>rfl
 | m+1,d,h=>by
   rw[show k+(m+1)=k+m+1 from rfl,Bq,<-We g k m d h];rw[C6,nX (by rw[C5];omega),<-C6]
def Wf (us:List Nat) (b:Nat): ∀(l:List Int) (s:Nat),(T6 us l s).testBit b=(s.testBit b||l.any fun c=>(us.getD c.toNat 0).testBit b)
 | [],s=>by simp[T6]
 | c::r,s=>by
   have:=Wf us b r (s|||us.getD c.toNat 0);rw[SA,<-Bool.or_assoc,<-Nat.testBit_or,<-this];rfl
def kK {α:Type} (f:α->Bool) (b:Bool): ∀(l:List α),(b||l.any fun x=>b||f x)=(b||l.any f)
 | []=>rfl
 | x::r=>by
   have:=kK f b r;simp only[SA];cases b
   .simpa using this
   .rfl
def any_congr {α:Type} {f g:α->Bool}: ∀ {l:List α},(∀x∈l,f x=g x)->l.any f=l.any g
 | [],_=>rfl
 | x::r,h=>by
   rw[SA,SA,h x (.head _),any_congr fun y hy=>h y (.tail _ hy)]
def Un {g:List (List Int)} (ho:ordered g): ∀(k d b:Nat),k<=g.length->d<3+k->((Bq g k).getD d 0).testBit b=(b==0||GC g d b)
 | 0,d,b,_,hd=>by
   have e:(Bq g 0).getD d 0=1|||2 ^ d:=by
    rcases d with _|_|_|d
    .rfl
    .rfl
    .rfl
    .omega
   rw[e,Uh,EI ho,par,if_pos (by omega),List.any_nil,Bool.or_false];rw[G3];simp only[Ea,Cd];omega
 | k + 1,d,b,hk,hd=>by
   by_cases hlt:d<3+k
   .rw[We g k 1 d hlt]
    exact Un ho k d b (by omega) hlt
   .obtain rfl:d=3+k:=by omega
    have e:(Bq g (k+1)).getD (3+k) 0=T6 (Bq g k) (g.getD k []) (1|||2 ^ (3+k)):=by
     rw[Bq,C6,List.getElem?_append_right (by rw[C5];omega),C5,Nat.sub_self];rfl
    have hpar:par g (3+k)=g.getD k []:=by rw[par,if_neg (by omega),show 3+k - 3=k by omega]
    rw[e,Wf,Uh,EI ho,hpar]
    have hc:((g.getD k []).any fun c=>((Bq g k).getD c.toNat 0).testBit b)=(g.getD k []).any fun p=>(b==0)||GC g p.toNat b:=any_congr fun p hp=>by
     have:=ho (3+k) p (by rw[hpar];exact hp);exact Un ho k p.toNat b (by omega) (by omega)
    rw[hc];have e2:(b==3+k)=(3+k==b):=by rw[G3];simp only[Cd];omega
    rw[e2,Bool.or_assoc,Bool.or_left_comm,kK,Bool.or_left_comm]
def MY {g:List (List Int)} (ho:ordered g) {d b:Nat} (hd:d<3+g.length):((A5 g).getD d 0).testBit b=(b==0||GC g d b):=Un ho g.length d b (Ia _) hd
def Jn {g:List (List Int)} (ho:ordered g): ∀(d b:Nat),3<=d->GC g d b=true->3<=b:=by
 intro d
 induction d using Nat.strongRecOn with
 | _ d ih=>
   intro b h3 h;rw[EI ho]at h;simp only[Ea,Cd,Hn]at h;rcases h with rfl|⟨p,hp,h⟩
   .exact h3
   .have:=ho d p hp
    exact ih p.toNat (by omega) b (by omega) h
def Bp (us:List Nat):Nat->Nat->Nat
 | 0,m=>m
 | k+1,m=>if(Bp us k m).testBit (3+k)then Bp us k m|||us.getD (3+k) 0 else Bp us k m
def Li {g : List (List Int)} (ho:ordered g) (m:Nat): ∀(k b:Nat),k<=g.length->((Bp (A5 g) k m).testBit b=true↔m.testBit b=true\/ ∃d,3<=d/\d<3+k/\m.testBit d=true/\(b=0\/GC g d b=true))
 | 0,b,_=>by
   rw[Bp];exact⟨.inl,fun h=>h.elim id fun⟨d,h1,h2,_⟩=>by omega⟩
 | k + 1, b, hk=>by
   have ih:=Li ho m k;rw[Bp];split
   .rename_i hc
    rw[Nat.testBit_or,Ea,ih b (by omega),MY ho (by omega),Ea,Cd];rw[ih _ (by omega)]at hc;constructor
    .rintro((h|⟨d,h1,h2,h3,h4⟩)|h)
     .exact .inl h
     .exact .inr ⟨d,h1,by omega,h3,h4⟩
     .rcases hc with hc|⟨d,h1,h2,h3,h4⟩
      .exact .inr ⟨3+k,by omega,by omega,hc,h⟩
      .refine .inr ⟨d,h1,by omega,h3,?_⟩
       rcases h with h|h
       .exact .inl h
       .rcases h4 with h4|h4
        .omega
        .exact .inr (IM ho _ _ _ h4 h)
    .rintro(h|⟨d,h1,h2,h3,h4⟩)
     .exact .inl (.inl h)
     .by_cases e:d=3+k
      .subst e;exact .inr h4
      .exact .inl (.inr ⟨d,h1,by omega,h3,h4⟩)
   .rename_i hc
    rw[ih b (by omega)];constructor
    .rintro(h|⟨d,h1,h2,h3,h4⟩)
     .exact .inl h
     .exact .inr ⟨d,h1,by omega,h3,h4⟩
    .rintro(h|⟨d,h1,h2,h3,h4⟩)
     .exact .inl h
     .by_cases e:d=3+k
      .subst e;exact absurd ((ih _ (by omega)).2 (.inl h3)) hc
      .exact .inr ⟨d,h1,by omega,h3,h4⟩
def K4: ∀(l:List Int) (bs:List Bool),(∀q∈l,0<=q/\q.toNat<bs.length)-> ∀b:Nat,(l.foldl (fun b q=>b.set q.toNat true) bs).getD b false=(bs.getD b false||l.contains (b:Int))
 | [],bs,_,b=>by simp
 | q ::r,bs,h,b=>by
   have hq:=h q (.head _);rw[List.foldl_cons,K4 r _ (fun x hx=>by rw[List.length_set];exact h x (.tail _ hx)),FA hq.2,List.contains_cons];split
   .rename_i e
    subst e;have:((q.toNat:Int)==q)=true:=by rw[Cd];omega
    rw[this];simp
   .rename_i e
    have:((b:Int)==q)=false:=by rw[beq_eq_false_iff_ne];omega
    rw[this,Bool.false_or]
def Hl {g:List (List Int)} (ho:ordered g) {c:Nat} {bs:List Bool} (hc:c<=bs.length) (b:Nat):(Kc g c bs).getD b false=(bs.getD b false||(bs.getD c false&&(par g c).contains (b:Int))):=by
 rw[Kc];split
 .rename_i h
  rw[K4 _ _ (fun q hq=>by have:=ho c q hq;omega),h,Cm]
 .rename_i h
  have:bs.getD c false=false:=by simpa using h
  rw[this,Bool.false_and,Bool.or_false]
def GO {g:List (List Int)} (ho:ordered g) {n:Nat} {S:List Bool} (hl:S.length=n): ∀(k b:Nat),(C4 g n k S).getD b false=true-> ∃d,S.getD d false=true/\GC g d b=true
 | 0,b,h=>⟨b,h,C9 ho b⟩
 | k + 1,b,h=>by
   rw[C4,Hl ho (by rw[Fb];omega),Ea,A0]at h;rcases h with h|⟨h1,h2⟩
   .exact GO ho hl k b h
   .obtain⟨d,h3,h4⟩:=GO ho hl k _ h1
    refine⟨d,h3,IM ho _ _ _ h4 ?_⟩;rw[EI ho,Ea,Hn];rw[List.contains_iff_mem]at h2;exact .inr ⟨_,h2,by rw[HP];exact C9 ho b⟩
def YI {g:List (List Int)} (ho:ordered g) {n:Nat} {S:List Bool} (hl:S.length=n) (k b:Nat) (h:(C4 g n k S).getD b false=true):(C4 g n (k+1) S).getD b false=true:=by
 rw[C4,Hl ho (by rw[Fb];omega),h];rfl
def J3 {g:List (List Int)} (ho:ordered g) {n:Nat} {S:List Bool} (hl:S.length=n): ∀(k b:Nat),S.getD b false=true->(C4 g n k S).getD b false=true
 | 0,_,h=>h
 | k+1,b,h=>YI ho hl k b (J3 ho hl k b h)
def Hm {g:List (List Int)} (ho:ordered g) {n:Nat} {S:List Bool} (hl:S.length=n): ∀(k c:Nat),k<=n->n - k<=c->(C4 g n k S).getD c false=true-> ∀q∈par g c,(C4 g n k S).getD q.toNat false=true
 | 0,c,_,hc,h,q,hq=>by
   rw[C4,C6,List.getElem?_eq_none (by omega)]at h;cases h
 | k + 1,c,hk,hc,h,q,hq=>by
   rw[C4,Hl ho (by rw[Fb];omega)]at h ⊢;have hoc:=ho c q hq;rw[Ea,A0]at h
   have hbase:(C4 g n k S).getD c false=true:=by
    rcases h with h|⟨-,h2⟩
    .exact h
    .rw[List.contains_iff_mem]at h2
     have:=ho _ _ h2;omega
   by_cases e:c=n - 1 - k
   .subst e
    rw[hbase,Cm,Ea,List.contains_iff_mem];exact .inr (by rw[show((q.toNat:Nat):Int)=q by omega];exact hq)
   .rw[Hm ho hl k c (by omega) (by omega) hbase q hq];rfl
def Z0 {g:List (List Int)} (ho:ordered g) {S:List Bool} (hl:S.length=3+g.length) (b:Nat):(C4 g (3+g.length) g.length S).getD b false=true↔ ∃d,S.getD d false=true/\GC g d b=true:=by
 refine⟨GO ho hl _ b,?_⟩
 have key: ∀d,(C4 g (3+g.length) g.length S).getD d false=true->GC g d b=true->(C4 g (3+g.length) g.length S).getD b false=true:=by
  intro d
  induction d using Nat.strongRecOn with
  | _ d ih=>
    intro h1 h2;rw[EI ho,Ea,Cd,Hn]at h2;rcases h2 with rfl|⟨p,hp,h2⟩
    .exact h1
    .have hop:=ho d p hp
     refine ih p.toNat (by omega) (Hm ho hl g.length d (by omega) ?_ h1 p hp) h2;omega
 rintro⟨d,h1,h2⟩;exact key d (J3 ho hl _ d h1) h2
def RB (n:Nat) (t:BB) (u:Nat×Nat):Prop:=
 t.1.length=n/\t.2.length=n/\(∀b,t.1.getD b false=u.1.testBit b)/\(∀b,b≠1->b≠2->t.2.getD b false=u.2.testBit b)/\u.1.testBit 1=false/\u.1.testBit 2=false
def D5 (m c b:Nat):(m|||2 ^ c).testBit b=(m.testBit b||b==c):=by
 rw[Nat.testBit_or,Nat.testBit_two_pow];congr 1;rw[G3];simp only[CC,Cd];omega
def PR {l:List Bool} {m c:Nat} (hc:c<l.length) {b:Nat} (h:l.getD b false=m.testBit b):(l.set c true).getD b false=(m|||2 ^ c).testBit b:=by
 rw[FA hc,D5,<-h];split
 .rename_i e;subst e;simp
 .rename_i e
  have:(b==c)=false:=by simpa using e
  rw[this,Bool.or_false]
def UI (x:Fact×Bool):Bool:= !x.2&&(!(x.1.op==2)||x.1.cls==1||x.1.cls==2)
def dZ {n : Nat} {x:Fact×Bool} {t:BB} {k:Kn} (h:RB n t (k.BW,k.Dt)) (hc:x.1.op=2->0<=x.1.cls/\x.1.cls<n) :
    (UI x=true->OT x t=none)/\(UI x=false-> ∃t',OT x t=some t'/\RB n t' ((B1 k x.1 x.2).BW,(B1 k x.1 x.2).Dt)):=by
 obtain⟨f,c⟩:=x;simp only at hc;obtain⟨h1,h2,h3,h4,h5,h6⟩:=h;unfold UI OT B1;simp only;by_cases ho:f.op=2
 .have hc':=hc ho
  by_cases h12:f.cls=1\/f.cls=2
  .rw[if_pos (.inr h12),if_pos ho]
   cases c with
   | true=>
     refine⟨fun h=>(by cases h),fun _=>⟨t,rfl,h1,h2,h3,fun b hb1 hb2=>?_,h5,h6⟩⟩;rw[if_pos rfl];show _=(k.Dt|||2 ^ f.cls.toNat).testBit b;rw[D5,h4 b hb1 hb2];have:(b==f.cls.toNat)=false:=by rw[beq_eq_false_iff_ne];omega
     rw[this,Bool.or_false]
   | false=>
     refine⟨fun _=>rfl,fun h=>?_⟩;exfalso;rcases h12 with e|e<;>simp[e]at h
  .have hn: ¬(f.op≠2\/f.cls=1\/f.cls=2):=by omega
   rw[if_neg hn,if_pos ho]
   have hb:(!c&&(!(f.op==2)||f.cls==1||f.cls==2))=false:=by
    have e1:(f.op==2)=true:=by simpa using ho
    have e2:(f.cls==1)=false:=by rw[beq_eq_false_iff_ne];omega
    have e3:(f.cls==2)=false:=by rw[beq_eq_false_iff_ne];omega
    rw[e1,e2,e3];simp
   rw[hb];refine⟨fun h=>(by cases h),fun _=>?_⟩;cases c with
   | true=>
     refine⟨_,rfl,h1,by simpa using h2,h3,fun b hb1 hb2=>?_,h5,h6⟩;exact PR (by omega) (h4 b hb1 hb2)
   | false=>
     refine⟨_,rfl,by simpa using h1,h2,fun b=>?_,h4,?_,?_⟩
     .exact PR (by omega) (h3 b)
     .show(k.BW|||2 ^ f.cls.toNat).testBit 1=false
      rw[D5,h5];have:(1==f.cls.toNat)=false:=by rw[beq_eq_false_iff_ne];omega
      rw[this];rfl
     .show(k.BW|||2 ^ f.cls.toNat).testBit 2=false
      rw[D5,h6];have:(2==f.cls.toNat)=false:=by rw[beq_eq_false_iff_ne];omega
      rw[this];rfl
 .rw[if_pos (.inl ho),if_neg ho]
  have e1:(f.op==2)=false:=by simpa using ho
  cases c with
  | true=>
    refine⟨fun h=>(by cases h),fun _=>⟨t,rfl,?_⟩⟩;split<;>exact⟨h1,h2,h3,h4,h5,h6⟩
  | false=>exact⟨fun _=>rfl,fun h=>by rw[e1]at h;cases h⟩
def Tc {n:Nat}: ∀(os:List Fact) {t:BB} {k:Kn},RB n t (k.BW,k.Dt)->Gz n os->
    (os.any (fun l=>UI (Ah l))=true->Ky os t=none)/\(os.any (fun l=>UI (Ah l))=false-> ∃t',Ky os t=some t'/\RB n t' ((ET os k).BW,(ET os k).Dt))
 | [],t,k,h,_=>⟨fun h=>(by cases h),fun _=>⟨t,rfl,h⟩⟩
 | l ::r,t,k,h,hc=>by
   obtain⟨s1,s2⟩:=dZ h (hc l (.head _));rw[SA,Ky];cases hb:UI (Ah l)with
   | true=>exact⟨fun _=>by rw[s1 hb];rfl,fun h=>(by cases h)⟩
   | false=>
     obtain⟨t',h1,h2⟩:=s2 hb;rw[h1,Bool.false_or,Option.bind_some];exact Tc r h2 fun x hx=>hc x (.tail _ hx)
def nE {os:List Fact} {n:Nat} (hc:Gz n os):(os.any fun l=>UI (Ah l))=((ET os k0).whole||(ET os k0).BW.testBit 1||(ET os k0).BW.testBit 2):=by
 rw[G3,Ea,Ea,ID,ID,Ll];simp only[Hn,UI,A0,Ea,Bool.not_eq_true',Cd,beq_eq_false_iff_ne,k0,Bool.false_or];constructor
 .rintro⟨l,hl,hb,(h|h)|h⟩
  .exact .inl (.inl ⟨l,hl,hb,h⟩)
  .by_cases ho:(Ah l).1.op=2
   .exact .inl (.inr ⟨l,hl,ho,hb,by rw[h];rfl⟩)
   .exact .inl (.inl ⟨l,hl,hb,ho⟩)
  .by_cases ho:(Ah l).1.op=2
   .exact .inr ⟨l,hl,ho,hb,by rw[h];rfl⟩
   .exact .inl (.inl ⟨l,hl,hb,ho⟩)
 .rintro((⟨l,hl,hb,h⟩|⟨l,hl,ho,hb,h⟩)|⟨l,hl,ho,hb,h⟩)
  .exact⟨l,hl,hb,.inl (.inl h)⟩
  .have:=hc l hl ho
   exact⟨l,hl,hb,.inl (.inr (by omega))⟩
  .have:=hc l hl ho
   exact⟨l,hl,hb,.inr (by omega)⟩
def aF (w:AF) (Ac can:Int->Bool) (s:Int) (u:Nat×Nat):Option (Nat×Nat):=
 if Ac s&& !can s then none else some (if Ac s then u.1|||2 ^ (Bc w s).toNat else u.1,if can s then u.2 else u.2|||2 ^ (Bc w s).toNat)
def JE (w:AF) (Ac can:Int->Bool):List Int->Nat×Nat->Option (Nat×Nat)
 | [],u=>some u
 | s::r,u=>(aF w Ac can s u).bind (JE w Ac can r)
def bq {w:AF} {ls:List Fact} {a:Int} {p:List Int} {can Ac:Int->Bool} (hn: ∀s,Ac s= !E2 ls a (p++[s])) {n:Nat} (how: ∀s:Int,0<=s->s<w.owner.length->3<=Bc w s/\Bc w s<n) :
    ∀(sl:List Int) {t:BB} {u:Nat×Nat},(∀s∈sl,0<=s/\s<w.owner.length)->RB n t u->
    (Kx w ls a p can sl t=none/\JE w Ac can sl u=none)\/ ∃t' u',Kx w ls a p can sl t=some t'/\JE w Ac can sl u=some u'/\RB n t' u'
 | [],t,u,_,h=> .inr ⟨t,u,rfl,rfl,h⟩
 | s ::r,t,u,hsl,h=>by
   have hs:=hsl s (.head _);have ho:=how s hs.1 hs.2;rw[Kx,JE,V2,aF,hn];obtain⟨h1,h2,h3,h4,h5,h6⟩:=h;split
   .exact .inl ⟨rfl,rfl⟩
   .rw[Option.bind_some,Option.bind_some]
    refine bq hn how r (fun x hx=>hsl x (.tail _ hx)) ?_;have hb: ∀i,i<3->(i==(Bc w s).toNat)=false:=fun i hi=>by rw[beq_eq_false_iff_ne];omega
    cases E2 ls a (p++[s])<;>cases can s<;>refine⟨by simpa using h1,by simpa using h2,fun b=>?_,fun b hb1 hb2=>?_,?_,?_⟩
    all_goals simp only[Bool.not_false,Bool.not_true,NM,if_true,if_false]
    all_goals first
     | exact h3 b
     | exact h4 b hb1 hb2
     | exact h5
     | exact h6
     | exact PR (by omega) (h3 b)
     | exact PR (by omega) (h4 b hb1 hb2)
     | (rw[D5,h5,hb 1 (by omega)];rfl)
     | (rw[D5,h6,hb 2 (by omega)];rfl)
def Hv (m:Nat):Nat:=m - m % 2
def XW (m b:Nat):(Hv m).testBit b=(m.testBit b&& !(b==0)):=by
 cases b with
 | zero=>
   simp[Hv,Nat.testBit_zero];omega
 | succ b=>
   rw[Nat.testBit_succ,Nat.testBit_succ,Hv,show(m - m % 2) / 2=m / 2 by omega];simp
def vD {w : AF} (ho:ordered w.parents) {t:BB} {u:Nat×Nat} (h:RB (3+w.parents.length) t u) :
    (gz w t).isSome=(!u.2.testBit 0&&(Hv (Bp (A5 w.parents) w.parents.length u.1)&&&u.2==0)):=by
 obtain⟨h1,h2,h3,h4,h5,h6⟩:=h;rw[gz,h4 0 (by decide) (by decide)];cases h0:u.2.testBit 0 with
 | true=>rfl
 | false =>
   rw[if_neg (by decide),Bool.not_false,Cm];have hl:(t.1.set 0 false).length=3+w.parents.length:=by simpa using h1
   have hR:=Z0 ho hl;have hP:=Li ho u.1 w.parents.length
   have hS: ∀d,(t.1.set 0 false).getD d false=true↔d≠0/\u.1.testBit d=true:=fun d=>by
    rw[FA (by omega)];split
    .rename_i e;subst e;simp
    .rename_i e;rw[h3];exact⟨fun h=>⟨e,h⟩,fun h=>h.2⟩
   have hlt: ∀b,u.1.testBit b=true->b<3+w.parents.length:=fun b hb=>by
    rw[<-h3]at hb;rcases Nat.lt_or_ge b (3+w.parents.length)with h'|h'
    .exact h'
    .rw[C6,List.getElem?_eq_none (by omega)]at hb;cases hb
   have h3b: ∀d,d≠0->u.1.testBit d=true->3<=d:=fun d hd hb=>by
    rcases d with _|_|_|d
    .exact absurd rfl hd
    .rw[h5]at hb;cases hb
    .rw[h6]at hb;cases hb
    .omega
   have hM: ∀b,(Hv (Bp (A5 w.parents) w.parents.length u.1)).testBit b=true↔(C4 w.parents (3+w.parents.length) w.parents.length (t.1.set 0 false)).getD b false=true:=fun b=>by
    rw[XW,A0,hP b (Ia _),hR,Bool.not_eq_true',beq_eq_false_iff_ne];constructor
    .rintro⟨h|⟨d,q1,q2,q3,q4⟩,hb⟩
     .exact⟨b,(hS b).2 ⟨hb,h⟩,C9 ho b⟩
     .rcases q4 with e|q4
      .exact absurd e hb
      .exact⟨d,(hS d).2 ⟨by omega,q3⟩,q4⟩
    .rintro⟨d,hd,hu⟩
     obtain⟨hd0,hdu⟩:=(hS d).1 hd;have hd3:=h3b d hd0 hdu;have:=Jn ho d b hd3 hu;exact⟨.inr ⟨d,hd3,hlt d hdu,hdu,.inr hu⟩,by omega⟩
   have hany:((List.range (3+w.parents.length)).any fun c=>(C4 w.parents (3+w.parents.length) w.parents.length (t.1.set 0 false)).getD c false&&t.2.getD c false)= !(Hv (Bp (A5 w.parents) w.parents.length u.1)&&&u.2==0):=by
    rw[G3,Bool.not_eq_true',<-Bool.not_eq_true,Mt,Hn];constructor
    .rintro⟨c,hc,hx⟩ hall
     rw[A0]at hx;have hm:=(hM c).2 hx.1;obtain⟨d,hd,hu⟩:=(hR c).1 hx.1;obtain⟨hd0,hdu⟩:=(hS d).1 hd;have:=Jn ho d c (h3b d hd0 hdu) hu;exact hall c hm (by rw[<-h4 c (by omega) (by omega)];exact hx.2)
    .intro hne
     rcases Classical.em (∃b,(Hv (Bp (A5 w.parents) w.parents.length u.1)).testBit b=true/\u.2.testBit b=true)with⟨b,hb1,hb2⟩|hno
     .have hm:=(hM b).1 hb1
      obtain⟨d,hd,hu⟩:=(hR b).1 hm;obtain⟨hd0,hdu⟩:=(hS d).1 hd;have:=Jn ho d b (h3b d hd0 hdu) hu;have:=iv ho d b hu;have:=hlt d hdu;exact⟨b,List.mem_range.2 (by omega),by rw[hm,h4 b (by omega) (by omega),hb2];rfl⟩
     .exact absurd (fun b h1 h2=>hno ⟨b,h1,h2⟩) hne
   rw[hany];cases(Hv (Bp (A5 w.parents) w.parents.length u.1)&&&u.2==0)<;>rfl
def PA (w:AF) (k:Kn) (Ac can:Int->Bool):Nat×Bool:=
 if k.whole||k.BW.testBit 1||k.BW.testBit 2||k.Dt.testBit 0 then(0,false)else
 match JE w Ac can k.AH (k.BW,k.Dt)with
 | none=>(0,false)
 | some u=>(Hv (Bp (A5 w.parents) w.parents.length u.1),Hv (Bp (A5 w.parents) w.parents.length u.1)&&&u.2==0)
def Rt {w:AF} {Ac can:Int->Bool} (how: ∀s:Int,0<=s->s<w.owner.length->3<=Bc w s): ∀(sl:List Int) {u u':Nat×Nat},(∀s∈sl,0<=s/\s<w.owner.length)->JE w Ac can sl u=some u'->u'.2.testBit 0=u.2.testBit 0
 | [],u,u',_,h=>by cases h;rfl
 | s ::r,u,u',hsl,h=>by
   have hs:=hsl s (.head _);have ho:=how s hs.1 hs.2;rw[JE,aF]at h;split at h
   .cases h
   .rw[Option.bind_some]at h
    rw[Rt how r (fun x hx=>hsl x (.tail _ hx)) h];simp only;split
    .rfl
    .rw[D5]
     have:(0==(Bc w s).toNat)=false:=by rw[beq_eq_false_iff_ne];omega
     rw[this,Bool.or_false]
def sA {w:AF} {ls:List Fact} {a:Int} {p:List Int} {can Ac:Int->Bool} (ho:ordered w.parents) (how: ∀s:Int,0<=s->s<w.owner.length->3<=Bc w s/\Bc w s<3+w.parents.length) (hc:Gz (3+w.parents.length) ls) (hp:HY w.owner.length ls) (hn: ∀s,Ac s= !E2 ls a (p++[s])) :
    (PA w (kn ls a p) Ac can).2=(Vg w ls a p can).isSome:=by
 have hcore:=MI ls a p;have hsl:=Jv hp a p;generalize kn ls a p=k at *;have hc2:Gz (3+w.parents.length) (ls.filter (Km a p)):=fun l hl=>hc l (JU.1 hl).1
 simp only[Dc,Prod.mk.injEq]at hcore;obtain⟨-,-,-,c4,c5,c6⟩:=hcore;rw[PA,Vg,c4,c5,c6,<-nE hc2,hsl]
 have hR0:RB (3+w.parents.length) (tO w) (k0.BW,k0.Dt):=by
  refine⟨by simp[tO],by simp[tO],fun b=>?_,fun b _ _=>?_,rfl,rfl⟩<;>
  .simp only[tO,k0,Nat.zero_testBit,C6,List.getElem?_replicate]
   split<;>rfl
 obtain⟨f1,f2⟩:=Tc _ hR0 hc2;cases hbad:(ls.filter (Km a p)).any fun l=>UI (Ah l)with
 | true=>rw[f1 hbad];rfl
 | false=>
   obtain⟨t,ht,hR⟩:=f2 hbad;rw[ht,Option.bind_some,Bool.false_or];have hin: ∀s∈Cu w.owner.length ls a p,0<=s/\s<(w.owner.length:Int):=fun s hs=>IN hs
   rcases bq (can:=can) hn (fun s h0 h1=>by have:=how s h0 h1;omega) (Cu w.owner.length ls a p) hin hR with⟨e1,e2⟩|⟨t',u',e1,e2,hR'⟩
   .rw[e1,e2]
    split<;>rfl
   .rw[e1,e2,Option.bind_some,vD ho hR']
    have:=Rt (fun s h0 h1=>(how s h0 h1).1) _ hin e2;rw[this];simp only;cases((ET (ls.filter (Km a p)) k0).Dt.testBit 0)<;>rfl
end Go.Gl
namespace Go.Gl
abbrev CG (a:Int) (p:List Int):V:= .a [eI a,eI (p.length:Int),eI (p.getD 0 0),eI (p.getD 1 0)]
structure B6 where
 a:Int
 p:List Int
 b:Nat
 vn:V
 vs:V
 k:Kn
abbrev B6.is (e:B6) (a:Int) (p:List Int):Bool:=e.a==a&&e.p==p
abbrev entC (b:Nat) (vn vs:V) (k:Kn):At:= .box b [eI k.low,eI k.high,vn,eU k.BW,eU k.Dt,.b k.whole,.b k.Ac,vs]
abbrev tS (b:Nat) (vn vs:V) (k:Kn):List At:=[entC b vn vs k,.own vn 1 (iL k.no),.own vs 1 (iL k.AH)]
abbrev WJ (e:B6):List At:=tS e.b e.vn e.vs e.k
def T4 (es:List B6):List (V×V):=es.map fun e=>(CG e.a e.p,.p e.b 0)
def CI (L:Nat) (es:List B6):List At:= .map L (T4 es)::es.flatMap WJ
def H0 (L:Nat) (es pre post:List B6):List At:= .map L (T4 es)::(pre++post).flatMap WJ
def Ge {e:B6} {a:Int} {p:List Int}:e.is a p=true↔e.a=a/\e.p=p:=by simp[B6.is]
def Pb {e:B6} {a:Int} {p:List Int}:e.is a p=false↔ ¬(e.a=a/\e.p=p):=by rw[<-Ge,Bool.not_eq_true]
def UT {a a':Int} {p p':List Int} (h:p.length<=2) (h':p'.length<=2):Dz (CG a p) (CG a' p')=(a==a'&&p==p'):=by
 have e:Dz (CG a p) (CG a' p')=(a==a'&&((p.length:Int)==p'.length&&(p.getD 0 0==p'.getD 0 0&&(p.getD 1 0==p'.getD 1 0)))):=by
  simp[Dz,Bw,CG]
 rw[e];congr 1
 match p,h,p',h' with
 | [],_,[],_=>rfl
 | [],_,[_],_=>simp
 | [],_,[_,_],_=>simp<;>omega
 | [_],_,[],_=>simp
 | [x],_,[y],_=>simp
 | [_],_,[_,_],_=>simp<;>omega
 | [_,_],_,[],_=>simp<;>omega
 | [_,_],_,[_],_=>simp<;>omega
 | [x,y],_,[z,u],_=>simp
def II (es:List B6): ∀kv∈T4 es,BV (.a [.i64,.i64,.i64,.i64]) kv.1=true:=by
 intro kv h;obtain⟨e,_,rfl⟩:=Hp.1 h;rfl
def Qp {a:Int} {p:List Int} (hp:p.length<=2): ∀ {es:List B6},(∀e∈es,e.p.length<=2)->(∀e∈es,e.is a p=false)->Co (CG a p) (T4 es)=none
 | [],_,_=>rfl
 | e ::r,hl,h=>by
   have he:=h e (.head _);rw[T4,EW,Co,UT hp (hl e (.head _))]
   have:(a==e.a&&p==e.p)=false:=by
    rw[<-he,B6.is,G3];simp only[A0,Cd];exact⟨fun⟨h1,h2⟩=>⟨h1.symm,h2.symm⟩,fun⟨h1,h2⟩=>⟨h1.symm,h2.symm⟩⟩
   rw[this,cond_false];exact Qp hp (fun x hx=>hl x (.tail _ hx)) (fun x hx=>h x (.tail _ hx))
def Yn {a:Int} {p:List Int} (hp:p.length<=2) (b:Nat) (vn vs:V) (k:Kn): ∀ {es:List B6},(∀e∈es,e.p.length<=2)->(∀e∈es,e.is a p=false)->Da (CG a p) (.p b 0) (T4 es)=T4 (es++[⟨a,p,b,vn,vs,k⟩])
 | [],_,_=>rfl
 | e ::r,hl,h=>by
   have he:=h e (.head _);have ih:=Yn hp b vn vs k (fun x hx=>hl x (.tail _ hx)) (fun x hx=>h x (.tail _ hx));simp only[T4]at ih;rw[T4,EW,Da,UT hp (hl e (.head _))]
   have:(a==e.a&&p==e.p)=false:=by
    rw[<-he,B6.is,G3];simp only[A0,Cd];exact⟨fun⟨h1,h2⟩=>⟨h1.symm,h2.symm⟩,fun⟨h1,h2⟩=>⟨h1.symm,h2.symm⟩⟩
   rw[this,cond_false,ih];rfl
def Qo {a:Int} {p:List Int} (hp:p.length<=2) {e:B6} (he:e.is a p=true) {post:List B6}: ∀ {pre:List B6},(∀x∈pre++e::post,x.p.length<=2)->(∀x∈pre,x.is a p=false)->Co (CG a p) (T4 (pre++e::post))=some (.p e.b 0)
 | [],hl,_=>by
   rw[List.nil_append,T4,EW,Co,UT hp (hl e (.head _))];obtain⟨h1,h2⟩:=Ge.1 he;rw[h1,h2];simp
 | x ::r,hl,h=>by
   have hx:=h x (.head _);rw[List.cons_append,T4,EW,Co,UT hp (hl x (.head _))]
   have:(a==x.a&&p==x.p)=false:=by
    rw[<-hx,B6.is,G3];simp only[A0,Cd];exact⟨fun⟨h1,h2⟩=>⟨h1.symm,h2.symm⟩,fun⟨h1,h2⟩=>⟨h1.symm,h2.symm⟩⟩
   rw[this,cond_false];exact Qo hp he (fun y hy=>hl y (.tail _ hy)) (fun y hy=>h y (.tail _ hy))
def iM (a : Int) (p:List Int): ∀(es:List B6),(∀e∈es,e.is a p=false)\/ ∃pre e post,es=pre++e::post/\e.is a p=true/\ ∀x∈pre,x.is a p=false
 | []=> .inl fun _ h=>by cases h
 | e ::r=>by
   cases h:e.is a p with
   | true=>exact .inr ⟨[],e,r,rfl,h,fun _ h=>by cases h⟩
   | false=>
     rcases iM a p r with h1|⟨pre,x,post,rfl,h1,h2⟩
     .exact .inl fun x hx=>by
       rcases Fl.1 hx with rfl|hx
       .exact h
       .exact h1 x hx
     .exact .inr ⟨e::pre,x,post,rfl,h1,fun y hy=>by
       rcases Fl.1 hy with rfl|hy
       .exact h
       .exact h2 y hy⟩
def XF (L:Nat) (pre post:List B6) (e:B6):(CI L (pre++e::post)).Perm (WJ e++H0 L (pre++e::post) pre post):=by
 unfold CI H0;rw[List.flatMap_append,List.flatMap_cons,List.flatMap_append];refine List.Perm.trans ?_ (List.perm_middle.symm);refine List.Perm.cons _ ?_;rw[<-Ps,<-Ps];exact List.Perm.append_right _ PL
def Rj {pre post:List B6} {e e':B6} (h1:e'.a=e.a) (h2:e'.p=e.p) (h3:e'.b=e.b):T4 (pre++e'::post)=T4 (pre++e::post):=by
 simp only[T4,VV,EW,h1,h2,h3]
def VI {L:Nat} {pre post:List B6} {e e':B6} (h1:e'.a=e.a) (h2:e'.p=e.p) (h3:e'.b=e.b):H0 L (pre++e'::post) pre post=H0 L (pre++e::post) pre post:=by
 rw[H0,H0,Rj h1 h2 h3]
structure Bx (kf:Int->List Int->Kn) (es:List B6):Prop where
 val: ∀e∈es,e.k=kf e.a e.p
 JV: ∀a p,(∀e∈es,e.is a p=false)->kf a p=k0
 one:es.Pairwise fun e e'=>e.is e'.a e'.p=false
 len: ∀e∈es,e.p.length<=2
def Su (es:List B6):Prop:= ∀e∈es,∀s∈e.k.AH,∃e'∈es,e'.is e.a (e.p++[s])=true
def Bx.congr {kf kf':Int->List Int->Kn} {es:List B6} (h:Bx kf es) (e: ∀a p,kf a p=kf' a p):Bx kf' es:=
 ⟨fun x hx=>(h.val x hx).trans (e _ _),fun a p hp=>(e a p).symm.trans (h.JV a p hp),h.one,h.len⟩
def Bx.add {kf:Int->List Int->Kn} {es:List B6} (h:Bx kf es) {a:Int} {p:List Int} (hp:p.length<=2) (hn: ∀e∈es,e.is a p=false) (b:Nat) (vn vs:V):Bx kf (es++[⟨a,p,b,vn,vs,k0⟩]):=by
 refine⟨fun x hx=>?_,fun a' p' h'=>h.JV a' p' fun x hx=>h' x (O5 _ hx),?_,fun x hx=>?_⟩
 .rcases D9.1 hx with hx|hx
  .exact h.val x hx
  .rw[Lp.1 hx];exact(h.JV a p hn).symm
 .rw[List.pairwise_append]
  exact⟨h.one,List.pairwise_singleton _ _,fun x hx y hy=>by rw[Lp.1 hy];exact hn x hx⟩
 .rcases D9.1 hx with hx|hx
  .exact h.len x hx
  .rw[Lp.1 hx];exact hp
def Su.add {es:List B6} (h:Su es) {a:Int} {p:List Int} (b:Nat) (vn vs:V):Su (es++[⟨a,p,b,vn,vs,k0⟩]):=by
 intro e he s hs;rcases D9.1 he with he|he
 .obtain⟨e',h1,h2⟩:=h e he s hs
  exact⟨e',O5 _ h1,h2⟩
 .rw[Lp.1 he]at hs
  cases hs
def NQ (kf:Int->List Int->Kn) (a:Int) (p:List Int) (k:Kn):Int->List Int->Kn:=fun a' p'=>if a'=a/\p'=p then k else kf a' p'
def Bx.change {kf:Int->List Int->Kn} {pre post:List B6} {e:B6} (h:Bx kf (pre++e::post)) (b:Nat) (vn vs:V) (k:Kn):Bx (NQ kf e.a e.p k) (pre++⟨e.a,e.p,b,vn,vs,k⟩::post):=by
 have h1:=h.one;rw[List.pairwise_append,List.pairwise_cons]at h1;obtain⟨o1,⟨o2,o3⟩,o4⟩:=h1;refine⟨fun x hx=>?_,fun a p hp=>?_,?_,fun x hx=>?_⟩
 .rw [NQ]
  rcases D9.1 hx with hx|hx
  .rw[if_neg]
   .exact h.val x (O5 _ hx)
   .have:=o4 x hx e (.head _)
    rw[Pb]at this;exact this
  .rcases Fl.1 hx with rfl|hx
   .rw[if_pos ⟨rfl,rfl⟩]
   .rw[if_neg]
    .exact h.val x (OQ _ (.tail _ hx))
    .have:=o2 x hx
     rw[Pb]at this;exact fun⟨q1,q2⟩=>this ⟨q1.symm,q2.symm⟩
 .have he:=Pb.1 (hp _ (OQ _ (.head _)))
  rw[NQ,if_neg (fun⟨q1,q2⟩=>he ⟨q1.symm,q2.symm⟩)];refine h.JV a p fun x hx=>?_
  rcases D9.1 hx with hx|hx
  .exact hp x (O5 _ hx)
  .rcases Fl.1 hx with rfl|hx
   .exact Pb.2 he
   .exact hp x (OQ _ (.tail _ hx))
 .rw[List.pairwise_append,List.pairwise_cons]
  refine⟨o1,⟨o2,o3⟩,fun x hx y hy=>?_⟩;rcases Fl.1 hy with rfl|hy
  .exact o4 x hx e (.head _)
  .exact o4 x hx y (.tail _ hy)
 .rcases D9.1 hx with hx|hx
  .exact h.len x (O5 _ hx)
  .rcases Fl.1 hx with rfl|hx
   .exact h.len e (OQ _ (.head _))
   .exact h.len x (OQ _ (.tail _ hx))
def Su.change {pre post:List B6} {e:B6} (h:Su (pre++e::post)) (b:Nat) (vn vs:V) (k:Kn) (hs: ∀s∈k.AH,s∈e.k.AH\/ ∃e'∈pre++e::post,e'.is e.a (e.p++[s])=true):Su (pre++⟨e.a,e.p,b,vn,vs,k⟩::post):=by
 have mov: ∀ {a p},(∃e'∈pre++e::post,e'.is a p=true)-> ∃e'∈pre++(⟨e.a,e.p,b,vn,vs,k⟩:B6)::post,e'.is a p=true:=by
  rintro a p ⟨x,hx,h'⟩;rcases D9.1 hx with hx|hx
  .exact⟨x,O5 _ hx,h'⟩
  .rcases Fl.1 hx with rfl|hx
   .exact⟨_,OQ _ (.head _),h'⟩
   .exact⟨x,OQ _ (.tail _ hx),h'⟩
 intro x hx s hxs;rcases D9.1 hx with hx|hx
 .exact mov (h x (O5 _ hx) s hxs)
 .rcases Fl.1 hx with rfl|hx
  .rcases hs s hxs with h'|h'
   .exact mov (h e (OQ _ (.head _)) s h')
   .exact mov h'
  .exact mov (h x (OQ _ (.tail _ hx)) s hxs)
def Dq (f:Fact) (c:Bool) (j:Nat) (a:Int) (p:List Int) (k:Kn):Kn:=
 if f.arg=a/\Bm f.path p=true then(if p.length<j then gV (B2 k c) (f.path.getD p.length 0)else if p.length=j then B2 k c else k)else k
def HO {path p:List Int}:Bm path p=true↔p.length<=path.length/\p=path.take p.length:=by
 rw[B4];constructor
 .rintro⟨t,rfl⟩
  exact⟨by simp,by simp⟩
 .rintro⟨h1,h2⟩
  exact⟨path.drop p.length,by conv=>rhs;rw[h2,Lq,Nat.min_eq_left h1,List.take_append_drop]⟩
def po (f:Fact) (c:Bool) (a:Int) (p:List Int) (k:Kn):Dq f c 0 a p k=if a=f.arg/\p= []then B2 k c else k:=by
 unfold Dq;by_cases h:f.arg=a/\Bm f.path p=true
 .rw[if_pos h,if_neg (by omega)]
  by_cases hp:p.length=0
  .rw[if_pos hp,if_pos ⟨h.1.symm,YM.1 hp⟩]
  .rw[if_neg hp,if_neg (fun h'=>hp (by rw[h'.2];rfl))]
 .rw[if_neg h,if_neg]
  rintro⟨rfl,rfl⟩;exact h ⟨rfl,B4.2 ⟨f.path,by simp⟩⟩
def pq (f:Fact) (c:Bool) {j:Nat} (hj:j<f.path.length) (a:Int) (p:List Int) (k:Kn):Dq f c (j+1) a p k=if a=f.arg/\p=f.path.take (j+1)then B2 (Dq f c j a p k) c else if a=f.arg/\p=f.path.take j then gV (Dq f c j a p k) (f.path.getD j 0)else Dq f c j a p k:=by
 unfold Dq;by_cases h:f.arg=a/\Bm f.path p=true
 .rw [if_pos h,if_pos h]
  obtain⟨h1,h2⟩:=h;rw[HO]at h2;obtain⟨h2,h3⟩:=h2;have l1:p=f.path.take (j+1)↔p.length=j+1:=⟨fun e=>by rw[e,Lq];omega,fun e=>by rw[e]at h3;exact h3⟩
  have l2:p=f.path.take j↔p.length=j:=⟨fun e=>by rw[e,Lq];omega,fun e=>by rw[e]at h3;exact h3⟩
  have n1:p.length≠j+1-> ¬(a=f.arg/\p=f.path.take (j+1)):=fun h h'=>h (l1.1 h'.2)
  have n2:p.length≠j-> ¬(a=f.arg/\p=f.path.take j):=fun h h'=>h (l2.1 h'.2)
  by_cases q1:p.length<j
  .rw[if_pos (show p.length<j+1 by omega),if_neg (n1 (by omega)),if_neg (n2 (by omega)),if_pos q1]
  .by_cases q2:p.length=j
   .rw[if_pos (show p.length<j+1 by omega),if_neg (n1 (by omega)),if_pos (show a=f.arg/\p=f.path.take j from⟨h1.symm,l2.2 q2⟩),if_neg q1,if_pos q2,q2]
   .by_cases q3:p.length=j+1
    .rw[if_neg (show¬p.length<j+1 by omega),if_pos q3,if_pos (show a=f.arg/\p=f.path.take (j+1) from⟨h1.symm,l1.2 q3⟩),if_neg q1,if_neg q2]
    .rw[if_neg (show¬p.length<j+1 by omega),if_neg q3,if_neg (n1 q3),if_neg (n2 q2),if_neg q1,if_neg q2]
 .rw[if_neg h,if_neg h,if_neg,if_neg]
  .rintro⟨rfl,rfl⟩
   exact h ⟨rfl,B4.2 ⟨f.path.drop j,by rw[List.take_append_drop]⟩⟩
  .rintro⟨rfl,rfl⟩
   exact h ⟨rfl,B4.2 ⟨f.path.drop (j+1),by rw[List.take_append_drop]⟩⟩
def uh (a : Int) (p:List Int) (k:Kn) (l:Fact):C7 a p k l=if a=(Ah l).1.arg/\p=(Ah l).1.path then B1 (Dq (Ah l).1 (Ah l).2 (Ah l).1.path.length a p k) (Ah l).1 (Ah l).2 else Dq (Ah l).1 (Ah l).2 (Ah l).1.path.length a p k:=by
 unfold C7 Dq;by_cases h:(Ah l).1.arg=a/\Bm (Ah l).1.path p=true
 .rw [if_pos h,if_pos h]
  obtain⟨h1,h2⟩:=h;rw[HO]at h2;obtain⟨h2,h3⟩:=h2;by_cases hp:(Ah l).1.path=p
  .rw[if_pos hp,if_pos ⟨h1.symm,hp.symm⟩,if_neg (by rw[hp];omega),if_pos (by rw[hp])]
  .have hne:p.length<(Ah l).1.path.length:=by
    rcases Nat.lt_or_ge p.length (Ah l).1.path.length with h'|h'
    .exact h'
    .rw[List.take_of_length_le h']at h3
     exact absurd h3.symm hp
   rw[if_neg hp,if_neg (fun h=>hp h.2.symm),if_pos hne]
 .rw[if_neg h,if_neg h,if_neg]
  rintro⟨rfl,rfl⟩;exact h ⟨rfl,J4 _⟩
def pv (ls:List Fact) (l:Fact) (a:Int) (p:List Int):kn (ls++[l]) a p=C7 a p (kn ls a p) l:=by
 rw[kn,List.foldl_append];rfl
def Ty (l:List Int) (s:Int):(JI l s).length<=l.length+1:=by
 unfold JI;split
 .omega
 .rw[List.length_mergeSort];simp
def R3 (k:Kn) (f:Fact) (b:Bool):(B1 k f b).no.length<=k.no.length+1:=by
 unfold B1
 repeat' split
 all_goals simp
def jX (a:Int) (p:List Int): ∀(ls:List Fact) (k:Kn),(ls.foldl (C7 a p) k).no.length<=k.no.length+ls.length/\(ls.foldl (C7 a p) k).AH.length<=k.AH.length+ls.length
 | [],k=>⟨Ia _,Ia _⟩
 | l ::r,k=>by
   obtain⟨h1,h2⟩:=jX a p r (C7 a p k l)
   have h3:(C7 a p k l).no.length<=k.no.length+1/\(C7 a p k l).AH.length<=k.AH.length+1:=by
    unfold C7
    repeat' split
    .have:=R3 (B2 k (Ah l).2) (Ah l).1 (Ah l).2
     rw[IZ];simp only[B2]at this ⊢;omega
    .have:=Ty k.AH ((Ah l).1.path.getD p.length 0)
     simp only[gV,B2]at this ⊢;omega
    .omega
   rw[List.foldl_cons,Lr];omega
def pw {n:Nat} {ls:List Fact} (h:Gz n ls) (a:Int) (p:List Int):(kn ls a p).BW<2 ^ n/\(kn ls a p).Dt<2 ^ n:=by
 have hc:=MI ls a p;simp only[Dc,Prod.mk.injEq]at hc;have hc2:Gz n (ls.filter (Km a p)):=fun l hl=>h l (JU.1 hl).1
 rw[hc.2.2.2.1,hc.2.2.2.2.1];exact⟨MH hc2,jQ hc2⟩
end Go.Gl
namespace Go.Gl
def Gx (no:List Int):Nat->Int->Int
 | 0,n=>n
 | k+1,n=>if no.contains n then Gx no k (n+1)else n
def from_ (no:List Int) (n:Int):Nat:=(no.filter fun x=>decide (n<=x)).length
def Pf {no:List Int} {n:Int} (h:n∈no):from_ no (n+1)<from_ no n:=by
 induction no with
 | nil=>cases h
 | cons x r ih=>
   simp only[from_,List.filter_cons]at ih ⊢;by_cases hx:x=n
   .subst hx
    have hle:(r.filter fun y=>decide (x+1<=y)).length<=(r.filter fun y=>decide (x<=y)).length:=by
     refine List.Sublist.length_le ?_
     have e:(r.filter fun y=>decide (x+1<=y))=(r.filter fun y=>decide (x<=y)).filter fun y=>decide (x+1<=y):=by
      rw[List.filter_filter];refine List.filter_congr fun y _=>?_
      rw[G3,A0,CC,CC];omega
     rw[e];exact List.filter_sublist
    rw[if_neg (by simp<;>omega),if_pos (by simp),Lr];omega
   .have h':n∈r:=by
     rcases Fl.1 h with e|e
     .exact absurd e.symm hx
     .exact e
    have:=ih h';by_cases h1:n<=x
    .rw[if_pos (by rw[CC];omega),if_pos (by rw[CC];omega),Lr,Lr]
     omega
    .rw[if_neg (by rw[CC];omega),if_neg (by rw[CC];omega)]
     omega
def U7 (no:List Int) (n:Int):from_ no n<=no.length:=Pr _ _
def M5 {no:List Int}: ∀(k:Nat) (n:Int),from_ no n<=k->n<=Gx no k n/\Gx no k n∉no/\ ∀j,n<=j->j<Gx no k n->j∈no
 | 0,n,h=>by
   refine⟨Int.le_refl _,fun hm=>?_,fun j h1 h2=>by simp only[Gx]at h2;omega⟩;have:=Pf hm;simp only[Gx]at this;omega
 | k + 1,n,h=>by
   rw[Gx];split
   .rename_i hc
    rw[List.contains_iff_mem]at hc;have hlt:=Pf hc;obtain⟨h1,h2,h3⟩:=M5 (no:=no) k (n+1) (by omega);refine⟨by omega,h2,fun j hj1 hj2=>?_⟩;by_cases e:j=n
    .subst e;exact hc
    .exact h3 j (by omega) hj2
   .rename_i hc
    exact⟨Int.le_refl _,fun hm=>hc (List.contains_iff_mem.2 hm),fun j h1 h2=>by omega⟩
def kS {no:List Int} {k:Nat} {n:Int} (h:n∈no):Gx no (k+1) n=Gx no k (n+1):=by rw[Gx,if_pos (List.contains_iff_mem.2 h)]
def cQ {no:List Int} {k:Nat} {n:Int} (h:n∉no):Gx no k n=n:=by
 cases k with
 | zero=>rfl
 | succ k=>rw[Gx,if_neg (fun hc=>h (List.contains_iff_mem.1 hc))]
def Pn {no:List Int} {k k':Nat} {n:Int} (h:from_ no n<=k) (h':from_ no n<=k'):Gx no k n=Gx no k' n:=by
 obtain⟨a1,a2,a3⟩:=M5 k n h;obtain⟨b1,b2,b3⟩:=M5 k' n h';rcases Int.lt_trichotomy (Gx no k n) (Gx no k' n)with hl|he|hg
 .exact absurd (b3 _ a1 hl) a2
 .exact he
 .exact absurd (a3 _ b1 hg) b2
def Ef (k:Kn):Int:=Gx k.no k.no.length k.low
def H7 (kf:Int->List Int->Kn) (a:Int) (p:List Int):Bool:=(kf a p).AH.all fun s=> !(kf a (p++[s])).Ac
def Eb (kf:Int->List Int->Kn) (a:Int) (p:List Int) (c:Nat):Bool:=Hr (kf a p).BW (1|||2 ^ c)&&((kf a p).Dt&&&(1|||2 ^ c)==0&&H7 kf a p)
def F1 (kf:Int->List Int->Kn) (a:Int) (p:List Int):Bool:=decide (Ef (kf a p)<=(kf a p).high)&&Eb kf a p 1
def DZ (kf:Int->List Int->Kn) (a:Int) (p:List Int):Bool:= !(kf a p).whole&&Eb kf a p 2
def PE (w:AF) (kf:Int->List Int->Kn) (a:Int):Nat->List Int->Bool
 | 0,p=>F1 kf a p||(DZ kf a p||(PA w (kf a p) (fun s=>(kf a (p++[s])).Ac) (fun _=>false)).2)
 | d+1,p=>F1 kf a p||(DZ kf a p||(PA w (kf a p) (fun s=>(kf a (p++[s])).Ac) (fun s=>PE w kf a d (p++[s]))).2)
def gZ (w:AF) (kf:Int->List Int->Kn):Bool:=(BD 3).all fun a=>PE w kf a 2 []
def bz {n:Nat} {ls:List Fact} (h:HY n ls) (a:Int) (p:List Int):H7 (kn ls) a p=G8 n ls a p:=by
 rw[H7,G8,Jv h];congr 1;funext s;rw[KW,Bool.not_not]
def Yr {n m:Nat} {ls:List Fact} (hn:n<=64) (hc:Gz n ls) (h:HY m ls) (a:Int) (p:List Int):F1 (kn ls) a p=((PB ls a p).isSome&&G8 m ls a p):=by
 have hcore:=MI ls a p;have hc2:Gz n (ls.filter (Km a p)):=fun l hl=>hc l (JU.1 hl).1
 simp only[Dc,Prod.mk.injEq]at hcore;obtain⟨c1,c2,c3,c4,c5,-⟩:=hcore;rw[F1,Eb,bz h,c4,c5,<-Bool.and_assoc (Hr _ _),dz hn hc2,<-Bool.and_assoc];congr 1;have hf:=Td (ls.filter (Km a p)) k0;rw[PB,show t0=(k0.low,k0.high,k0.no) from rfl,hf,Ef,c2,c3,c1];obtain⟨h1,h2,h3⟩:=M5 (no:=(ET (ls.filter (Km a p)) k0).no) _ (ET (ls.filter (Km a p)) k0).low (U7 _ _);have hs:=lM (high:=(ET (ls.filter (Km a p)) k0).high) h1 h2 h3;cases(ls.filter (Km a p)).all fun l=>sj (Ah l)with
 | false=>simp
 | true=>rw[if_pos rfl,Option.bind_some,hs,Bool.and_true]
def Uw {n m:Nat} {ls:List Fact} (hn:n<=64) (hc:Gz n ls) (h:HY m ls) (a:Int) (p:List Int):DZ (kn ls) a p=Jg m ls a p:=by
 have hcore:=MI ls a p;have hc2:Gz n (ls.filter (Km a p)):=fun l hl=>hc l (JU.1 hl).1
 simp only[Dc,Prod.mk.injEq]at hcore;obtain⟨-,-,-,c4,c5,c6⟩:=hcore;rw[DZ,Eb,bz h,c4,c5,c6,Jg,<-ZS hn hc2];simp only[Bool.and_assoc]
def kH {w:AF} {ls:List Fact} (ho:ordered w.parents) (how: ∀s:Int,0<=s->s<w.owner.length->3<=Bc w s/\Bc w s<3+w.parents.length) (hn:3+w.parents.length<=64) (hc:Gz (3+w.parents.length) ls) (hp:HY w.owner.length ls) (a:Int): ∀(d:Nat) (p:List Int),PE w (kn ls) a d p=UG w ls a d p
 | 0,p=>by
   rw[PE,UG,Yr hn hc hp,Uw hn hc hp,sA ho how hc hp fun s=>KW ls a (p++[s])]
 | d+1,p=>by
   rw[PE,UG,Yr hn hc hp,Uw hn hc hp,sA ho how hc hp fun s=>KW ls a (p++[s])];have e:(fun s=>PE w (kn ls) a d (p++[s]))=fun s=>UG w ls a d (p++[s]):=funext fun s=>kH ho how hn hc hp a d (p++[s])
   rw[e]
def tc {w:AF} {ls:List Fact} (ho:ordered w.parents) (how: ∀s:Int,0<=s->s<w.owner.length->3<=Bc w s/\Bc w s<3+w.parents.length) (hn:3+w.parents.length<=64) (hc:Gz (3+w.parents.length) ls) (hp:HY w.owner.length ls):gZ w (kn ls)=HR w ls:=by
 rw[gZ,HR];congr 1;funext a;exact kH ho how hn hc hp a 2 []
end Go.Gl
namespace Go.Gl
open Go.Proofs
attribute [local irreducible] Ar Aj AZ AQ AL AX AP AR AJ AW AM AN Am Av Sat AT As Aa W
section
variable {S:Type} (g:FuncId) (fi ca:List V) (H:S->List At) (f:Int->Bool) (J:S->Prop) (D:Int->Prop)
def Sa {v:V} {xs:List Int} (hst:Of zP (.f (.func g) fi ca) eI (fun s=> .own v 1 (iL xs)::H s) f J D) (hD: ∀x∈xs,D x) (hxl:xs.length<=Ae) (s0:S) (hj0:J s0) :
    BS zP 117 [v,.f (.func g) fi ca] (.own v 1 (iL xs)::H s0) fun r post=>r= .ret (eI (Od f xs 0))/\ ∃s',J s'/\post= .own v 1 (iL xs)::H s':=by
 intro Z hs;have hM:=Mx;refine kE kZ ?_;refine zz ?_;(repeat clear U K);repeat intro K U
 refine CZ xs.length (fun k (_:S)=>[(8,eI (BL k))]) (fun _ s=> .own v 1 (iL xs)::H s) (fun k s=>J s/\Od f xs 0=Od f (xs.drop k) k) s0 rfl ⟨hj0,rfl⟩ hs ?_;clear hs hj0;rintro k s Z hk ⟨hj,hn⟩ hs;have hck:BL k=k:=Ag (by omega);rcases BF xs hk with⟨y,hy,hlt⟩|hke
 .rw[drop_cons hy]at hn
  have hDy:=hD y (CY hy);rw[Od]at hn
  conv=>whnf
  repeat'((first|clear U K|apply st|(apply zk;intro K U)|refine zY ?_|refine ze fun x hx=>?_|fail)<;>conv=>whnf)
  obtain rfl:x=y:=by rw[hck,HP,hy]at hx;exact(Option.some.inj hx).symm
  refine hst.use hDy hj hs ?_;clear hs hj;intro s Z hj hs;cases hyes:f x
  .rw[hyes,if_neg (by decide)]at hn
   refine zz ?_;(repeat clear U K);repeat intro K U
   exact⟨hlt,_,rfl,⟨hj,hn⟩,hs⟩
  .rw[hyes,if_pos rfl]at hn
   refine zz ?_;(repeat clear U K);repeat intro K U
   rw[hn];exact AI ⟨_,⟨by rw[hck],s,hj,rfl⟩,hs⟩
 .rw[Ao hke,Od]at hn
  refine zz ?_;(repeat clear U K);repeat intro K U
  rw[hn];exact AI ⟨_,⟨rfl,s,hj,rfl⟩,hs⟩
def PJ {v:V} {xs:List Int} (hst:Of zP (.f (.func g) fi ca) eI (fun s=> .own v 1 (iL xs)::H s) f J D) (hD: ∀x∈xs,D x) (hxl:xs.length<=Ae) (s0:S) (hj0:J s0) :
    BS zP 49 [v,.f (.func g) fi ca] (.own v 1 (iL xs)::H s0) fun r post=>r= .ret (.b (xs.any f))/\ ∃s',J s'/\post= .own v 1 (iL xs)::H s':=by
 intro Z hs;refine sT kZ ?_
 conv=>whnf
 repeat'((first|clear U K|apply st|(apply zk;intro K U)|fail)<;>conv=>whnf)
 refine(Sa g fi ca H f J D hst hD hxl s0 hj0).use (rest:=[]) (by simpa using hs) ?_;rintro r post Z ⟨rfl,s',hj,rfl⟩ hs;refine zz ?_;(repeat clear U K);repeat intro K U
 exact AI ⟨_,⟨by rw[<-XP f xs 0],s',hj,rfl⟩,by simpa using hs⟩
def pY {v:V} {xs:List Int} (hst:Of zP (.f (.func g) fi ca) eI (fun s=> .own v 1 (iL xs)::H s) f J D):Of zP (.f (.func 301) [] [.rp [.f (.func g) fi ca]]) eI (fun s=> .own v 1 (iL xs)::H s) (fun y=> !f y) J D:=by
 intro y s hd hj Z hs;refine BA ?_;show Ar zP 301 ([]++[eI y]++[.rp [.f (.func g) fi ca]]) Z _;refine jo kZ ?_;refine zz ?_;(repeat clear U K);repeat intro K U
 refine hst.use hd hj hs ?_;clear hs;intro s' Z hj' hs;refine zz ?_;(repeat clear U K);repeat intro K U
 exact AI ⟨rfl,s',hj',hs⟩
def cO {v:V} {xs:List Int} (hst:Of zP (.f (.func g) fi ca) eI (fun s=> .own v 1 (iL xs)::H s) f J D) (hD: ∀x∈xs,D x) (hxl:xs.length<=Ae) (s0:S) (hj0:J s0) :
    BS zP 246 [v,.f (.func g) fi ca] (.own v 1 (iL xs)::H s0) fun r post=>r= .ret (.b (xs.all f))/\ ∃s',J s'/\post= .own v 1 (iL xs)::H s':=by
 intro Z hs;refine ju kZ ?_
 conv=>whnf
 repeat'((first|clear U K|apply st|(apply zk;intro K U)|fail)<;>conv=>whnf)
 refine(PJ 301 [] [.rp [.f (.func g) fi ca]] H _ J D (pY g fi ca H f J D hst) hD hxl s0 hj0).use (rest:=[]) (by simpa using hs) ?_;rintro r post Z ⟨rfl,s',hj,rfl⟩ hs;refine zz ?_;(repeat clear U K);repeat intro K U
 refine AI ⟨_,⟨?_,s',hj,rfl⟩,by simpa using hs⟩;rw[List.all_eq_not_any_not]
end
abbrev JQ (l:Fact):List V:=xF (Ah l).1++[.b (Ah l).2]
abbrev Dx (ls:List Fact):List (List V):=ls.map JQ
def az (xs ys:List Int) (f g:Bool):Pure zP 95 [.l (iL xs) f,.l (iL ys) g] (.b (xs==ys)):=by
 refine Pure.fit (by kernel_rfl) fun hf=>?_
 have hx:=Sl hf.1;have hy:=Sl hf.2.1;have hM:=Mx;refine ABD kZ ?_;have hs:=Sn
 conv=>whnf
 repeat'((first|clear U K|apply st|(apply zk;intro K U)|refine zY ?_|(refine zd (fun hc=>?_) (fun hc=>?_)<;>try exact⟨⟩)|fail)<;>conv=>whnf)
 .exact AG (by(have:(xs==ys)=false:=by(simp;intro e;subst e;simp at hc));rw[this])
 have hl:xs.length=ys.length:=by omega
 refine CZ xs.length (fun k (_:Unit)=>[(13,eI (BL k))]) (fun _ _=>[]) (fun k _=>(xs==ys)=(xs.drop k==ys.drop k)) () rfl rfl Sat.nil ?_;clear hs;rintro k - Z hk hn hs;rcases BF xs hk with⟨x,hxk,hlt⟩|hke
 .obtain⟨y,hyk⟩: ∃y,ys[k]? =some y:=⟨_,DC (by omega)⟩
  rw[drop_cons hxk,drop_cons hyk]at hn
  conv=>whnf
  repeat'((first|clear U K|apply st|(apply zk;intro K U)|refine zY ?_|refine za (fun hc=>?_) fun hc=>?_|fail)<;>conv=>whnf)
  .exact AG (by rw[hn];simp[*])
  .exact⟨hlt,(),rfl,by rw[hn];simp[*],hs⟩
 .refine zz ?_;(repeat clear U K);repeat intro K U
  exact AG (by rw[hn,Ao hke,Ao (by omega)];rfl)
def px (a b:Bool) (u:V):Pure zP 293 [.l [] a,.l [] b,u] (.b true):=by
 refine wU kZ ?_;have hs:=Sn;have hM:=Mx
 conv=>whnf
 repeat'((first|clear U K|apply st|(apply zk;intro K U)|refine zY ?_|(refine zb (fun hc=>?_) (fun hc=>?_)<;>try exact⟨⟩)|fail)<;>conv=>whnf)
 refine CZ 0 (fun k (_:Unit)=>[(17,eI (BL k))]) (fun _ _=>[]) (fun _ _=>True) () rfl trivial Sat.nil ?_;clear hs;rintro k - Z hk - hs;obtain rfl:k=0:=by omega
 conv=>whnf
 repeat'((first|clear U K|apply st|(apply zk;intro K U)|refine zY ?_|(refine zd (fun hc=>?_) (fun hc=>?_)<;>try exact⟨⟩)|fail)<;>conv=>whnf)
 .exfalso
  simp at hc
 .exact AG rfl
def oq (f g:Fact) (hf:f.kids= []) (hg:g.kids= []):Pure zP 227 [.a (xF f),.a (xF g)] (.b (Hz f g)):=by
 have e:Hz f g=(f.op==g.op&&(f.arg==g.arg&&(f.cls==g.cls&&(f.n==g.n&&f.path==g.path)))):=by
  rw[Wt,hf,hg];simp[Yg]
 obtain⟨o,a,p,c,n,k⟩:=f;obtain⟨o',a',p',c',n',k'⟩:=g;simp only[Fact.kids]at hf hg;subst hf;subst hg;refine xY kZ ?_;have hs:=Sn;rw[e]
 conv=>whnf
 repeat'((first|clear U K|apply st|(apply zk;intro K U)|refine zY ?_|refine Pure.use (az _ _ _ _) ?_|refine Pure.use (px _ _ _) ?_|refine za (fun hc=>?_) fun hc=>?_|fail)<;>conv=>whnf)
 all_goals simp only[Fact.op,Fact.arg,Fact.cls,Fact.n,Fact.path]at *
 all_goals exact AG (by simp[*])
def UU:E0 JQ 7:=fun l=>by
 refine⟨rfl,fun v hv=>?_⟩;rcases D9.1 hv with hv|hv
 .exact(QR (Ah l).1).2 v (by show v∈FN (Ah l).1;rw[Bn];exact hv)
 .simp at hv;subst hv;rfl
def Sg (x y:Fact):Bool:=(Ah x).2==(Ah y).2&&Hz (Ah x).1 (Ah y).1
abbrev aJ (l:Fact):Prop:=(Ah l).1.kids= []
abbrev s7 (f:Fact->Bool):Fact->Unit->Bool×Unit:=fun y _=>(f y,())
def ot (x:Fact) (hx1:aJ x) (n:Nat):DL zP (.f (.func 266) [] [.p n 0]) (fun y=> .a (JQ y)) (fun _:Unit=>[.box n (JQ x)]) (s7 (Sg x)) (fun y _=>aJ y):=by
 intro y s hy1 Z hs;refine BA ?_;show Ar zP 266 ([]++[.a (JQ y)]++[.p n 0]) Z _;refine wx kZ ?_;unfold Sg
 conv=>whnf
 repeat'((first|clear U K|apply st|(apply zk;intro K U)|refine zY ?_|refine Pure.use (oq _ _ hx1 hy1) ?_|refine za (fun hc=>?_) fun hc=>?_|fail)<;>conv=>whnf)
 all_goals exact AI ⟨by simp[s7, *],hs⟩
section
variable {S:Type} (g:FuncId) (fi ca:List V) (H:S->List At)
def SZ (stp:Fact->S->Bool×S) (D:Fact->S->Prop) {v:V} {xs:List Fact} (hst:DL zP (.f (.func g) fi ca) (fun y=> .a (JQ y)) (fun s=> .own v 7 (Dx xs)::H s) stp D) (hxl:xs.length<=Ae) (s0:S) (hd:YO stp D xs s0) :
    BS zP 313 [v,.f (.func g) fi ca] (.own v 7 (Dx xs)::H s0) fun r post=>r= .ret (eI (Bj stp xs 0 s0).1)/\post= .own v 7 (Dx xs)::H (Bj stp xs 0 s0).2:=by
 intro Z hs;have hM:=Mx;refine wE kZ ?_;refine zz ?_;(repeat clear U K);repeat intro K U
 refine CZ xs.length (fun k (_:S)=>[(8,eI (BL k))]) (fun _ s=> .own v 7 (Dx xs)::H s) (fun k s=>YO stp D (xs.drop k) s/\Bj stp xs 0 s0=Bj stp (xs.drop k) k s) s0 rfl ⟨hd,rfl⟩ hs ?_;clear hs;rintro k s Z hk ⟨hd,hn⟩ hs;have hck:BL k=k:=Ag (by omega);rcases BF xs hk with⟨y,hy,hlt⟩|hke
 .rw[drop_cons hy]at hn hd
  obtain⟨hd1,hd2⟩:=hd;rw[Bj]at hn
  conv=>whnf
  repeat'((first|clear U K|apply st|(apply zk;intro K U)|refine zY ?_|refine ze fun x hx=>?_|fail)<;>conv=>whnf)
  obtain rfl:x=y:=by rw[hck,HP,hy]at hx;exact(Option.some.inj hx).symm
  refine hst.use hd1 hs ?_;clear hs;intro Z hs;cases hyes:(stp x s).1
  .rw[hyes,if_neg (by decide)]at hn
   refine zz ?_;(repeat clear U K);repeat intro K U
   exact⟨hlt,_,rfl,⟨hd2,hn⟩,hs⟩
  .rw[hyes,if_pos rfl]at hn
   refine zz ?_;(repeat clear U K);repeat intro K U
   rw[hn];exact AI ⟨_,⟨by rw[hck],rfl⟩,hs⟩
 .rw[Ao hke,Bj]at hn
  refine zz ?_;(repeat clear U K);repeat intro K U
  rw[hn];exact AI ⟨_,⟨rfl,rfl⟩,hs⟩
def OP (stp:Fact->S->Bool×S) (D:Fact->S->Prop) {v:V} {xs:List Fact} (hst:DL zP (.f (.func g) fi ca) (fun y=> .a (JQ y)) (fun s=> .own v 7 (Dx xs)::H s) stp D) (hxl:xs.length<=Ae) (s0:S) (hd:YO stp D xs s0) :
    BS zP 265 [v,.f (.func g) fi ca] (.own v 7 (Dx xs)::H s0) fun r post=>r= .ret (.b (decide ((Bj stp xs 0 s0).1≥0)))/\post= .own v 7 (Dx xs)::H (Bj stp xs 0 s0).2:=by
 intro Z hs;refine wy kZ ?_
 conv=>whnf
 repeat'((first|clear U K|apply st|(apply zk;intro K U)|fail)<;>conv=>whnf)
 refine(SZ g fi ca H stp D hst hxl s0 hd).use (rest:=[]) (by simpa using hs) ?_;rintro r post Z ⟨rfl,rfl⟩ hs;refine zz ?_;(repeat clear U K);repeat intro K U
 exact AI ⟨_,⟨rfl,rfl⟩,by simpa using hs⟩
end
def mq (a:List Fact) (f:Bool) (hl:a.length<=1000000):BS zP 264 [.l (Dx a) f] [] fun r post=> ∃v,r= .ret v/\post= [.own v 7 (Dx a)]:=by
 intro Z hs;have hM:=Mx;refine wz kZ ?_
 conv=>whnf
 repeat'((first|clear U K|apply st|(apply zk;intro K U)|fail)<;>conv=>whnf)
 refine⟨fun e t=>?_,fun _=>?_⟩
 .have hxe:a= []:=List.map_eq_nil_iff.1 e
  subst hxe
  conv=>whnf
  repeat'((first|clear U K|apply st|(apply zk;intro K U)|refine za (fun hc=>?_) fun hc=>?_|fail)<;>conv=>whnf)
  .exact AI ⟨_,⟨_,rfl,rfl⟩,Db hs 7⟩
  .replace hs:=Db hs 7
   refine Oa hs 0 (xs:=[]) (ys:=[]) rfl (by simp) UU fun v Z hs=>?_
   refine zz ?_;(repeat clear U K);repeat intro K U
   exact AI ⟨_,⟨_,rfl,rfl⟩,hs⟩
 .refine zz ?_;(repeat clear U K);repeat intro K U
  replace hs:=Db hs 7;refine Oa hs 0 (xs:=[]) (ys:=a) rfl (by simp;omega) UU fun v Z hs=>?_
  refine zz ?_;(repeat clear U K);repeat intro K U
  exact AI ⟨_,⟨_,rfl,rfl⟩,hs⟩
def Wn {w:AF} {x:Fact} (h:DY w x):x=if(Ah x).2 then Ez (Ah x).1 else(Ah x).1:=by
 obtain⟨g,hn,hl,rfl|rfl⟩:=h
 .have:=Ff hl
  have h5: ¬x.op=5:=by omega
  simp only[Ah,if_neg h5];rfl
 .rfl
def aw {w:AF} {x y:Fact} (hx1:DY w x) (hy1:DY w y):Sg x y=Hz x y:=by
 rw[G3,N4];simp only[Sg,A0,Cd,N4];constructor
 .rintro⟨h1,h2⟩
  rw[Wn hx1,Wn hy1,h1,h2]
 .rintro rfl
  exact⟨rfl,rfl⟩
def TL {w:AF} {x:Fact} (h:DY w x):aJ x:=by
 obtain⟨-,hn,hl⟩:=IF h;have hlo:=Ff hl;have har:=B7 _ hn;rw[Mw,A0,Cd]at har
 have h0:CE (Ah x).1.op=0:=by
  have h5: ¬(Ah x).1.op=5:=by omega
  have h6: ¬((Ah x).1.op=6\/(Ah x).1.op=7):=by omega
  simp[CE,h5,h6]
  try omega
 rw[h0]at har;exact YM.1 har.1
def ee {w:AF} (a b:List Fact) (f g:Bool) (hla: ∀x∈a,DY w x) (hlb: ∀x∈b,DY w x) (hl:a.length+b.length<1000000):Pure zP 190 [.l (Dx a) f,.l (Dx b) g] (.l (Dx (C1 a b)) false):=by
 have hM:=Mx;refine Pure.of ?_;refine xy kZ ?_;have hs:=Sn
 conv=>whnf
 repeat'((first|clear U K|apply st|(apply zk;intro K U)|fail)<;>conv=>whnf)
 refine(mq a f (by omega)).use (rest:=[]) (by simpa using hs) ?_;clear hs;rintro r post Z ⟨v,rfl,rfl⟩ hs;refine zz ?_;(repeat clear U K);repeat intro K U
 refine CZ b.length (fun k v=>[(5,v),(12,eI (BL k))]) (fun k v=>[.own v 7 (Dx (C1 a (b.take k)))]) (fun _ _=>True) v rfl trivial hs ?_;clear hs;rintro k v Z hk - hs;have hml:=TR a (b.take k);rw[Lq]at hml;rcases BF b hk with⟨x,hxk,hlt⟩|hke
 .have hsn:=ZZ a (b.take k) x
  rw[<-AU hxk]at hsn;have hxg:=hlb x (CY hxk)
  have hmem: ∀y∈C1 a (b.take k),DY w y:=fun y hy=>by
   rcases TQ _ _ _ hy with h|h
   .exact hla y h
   .exact hlb y (List.mem_of_mem_take h)
  generalize C1 a (b.take k)=m at *
  have hany:m.any (Sg x)=m.any (Hz x):=by
   rw[G3,Hn,Hn];exact⟨fun⟨y,hy,h⟩=>⟨y,hy,by rw[<-aw hxg (hmem y hy)];exact h⟩,fun⟨y,hy,h⟩=>⟨y,hy,by rw[aw hxg (hmem y hy)];exact h⟩⟩
  conv=>whnf
  repeat'((first|clear U K|apply st|(apply zk;intro K U)|refine zY ?_|refine zs fun Z hs=>?_|refine zo fun nn hnn Z hs=>?_|fail)<;>conv=>whnf)
  generalize nn=n7 at *;have hs2:Sat Z [.own v 7 (Dx m),.box n7 (JQ x)]:=hs.perm (.swap _ _ _);clear hs hnn;refine(OP 266 [] [.p n7 0] (fun _:Unit=>[.box n7 (JQ x)]) (s7 (Sg x)) (fun y _=>aJ y) ((ot x (TL hxg) n7).more [_]) (by omega) () (Ha fun y hy _=>TL (hmem y hy))).use (rest:=[]) hs2 ?_;clear hs2;rintro r post Z ⟨rfl,rfl⟩ hs;rw[Ms,hany];cases hy:m.any (Hz x)
  .rw[hy,if_neg Bool.false_ne_true]at hsn
   refine zz ?_;(repeat clear U K);repeat intro K U
   refine Iz (GY (x:=x) (xs:=m) (enc:=JQ) hs 0 rfl (by omega) UU fun v Z hs hsl=>?_);refine zz ?_;(repeat clear U K);repeat intro K U
   exact⟨hlt,v,rfl,trivial,by rw[hsn];exact hs.less (.cons₂ _ (O4 _))⟩
  .rw[hy,if_pos rfl]at hsn
   refine zz ?_;(repeat clear U K);repeat intro K U
   exact⟨hlt,v,rfl,trivial,by rw[hsn];exact hs.less (.cons₂ _ (O4 _))⟩
 .refine zz ?_;(repeat clear U K);repeat intro K U
  exact gD (Gi hs 0 rfl (vf:= .l (Dx (C1 a b)) false) (by rw[BC hke])) fun r Z h=>h.1
end Go.Gl
namespace Go.Gl
open Go.Proofs
abbrev ko:AV:=(.seq [0,3] (.DH [⟨(some 3),.PF (.t 1),none⟩,
 ⟨(some 4),.mv (.c .pn),none⟩])
 (.seq [0,3,5,6] (.HT [0,3,5,6] [⟨0,⟨(some 8),.mv (.t 0),none⟩,[],[]⟩,
  ⟨1,⟨(some 9),.JA (.t 8),none⟩,[],[]⟩,
  ⟨2,⟨(some 10),.F9 1 (.t 9),none⟩,[],[]⟩,
  ⟨3,⟨(some 11),.load none (.t 10),none⟩,[],[]⟩,
  ⟨4,⟨(some 12),.load (some 4) (.t 3),none⟩,[],[]⟩,
  ⟨5,⟨(some 13),.lookup (.a [.i64,.i64,.i64,.i64]) .pn true (.t 11) (.t 12),none⟩,[],[]⟩,
  ⟨6,⟨(some 7),.mv (.t 13),none⟩,[],[]⟩,
  ⟨7,⟨(some 14),.extract 0 (.t 7),none⟩,[],[]⟩,
  ⟨8,⟨(some 15),.extract 1 (.t 7),none⟩,[],[]⟩,
  ⟨9,⟨(some 5),.mv (.t 14),none⟩,[],[]⟩,
  ⟨10,⟨(some 6),.mv (.t 15),none⟩,[],[]⟩])
 (.seq [5] (.seq [0,3,5,17] (.DH [⟨(some 16),.mv (.t 6),none⟩,
  ⟨(some 17),.not (.t 16),none⟩])
 (.cond (.t 17)
 (.seq [0,3,5] (.DH [⟨(some 18),.build [(.i .i64 0),(.i .i64 0),(.l [] true)] [(0,1,(.c (.i .i64 (-1000000000)))),(1,1,(.c (.i .i64 1000000000)))],none⟩,
  ⟨(some 19),.build [(.i .i64 0),(.i .i64 0),(.l [] true),(.i .u64 0),(.i .u64 0),(.b false),(.b false),(.l [] true)] [(0,3,(.t 18))],none⟩,
  ⟨(some 20),.box (.t 19),none⟩,
  ⟨(some 5),.mv (.t 20),none⟩])
 (.HT [5] [⟨0,⟨(some 21),.mv (.t 0),none⟩,[],[]⟩,
  ⟨1,⟨(some 22),.JA (.t 21),none⟩,[],[]⟩,
  ⟨2,⟨(some 23),.F9 1 (.t 22),none⟩,[],[]⟩,
  ⟨3,⟨(some 24),.load none (.t 23),none⟩,[],[]⟩,
  ⟨4,⟨(some 25),.load (some 4) (.t 3),none⟩,[],[]⟩,
  ⟨5,⟨(some 26),.mv (.t 5),none⟩,[],[]⟩,
  ⟨6,⟨none,.Ed (.a [.i64,.i64,.i64,.i64]) (.t 24) (.t 25) (.t 26),none⟩,[],[]⟩]))
 .skip))
 (.seq [4] (.DH [⟨(some 27),.mv (.t 5),none⟩,
  ⟨(some 4),.mv (.t 27),none⟩])
 .ret))))
def o0:Tryz.f198.body.bind (res Tryz.prog Tryz.f198.ntmps [] [3])=some (erase ko):=by kernel_rfl
def qy {args:List V} (hn:args.length<=28) {Z:AE} {Q:R->AE->Prop} (h:W Tryz.prog ko (iF [4] Q) (A6 0 args) Z):Ar Tryz.prog 198 args Z Q:=
 Lg Tryz.func198 (by kernel_rfl) o0 rfl hn (nv h)
end Go.Gl
namespace Go.Gl
open Go.Proofs
attribute [local irreducible] Ar Aj AZ AQ AL AX AP AR AJ AW AM AN Am Av Sat AT As Aa W
abbrev Vb (w:AF) (us:List Nat) (L:Nat):V:= .rp [.rp (wC w us),.m L]
def Kl (es es':List B6):Prop:= ∃new:List B6,es'=es++new/\ ∀x∈new,x.k=k0
def Kl.refl (es:List B6):Kl es es:=⟨[],by simp,by simp⟩
def Kl.trans {a b c:List B6} (h1:Kl a b) (h2:Kl b c):Kl a c:=by
 obtain⟨x,rfl,hx⟩:=h1;obtain⟨y,rfl,hy⟩:=h2;refine⟨x++y,by simp,fun z hz=>?_⟩;rcases D9.1 hz with h|h
 .exact hx z h
 .exact hy z h
def Kl.mem {a b:List B6} (h:Kl a b) {e:B6} (he:e∈a):e∈b:=by
 obtain⟨x,rfl,_⟩:=h;exact O5 _ he
structure oP (kf:Int->List Int->Kn) (es es':List B6) (a:Int) (p:List Int) (e:B6):Prop where
 inv:Bx kf es'
 ext:Kl es es'
 mem:e∈es'
 is:e.is a p=true
def oP.k {kf:Int->List Int->Kn} {es es':List B6} {a:Int} {p:List Int} {e:B6} (h:oP kf es es' a p e):e.k=kf a p:=by
 have:=h.inv.val e h.mem;obtain⟨h1,h2⟩:=Ge.1 h.is;rw[this,h1,h2]
def Nk {Z:AE} {l:List At} (h:Sat Z l) (i:Nat) {n:Nat} {kvs:List (V×V)} {ks:KS} {z vk:V} {ok:Bool} {o:Option V} (hi:l[i]? =some (.map n kvs)) (hk:BV ks vk=true) (hks: ∀kv∈kvs,BV ks kv.1=true) (hf:Co vk kvs=o) {K:V->Prop} (h':K (found z ok o)) :
    AM Z ks z ok (.m n) vk K:=KB h i hi hk hks (hf ▸ h')
def L9 (w:AF) (us:List Nat) {kf:Int->List Int->Kn} {L:Nat} {es:List B6} (h:Bx kf es) {a:Int} {p:List Int} (hp:p.length<=2) :
    BS zP 198 [Vb w us L,CG a p] (CI L es) fun r post=> ∃es' e,oP kf es es' a p e/\r= .ret (.p e.b 0)/\post=CI L es':=by
 intro Z hs;refine qy kZ ?_;unfold CI at hs;rcases iM a p es with hn|⟨pre,e,post,rfl,he,hpre⟩
 .have hf:=Qp hp h.len hn
  conv=>whnf
  repeat'((first|clear U K|apply st|(apply zk;intro K U)|refine zY ?_|refine Nk hs 0 rfl rfl (II _) hf ?_|refine Io hs 1 rfl rfl (II _) fun Z hs=>?_|refine zo fun nn hnn Z hs=>?_|fail)<;>conv=>whnf)
  simp only[List.set_cons_succ,List.set_cons_zero]at hs;change Sat Z (_:: .map L (Da (CG a p) (.p nn 0) (T4 es))::_)at hs;rw[Yn hp nn (.l [] true) (.l [] true) k0 h.len hn]at hs;have hs2:=Db (Db hs 1) 1;refine AI ⟨_,⟨es++[⟨a,p,nn,.l [] true,.l [] true,k0⟩],⟨a,p,nn,.l [] true,.l [] true,k0⟩,⟨h.add hp hn _ _ _,⟨_,rfl,by simp⟩,by simp,by simp[B6.is]⟩,rfl,rfl⟩,?_⟩;unfold CI;rw[List.flatMap_append,List.flatMap_cons,List.flatMap_nil,FE];refine hs2.perm ((List.perm_middle (l₁:=[_,_,_])).trans (.cons _ (PL.trans (List.Perm.append_left _ (List.reverse_perm _).symm))))
 .have hf:=Qo hp he h.len hpre
  conv=>whnf
  repeat'((first|clear U K|apply st|(apply zk;intro K U)|refine zY ?_|refine Nk hs 0 rfl rfl (II _) hf ?_|fail)<;>conv=>whnf)
  exact AI ⟨_,⟨_,e,⟨h,.refl _,by simp,he⟩,rfl,rfl⟩,hs⟩
def PY (a:Int) (p:List Int) (s:Int) (hp:p.length<2):Pure zP 199 [CG a p,eI s] (CG a (p++[s])):=by
 refine xq kZ ?_;have hs:=Sn
 match p,hp with
 | [],_=>
   exact zW
 | [x],_=>
   exact zW
def y5 {b:Nat} {vn vs:V} {k:Kn} (f:Fact) (c:Bool) (hl:f.op=2\/f.op=3\/f.op=4) (hc:f.op=2->0<=f.cls/\f.cls<64) (hm:k.BW<18446744073709551616) (hn:k.Dt<18446744073709551616) (hno:k.no.length<1000000) (hN: -1000000000<=f.n/\f.n<=1000000000) :
    BS zP 269 [.p b 0,.a (xF f++[.b c])] (tS b vn vs k) fun r post=>r= .ret (.t [])/\ ∃vn',post=tS b vn' vs (B1 k f c):=by
 intro Z hs;have hM:=Mx;refine wq kZ ?_;rw[show xF f++[V.b c]= [eI f.op,eI f.arg,.l (iL f.path) false,eI f.cls,eI f.n,.l (f.kids.map FN) false,.b c] from rfl];have hw:IntKind.i64.wrap (f.n - 1)=f.n - 1:=wrap64 (by omega) (by omega);cases c<;>rcases hl with h2|h3|h4
 .have hE:B1 k f false= {k with BW:=k.BW|||2 ^ f.cls.toNat}:=by rw[B1,if_pos h2,if_neg Bool.false_ne_true]
  rw[hE]
  conv=>whnf
  repeat'((first|clear U K|apply st|(apply zk;intro K U)|refine zY ?_|refine zs fun Z hs=>?_|refine Pure.use (IA _ _ hm (by omega) (by omega)) ?_|(refine zb (fun hc=>?_) (fun hc=>?_)<;>try exact⟨⟩)|fail)<;>conv=>whnf)
  exact AI ⟨_,⟨rfl,vn,rfl⟩,hs⟩
 .have hE:B1 k f false= {k with high:=if f.n - 1<k.high then f.n - 1 else k.high,whole:=true}:=by rw[B1,if_neg (by omega),if_pos h3,if_neg Bool.false_ne_true]
  rw[hE]
  conv=>whnf
  repeat'((first|clear U K|apply st|(apply zk;intro K U)|refine zY ?_|refine zs fun Z hs=>?_|(refine zb (fun hc=>?_) (fun hc=>?_)<;>try exact⟨⟩)|fail)<;>conv=>whnf)
  rw[hw]at hs;exact AI ⟨_,⟨rfl,vn,rfl⟩,hs⟩
 .have hE:B1 k f false= {k with low:=if f.n > k.low then f.n else k.low,high:=if f.n<k.high then f.n else k.high,whole:=true}:=by rw[B1,if_neg (by omega),if_neg (by omega),if_neg Bool.false_ne_true]
  rw[hE]
  conv=>whnf
  repeat'((first|clear U K|apply st|(apply zk;intro K U)|refine zY ?_|refine rk ?_ ?_|exact fun s e=>by cases e;rfl|refine zs fun Z hs=>?_|(refine zb (fun hc=>?_) (fun hc=>?_)<;>try exact⟨⟩)|fail)<;>conv=>whnf)
  exact AI ⟨_,⟨rfl,vn,rfl⟩,hs⟩
 .have hE:B1 k f true= {k with Dt:=k.Dt|||2 ^ f.cls.toNat}:=by rw[B1,if_pos h2,if_pos rfl]
  rw[hE]
  conv=>whnf
  repeat'((first|clear U K|apply st|(apply zk;intro K U)|refine zY ?_|refine zs fun Z hs=>?_|refine Pure.use (IA _ _ hn (by omega) (by omega)) ?_|(refine zb (fun hc=>?_) (fun hc=>?_)<;>try exact⟨⟩)|fail)<;>conv=>whnf)
  exact AI ⟨_,⟨rfl,vn,rfl⟩,hs⟩
 .have hE:B1 k f true= {k with low:=if f.n > k.low then f.n else k.low}:=by rw[B1,if_neg (by omega),if_pos h3,if_pos rfl]
  rw[hE]
  conv=>whnf
  repeat'((first|clear U K|apply st|(apply zk;intro K U)|refine zY ?_|refine zs fun Z hs=>?_|(refine zb (fun hc=>?_) (fun hc=>?_)<;>try exact⟨⟩)|fail)<;>conv=>whnf)
  exact AI ⟨_,⟨rfl,vn,rfl⟩,hs⟩
 .have hE:B1 k f true= {k with no:=k.no++[f.n]}:=by rw[B1,if_neg (by omega),if_neg (by omega),if_pos rfl]
  rw[hE]
  conv=>whnf
  repeat'((first|clear U K|apply st|(apply zk;intro K U)|refine zY ?_|refine zs fun Z hs=>?_|refine aq fun v Z hs hsl=>?_|(refine zb (fun hc=>?_) (fun hc=>?_)<;>try exact⟨⟩)|fail)<;>conv=>whnf)
  exact AI ⟨_,⟨rfl,_,rfl⟩,hs⟩
def H4 {Z:AE} {X:List At} {L:Nat} {pre post:List B6} {e:B6} (h:Sat Z (X++CI L (pre++e::post))):Sat Z (.box e.b [eI e.k.low,eI e.k.high,e.vn,eU e.k.BW,eU e.k.Dt,.b e.k.whole,.b e.k.Ac,e.vs]:: .own e.vn 1 (iL e.k.no):: .own e.vs 1 (iL e.k.AH)::(X++H0 L (pre++e::post) pre post)):=by
 have h2:Sat Z (WJ e++(X++H0 L (pre++e::post) pre post)):=h.perm ((List.Perm.append_left X (XF L pre post e)).trans (by rw[<-Ps,<-Ps];exact PL.append_right _));exact h2
def Eg {Z:AE} {X:List At} {L:Nat} {pre post:List B6} {e e':B6} (h1:e'.a=e.a) (h2:e'.p=e.p) (h3:e'.b=e.b) (h:Sat Z (WJ e'++(X++H0 L (pre++e::post) pre post))):Sat Z (X++CI L (pre++e'::post)):=by
 rw[<-VI h1 h2 h3]at h;exact h.perm ((List.Perm.append_left X (XF L pre post e')).trans (by rw[<-Ps,<-Ps];exact PL.append_right _)).symm
def I9 {α:Type} (a b c:α) (l:List α):(a::b::c::l).Perm (b::c::a::l):=(List.Perm.swap _ _ _).trans (.cons _ (.swap _ _ _))
def OD {α:Type} (a:α) (l:List α):(a::l).Perm (l++[a]):=(List.perm_append_singleton a l).symm
def cr (m:Nat) (k:Kn):Prop:=k.BW<18446744073709551616/\k.Dt<18446744073709551616/\k.no.length<=m/\k.AH.length<=m
def pt (f:Fact) (c:Bool) (j:Nat) (a:Int) (p:List Int) (k:Kn):(Dq f c j a p k).BW=k.BW:=by unfold Dq;(repeat' split)<;>rfl
def ug (f:Fact) (c:Bool) (j:Nat) (a:Int) (p:List Int) (k:Kn):(Dq f c j a p k).Dt=k.Dt:=by unfold Dq;(repeat' split)<;>rfl
def AAt (f:Fact) (c:Bool) (j:Nat) (a:Int) (p:List Int) (k:Kn):(Dq f c j a p k).no=k.no:=by unfold Dq;(repeat' split)<;>rfl
def mJ (f:Fact) (c:Bool) (j:Nat) (a:Int) (p:List Int) (k:Kn):(Dq f c j a p k).AH.length<=k.AH.length+1:=by
 unfold Dq
 repeat' split
 .exact Ty _ _
 all_goals simp[B2]
def AAs {m:Nat} {k:Kn} (h:cr m k) (f:Fact) (c:Bool) (j:Nat) (a:Int) (p:List Int):cr (m+1) (Dq f c j a p k):=by
 obtain⟨h1,h2,h3,h4⟩:=h;refine⟨by rw[pt];exact h1,by rw[ug];exact h2,by rw[AAt];omega,?_⟩;have:=mJ f c j a p k;omega
def KV {k:Kn} (c:Bool) (h:k.Ac=true):B2 k c= {k with Ac:=true}:=by simp[B2,h]
def Iw {k:Kn} (c:Bool) (h:k.Ac=false):B2 k c= {k with Ac:= !c}:=by simp[B2,h]
abbrev F0 (a:Int) (p:List Int):List V:=[eI a,eI (p.length:Int),eI (p.getD 0 0),eI (p.getD 1 0)]
structure ib (f:Fact):Prop where
 op:f.op=2\/f.op=3\/f.op=4
 path:f.path.length<=2
 cls:f.op=2->0<=f.cls/\f.cls<64
 n: -1000000000<=f.n/\f.n<=1000000000
def rY (w : AF) (us:List Nat) {kf:Int->List Int->Kn} {L:Nat} {es:List B6} (h:Bx kf es) (f:Fact) (c:Bool) (hl:ib f) {m:Nat} (hm:m<1000) (hb: ∀a p,cr m (kf a p)) :
    BS zP 193 [Vb w us L,.a (xF f++[.b c])] (CI L es) fun r post=>r= .ret (.t [])/\ ∃es',Bx (fun a p=>if a=f.arg/\p=f.path then B1 (Dq f c f.path.length a p (kf a p)) f c else Dq f c f.path.length a p (kf a p)) es'/\post=CI L es':=by
 intro Z hs;have hM:=Mx;obtain⟨l1,l2,l3,l4⟩:=hl;refine xw kZ ?_;rw[show xF f++[V.b c]= [eI f.op,eI f.arg,.l (iL f.path) false,eI f.cls,eI f.n,.l (f.kids.map FN) false,.b c] from rfl]
 conv=>whnf
 repeat'((first|clear U K|apply st|(apply zk;intro K U)|refine zY ?_|refine zs fun Z hs=>?_|refine zo fun nn hnn Z hs=>?_|fail)<;>conv=>whnf)
 generalize nn=nx at *;refine(L9 w us h (a:=f.arg) (p:=[]) (by simp)).use (rest:=[.box nx (F0 f.arg [])]) (hs.perm (OD _ _)) ?_;clear hs hnn;rintro r post Z ⟨es1,e1,got,rfl,rfl⟩ hs;have hek:=got.k;obtain⟨hea,hep⟩:=Ge.1 got.is;obtain⟨pre,post,rfl⟩:=List.append_of_mem got.mem;replace hs:=H4 (X:=[.box nx (F0 f.arg [])]) (hs.perm PL);cases hnd:e1.k.Ac<;>rw[hnd]at hs
 all_goals
  conv=>whnf
  repeat'((first|clear U K|apply st|(apply zk;intro K U)|refine zY ?_|refine zs fun Z hs=>?_|fail)<;>conv=>whnf)
  obtain⟨e2,es2,hA,hB,hC⟩: ∃(e2:B6) (es2:List B6),(Bx (fun a p=>Dq f c 0 a p (kf a p)) es2/\e2∈es2/\e2.is f.arg (f.path.take 0)=true)/\e2.b=e1.b/\Sat Z (.box nx (F0 f.arg (f.path.take 0))::CI L es2):=by
   refine⟨⟨e1.a,e1.p,e1.b,e1.vn,e1.vs,B2 e1.k c⟩,_,⟨(got.inv.change e1.b e1.vn e1.vs (B2 e1.k c)).congr fun a p=>?_,OQ _ (.head _),got.is⟩,rfl,?_⟩
   .rw[po,NQ,hea,hep,hek]
    by_cases ha:a=f.arg/\p= []
    .rw[if_pos ha,if_pos ha,ha.1,ha.2]
    .rw[if_neg ha,if_neg ha]
   .refine Eg (X:=[.box nx (F0 f.arg [])]) (e:=e1) rfl rfl rfl ?_
    first
     | (rw[KV c hnd];exact hs)
     | (rw[Iw c hnd];exact hs)
  rw[<-hB];clear hs hnd got hek hea hep;refine CZ f.path.length (fun j (x:List B6×B6)=>[(31,eI (BL j)),(5,.p x.2.b 0)]) (fun j x=> .box nx (F0 f.arg (f.path.take j))::CI L x.1) (fun j x=>Bx (fun a p=>Dq f c j a p (kf a p)) x.1/\x.2∈x.1/\x.2.is f.arg (f.path.take j)=true) (es2,e2) rfl hA hC ?_;clear hA hC;generalize e2.b=b0 at *;clear hB e2 es2;rintro j ⟨es2,e2⟩ Z hj ⟨hinv,hmem,his⟩ hs;simp only at hinv hmem his hs
  have hek:e2.k=Dq f c j f.arg (f.path.take j) (kf f.arg (f.path.take j)):=by
   have:=hinv.val e2 hmem;obtain⟨h1,h2⟩:=Ge.1 his;rw[this,h1,h2]
  have hok:cr (m+1) e2.k:=by rw[hek];exact AAs (hb _ _) f c j _ _
  obtain⟨hea,hep⟩:=Ge.1 his;obtain⟨pre2,post2,rfl⟩:=List.append_of_mem hmem;replace hs:=H4 (X:=[.box nx (F0 f.arg (f.path.take j))]) hs;have hck:BL j=j:=Ag (by omega);rcases BF f.path hj with⟨s,hsj,hjlt⟩|hje
  .have hct:=fun b=>Cr e2.k.AH b s
   have hk4:=hok.2.2.2;have hsl0:gV e2.k s= {e2.k with AH:=JI e2.k.AH s}:=rfl
   have hne:f.path.take j++[s]≠f.path.take j:=by
    intro e;have:=congrArg List.length e;simp at this
   have hgd:f.path.getD j 0=s:=by rw[C6,hsj];rfl
   have htk:f.path.take (j+1)=f.path.take j++[s]:=AU hsj;cases hcB:e2.k.AH.contains s
   all_goals
    rw[hcB]at hct
    conv=>whnf
    repeat'((first|clear U K|apply st|(apply zk;intro K U)|refine zY ?_|refine zs fun Z hs=>?_|refine aq fun v Z hs hsl=>?_|refine Pure.Vk (hct false) (.cons (hs.HQ 2 rfl) (.cons (.refl _) .nil)) rfl ?_|refine Pure.use (PY f.arg (f.path.take j) s (by rw[Lq];omega)) ?_|fail)<;>conv=>whnf)
   refine(iH (.inl hsl)).use (rest:=_) (hs.front (j:=2) rfl) ?_;clear hs;rintro r post Z ⟨rfl,rfl⟩ hs;replace hs:Sat Z (.box e2.b [eI e2.k.low,eI e2.k.high,e2.vn,eU e2.k.BW,eU e2.k.Dt,.b e2.k.whole,.b e2.k.Ac,v]:: .own e2.vn 1 (iL e2.k.no):: .own v 1 (iL ((e2.k.AH++[s]).mergeSort Ho))::([.box nx (F0 f.arg (f.path.take j))]++H0 L (pre2++e2::post2) pre2 post2)):=hs.perm (I9 _ _ _ _)
   conv=>whnf
   repeat'((first|clear U K|apply st|(apply zk;intro K U)|refine zY ?_|refine zs fun Z hs=>?_|refine Pure.use (PY f.arg (f.path.take j) s (by rw[Lq];omega)) ?_|fail)<;>conv=>whnf)
   have hs3: ∃vs3,Sat Z (.box nx (F0 f.arg (f.path.take j++[s]))::CI L (pre2++⟨e2.a,e2.p,e2.b,e2.vn,vs3,gV e2.k s⟩::post2)):=⟨v,Eg (X:=[_]) (e:=e2) rfl rfl rfl (by rw[hsl0,JI,if_neg (by rw[hcB];decide)];exact hs)⟩
   rotate_left
   have hs3: ∃vs3,Sat Z (.box nx (F0 f.arg (f.path.take j++[s]))::CI L (pre2++⟨e2.a,e2.p,e2.b,e2.vn,vs3,gV e2.k s⟩::post2)):=⟨e2.vs,Eg (X:=[_]) (e:=e2) rfl rfl rfl (by rw[hsl0,JI,if_pos hcB];exact hs)⟩
   all_goals
    clear hs;obtain⟨vs3,hs⟩:=hs3;have hinv3:=hinv.change e2.b e2.vn vs3 (gV e2.k s);refine(L9 w us hinv3 (a:=f.arg) (p:=f.path.take j++[s]) (by rw[SB,Lq];simp;omega)).use (rest:=[.box nx (F0 f.arg (f.path.take j++[s]))]) (hs.perm (OD _ _)) ?_;clear hs;rintro r post Z ⟨es4,e4,got,rfl,rfl⟩ hs;have hek4:=got.k;obtain⟨hea4,hep4⟩:=Ge.1 got.is;obtain⟨pre4,post4,rfl⟩:=List.append_of_mem got.mem;replace hs:=H4 (X:=[.box nx (F0 f.arg (f.path.take j++[s]))]) (hs.perm PL);cases hnd:e4.k.Ac<;>rw[hnd]at hs
    all_goals
     conv=>whnf
     repeat'((first|clear U K|apply st|(apply zk;intro K U)|refine zY ?_|refine zs fun Z hs=>?_|fail)<;>conv=>whnf)
     refine⟨hjlt,(pre4++⟨e4.a,e4.p,e4.b,e4.vn,e4.vs,B2 e4.k c⟩::post4,⟨e4.a,e4.p,e4.b,e4.vn,e4.vs,B2 e4.k c⟩),rfl,⟨(got.inv.change e4.b e4.vn e4.vs (B2 e4.k c)).congr fun a p=>?_,OQ _ (.head _),by rw[htk];exact got.is⟩,?_⟩
     .rw[pq f c hjlt,NQ,hea4,hep4,htk,hgd]
      by_cases h1:a=f.arg/\p=f.path.take j++[s]
      .rw[if_pos h1,if_pos h1,hek4,NQ,hea,hep,if_neg (fun h=>hne h.2),h1.1,h1.2]
      .rw[if_neg h1,if_neg h1,NQ,hea,hep]
       by_cases h2:a=f.arg/\p=f.path.take j
       .rw[if_pos h2,if_pos h2,hek,h2.1,h2.2]
       .rw[if_neg h2,if_neg h2]
     .rw[htk]
      refine Eg (X:=[.box nx (F0 f.arg (f.path.take j++[s]))]) (e:=e4) rfl rfl rfl ?_
      first
       | (rw[KV c hnd];exact hs)
       | (rw[Iw c hnd];exact hs)
  .have etk:f.path.take j=f.path:=BC hje
   rw[etk]at his hs hek hep;refine zz ?_;(repeat clear U K);repeat intro K U
   refine(y5 f c l1 l3 hok.1 hok.2.1 (by have:=hok.2.2.1;omega) l4).use (rest:=[.box nx (F0 f.arg f.path)]++H0 L (pre2++e2::post2) pre2 post2) hs ?_;rintro r post Z ⟨rfl,vn',rfl⟩ hs
   conv=>whnf
   repeat'((first|clear U K|apply st|fail)<;>conv=>whnf)
   refine AI ⟨_,⟨rfl,_,(hinv.change e2.b vn' e2.vs (B1 e2.k f c)).congr fun a p=>?_,rfl⟩,(Eg (X:=[.box nx (F0 f.arg f.path)]) (e:=e2) (e':=⟨e2.a,e2.p,e2.b,vn',e2.vs,B1 e2.k f c⟩) rfl rfl rfl hs).less (K7 _ _)⟩;rw[NQ,hea,hep,hek,<-hje];by_cases h1:a=f.arg/\p=f.path
   .rw[if_pos h1,if_pos h1,h1.1,h1.2]
   .rw[if_neg h1,if_neg h1]
def y8 (w:AF) (us:List Nat) {kf:Int->List Int->Kn} {L:Nat} {es:List B6} (h:Bx kf es) (l:Fact) (hl:ib (Ah l).1) {m:Nat} (hm:m<1000) (hb: ∀a p,cr m (kf a p)) :
    BS zP 193 [Vb w us L,.a (JQ l)] (CI L es) fun r post=>r= .ret (.t [])/\ ∃es',Bx (fun a p=>C7 a p (kf a p) l) es'/\post=CI L es':=fun Z hs=>
 Ar.mono (rY w us h (Ah l).1 (Ah l).2 hl hm hb Z hs) fun r Z' ⟨post,⟨h1,es',h2,h3⟩,h4⟩=>⟨post,⟨h1,es',h2.congr fun a p=>(uh a p (kf a p) l).symm,h3⟩,h4⟩
def Nu (ls:List Fact):Prop:= ∀l∈ls,ib (Ah l).1
def jW {ls:List Fact} (h:Nu ls) (a:Int) (p:List Int):cr ls.length (kn ls a p):=by
 have hc:Gz 64 ls:=fun l hl ho=>(h l hl).cls ho
 obtain⟨h1,h2⟩:=pw hc a p;obtain⟨h3,h4⟩:=jX a p ls k0;exact⟨by simpa using h1,by simpa using h2,by simpa[kn,k0]using h3,by simpa[kn,k0]using h4⟩
def inv0:Bx (kn []) []:=⟨fun x hx=>(by cases hx),fun a p _=>rfl,.nil,fun x hx=>(by cases hx)⟩
def lL (w:AF) (us:List Nat) (ls:List Fact) (b:Bool) (h:Nu ls) (hlen:ls.length<900) :
    BS zP 128 [.rp (wC w us),.l (Dx ls) b] [] fun r post=> ∃L es,r= .ret (Vb w us L)/\Bx (kn ls) es/\post=CI L es:=by
 intro Z hs;have hM:=Mx;refine yj kZ ?_
 conv=>whnf
 repeat'((first|clear U K|apply st|(apply zk;intro K U)|refine zo fun nn hnn Z hs=>?_|fail)<;>conv=>whnf)
 generalize nn=L at *;refine CZ ls.length (fun k (x:List B6)=>[(14,eI (BL k))]) (fun k x=>CI L x) (fun k x=>Bx (kn (ls.take k)) x) [] rfl inv0 hs ?_;clear hs hnn;rintro k es Z hk hinv hs;rcases BF ls hk with⟨l,hlk,hlt⟩|hke
 .have hlm:l∈ls:=CY hlk
  have htk:ls.take (k+1)=ls.take k++[l]:=AU hlk;have hbk: ∀a p,cr (ls.take k).length (kn (ls.take k) a p):=jW fun x hx=>h x (List.mem_of_mem_take hx)
  conv=>whnf
  repeat'((first|clear U K|apply st|(apply zk;intro K U)|refine zY ?_|refine zs fun Z hs=>?_|refine zo fun nn hnn Z hs=>?_|fail)<;>conv=>whnf)
  rename_i nb hnb _ hs;generalize nn=n7 at *;refine(y8 w us hinv l (h l hlm) (m:=(ls.take k).length) (by rw[Lq];omega) hbk).use (rest:=[.box n7 (JQ l)]) (hs.perm (OD _ _)) ?_;clear hs;rintro r post Z ⟨rfl,es',hinv',rfl⟩ hs;refine zz ?_;(repeat clear U K);repeat intro K U
  refine⟨hlt,es',rfl,?_,hs.less (List.sublist_append_left _ _)⟩;rw[htk];exact hinv'.congr fun a p=>(pv _ _ _ _).symm
 .have etk:ls.take k=ls:=BC hke
  rw[etk]at hinv;refine zz ?_;(repeat clear U K);repeat intro K U
  exact AI ⟨_,⟨L,es,rfl,hinv,rfl⟩,hs⟩
structure EK (w:AF) (kf:Int->List Int->Kn):Prop where
 ok: ∀a p,cr 1000 (kf a p)
 low: ∀a p,-1000000000<=(kf a p).low/\(kf a p).low<=1000000000
 short: ∀a p,2<=p.length->(kf a p).AH= []
 AH: ∀a p,∀s∈(kf a p).AH,0<=s/\s<w.owner.length
abbrev Hx (L:Nat) (pre post:List B6) (e:B6) (s:List B6):List At:=
 .box e.b [eI e.k.low,eI e.k.high,e.vn,eU e.k.BW,eU e.k.Dt,.b e.k.whole,.b e.k.Ac,e.vs]:: .own e.vn 1 (iL e.k.no)::H0 L (pre++e::(post++s)) pre (post++s)
def zl {Z:AE} {L:Nat} {pre post:List B6} {e:B6} {s:List B6} (h:Sat Z (CI L (pre++e::(post++s)))):Sat Z (.own e.vs 1 (iL e.k.AH)::Hx L pre post e s):=
 (H4 (X:=[]) h).perm ((I9 _ _ _ _).symm)
def tF {Z:AE} {L:Nat} {pre post:List B6} {e:B6} {s:List B6} (h:Sat Z (.own e.vs 1 (iL e.k.AH)::Hx L pre post e s)):Sat Z (CI L (pre++e::(post++s))):=
 Eg (X:=[]) (e:=e) (e':=e) rfl rfl rfl (h.perm (I9 _ _ _ _))
def P9 (kf:Int->List Int->Kn) (L:Nat) (es:List B6) (post:List At):Prop:= ∃es',Kl es es'/\Bx kf es'/\post=CI L es'
def qi (w:AF) (us:List Nat) {kf:Int->List Int->Kn} {L:Nat} {pre post:List B6} {e:B6} {a:Int} {p:List Int} (hp:p.length<2) :
    Of zP (.f (.func 350) [] [.rp [Vb w us L],.rp (F0 a p)]) eI (fun s=> .own e.vs 1 (iL e.k.AH)::Hx L pre post e s) (fun y=> !(kf a (p++[y])).Ac) (fun s=>Bx kf (pre++e::(post++s))/\ ∀x∈s,x.k=k0) (fun _=>True):=by
 rintro y s - ⟨hj,hj0⟩ Z hs;refine BA ?_;show Ar zP 350 ([]++[eI y]++[.rp [Vb w us L],.rp (F0 a p)]) Z _;refine vU kZ ?_
 conv=>whnf
 repeat'((first|clear U K|apply st|(apply zk;intro K U)|refine zY ?_|refine rk ?_ ?_|exact fun s e=>by cases e;rfl|refine Pure.use (PY a p y hp) ?_|fail)<;>conv=>whnf)
 refine(L9 w us hj (a:=a) (p:=p++[y]) (by simp;omega)).use (rest:=[]) (by simpa using tF hs) ?_;clear hs;rintro r post' Z ⟨es4,e4,got,rfl,rfl⟩ hs;have hek4:=got.k;obtain⟨new,he4,hnew⟩:=got.ext;have hinv:=got.inv;obtain⟨pre4,post4,he5⟩:=List.append_of_mem got.mem;rw[FE,he5]at hs;replace hs:=H4 (X:=[]) hs;refine zz ?_;(repeat clear U K);repeat intro K U
 refine AI ⟨by rw[hek4],s++new,⟨?_,fun x hx=>?_⟩,?_⟩
 .rw[he4]at hinv
  simpa using hinv
 .rcases D9.1 hx with hx|hx
  .exact hj0 x hx
  .exact hnew x hx
 .have h2:=Eg (X:=[]) (e:=e4) (e':=e4) rfl rfl rfl hs
  rw[<-he5,he4]at h2;refine zl ?_;simpa using h2
def qj (w:AF) (us:List Nat) {kf:Int->List Int->Kn} (hr:EK w kf) {L:Nat} {es:List B6} (h:Bx kf es) {a:Int} {p:List Int} (hp:p.length<=2) :
    BS zP 316 [Vb w us L,CG a p] (CI L es) fun r post=>r= .ret (.b (H7 kf a p))/\P9 kf L es post:=by
 intro Z hs;have hM:=Mx;refine wA kZ ?_;refine zz ?_;(repeat clear U K);repeat intro K U
 refine(L9 w us h (a:=a) (p:=p) hp).use (rest:=[]) (by simpa using hs) ?_;clear hs;rintro r post Z ⟨es4,e4,got,rfl,rfl⟩ hs;have hek:=got.k;obtain⟨pre,post,rfl⟩:=List.append_of_mem got.mem;rw[FE]at hs;replace hs:=H4 (X:=[]) hs;have hsl:=(hr.ok a p).2.2.2;have hsh:=hr.short a p;rw[<-hek]at hsl hsh
 have hst:p.length<2\/e4.k.AH= []:=by
  rcases Nat.lt_or_ge p.length 2 with h'|h'
  .exact .inl h'
  .exact .inr (hsh h')
 have hE:H7 kf a p=e4.k.AH.all fun y=> !(kf a (p++[y])).Ac:=by rw[H7,hek]
 refine zz ?_;(repeat clear U K);repeat intro K U
 have hall:BS zP 246 [e4.vs,.f (.func 350) [] [.rp [Vb w us L],.rp (F0 a p)]] (.own e4.vs 1 (iL e4.k.AH)::Hx L pre post e4 []) fun r post'=>r= .ret (.b (e4.k.AH.all fun y=> !(kf a (p++[y])).Ac))/\ ∃s',(Bx kf (pre++e4::(post++s'))/\ ∀x∈s',x.k=k0)/\post'= .own e4.vs 1 (iL e4.k.AH)::Hx L pre post e4 s':=by
  rcases hst with h'|h'
  .exact cO 350 [] [.rp [Vb w us L],.rp (F0 a p)] (Hx L pre post e4) _ _ _ (qi w us h') (fun _ _=>trivial) (by omega) [] ⟨by simpa using got.inv,by simp⟩
  .exact cO 350 [] [.rp [Vb w us L],.rp (F0 a p)] (Hx L pre post e4) _ _ (fun _=>False) (fun y s hf=>hf.elim) (fun x hx=>by rw[h']at hx;cases hx) (by omega) [] ⟨by simpa using got.inv,by simp⟩
 refine hall.use (rest:=[]) (by
  have h2:=zl (L:=L) (pre:=pre) (post:=post) (e:=e4) (s:=[]) (by simpa using Eg (X:=[]) (e:=e4) (e':=e4) rfl rfl rfl hs)
  simpa using h2) ?_
 clear hs;rintro r post' Z ⟨rfl,s',⟨hi,hn⟩,rfl⟩ hs;refine zz ?_;(repeat clear U K);repeat intro K U
 refine AI ⟨_,⟨by rw[hE],pre++e4::(post++s'),got.ext.trans ⟨s',by simp,hn⟩,hi,rfl⟩,tF (by simpa using hs)⟩
def M0 {m u:Nat} (hm:m<18446744073709551616):(L0 m u=0)↔Hr m u=true:=by
 rw[Ma (by simpa using hm)];constructor
 .intro h b hb
  have hlt:b<64:=by
   rcases Nat.lt_or_ge b 64 with h'|h'
   .exact h'
   .rw[Nat.testBit_lt_two_pow (Nat.lt_of_lt_of_le hm (by simpa using Nat.pow_le_pow_right (n:=2) (by decide) h'))]at hb;cases hb
  have:=Q5 (a:=m) (b:=u) hlt;rw[h,Nat.zero_testBit,hb]at this;simpa using this
 .intro h
  refine Nat.eq_of_testBit_eq fun i=>?_
  rw[Nat.zero_testBit];rcases Nat.lt_or_ge i 64 with hlt|hge
  .rw[Q5 hlt]
   cases hb:m.testBit i with
   | false=>rfl
   | true=>rw[h i hb];rfl
  .exact Nat.testBit_lt_two_pow (Nat.lt_of_lt_of_le (VF _ _) (by simpa using Nat.pow_le_pow_right (n:=2) (by decide) hge))
def Wz (w:AF) (us:List Nat) {kf:Int->List Int->Kn} (hr:EK w kf) {L:Nat} {es:List B6} (h:Bx kf es) {a:Int} {p:List Int} (hp:p.length<=2) (c:Nat) (hc:c<64) :
    BS zP 270 [Vb w us L,CG a p,eI c] (CI L es) fun r post=>r= .ret (.b (Eb kf a p c))/\P9 kf L es post:=by
 intro Z hs;refine wm kZ ?_;refine zz ?_;(repeat clear U K);repeat intro K U
 refine(L9 w us h (a:=a) (p:=p) hp).use (rest:=[]) (by simpa using hs) ?_;clear hs;rintro r post Z ⟨es4,e4,got,rfl,rfl⟩ hs;have hek:=got.k;obtain⟨pre,post,rfl⟩:=List.append_of_mem got.mem;rw[FE]at hs;replace hs:=H4 (X:=[]) hs;have hok:=hr.ok a p;rw[<-hek]at hok;have hu:1|||2 ^ c<18446744073709551616:=H2 (by decide) (Gc hc)
 have hb1:bits .andNot .u64 (e4.k.BW:Int) ((1|||2 ^ c:Nat):Int)=((L0 e4.k.BW (1|||2 ^ c):Nat):Int):=IY;have hb2:bits .and .u64 (e4.k.Dt:Int) ((1|||2 ^ c:Nat):Int)=((e4.k.Dt&&&(1|||2 ^ c):Nat):Int):=Fw hok.2.1 hu;have hb3:=M0 (u:=1|||2 ^ c) hok.1;have hP:Eb kf a p c=(Hr e4.k.BW (1|||2 ^ c)&&(e4.k.Dt&&&(1|||2 ^ c)==0&&H7 kf a p)):=by rw[Eb,hek]
 conv=>whnf
 repeat'((first|clear U K|apply st|(apply zk;intro K U)|refine zY ?_|refine Pure.use (aY 1 c (by decide) hc) ?_|refine za (fun hc=>?_) fun hc=>?_|fail)<;>conv=>whnf)
 .have h1:Hr e4.k.BW (1|||2 ^ c)=true:=hb3.1 (by omega)
  have h2:(e4.k.Dt&&&(1|||2 ^ c)==0)=true:=by rw[Cd];omega
  refine(qj w us hr got.inv hp).use (rest:=[]) (by simpa using Eg (X:=[]) (e:=e4) (e':=e4) rfl rfl rfl hs) ?_;clear hs;rintro r post' Z ⟨rfl,es5,hx,hi,rfl⟩ hs;refine zz ?_;(repeat clear U K);repeat intro K U
  exact AI ⟨_,⟨by rw[hP,h1,h2];rfl,es5,got.ext.trans hx,hi,rfl⟩,by simpa using hs⟩
 .have h2:(e4.k.Dt&&&(1|||2 ^ c)==0)=false:=by rw[beq_eq_false_iff_ne];omega
  exact AI ⟨_,⟨by rw[hP,h2];simp,_,got.ext,got.inv,rfl⟩,by simpa using Eg (X:=[]) (e:=e4) (e':=e4) rfl rfl rfl hs⟩
 .have h1:Hr e4.k.BW (1|||2 ^ c)=false:=by
   rw[<-Bool.not_eq_true,<-hb3];omega
  exact AI ⟨_,⟨by rw[hP,h1];simp,_,got.ext,got.inv,rfl⟩,by simpa using Eg (X:=[]) (e:=e4) (e':=e4) rfl rfl rfl hs⟩
def Rk (w:AF) (us:List Nat) {kf:Int->List Int->Kn} (hr:EK w kf) {L:Nat} {es:List B6} (h:Bx kf es) {a:Int} {p:List Int} (hp:p.length<=2) :
    BS zP 194 [Vb w us L,CG a p] (CI L es) fun r post=>r= .ret (.t [eI (Ef (kf a p)),.b (F1 kf a p)])/\P9 kf L es post:=by
 intro Z hs;have hM:=Mx;refine xv kZ ?_;refine zz ?_;(repeat clear U K);repeat intro K U
 refine(L9 w us h (a:=a) (p:=p) hp).use (rest:=[]) (by simpa using hs) ?_;clear hs;rintro r post Z ⟨es4,e4,got,rfl,rfl⟩ hs;have hek:=got.k;obtain⟨pre,post,rfl⟩:=List.append_of_mem got.mem;rw[FE]at hs;replace hs:=H4 (X:=[]) hs;have hok:=hr.ok a p;have hlo:=hr.low a p;rw[<-hek]at hok hlo;have hno:=hok.2.2.1;have hle:=U7 e4.k.no e4.k.low;have hL:Ef (kf a p)=Gx e4.k.no (from_ e4.k.no e4.k.low) e4.k.low:=by rw[Ef,<-hek];exact Pn hle (Ia _)
 refine zz ?_;(repeat clear U K);repeat intro K U
 refine Gb (fun n:Int=>from_ e4.k.no n) (fun n=>[(7,eI n)]) (fun _=> .box e4.b [eI e4.k.low,eI e4.k.high,e4.vn,eU e4.k.BW,eU e4.k.Dt,.b e4.k.whole,.b e4.k.Ac,e4.vs]:: .own e4.vn 1 (iL e4.k.no):: .own e4.vs 1 (iL e4.k.AH)::([]++H0 L (pre++e4::post) pre post)) (fun n=> -1000000000<=n/\n+from_ e4.k.no n<=1000001000/\Ef (kf a p)=Gx e4.k.no (from_ e4.k.no n) n) e4.k.low rfl ⟨by omega,by omega,hL⟩ hs ?_;clear hs hL hle;rintro n Z ⟨hn0,hn1,hL⟩ hs;have hct2:=fun b=>Cr e4.k.no b n
 cases hcB:e4.k.no.contains n<;>rw[hcB]at hct2
 .have hout:n∉e4.k.no:=by simpa using hcB
  rw[cQ hout]at hL;have hI:F1 kf a p=(decide (n<=e4.k.high)&&Eb kf a p 1):=by rw[F1,hL,hek]
  conv=>whnf
  repeat'((first|clear U K|apply st|(apply zk;intro K U)|refine zY ?_|refine Pure.Vk (hct2 false) (.cons (hs.HQ 1 rfl) (.cons (.refl _) .nil)) rfl ?_|refine za (fun hc=>?_) fun hc=>?_|fail)<;>conv=>whnf)
  all_goals
   have hsc:Sat Z (CI L (pre++e4::post)):=by simpa using Eg (X:=[]) (e:=e4) (e':=e4) rfl rfl rfl hs
  .refine(Wz w us hr got.inv hp 1 (by decide)).use (rest:=[]) (by simpa using hsc) ?_
   clear hs hsc;rintro r post' Z ⟨rfl,es5,hx,hi,rfl⟩ hs;refine zz ?_;(repeat clear U K);repeat intro K U
   exact AI ⟨_,⟨by rw[hL,hI,decide_eq_true (by assumption)];rfl,es5,got.ext.trans hx,hi,rfl⟩,by simpa using hs⟩
  .exact AI ⟨_,⟨by rw[hL,hI,decide_eq_false (by omega)];rfl,_,got.ext,got.inv,rfl⟩,hsc⟩
 .have hin:n∈e4.k.no:=by simpa using hcB
  have hlt:=Pf hin;have hwr:IntKind.i64.wrap (n+1)=n+1:=wrap64 (by omega) (by omega);obtain⟨m,hm⟩: ∃m,from_ e4.k.no n=m+1:=⟨from_ e4.k.no n - 1,by omega⟩
  have hL2:Ef (kf a p)=Gx e4.k.no (from_ e4.k.no (n+1)) (n+1):=by rw[hL,hm,kS hin];exact Pn (by omega) (Ia _)
  conv=>whnf
  repeat'((first|clear U K|apply st|(apply zk;intro K U)|refine zY ?_|refine Pure.Vk (hct2 false) (.cons (hs.HQ 1 rfl) (.cons (.refl _) .nil)) rfl ?_|fail)<;>conv=>whnf)
  exact⟨n+1,hlt,by rw[hwr];rfl,⟨by omega,by omega,hL2⟩,hs⟩
def bP (w:AF) (us:List Nat) {kf:Int->List Int->Kn} (hr:EK w kf) {L:Nat} {es:List B6} (h:Bx kf es) {a:Int} {p:List Int} (hp:p.length<=2) :
    BS zP 195 [Vb w us L,CG a p] (CI L es) fun r post=>r= .ret (.b (DZ kf a p))/\P9 kf L es post:=by
 intro Z hs;refine xu kZ ?_;refine zz ?_;(repeat clear U K);repeat intro K U
 refine(L9 w us h (a:=a) (p:=p) hp).use (rest:=[]) (by simpa using hs) ?_;clear hs;rintro r post Z ⟨es4,e4,got,rfl,rfl⟩ hs;have hek:=got.k;obtain⟨pre,post,rfl⟩:=List.append_of_mem got.mem;rw[FE]at hs;have hsc:=hs;replace hs:=H4 (X:=[]) hs;have hN:DZ kf a p=(!e4.k.whole&&Eb kf a p 2):=by rw[DZ,hek]
 cases hw:e4.k.whole<;>rw[hw]at hs hN
 .refine zz ?_;(repeat clear U K);repeat intro K U
  refine(Wz w us hr got.inv hp 2 (by decide)).use (rest:=[]) (by simpa using hsc) ?_;clear hs hsc;rintro r post' Z ⟨rfl,es5,hx,hi,rfl⟩ hs;refine zz ?_;(repeat clear U K);repeat intro K U
  exact AI ⟨_,⟨by rw[hN];rfl,es5,got.ext.trans hx,hi,rfl⟩,by simpa using hs⟩
 .refine zz ?_;(repeat clear U K);repeat intro K U
  exact AI ⟨_,⟨by rw[hN];rfl,_,got.ext,got.inv,rfl⟩,hsc⟩
end Go.Gl
