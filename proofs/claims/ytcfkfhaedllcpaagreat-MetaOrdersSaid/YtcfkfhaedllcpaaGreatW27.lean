import Derived.Test.YtcfkfhaedllcpaaGreatW14
import Derived.Test.YtcfkfhaedllcpaaGreatW15
import Derived.Test.YtcfkfhaedllcpaaGreatW18
import Derived.Test.YtcfkfhaedllcpaaGreatW20
import Derived.Test.YtcfkfhaedllcpaaGreatW21
import Derived.Test.YtcfkfhaedllcpaaGreatW22
set_option linter.all false
set_option linter.defProp false
set_option maxHeartbeats 8000000
noncomputable section
namespace Go.Gl
def VO (g:List (List Int)) (k:Nat): ∀(m d:Nat),d<3+k->(Cc g (k+m)).getD d 0=(Cc g k).getD d 0
 | 0,d,_=>rfl
 | m+1,d,h=>by
   rw[show k+(m+1)=k+m+1 from rfl,Cc,<-VO g k m d h];rw[DH,jq (by rw[Fy];omega),<-DH]
def VP (us:List Nat) (b:Nat): ∀(l:List Int) (s:Nat),(XB us l s).testBit b=(s.testBit b||l.any fun c=>(us.getD c.toNat 0).testBit b)
 | [],s=>by simp[XB]
 | c::r,s=>by
   have:=VP us b r (s|||us.getD c.toNat 0);rw[Q1,<-Bool.or_assoc,<-Nat.testBit_or,<-this];rfl
def gK {α:Type} (f:α->Bool) (b:Bool): ∀(l:List α),(b||l.any fun x=>b||f x)=(b||l.any f)
 | []=>rfl
 | x::r=>by
   have:=gK f b r;simp only[Q1];cases b
   .simpa using this
   .rfl
def any_congr {α:Type} {f g:α->Bool}: ∀ {l:List α},(∀x∈l,f x=g x)->l.any f=l.any g
 | [],_=>rfl
 | x::r,h=>by
   rw[Q1,Q1,h x (.head _),any_congr fun y hy=>h y (.tail _ hy)]
def Tm {g:List (List Int)} (ho:ordered g): ∀(k d b:Nat),k<=g.length->d<3+k->((Cc g k).getD d 0).testBit b=(b==0||Jv g d b)
 | 0,d,b,_,hd=>by
   have e:(Cc g 0).getD d 0=1|||2 ^ d:=by
    rcases d with _|_|_|d
    .rfl
    .rfl
    .rfl
    .omega
   rw[e,Tg,FD ho,par,if_pos (by omega),List.any_nil,Bool.or_false];rw[J1];simp only[Fl,EU];omega
 | k + 1,d,b,hk,hd=>by
   by_cases hlt:d<3+k
   .rw[VO g k 1 d hlt]
    exact Tm ho k d b (by omega) hlt
   .obtain rfl:d=3+k:=by omega
    have e:(Cc g (k+1)).getD (3+k) 0=XB (Cc g k) (g.getD k []) (1|||2 ^ (3+k)):=by
     rw[Cc,DH,List.getElem?_append_right (by rw[Fy];omega),Fy,Nat.sub_self];rfl
    have hpar:par g (3+k)=g.getD k []:=by rw[par,if_neg (by omega),show 3+k - 3=k by omega]
    rw[e,VP,Tg,FD ho,hpar]
    have hc:((g.getD k []).any fun c=>((Cc g k).getD c.toNat 0).testBit b)=(g.getD k []).any fun p=>(b==0)||Jv g p.toNat b:=any_congr fun p hp=>by
     have:=ho (3+k) p (by rw[hpar];exact hp);exact Tm ho k p.toNat b (by omega) (by omega)
    rw[hc];have e2:(b==3+k)=(3+k==b):=by rw[J1];simp only[EU];omega
    rw[e2,Bool.or_assoc,Bool.or_left_comm,gK,Bool.or_left_comm]
def gm {g:List (List Int)} (ho:ordered g) {d b:Nat} (hd:d<3+g.length):((Ek g).getD d 0).testBit b=(b==0||Jv g d b):=Tm ho g.length d b (Io _) hd
def XO {g:List (List Int)} (ho:ordered g): ∀(d b:Nat),3<=d->Jv g d b=true->3<=b:=by
 intro d
 induction d using Nat.strongRecOn with
 | _ d ih=>
   intro b h3 h;rw[FD ho]at h;simp only[Fl,EU,J0]at h;rcases h with rfl|⟨p,hp,h⟩
   .exact h3
   .have:=ho d p hp
    exact ih p.toNat (by omega) b (by omega) h
def DU (us:List Nat):Nat->Nat->Nat
 | 0,m=>m
 | k+1,m=>if(DU us k m).testBit (3+k)then DU us k m|||us.getD (3+k) 0 else DU us k m
def Qi {g : List (List Int)} (ho:ordered g) (m:Nat): ∀(k b:Nat),k<=g.length->((DU (Ek g) k m).testBit b=true↔m.testBit b=true\/ ∃d,3<=d/\d<3+k/\m.testBit d=true/\(b=0\/Jv g d b=true))
 | 0,b,_=>by
   rw[DU];exact⟨.inl,fun h=>h.elim id fun⟨d,h1,h2,_⟩=>by omega⟩
 | k + 1, b, hk=>by
   have ih:=Qi ho m k;rw[DU];split
   .rename_i hc
    rw[Nat.testBit_or,Fl,ih b (by omega),gm ho (by omega),Fl,EU];rw[ih _ (by omega)]at hc;constructor
    .rintro((h|⟨d,h1,h2,h3,h4⟩)|h)
     .exact .inl h
     .exact .inr ⟨d,h1,by omega,h3,h4⟩
     .rcases hc with hc|⟨d,h1,h2,h3,h4⟩
      .exact .inr ⟨3+k,by omega,by omega,hc,h⟩
      .refine .inr ⟨d,h1,by omega,h3,?_⟩
       rcases h with h|h
       .exact .inl h
       .rcases h4 with h4|h4
        .omega
        .exact .inr (ND ho _ _ _ h4 h)
    .rintro(h|⟨d,h1,h2,h3,h4⟩)
     .exact .inl (.inl h)
     .by_cases e:d=3+k
      .subst e;exact .inr h4
      .exact .inl (.inr ⟨d,h1,by omega,h3,h4⟩)
   .rename_i hc
    rw[ih b (by omega)];constructor
    .rintro(h|⟨d,h1,h2,h3,h4⟩)
     .exact .inl h
     .exact .inr ⟨d,h1,by omega,h3,h4⟩
    .rintro(h|⟨d,h1,h2,h3,h4⟩)
     .exact .inl h
     .by_cases e:d=3+k
      .subst e;exact absurd ((ih _ (by omega)).2 (.inl h3)) hc
      .exact .inr ⟨d,h1,by omega,h3,h4⟩
def KD: ∀(l:List Int) (bs:List Bool),(∀q∈l,0<=q/\q.toNat<bs.length)-> ∀b:Nat,(l.foldl (fun b q=>b.set q.toNat true) bs).getD b false=(bs.getD b false||l.contains (b:Int))
 | [],bs,_,b=>by simp
 | q ::r,bs,h,b=>by
   have hq:=h q (.head _);rw[List.foldl_cons,KD r _ (fun x hx=>by rw[List.length_set];exact h x (.tail _ hx)),EB hq.2,List.contains_cons];split
   .rename_i e
    subst e;have:((q.toNat:Int)==q)=true:=by rw[EU];omega
    rw[this];simp
   .rename_i e
    have:((b:Int)==q)=false:=by rw[beq_eq_false_iff_ne];omega
    rw[this,Bool.false_or]
def G5 {g:List (List Int)} (ho:ordered g) {c:Nat} {bs:List Bool} (hc:c<=bs.length) (b:Nat):(Hj g c bs).getD b false=(bs.getD b false||(bs.getD c false&&(par g c).contains (b:Int))):=by
 rw[Hj];split
 .rename_i h
  rw[KD _ _ (fun q hq=>by have:=ho c q hq;omega),h,G7]
 .rename_i h
  have:bs.getD c false=false:=by simpa using h
  rw[this,Bool.false_and,Bool.or_false]
def Fx {g:List (List Int)} (ho:ordered g) {n:Nat} {S:List Bool} (hl:S.length=n): ∀(k b:Nat),(Bx g n k S).getD b false=true-> ∃d,S.getD d false=true/\Jv g d b=true
 | 0,b,h=>⟨b,h,HN ho b⟩
 | k + 1,b,h=>by
   rw[Bx,G5 ho (by rw[ES];omega),Fl,BD]at h;rcases h with h|⟨h1,h2⟩
   .exact Fx ho hl k b h
   .obtain⟨d,h3,h4⟩:=Fx ho hl k _ h1
    refine⟨d,h3,ND ho _ _ _ h4 ?_⟩;rw[FD ho,Fl,J0];rw[List.contains_iff_mem]at h2;exact .inr ⟨_,h2,by rw[JP];exact HN ho b⟩
def Wt {g:List (List Int)} (ho:ordered g) {n:Nat} {S:List Bool} (hl:S.length=n) (k b:Nat) (h:(Bx g n k S).getD b false=true):(Bx g n (k+1) S).getD b false=true:=by
 rw[Bx,G5 ho (by rw[ES];omega),h];rfl
def JN {g:List (List Int)} (ho:ordered g) {n:Nat} {S:List Bool} (hl:S.length=n): ∀(k b:Nat),S.getD b false=true->(Bx g n k S).getD b false=true
 | 0,_,h=>h
 | k+1,b,h=>Wt ho hl k b (JN ho hl k b h)
def G6 {g:List (List Int)} (ho:ordered g) {n:Nat} {S:List Bool} (hl:S.length=n): ∀(k c:Nat),k<=n->n - k<=c->(Bx g n k S).getD c false=true-> ∀q∈par g c,(Bx g n k S).getD q.toNat false=true
 | 0,c,_,hc,h,q,hq=>by
   rw[Bx,DH,List.getElem?_eq_none (by omega)]at h;cases h
 | k + 1,c,hk,hc,h,q,hq=>by
   rw[Bx,G5 ho (by rw[ES];omega)]at h ⊢;have hoc:=ho c q hq;rw[Fl,BD]at h
   have hbase:(Bx g n k S).getD c false=true:=by
    rcases h with h|⟨-,h2⟩
    .exact h
    .rw[List.contains_iff_mem]at h2
     have:=ho _ _ h2;omega
   by_cases e:c=n - 1 - k
   .subst e
    rw[hbase,G7,Fl,List.contains_iff_mem];exact .inr (by rw[show((q.toNat:Nat):Int)=q by omega];exact hq)
   .rw[G6 ho hl k c (by omega) (by omega) hbase q hq];rfl
def Ya {g:List (List Int)} (ho:ordered g) {S:List Bool} (hl:S.length=3+g.length) (b:Nat):(Bx g (3+g.length) g.length S).getD b false=true↔ ∃d,S.getD d false=true/\Jv g d b=true:=by
 refine⟨Fx ho hl _ b,?_⟩
 have key: ∀d,(Bx g (3+g.length) g.length S).getD d false=true->Jv g d b=true->(Bx g (3+g.length) g.length S).getD b false=true:=by
  intro d
  induction d using Nat.strongRecOn with
  | _ d ih=>
    intro h1 h2;rw[FD ho,Fl,EU,J0]at h2;rcases h2 with rfl|⟨p,hp,h2⟩
    .exact h1
    .have hop:=ho d p hp
     refine ih p.toNat (by omega) (G6 ho hl g.length d (by omega) ?_ h1 p hp) h2;omega
 rintro⟨d,h1,h2⟩;exact key d (JN ho hl _ d h1) h2
def RB (n:Nat) (t:BB) (u:Nat×Nat):Prop:=
 t.1.length=n/\t.2.length=n/\(∀b,t.1.getD b false=u.1.testBit b)/\(∀b,b≠1->b≠2->t.2.getD b false=u.2.testBit b)/\u.1.testBit 1=false/\u.1.testBit 2=false
def GH (m c b:Nat):(m|||2 ^ c).testBit b=(m.testBit b||b==c):=by
 rw[Nat.testBit_or,Nat.testBit_two_pow];congr 1;rw[J1];simp only[CN,EU];omega
def Oc {l:List Bool} {m c:Nat} (hc:c<l.length) {b:Nat} (h:l.getD b false=m.testBit b):(l.set c true).getD b false=(m|||2 ^ c).testBit b:=by
 rw[EB hc,GH,<-h];split
 .rename_i e;subst e;simp
 .rename_i e
  have:(b==c)=false:=by simpa using e
  rw[this,Bool.or_false]
def TJ (x:Fact×Bool):Bool:= !x.2&&(!(x.1.op==2)||x.1.cls==1||x.1.cls==2)
def bM {n : Nat} {x:Fact×Bool} {t:BB} {k:Kn} (h:RB n t (k.B3,k.GV)) (hc:x.1.op=2->0<=x.1.cls/\x.1.cls<n) :
    (TJ x=true->F7 x t=none)/\(TJ x=false-> ∃t',F7 x t=some t'/\RB n t' ((Ck k x.1 x.2).B3,(Ck k x.1 x.2).GV)):=by
 obtain⟨f,c⟩:=x;simp only at hc;obtain⟨h1,h2,h3,h4,h5,h6⟩:=h;unfold TJ F7 Ck;simp only;by_cases ho:f.op=2
 .have hc':=hc ho
  by_cases h12:f.cls=1\/f.cls=2
  .rw[if_pos (.inr h12),if_pos ho]
   cases c with
   | true=>
     refine⟨fun h=>(by cases h),fun _=>⟨t,rfl,h1,h2,h3,fun b hb1 hb2=>?_,h5,h6⟩⟩;rw[if_pos rfl];show _=(k.GV|||2 ^ f.cls.toNat).testBit b;rw[GH,h4 b hb1 hb2];have:(b==f.cls.toNat)=false:=by rw[beq_eq_false_iff_ne];omega
     rw[this,Bool.or_false]
   | false=>
     refine⟨fun _=>rfl,fun h=>?_⟩;exfalso;rcases h12 with e|e<;>simp[e]at h
  .have hn: ¬(f.op≠2\/f.cls=1\/f.cls=2):=by omega
   rw[if_neg hn,if_pos ho]
   have hb:(!c&&(!(f.op==2)||f.cls==1||f.cls==2))=false:=by
    have e1:(f.op==2)=true:=by simpa using ho
    have e2:(f.cls==1)=false:=by rw[beq_eq_false_iff_ne];omega
    have e3:(f.cls==2)=false:=by rw[beq_eq_false_iff_ne];omega
    rw[e1,e2,e3];simp
   rw[hb];refine⟨fun h=>(by cases h),fun _=>?_⟩;cases c with
   | true=>
     refine⟨_,rfl,h1,by simpa using h2,h3,fun b hb1 hb2=>?_,h5,h6⟩;exact Oc (by omega) (h4 b hb1 hb2)
   | false=>
     refine⟨_,rfl,by simpa using h1,h2,fun b=>?_,h4,?_,?_⟩
     .exact Oc (by omega) (h3 b)
     .show(k.B3|||2 ^ f.cls.toNat).testBit 1=false
      rw[GH,h5];have:(1==f.cls.toNat)=false:=by rw[beq_eq_false_iff_ne];omega
      rw[this];rfl
     .show(k.B3|||2 ^ f.cls.toNat).testBit 2=false
      rw[GH,h6];have:(2==f.cls.toNat)=false:=by rw[beq_eq_false_iff_ne];omega
      rw[this];rfl
 .rw[if_pos (.inl ho),if_neg ho]
  have e1:(f.op==2)=false:=by simpa using ho
  cases c with
  | true=>
    refine⟨fun h=>(by cases h),fun _=>⟨t,rfl,?_⟩⟩;split<;>exact⟨h1,h2,h3,h4,h5,h6⟩
  | false=>exact⟨fun _=>rfl,fun h=>by rw[e1]at h;cases h⟩
def Sa {n:Nat}: ∀(os:List Fact) {t:BB} {k:Kn},RB n t (k.B3,k.GV)->I0 n os->
    (os.any (fun l=>TJ (Av l))=true->Dy os t=none)/\(os.any (fun l=>TJ (Av l))=false-> ∃t',Dy os t=some t'/\RB n t' ((Ei os k).B3,(Ei os k).GV))
 | [],t,k,h,_=>⟨fun h=>(by cases h),fun _=>⟨t,rfl,h⟩⟩
 | l ::r,t,k,h,hc=>by
   obtain⟨s1,s2⟩:=bM h (hc l (.head _));rw[Q1,Dy];cases hb:TJ (Av l)with
   | true=>exact⟨fun _=>by rw[s1 hb];rfl,fun h=>(by cases h)⟩
   | false=>
     obtain⟨t',h1,h2⟩:=s2 hb;rw[h1,Bool.false_or,Option.bind_some];exact Sa r h2 fun x hx=>hc x (.tail _ hx)
def ji {os:List Fact} {n:Nat} (hc:I0 n os):(os.any fun l=>TJ (Av l))=((Ei os k0).whole||(Ei os k0).B3.testBit 1||(Ei os k0).B3.testBit 2):=by
 rw[J1,Fl,Fl,L5,L5,K5];simp only[J0,TJ,BD,Fl,Bool.not_eq_true',EU,beq_eq_false_iff_ne,k0,Bool.false_or];constructor
 .rintro⟨l,hl,hb,(h|h)|h⟩
  .exact .inl (.inl ⟨l,hl,hb,h⟩)
  .by_cases ho:(Av l).1.op=2
   .exact .inl (.inr ⟨l,hl,ho,hb,by rw[h];rfl⟩)
   .exact .inl (.inl ⟨l,hl,hb,ho⟩)
  .by_cases ho:(Av l).1.op=2
   .exact .inr ⟨l,hl,ho,hb,by rw[h];rfl⟩
   .exact .inl (.inl ⟨l,hl,hb,ho⟩)
 .rintro((⟨l,hl,hb,h⟩|⟨l,hl,ho,hb,h⟩)|⟨l,hl,ho,hb,h⟩)
  .exact⟨l,hl,hb,.inl (.inl h)⟩
  .have:=hc l hl ho
   exact⟨l,hl,hb,.inl (.inr (by omega))⟩
  .have:=hc l hl ho
   exact⟨l,hl,hb,.inr (by omega)⟩
def Yp (w:AI) (A0 can:Int->Bool) (s:Int) (u:Nat×Nat):Option (Nat×Nat):=
 if A0 s&& !can s then none else some (if A0 s then u.1|||2 ^ (Cm w s).toNat else u.1,if can s then u.2 else u.2|||2 ^ (Cm w s).toNat)
def Ib (w:AI) (A0 can:Int->Bool):List Int->Nat×Nat->Option (Nat×Nat)
 | [],u=>some u
 | s::r,u=>(Yp w A0 can s u).bind (Ib w A0 can r)
def Zr {w:AI} {ls:List Fact} {a:Int} {p:List Int} {can A0:Int->Bool} (hn: ∀s,A0 s= !D9 ls a (p++[s])) {n:Nat} (how: ∀s:Int,0<=s->s<w.owner.length->3<=Cm w s/\Cm w s<n) :
    ∀(sl:List Int) {t:BB} {u:Nat×Nat},(∀s∈sl,0<=s/\s<w.owner.length)->RB n t u->
    (De w ls a p can sl t=none/\Ib w A0 can sl u=none)\/ ∃t' u',De w ls a p can sl t=some t'/\Ib w A0 can sl u=some u'/\RB n t' u'
 | [],t,u,_,h=> .inr ⟨t,u,rfl,rfl,h⟩
 | s ::r,t,u,hsl,h=>by
   have hs:=hsl s (.head _);have ho:=how s hs.1 hs.2;rw[De,Ib,IS,Yp,hn];obtain⟨h1,h2,h3,h4,h5,h6⟩:=h;split
   .exact .inl ⟨rfl,rfl⟩
   .rw[Option.bind_some,Option.bind_some]
    refine Zr hn how r (fun x hx=>hsl x (.tail _ hx)) ?_;have hb: ∀i,i<3->(i==(Cm w s).toNat)=false:=fun i hi=>by rw[beq_eq_false_iff_ne];omega
    cases D9 ls a (p++[s])<;>cases can s<;>refine⟨by simpa using h1,by simpa using h2,fun b=>?_,fun b hb1 hb2=>?_,?_,?_⟩
    all_goals simp only[Bool.not_false,Bool.not_true,LG,if_true,if_false]
    all_goals first
     | exact h3 b
     | exact h4 b hb1 hb2
     | exact h5
     | exact h6
     | exact Oc (by omega) (h3 b)
     | exact Oc (by omega) (h4 b hb1 hb2)
     | (rw[GH,h5,hb 1 (by omega)];rfl)
     | (rw[GH,h6,hb 2 (by omega)];rfl)
def HC (m:Nat):Nat:=m - m % 2
def V7 (m b:Nat):(HC m).testBit b=(m.testBit b&& !(b==0)):=by
 cases b with
 | zero=>
   simp[HC,Nat.testBit_zero];omega
 | succ b=>
   rw[Nat.testBit_succ,Nat.testBit_succ,HC,show(m - m % 2) / 2=m / 2 by omega];simp
def rZ {w : AI} (ho:ordered w.parents) {t:BB} {u:Nat×Nat} (h:RB (3+w.parents.length) t u) :
    (Us w t).isSome=(!u.2.testBit 0&&(HC (DU (Ek w.parents) w.parents.length u.1)&&&u.2==0)):=by
 obtain⟨h1,h2,h3,h4,h5,h6⟩:=h;rw[Us,h4 0 (by decide) (by decide)];cases h0:u.2.testBit 0 with
 | true=>rfl
 | false =>
   rw[if_neg (by decide),Bool.not_false,G7];have hl:(t.1.set 0 false).length=3+w.parents.length:=by simpa using h1
   have hR:=Ya ho hl;have hP:=Qi ho u.1 w.parents.length
   have hS: ∀d,(t.1.set 0 false).getD d false=true↔d≠0/\u.1.testBit d=true:=fun d=>by
    rw[EB (by omega)];split
    .rename_i e;subst e;simp
    .rename_i e;rw[h3];exact⟨fun h=>⟨e,h⟩,fun h=>h.2⟩
   have hlt: ∀b,u.1.testBit b=true->b<3+w.parents.length:=fun b hb=>by
    rw[<-h3]at hb;rcases Nat.lt_or_ge b (3+w.parents.length)with h'|h'
    .exact h'
    .rw[DH,List.getElem?_eq_none (by omega)]at hb;cases hb
   have h3b: ∀d,d≠0->u.1.testBit d=true->3<=d:=fun d hd hb=>by
    rcases d with _|_|_|d
    .exact absurd rfl hd
    .rw[h5]at hb;cases hb
    .rw[h6]at hb;cases hb
    .omega
   have hM: ∀b,(HC (DU (Ek w.parents) w.parents.length u.1)).testBit b=true↔(Bx w.parents (3+w.parents.length) w.parents.length (t.1.set 0 false)).getD b false=true:=fun b=>by
    rw[V7,BD,hP b (Io _),hR,Bool.not_eq_true',beq_eq_false_iff_ne];constructor
    .rintro⟨h|⟨d,q1,q2,q3,q4⟩,hb⟩
     .exact⟨b,(hS b).2 ⟨hb,h⟩,HN ho b⟩
     .rcases q4 with e|q4
      .exact absurd e hb
      .exact⟨d,(hS d).2 ⟨by omega,q3⟩,q4⟩
    .rintro⟨d,hd,hu⟩
     obtain⟨hd0,hdu⟩:=(hS d).1 hd;have hd3:=h3b d hd0 hdu;have:=XO ho d b hd3 hu;exact⟨.inr ⟨d,hd3,hlt d hdu,hdu,.inr hu⟩,by omega⟩
   have hany:((List.range (3+w.parents.length)).any fun c=>(Bx w.parents (3+w.parents.length) w.parents.length (t.1.set 0 false)).getD c false&&t.2.getD c false)= !(HC (DU (Ek w.parents) w.parents.length u.1)&&&u.2==0):=by
    rw[J1,Bool.not_eq_true',<-Bool.not_eq_true,Pw,J0];constructor
    .rintro⟨c,hc,hx⟩ hall
     rw[BD]at hx;have hm:=(hM c).2 hx.1;obtain⟨d,hd,hu⟩:=(hR c).1 hx.1;obtain⟨hd0,hdu⟩:=(hS d).1 hd;have:=XO ho d c (h3b d hd0 hdu) hu;exact hall c hm (by rw[<-h4 c (by omega) (by omega)];exact hx.2)
    .intro hne
     rcases Classical.em (∃b,(HC (DU (Ek w.parents) w.parents.length u.1)).testBit b=true/\u.2.testBit b=true)with⟨b,hb1,hb2⟩|hno
     .have hm:=(hM b).1 hb1
      obtain⟨d,hd,hu⟩:=(hR b).1 hm;obtain⟨hd0,hdu⟩:=(hS d).1 hd;have:=XO ho d b (h3b d hd0 hdu) hu;have:=fA ho d b hu;have:=hlt d hdu;exact⟨b,List.mem_range.2 (by omega),by rw[hm,h4 b (by omega) (by omega),hb2];rfl⟩
     .exact absurd (fun b h1 h2=>hno ⟨b,h1,h2⟩) hne
   rw[hany];cases(HC (DU (Ek w.parents) w.parents.length u.1)&&&u.2==0)<;>rfl
def OO (w:AI) (k:Kn) (A0 can:Int->Bool):Nat×Bool:=
 if k.whole||k.B3.testBit 1||k.B3.testBit 2||k.GV.testBit 0 then(0,false)else
 match Ib w A0 can k.AG (k.B3,k.GV)with
 | none=>(0,false)
 | some u=>(HC (DU (Ek w.parents) w.parents.length u.1),HC (DU (Ek w.parents) w.parents.length u.1)&&&u.2==0)
def Qd {w:AI} {A0 can:Int->Bool} (how: ∀s:Int,0<=s->s<w.owner.length->3<=Cm w s): ∀(sl:List Int) {u u':Nat×Nat},(∀s∈sl,0<=s/\s<w.owner.length)->Ib w A0 can sl u=some u'->u'.2.testBit 0=u.2.testBit 0
 | [],u,u',_,h=>by cases h;rfl
 | s ::r,u,u',hsl,h=>by
   have hs:=hsl s (.head _);have ho:=how s hs.1 hs.2;rw[Ib,Yp]at h;split at h
   .cases h
   .rw[Option.bind_some]at h
    rw[Qd how r (fun x hx=>hsl x (.tail _ hx)) h];simp only;split
    .rfl
    .rw[GH]
     have:(0==(Cm w s).toNat)=false:=by rw[beq_eq_false_iff_ne];omega
     rw[this,Bool.or_false]
def oT {w:AI} {ls:List Fact} {a:Int} {p:List Int} {can A0:Int->Bool} (ho:ordered w.parents) (how: ∀s:Int,0<=s->s<w.owner.length->3<=Cm w s/\Cm w s<3+w.parents.length) (hc:I0 (3+w.parents.length) ls) (hp:Ht w.owner.length ls) (hn: ∀s,A0 s= !D9 ls a (p++[s])) :
    (OO w (kn ls a p) A0 can).2=(KK w ls a p can).isSome:=by
 have hcore:=Oj ls a p;have hsl:=L8 hp a p;generalize kn ls a p=k at *;have hc2:I0 (3+w.parents.length) (ls.filter (Gk a p)):=fun l hl=>hc l (LH.1 hl).1
 simp only[FB,Prod.mk.injEq]at hcore;obtain⟨-,-,-,c4,c5,c6⟩:=hcore;rw[OO,KK,c4,c5,c6,<-ji hc2,hsl]
 have hR0:RB (3+w.parents.length) (tO w) (k0.B3,k0.GV):=by
  refine⟨by simp[tO],by simp[tO],fun b=>?_,fun b _ _=>?_,rfl,rfl⟩<;>
  .simp only[tO,k0,Nat.zero_testBit,DH,List.getElem?_replicate]
   split<;>rfl
 obtain⟨f1,f2⟩:=Sa _ hR0 hc2;cases hbad:(ls.filter (Gk a p)).any fun l=>TJ (Av l)with
 | true=>rw[f1 hbad];rfl
 | false=>
   obtain⟨t,ht,hR⟩:=f2 hbad;rw[ht,Option.bind_some,Bool.false_or];have hin: ∀s∈Bg w.owner.length ls a p,0<=s/\s<(w.owner.length:Int):=fun s hs=>Jo hs
   rcases Zr (can:=can) hn (fun s h0 h1=>by have:=how s h0 h1;omega) (Bg w.owner.length ls a p) hin hR with⟨e1,e2⟩|⟨t',u',e1,e2,hR'⟩
   .rw[e1,e2]
    split<;>rfl
   .rw[e1,e2,Option.bind_some,rZ ho hR']
    have:=Qd (fun s h0 h1=>(how s h0 h1).1) _ hin e2;rw[this];simp only;cases((Ei (ls.filter (Gk a p)) k0).GV.testBit 0)<;>rfl
end Go.Gl
namespace Go.Gl
def G9 (no:List Int):Nat->Int->Int
 | 0,n=>n
 | k+1,n=>if no.contains n then G9 no k (n+1)else n
def from_ (no:List Int) (n:Int):Nat:=(no.filter fun x=>decide (n<=x)).length
def T8 {no:List Int} {n:Int} (h:n∈no):from_ no (n+1)<from_ no n:=by
 induction no with
 | nil=>cases h
 | cons x r ih=>
   simp only[from_,List.filter_cons]at ih ⊢;by_cases hx:x=n
   .subst hx
    have hle:(r.filter fun y=>decide (x+1<=y)).length<=(r.filter fun y=>decide (x<=y)).length:=by
     refine List.Sublist.length_le ?_
     have e:(r.filter fun y=>decide (x+1<=y))=(r.filter fun y=>decide (x<=y)).filter fun y=>decide (x+1<=y):=by
      rw[List.filter_filter];refine List.filter_congr fun y _=>?_
      rw[J1,BD,CN,CN];omega
     rw[e];exact List.filter_sublist
    rw[if_neg (by simp<;>omega),if_pos (by simp),LF];omega
   .have h':n∈r:=by
     rcases Fm.1 h with e|e
     .exact absurd e.symm hx
     .exact e
    have:=ih h';by_cases h1:n<=x
    .rw[if_pos (by rw[CN];omega),if_pos (by rw[CN];omega),LF,LF]
     omega
    .rw[if_neg (by rw[CN];omega),if_neg (by rw[CN];omega)]
     omega
def Zn (no:List Int) (n:Int):from_ no n<=no.length:=Qs _ _
def MJ {no:List Int}: ∀(k:Nat) (n:Int),from_ no n<=k->n<=G9 no k n/\G9 no k n∉no/\ ∀j,n<=j->j<G9 no k n->j∈no
 | 0,n,h=>by
   refine⟨Int.le_refl _,fun hm=>?_,fun j h1 h2=>by simp only[G9]at h2;omega⟩;have:=T8 hm;simp only[G9]at this;omega
 | k + 1,n,h=>by
   rw[G9];split
   .rename_i hc
    rw[List.contains_iff_mem]at hc;have hlt:=T8 hc;obtain⟨h1,h2,h3⟩:=MJ (no:=no) k (n+1) (by omega);refine⟨by omega,h2,fun j hj1 hj2=>?_⟩;by_cases e:j=n
    .subst e;exact hc
    .exact h3 j (by omega) hj2
   .rename_i hc
    exact⟨Int.le_refl _,fun hm=>hc (List.contains_iff_mem.2 hm),fun j h1 h2=>by omega⟩
def vL {no:List Int} {k:Nat} {n:Int} (h:n∈no):G9 no (k+1) n=G9 no k (n+1):=by rw[G9,if_pos (List.contains_iff_mem.2 h)]
def nh {no:List Int} {k:Nat} {n:Int} (h:n∉no):G9 no k n=n:=by
 cases k with
 | zero=>rfl
 | succ k=>rw[G9,if_neg (fun hc=>h (List.contains_iff_mem.1 hc))]
def aG {no:List Int} {k k':Nat} {n:Int} (h:from_ no n<=k) (h':from_ no n<=k'):G9 no k n=G9 no k' n:=by
 obtain⟨a1,a2,a3⟩:=MJ k n h;obtain⟨b1,b2,b3⟩:=MJ k' n h';rcases Int.lt_trichotomy (G9 no k n) (G9 no k' n)with hl|he|hg
 .exact absurd (b3 _ a1 hl) a2
 .exact he
 .exact absurd (a3 _ b1 hg) b2
def KZ (k:Kn):Int:=G9 k.no k.no.length k.low
def PF (kf:Int->List Int->Kn) (a:Int) (p:List Int):Bool:=(kf a p).AG.all fun s=> !(kf a (p++[s])).A0
def Hs (kf:Int->List Int->Kn) (a:Int) (p:List Int) (c:Nat):Bool:=Q2 (kf a p).B3 (1|||2 ^ c)&&((kf a p).GV&&&(1|||2 ^ c)==0&&PF kf a p)
def TE (kf:Int->List Int->Kn) (a:Int) (p:List Int):Bool:=decide (KZ (kf a p)<=(kf a p).high)&&Hs kf a p 1
def LV (kf:Int->List Int->Kn) (a:Int) (p:List Int):Bool:= !(kf a p).whole&&Hs kf a p 2
def OR (w:AI) (kf:Int->List Int->Kn) (a:Int):Nat->List Int->Bool
 | 0,p=>TE kf a p||(LV kf a p||(OO w (kf a p) (fun s=>(kf a (p++[s])).A0) (fun _=>false)).2)
 | d+1,p=>TE kf a p||(LV kf a p||(OO w (kf a p) (fun s=>(kf a (p++[s])).A0) (fun s=>OR w kf a d (p++[s]))).2)
def dh (w:AI) (kf:Int->List Int->Kn):Bool:=(Cn 3).all fun a=>OR w kf a 2 []
def Zv {n:Nat} {ls:List Fact} (h:Ht n ls) (a:Int) (p:List Int):PF (kn ls) a p=E9 n ls a p:=by
 rw[PF,E9,L8 h];congr 1;funext s;rw[NU,Bool.not_not]
def fZ {n m:Nat} {ls:List Fact} (hn:n<=64) (hc:I0 n ls) (h:Ht m ls) (a:Int) (p:List Int):TE (kn ls) a p=((It ls a p).isSome&&E9 m ls a p):=by
 have hcore:=Oj ls a p;have hc2:I0 n (ls.filter (Gk a p)):=fun l hl=>hc l (LH.1 hl).1
 simp only[FB,Prod.mk.injEq]at hcore;obtain⟨c1,c2,c3,c4,c5,-⟩:=hcore;rw[TE,Hs,Zv h,c4,c5,<-Bool.and_assoc (Q2 _ _),bg hn hc2,<-Bool.and_assoc];congr 1;have hf:=Sb (ls.filter (Gk a p)) k0;rw[It,show t0=(k0.low,k0.high,k0.no) from rfl,hf,KZ,c2,c3,c1];obtain⟨h1,h2,h3⟩:=MJ (no:=(Ei (ls.filter (Gk a p)) k0).no) _ (Ei (ls.filter (Gk a p)) k0).low (Zn _ _);have hs:=gw (high:=(Ei (ls.filter (Gk a p)) k0).high) h1 h2 h3;cases(ls.filter (Gk a p)).all fun l=>pM (Av l)with
 | false=>simp
 | true=>rw[if_pos rfl,Option.bind_some,hs,Bool.and_true]
def ZX {n m:Nat} {ls:List Fact} (hn:n<=64) (hc:I0 n ls) (h:Ht m ls) (a:Int) (p:List Int):LV (kn ls) a p=HI m ls a p:=by
 have hcore:=Oj ls a p;have hc2:I0 n (ls.filter (Gk a p)):=fun l hl=>hc l (LH.1 hl).1
 simp only[FB,Prod.mk.injEq]at hcore;obtain⟨-,-,-,c4,c5,c6⟩:=hcore;rw[LV,Hs,Zv h,c4,c5,c6,HI,<-X3 hn hc2];simp only[Bool.and_assoc]
def gG {w:AI} {ls:List Fact} (ho:ordered w.parents) (how: ∀s:Int,0<=s->s<w.owner.length->3<=Cm w s/\Cm w s<3+w.parents.length) (hn:3+w.parents.length<=64) (hc:I0 (3+w.parents.length) ls) (hp:Ht w.owner.length ls) (a:Int): ∀(d:Nat) (p:List Int),OR w (kn ls) a d p=LQ w ls a d p
 | 0,p=>by
   rw[OR,LQ,fZ hn hc hp,ZX hn hc hp,oT ho how hc hp fun s=>NU ls a (p++[s])]
 | d+1,p=>by
   rw[OR,LQ,fZ hn hc hp,ZX hn hc hp,oT ho how hc hp fun s=>NU ls a (p++[s])];have e:(fun s=>OR w (kn ls) a d (p++[s]))=fun s=>LQ w ls a d (p++[s]):=funext fun s=>gG ho how hn hc hp a d (p++[s])
   rw[e]
def qD {w:AI} {ls:List Fact} (ho:ordered w.parents) (how: ∀s:Int,0<=s->s<w.owner.length->3<=Cm w s/\Cm w s<3+w.parents.length) (hn:3+w.parents.length<=64) (hc:I0 (3+w.parents.length) ls) (hp:Ht w.owner.length ls):dh w (kn ls)=Gn w ls:=by
 rw[dh,Gn];congr 1;funext a;exact gG ho how hn hc hp a 2 []
end Go.Gl
namespace Go.Gl
open Go.Proofs
attribute [local irreducible] A3 Aq Af AR AJ Ad AQ AT AK Ac AM AN Ax A5 Sat AX A4 Ah W
section
variable {S:Type} (g:FuncId) (fi ca:List V) (H:S->List At) (f:Int->Bool) (J:S->Prop) (D:Int->Prop)
def RM {v:V} {xs:List Int} (hst:Nz zP (.f (.func g) fi ca) eI (fun s=> .own v 1 (iL xs)::H s) f J D) (hD: ∀x∈xs,D x) (hxl:xs.length<=AY) (s0:S) (hj0:J s0) :
    Bc zP 207 [v,.f (.func g) fi ca] (.own v 1 (iL xs)::H s0) fun r post=>r= .ret (eI (Nx f xs 0))/\ ∃s',J s'/\post= .own v 1 (iL xs)::H s':=by
 intro Z hs;have hM:=Mx;refine fv kZ ?_;refine zz ?_;(repeat clear U K);repeat intro K U
 refine B0 xs.length (fun k (_:S)=>[(8,eI (A8 k))]) (fun _ s=> .own v 1 (iL xs)::H s) (fun k s=>J s/\Nx f xs 0=Nx f (xs.drop k) k) s0 rfl ⟨hj0,rfl⟩ hs ?_;clear hs hj0;rintro k s Z hk ⟨hj,hn⟩ hs;have hck:A8 k=k:=AO (by omega);rcases BC xs hk with⟨y,hy,hlt⟩|hke
 .rw[drop_cons hy]at hn
  have hDy:=hD y (B1 hy);rw[Nx]at hn
  conv=>whnf
  repeat'((first|clear U K|apply st|(apply zk;intro K U)|refine zY ?_|refine ze fun x hx=>?_|fail)<;>conv=>whnf)
  obtain rfl:x=y:=by rw[hck,JP,hy]at hx;exact(Option.some.inj hx).symm
  refine hst.use hDy hj hs ?_;clear hs hj;intro s Z hj hs;cases hyes:f x
  .rw[hyes,if_neg (by decide)]at hn
   refine zz ?_;(repeat clear U K);repeat intro K U
   exact⟨hlt,_,rfl,⟨hj,hn⟩,hs⟩
  .rw[hyes,if_pos rfl]at hn
   refine zz ?_;(repeat clear U K);repeat intro K U
   rw[hn];exact AU ⟨_,⟨by rw[hck],s,hj,rfl⟩,hs⟩
 .rw[Ao hke,Nx]at hn
  refine zz ?_;(repeat clear U K);repeat intro K U
  rw[hn];exact AU ⟨_,⟨rfl,s,hj,rfl⟩,hs⟩
def OV {v:V} {xs:List Int} (hst:Nz zP (.f (.func g) fi ca) eI (fun s=> .own v 1 (iL xs)::H s) f J D) (hD: ∀x∈xs,D x) (hxl:xs.length<=AY) (s0:S) (hj0:J s0) :
    Bc zP 139 [v,.f (.func g) fi ca] (.own v 1 (iL xs)::H s0) fun r post=>r= .ret (.b (xs.any f))/\ ∃s',J s'/\post= .own v 1 (iL xs)::H s':=by
 intro Z hs;refine gC kZ ?_
 conv=>whnf
 repeat'((first|clear U K|apply st|(apply zk;intro K U)|fail)<;>conv=>whnf)
 refine(RM g fi ca H f J D hst hD hxl s0 hj0).use (rest:=[]) (by simpa using hs) ?_;rintro r post Z ⟨rfl,s',hj,rfl⟩ hs;refine zz ?_;(repeat clear U K);repeat intro K U
 exact AU ⟨_,⟨by rw[<-V1 f xs 0],s',hj,rfl⟩,by simpa using hs⟩
def ly {v:V} {xs:List Int} (hst:Nz zP (.f (.func g) fi ca) eI (fun s=> .own v 1 (iL xs)::H s) f J D):Nz zP (.f (.func 362) [] [.rp [.f (.func g) fi ca]]) eI (fun s=> .own v 1 (iL xs)::H s) (fun y=> !f y) J D:=by
 intro y s hd hj Z hs;refine By ?_;show A3 zP 362 ([]++[eI y]++[.rp [.f (.func g) fi ca]]) Z _;refine fo kZ ?_;refine zz ?_;(repeat clear U K);repeat intro K U
 refine hst.use hd hj hs ?_;clear hs;intro s' Z hj' hs;refine zz ?_;(repeat clear U K);repeat intro K U
 exact AU ⟨rfl,s',hj',hs⟩
def aE {v:V} {xs:List Int} (hst:Nz zP (.f (.func g) fi ca) eI (fun s=> .own v 1 (iL xs)::H s) f J D) (hD: ∀x∈xs,D x) (hxl:xs.length<=AY) (s0:S) (hj0:J s0) :
    Bc zP 330 [v,.f (.func g) fi ca] (.own v 1 (iL xs)::H s0) fun r post=>r= .ret (.b (xs.all f))/\ ∃s',J s'/\post= .own v 1 (iL xs)::H s':=by
 intro Z hs;refine fp kZ ?_
 conv=>whnf
 repeat'((first|clear U K|apply st|(apply zk;intro K U)|fail)<;>conv=>whnf)
 refine(OV 362 [] [.rp [.f (.func g) fi ca]] H _ J D (ly g fi ca H f J D hst) hD hxl s0 hj0).use (rest:=[]) (by simpa using hs) ?_;rintro r post Z ⟨rfl,s',hj,rfl⟩ hs;refine zz ?_;(repeat clear U K);repeat intro K U
 refine AU ⟨_,⟨?_,s',hj,rfl⟩,by simpa using hs⟩;rw[List.all_eq_not_any_not]
end
abbrev KQ (l:Fact):List V:=xF (Av l).1++[.b (Av l).2]
abbrev E7 (ls:List Fact):List (List V):=ls.map KQ
def JU (xs ys:List Int) (f g:Bool):Pure zP 27 [.l (iL xs) f,.l (iL ys) g] (.b (xs==ys)):=by
 refine Pure.fit (by kernel_rfl) fun hf=>?_
 have hx:=LX hf.1;have hy:=LX hf.2.1;have hM:=Mx;refine xa kZ ?_;have hs:=Sn
 conv=>whnf
 repeat'((first|clear U K|apply st|(apply zk;intro K U)|refine zY ?_|(refine zd (fun hc=>?_) (fun hc=>?_)<;>try exact⟨⟩)|fail)<;>conv=>whnf)
 .exact AF (by(have:(xs==ys)=false:=by(simp;intro e;subst e;simp at hc));rw[this])
 have hl:xs.length=ys.length:=by omega
 refine B0 xs.length (fun k (_:Unit)=>[(13,eI (A8 k))]) (fun _ _=>[]) (fun k _=>(xs==ys)=(xs.drop k==ys.drop k)) () rfl rfl Sat.nil ?_;clear hs;rintro k - Z hk hn hs;rcases BC xs hk with⟨x,hxk,hlt⟩|hke
 .obtain⟨y,hyk⟩: ∃y,ys[k]? =some y:=⟨_,Cy (by omega)⟩
  rw[drop_cons hxk,drop_cons hyk]at hn
  conv=>whnf
  repeat'((first|clear U K|apply st|(apply zk;intro K U)|refine zY ?_|refine za (fun hc=>?_) fun hc=>?_|fail)<;>conv=>whnf)
  .exact AF (by rw[hn];simp[*])
  .exact⟨hlt,(),rfl,by rw[hn];simp[*],hs⟩
 .refine zz ?_;(repeat clear U K);repeat intro K U
  exact AF (by rw[hn,Ao hke,Ao (by omega)];rfl)
def mI (a b:Bool) (u:V):Pure zP 406 [.l [] a,.l [] b,u] (.b true):=by
 refine r8 kZ ?_;have hs:=Sn;have hM:=Mx
 conv=>whnf
 repeat'((first|clear U K|apply st|(apply zk;intro K U)|refine zY ?_|(refine zb (fun hc=>?_) (fun hc=>?_)<;>try exact⟨⟩)|fail)<;>conv=>whnf)
 refine B0 0 (fun k (_:Unit)=>[(17,eI (A8 k))]) (fun _ _=>[]) (fun _ _=>True) () rfl trivial Sat.nil ?_;clear hs;rintro k - Z hk - hs;obtain rfl:k=0:=by omega
 conv=>whnf
 repeat'((first|clear U K|apply st|(apply zk;intro K U)|refine zY ?_|(refine zd (fun hc=>?_) (fun hc=>?_)<;>try exact⟨⟩)|fail)<;>conv=>whnf)
 .exfalso
  simp at hc
 .exact AF rfl
def lB (f g:Fact) (hf:f.kids= []) (hg:g.kids= []):Pure zP 402 [.a (xF f),.a (xF g)] (.b (FW f g)):=by
 have e:FW f g=(f.op==g.op&&(f.arg==g.arg&&(f.cls==g.cls&&(f.n==g.n&&f.path==g.path)))):=by
  rw[Lx,hf,hg];simp[RA]
 obtain⟨o,a,p,c,n,k⟩:=f;obtain⟨o',a',p',c',n',k'⟩:=g;simp only[Fact.kids]at hf hg;subst hf;subst hg;refine sB kZ ?_;have hs:=Sn;rw[e]
 conv=>whnf
 repeat'((first|clear U K|apply st|(apply zk;intro K U)|refine zY ?_|refine Pure.use (JU _ _ _ _) ?_|refine Pure.use (mI _ _ _) ?_|refine za (fun hc=>?_) fun hc=>?_|fail)<;>conv=>whnf)
 all_goals simp only[Fact.op,Fact.arg,Fact.cls,Fact.n,Fact.path]at *
 all_goals exact AF (by simp[*])
def XZ:Em KQ 7:=fun l=>by
 refine⟨rfl,fun v hv=>?_⟩;rcases E4.1 hv with hv|hv
 .exact(Ke (Av l).1).2 v (by show v∈GB (Av l).1;rw[BV];exact hv)
 .simp at hv;subst hv;rfl
def RZ (x y:Fact):Bool:=(Av x).2==(Av y).2&&FW (Av x).1 (Av y).1
abbrev Yv (l:Fact):Prop:=(Av l).1.kids= []
abbrev pV (f:Fact->Bool):Fact->Unit->Bool×Unit:=fun y _=>(f y,())
def lC (x:Fact) (hx1:Yv x) (n:Nat):Cz zP (.f (.func 401) [] [.p n 0]) (fun y=> .a (KQ y)) (fun _:Unit=>[.box n (KQ x)]) (pV (RZ x)) (fun y _=>Yv y):=by
 intro y s hy1 Z hs;refine By ?_;show A3 zP 401 ([]++[.a (KQ y)]++[.p n 0]) Z _;refine sC kZ ?_;unfold RZ
 conv=>whnf
 repeat'((first|clear U K|apply st|(apply zk;intro K U)|refine zY ?_|refine Pure.use (lB _ _ hx1 hy1) ?_|refine za (fun hc=>?_) fun hc=>?_|fail)<;>conv=>whnf)
 all_goals exact AU ⟨by simp[pV, *],hs⟩
section
variable {S:Type} (g:FuncId) (fi ca:List V) (H:S->List At)
def RJ (stp:Fact->S->Bool×S) (D:Fact->S->Prop) {v:V} {xs:List Fact} (hst:Cz zP (.f (.func g) fi ca) (fun y=> .a (KQ y)) (fun s=> .own v 7 (E7 xs)::H s) stp D) (hxl:xs.length<=AY) (s0:S) (hd:W8 stp D xs s0) :
    Bc zP 405 [v,.f (.func g) fi ca] (.own v 7 (E7 xs)::H s0) fun r post=>r= .ret (eI (Bk stp xs 0 s0).1)/\post= .own v 7 (E7 xs)::H (Bk stp xs 0 s0).2:=by
 intro Z hs;have hM:=Mx;refine r9 kZ ?_;refine zz ?_;(repeat clear U K);repeat intro K U
 refine B0 xs.length (fun k (_:S)=>[(8,eI (A8 k))]) (fun _ s=> .own v 7 (E7 xs)::H s) (fun k s=>W8 stp D (xs.drop k) s/\Bk stp xs 0 s0=Bk stp (xs.drop k) k s) s0 rfl ⟨hd,rfl⟩ hs ?_;clear hs;rintro k s Z hk ⟨hd,hn⟩ hs;have hck:A8 k=k:=AO (by omega);rcases BC xs hk with⟨y,hy,hlt⟩|hke
 .rw[drop_cons hy]at hn hd
  obtain⟨hd1,hd2⟩:=hd;rw[Bk]at hn
  conv=>whnf
  repeat'((first|clear U K|apply st|(apply zk;intro K U)|refine zY ?_|refine ze fun x hx=>?_|fail)<;>conv=>whnf)
  obtain rfl:x=y:=by rw[hck,JP,hy]at hx;exact(Option.some.inj hx).symm
  refine hst.use hd1 hs ?_;clear hs;intro Z hs;cases hyes:(stp x s).1
  .rw[hyes,if_neg (by decide)]at hn
   refine zz ?_;(repeat clear U K);repeat intro K U
   exact⟨hlt,_,rfl,⟨hd2,hn⟩,hs⟩
  .rw[hyes,if_pos rfl]at hn
   refine zz ?_;(repeat clear U K);repeat intro K U
   rw[hn];exact AU ⟨_,⟨by rw[hck],rfl⟩,hs⟩
 .rw[Ao hke,Bk]at hn
  refine zz ?_;(repeat clear U K);repeat intro K U
  rw[hn];exact AU ⟨_,⟨rfl,rfl⟩,hs⟩
def Nl (stp:Fact->S->Bool×S) (D:Fact->S->Prop) {v:V} {xs:List Fact} (hst:Cz zP (.f (.func g) fi ca) (fun y=> .a (KQ y)) (fun s=> .own v 7 (E7 xs)::H s) stp D) (hxl:xs.length<=AY) (s0:S) (hd:W8 stp D xs s0) :
    Bc zP 400 [v,.f (.func g) fi ca] (.own v 7 (E7 xs)::H s0) fun r post=>r= .ret (.b (decide ((Bk stp xs 0 s0).1≥0)))/\post= .own v 7 (E7 xs)::H (Bk stp xs 0 s0).2:=by
 intro Z hs;refine sD kZ ?_
 conv=>whnf
 repeat'((first|clear U K|apply st|(apply zk;intro K U)|fail)<;>conv=>whnf)
 refine(RJ g fi ca H stp D hst hxl s0 hd).use (rest:=[]) (by simpa using hs) ?_;rintro r post Z ⟨rfl,rfl⟩ hs;refine zz ?_;(repeat clear U K);repeat intro K U
 exact AU ⟨_,⟨rfl,rfl⟩,by simpa using hs⟩
end
def jU (a:List Fact) (f:Bool) (hl:a.length<=1000000):Bc zP 399 [.l (E7 a) f] [] fun r post=> ∃v,r= .ret v/\post= [.own v 7 (E7 a)]:=by
 intro Z hs;have hM:=Mx;refine sE kZ ?_
 conv=>whnf
 repeat'((first|clear U K|apply st|(apply zk;intro K U)|fail)<;>conv=>whnf)
 refine⟨fun e t=>?_,fun _=>?_⟩
 .have hxe:a= []:=List.map_eq_nil_iff.1 e
  subst hxe
  conv=>whnf
  repeat'((first|clear U K|apply st|(apply zk;intro K U)|refine za (fun hc=>?_) fun hc=>?_|fail)<;>conv=>whnf)
  .exact AU ⟨_,⟨_,rfl,rfl⟩,Cf hs 7⟩
  .replace hs:=Cf hs 7
   refine F9 hs 0 (xs:=[]) (ys:=[]) rfl (by simp) XZ fun v Z hs=>?_
   refine zz ?_;(repeat clear U K);repeat intro K U
   exact AU ⟨_,⟨_,rfl,rfl⟩,hs⟩
 .refine zz ?_;(repeat clear U K);repeat intro K U
  replace hs:=Cf hs 7;refine F9 hs 0 (xs:=[]) (ys:=a) rfl (by simp;omega) XZ fun v Z hs=>?_
  refine zz ?_;(repeat clear U K);repeat intro K U
  exact AU ⟨_,⟨_,rfl,rfl⟩,hs⟩
def VW {w:AI} {x:Fact} (h:Is w x):x=if(Av x).2 then FV (Av x).1 else(Av x).1:=by
 obtain⟨g,hn,hl,rfl|rfl⟩:=h
 .have:=Fq hl
  have h5: ¬x.op=5:=by omega
  simp only[Av,if_neg h5];rfl
 .rfl
def ZE {w:AI} {x y:Fact} (hx1:Is w x) (hy1:Is w y):RZ x y=FW x y:=by
 rw[J1,NK];simp only[RZ,BD,EU,NK];constructor
 .rintro⟨h1,h2⟩
  rw[VW hx1,VW hy1,h1,h2]
 .rintro rfl
  exact⟨rfl,rfl⟩
def SH {w:AI} {x:Fact} (h:Is w x):Yv x:=by
 obtain⟨-,hn,hl⟩:=HS h;have hlo:=Fq hl;have har:=Cr _ hn;rw[MG,BD,EU]at har
 have h0:CR (Av x).1.op=0:=by
  have h5: ¬(Av x).1.op=5:=by omega
  have h6: ¬((Av x).1.op=6\/(Av x).1.op=7):=by omega
  simp[CR,h5,h6]
  try omega
 rw[h0]at har;exact Yh.1 har.1
def cG {w:AI} (a b:List Fact) (f g:Bool) (hla: ∀x∈a,Is w x) (hlb: ∀x∈b,Is w x) (hl:a.length+b.length<1000000):Pure zP 395 [.l (E7 a) f,.l (E7 b) g] (.l (E7 (CL a b)) false):=by
 have hM:=Mx;refine Pure.of ?_;refine sH kZ ?_;have hs:=Sn
 conv=>whnf
 repeat'((first|clear U K|apply st|(apply zk;intro K U)|fail)<;>conv=>whnf)
 refine(jU a f (by omega)).use (rest:=[]) (by simpa using hs) ?_;clear hs;rintro r post Z ⟨v,rfl,rfl⟩ hs;refine zz ?_;(repeat clear U K);repeat intro K U
 refine B0 b.length (fun k v=>[(5,v),(12,eI (A8 k))]) (fun k v=>[.own v 7 (E7 (CL a (b.take k)))]) (fun _ _=>True) v rfl trivial hs ?_;clear hs;rintro k v Z hk - hs;have hml:=NV a (b.take k);rw[Mf]at hml;rcases BC b hk with⟨x,hxk,hlt⟩|hke
 .have hsn:=QT a (b.take k) x
  rw[<-AL hxk]at hsn;have hxg:=hlb x (B1 hxk)
  have hmem: ∀y∈CL a (b.take k),Is w y:=fun y hy=>by
   rcases SP _ _ _ hy with h|h
   .exact hla y h
   .exact hlb y (List.mem_of_mem_take h)
  generalize CL a (b.take k)=m at *
  have hany:m.any (RZ x)=m.any (FW x):=by
   rw[J1,J0,J0];exact⟨fun⟨y,hy,h⟩=>⟨y,hy,by rw[<-ZE hxg (hmem y hy)];exact h⟩,fun⟨y,hy,h⟩=>⟨y,hy,by rw[ZE hxg (hmem y hy)];exact h⟩⟩
  conv=>whnf
  repeat'((first|clear U K|apply st|(apply zk;intro K U)|refine zY ?_|refine zs fun Z hs=>?_|refine zo fun nn hnn Z hs=>?_|fail)<;>conv=>whnf)
  generalize nn=n7 at *;have hs2:Sat Z [.own v 7 (E7 m),.box n7 (KQ x)]:=hs.perm (.swap _ _ _);clear hs hnn;refine(Nl 401 [] [.p n7 0] (fun _:Unit=>[.box n7 (KQ x)]) (pV (RZ x)) (fun y _=>Yv y) ((lC x (SH hxg) n7).more [_]) (by omega) () (Gw fun y hy _=>SH (hmem y hy))).use (rest:=[]) hs2 ?_;clear hs2;rintro r post Z ⟨rfl,rfl⟩ hs;rw[MD,hany];cases hy:m.any (FW x)
  .rw[hy,if_neg Bool.false_ne_true]at hsn
   refine zz ?_;(repeat clear U K);repeat intro K U
   refine GK (Fj (x:=x) (xs:=m) (enc:=KQ) hs 0 rfl (by omega) XZ fun v Z hs hsl=>?_);refine zz ?_;(repeat clear U K);repeat intro K U
   exact⟨hlt,v,rfl,trivial,by rw[hsn];exact hs.less (.cons₂ _ (KG _))⟩
  .rw[hy,if_pos rfl]at hsn
   refine zz ?_;(repeat clear U K);repeat intro K U
   exact⟨hlt,v,rfl,trivial,by rw[hsn];exact hs.less (.cons₂ _ (KG _))⟩
 .refine zz ?_;(repeat clear U K);repeat intro K U
  exact dT (EC hs 0 rfl (vf:= .l (E7 (CL a b)) false) (by rw[Au hke])) fun r Z h=>h.1
end Go.Gl
