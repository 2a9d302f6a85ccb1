import Derived.Test.YtnidfcmdimehdaaGreatW14
import Derived.Test.YtnidfcmdimehdaaGreatW15
import Derived.Test.YtnidfcmdimehdaaGreatW16
import Derived.Test.YtnidfcmdimehdaaGreatW17
import Derived.Test.YtnidfcmdimehdaaGreatW18
import Derived.Test.YtnidfcmdimehdaaGreatW20
set_option linter.all false
set_option linter.defProp false
set_option maxHeartbeats 8000000
noncomputable section
namespace Go.Gl
def VL (g:List (List Int)) (k:Nat): ∀(m d:Nat),d<3+k->(Bc g (k+m)).getD d 0=(Bc g k).getD d 0
 | 0,d,_=>rfl
 | m+1,d,h=>by
   rw[show k+(m+1)=k+m+1 from rfl,Bc,<-VL g k m d h];rw[Dh,dN (by rw[Df];omega),<-Dh]
def VN (us:List Nat) (b:Nat): ∀(l:List Int) (s:Nat),(Sp us l s).testBit b=(s.testBit b||l.any fun c=>(us.getD c.toNat 0).testBit b)
 | [],s=>by simp[Sp]
 | c::r,s=>by
   have:=VN us b r (s|||us.getD c.toNat 0);rw[Qj,<-Bool.or_assoc,<-Nat.testBit_or,<-this];rfl
def gL {α:Type} (f:α->Bool) (b:Bool): ∀(l:List α),(b||l.any fun x=>b||f x)=(b||l.any f)
 | []=>rfl
 | x::r=>by
   have:=gL f b r;simp only[Qj];cases b
   .simpa using this
   .rfl
def any_congr {α:Type} {f g:α->Bool}: ∀ {l:List α},(∀x∈l,f x=g x)->l.any f=l.any g
 | [],_=>rfl
 | x::r,h=>by
   rw[Qj,Qj,h x (.head _),any_congr fun y hy=>h y (.tail _ hy)]
def TV {g:List (List Int)} (ho:ordered g): ∀(k d b:Nat),k<=g.length->d<3+k->((Bc g k).getD d 0).testBit b=(b==0||GG g d b)
 | 0,d,b,_,hd=>by
   have e:(Bc g 0).getD d 0=1|||2 ^ d:=by
    rcases d with _|_|_|d
    .rfl
    .rfl
    .rfl
    .omega
   rw[e,TQ,Eo ho,par,if_pos (by omega),List.any_nil,Bool.or_false];rw[Gr];simp only[Ek,Cy];omega
 | k + 1,d,b,hk,hd=>by
   by_cases hlt:d<3+k
   .rw[VL g k 1 d hlt]
    exact TV ho k d b (by omega) hlt
   .obtain rfl:d=3+k:=by omega
    have e:(Bc g (k+1)).getD (3+k) 0=Sp (Bc g k) (g.getD k []) (1|||2 ^ (3+k)):=by
     rw[Bc,Dh,List.getElem?_append_right (by rw[Df];omega),Df,Nat.sub_self];rfl
    have hpar:par g (3+k)=g.getD k []:=by rw[par,if_neg (by omega),show 3+k - 3=k by omega]
    rw[e,VN,TQ,Eo ho,hpar]
    have hc:((g.getD k []).any fun c=>((Bc g k).getD c.toNat 0).testBit b)=(g.getD k []).any fun p=>(b==0)||GG g p.toNat b:=any_congr fun p hp=>by
     have:=ho (3+k) p (by rw[hpar];exact hp);exact TV ho k p.toNat b (by omega) (by omega)
    rw[hc];have e2:(b==3+k)=(3+k==b):=by rw[Gr];simp only[Cy];omega
    rw[e2,Bool.or_assoc,Bool.or_left_comm,gL,Bool.or_left_comm]
def VM {g:List (List Int)} (ho:ordered g) {d b:Nat} (hd:d<3+g.length):((B1 g).getD d 0).testBit b=(b==0||GG g d b):=TV ho g.length d b (IN _) hd
def PC {g:List (List Int)} (ho:ordered g): ∀(d b:Nat),3<=d->GG g d b=true->3<=b:=by
 intro d
 induction d using Nat.strongRecOn with
 | _ d ih=>
   intro b h3 h;rw[Eo ho]at h;simp only[Ek,Cy,GF]at h;rcases h with rfl|⟨p,hp,h⟩
   .exact h3
   .have:=ho d p hp
    exact ih p.toNat (by omega) b (by omega) h
def DK (us:List Nat):Nat->Nat->Nat
 | 0,m=>m
 | k+1,m=>if(DK us k m).testBit (3+k)then DK us k m|||us.getD (3+k) 0 else DK us k m
def QX {g : List (List Int)} (ho:ordered g) (m:Nat): ∀(k b:Nat),k<=g.length->((DK (B1 g) k m).testBit b=true↔m.testBit b=true\/ ∃d,3<=d/\d<3+k/\m.testBit d=true/\(b=0\/GG g d b=true))
 | 0,b,_=>by
   rw[DK];exact⟨.inl,fun h=>h.elim id fun⟨d,h1,h2,_⟩=>by omega⟩
 | k + 1, b, hk=>by
   have ih:=QX ho m k;rw[DK];split
   .rename_i hc
    rw[Nat.testBit_or,Ek,ih b (by omega),VM ho (by omega),Ek,Cy];rw[ih _ (by omega)]at hc;constructor
    .rintro((h|⟨d,h1,h2,h3,h4⟩)|h)
     .exact .inl h
     .exact .inr ⟨d,h1,by omega,h3,h4⟩
     .rcases hc with hc|⟨d,h1,h2,h3,h4⟩
      .exact .inr ⟨3+k,by omega,by omega,hc,h⟩
      .refine .inr ⟨d,h1,by omega,h3,?_⟩
       rcases h with h|h
       .exact .inl h
       .rcases h4 with h4|h4
        .omega
        .exact .inr (Mq ho _ _ _ h4 h)
    .rintro(h|⟨d,h1,h2,h3,h4⟩)
     .exact .inl (.inl h)
     .by_cases e:d=3+k
      .subst e;exact .inr h4
      .exact .inl (.inr ⟨d,h1,by omega,h3,h4⟩)
   .rename_i hc
    rw[ih b (by omega)];constructor
    .rintro(h|⟨d,h1,h2,h3,h4⟩)
     .exact .inl h
     .exact .inr ⟨d,h1,by omega,h3,h4⟩
    .rintro(h|⟨d,h1,h2,h3,h4⟩)
     .exact .inl h
     .by_cases e:d=3+k
      .subst e;exact absurd ((ih _ (by omega)).2 (.inl h3)) hc
      .exact .inr ⟨d,h1,by omega,h3,h4⟩
def J1: ∀(l:List Int) (bs:List Bool),(∀q∈l,0<=q/\q.toNat<bs.length)-> ∀b:Nat,(l.foldl (fun b q=>b.set q.toNat true) bs).getD b false=(bs.getD b false||l.contains (b:Int))
 | [],bs,_,b=>by simp
 | q ::r,bs,h,b=>by
   have hq:=h q (.head _);rw[List.foldl_cons,J1 r _ (fun x hx=>by rw[List.length_set];exact h x (.tail _ hx)),EY hq.2,List.contains_cons];split
   .rename_i e
    subst e;have:((q.toNat:Int)==q)=true:=by rw[Cy];omega
    rw[this];simp
   .rename_i e
    have:((b:Int)==q)=false:=by rw[beq_eq_false_iff_ne];omega
    rw[this,Bool.false_or]
def Gn {g:List (List Int)} (ho:ordered g) {c:Nat} {bs:List Bool} (hc:c<=bs.length) (b:Nat):(JX g c bs).getD b false=(bs.getD b false||(bs.getD c false&&(par g c).contains (b:Int))):=by
 rw[JX];split
 .rename_i h
  rw[J1 _ _ (fun q hq=>by have:=ho c q hq;omega),h,Ed]
 .rename_i h
  have:bs.getD c false=false:=by simpa using h
  rw[this,Bool.false_and,Bool.or_false]
def Fi {g:List (List Int)} (ho:ordered g) {n:Nat} {S:List Bool} (hl:S.length=n): ∀(k b:Nat),(Cc g n k S).getD b false=true-> ∃d,S.getD d false=true/\GG g d b=true
 | 0,b,h=>⟨b,h,FH ho b⟩
 | k + 1,b,h=>by
   rw[Cc,Gn ho (by rw[Ey];omega),Ek,A4]at h;rcases h with h|⟨h1,h2⟩
   .exact Fi ho hl k b h
   .obtain⟨d,h3,h4⟩:=Fi ho hl k _ h1
    refine⟨d,h3,Mq ho _ _ _ h4 ?_⟩;rw[Eo ho,Ek,GF];rw[List.contains_iff_mem]at h2;exact .inr ⟨_,h2,by rw[Hc];exact FH ho b⟩
def Wy {g:List (List Int)} (ho:ordered g) {n:Nat} {S:List Bool} (hl:S.length=n) (k b:Nat) (h:(Cc g n k S).getD b false=true):(Cc g n (k+1) S).getD b false=true:=by
 rw[Cc,Gn ho (by rw[Ey];omega),h];rfl
def I0 {g:List (List Int)} (ho:ordered g) {n:Nat} {S:List Bool} (hl:S.length=n): ∀(k b:Nat),S.getD b false=true->(Cc g n k S).getD b false=true
 | 0,_,h=>h
 | k+1,b,h=>Wy ho hl k b (I0 ho hl k b h)
def Gp {g:List (List Int)} (ho:ordered g) {n:Nat} {S:List Bool} (hl:S.length=n): ∀(k c:Nat),k<=n->n - k<=c->(Cc g n k S).getD c false=true-> ∀q∈par g c,(Cc g n k S).getD q.toNat false=true
 | 0,c,_,hc,h,q,hq=>by
   rw[Cc,Dh,List.getElem?_eq_none (by omega)]at h;cases h
 | k + 1,c,hk,hc,h,q,hq=>by
   rw[Cc,Gn ho (by rw[Ey];omega)]at h ⊢;have hoc:=ho c q hq;rw[Ek,A4]at h
   have hbase:(Cc g n k S).getD c false=true:=by
    rcases h with h|⟨-,h2⟩
    .exact h
    .rw[List.contains_iff_mem]at h2
     have:=ho _ _ h2;omega
   by_cases e:c=n - 1 - k
   .subst e
    rw[hbase,Ed,Ek,List.contains_iff_mem];exact .inr (by rw[show((q.toNat:Nat):Int)=q by omega];exact hq)
   .rw[Gp ho hl k c (by omega) (by omega) hbase q hq];rfl
def Yc {g:List (List Int)} (ho:ordered g) {S:List Bool} (hl:S.length=3+g.length) (b:Nat):(Cc g (3+g.length) g.length S).getD b false=true↔ ∃d,S.getD d false=true/\GG g d b=true:=by
 refine⟨Fi ho hl _ b,?_⟩
 have key: ∀d,(Cc g (3+g.length) g.length S).getD d false=true->GG g d b=true->(Cc g (3+g.length) g.length S).getD b false=true:=by
  intro d
  induction d using Nat.strongRecOn with
  | _ d ih=>
    intro h1 h2;rw[Eo ho,Ek,Cy,GF]at h2;rcases h2 with rfl|⟨p,hp,h2⟩
    .exact h1
    .have hop:=ho d p hp
     refine ih p.toNat (by omega) (Gp ho hl g.length d (by omega) ?_ h1 p hp) h2;omega
 rintro⟨d,h1,h2⟩;exact key d (I0 ho hl _ d h1) h2
def RB (n:Nat) (t:BB) (u:Nat×Nat):Prop:=
 t.1.length=n/\t.2.length=n/\(∀b,t.1.getD b false=u.1.testBit b)/\(∀b,b≠1->b≠2->t.2.getD b false=u.2.testBit b)/\u.1.testBit 1=false/\u.1.testBit 2=false
def EZ (m c b:Nat):(m|||2 ^ c).testBit b=(m.testBit b||b==c):=by
 rw[Nat.testBit_or,Nat.testBit_two_pow];congr 1;rw[Gr];simp only[CT,Cy];omega
def OH {l:List Bool} {m c:Nat} (hc:c<l.length) {b:Nat} (h:l.getD b false=m.testBit b):(l.set c true).getD b false=(m|||2 ^ c).testBit b:=by
 rw[EY hc,EZ,<-h];split
 .rename_i e;subst e;simp
 .rename_i e
  have:(b==c)=false:=by simpa using e
  rw[this,Bool.or_false]
def S4 (x:Fact×Bool):Bool:= !x.2&&(!(x.1.op==2)||x.1.cls==1||x.1.cls==2)
def a7 {n : Nat} {x:Fact×Bool} {t:BB} {k:Kn} (h:RB n t (k.BL,k.DS)) (hc:x.1.op=2->0<=x.1.cls/\x.1.cls<n) :
    (S4 x=true->NN x t=none)/\(S4 x=false-> ∃t',NN x t=some t'/\RB n t' ((Bl k x.1 x.2).BL,(Bl k x.1 x.2).DS)):=by
 obtain⟨f,c⟩:=x;simp only at hc;obtain⟨h1,h2,h3,h4,h5,h6⟩:=h;unfold S4 NN Bl;simp only;by_cases ho:f.op=2
 .have hc':=hc ho
  by_cases h12:f.cls=1\/f.cls=2
  .rw[if_pos (.inr h12),if_pos ho]
   cases c with
   | true=>
     refine⟨fun h=>(by cases h),fun _=>⟨t,rfl,h1,h2,h3,fun b hb1 hb2=>?_,h5,h6⟩⟩;rw[if_pos rfl];show _=(k.DS|||2 ^ f.cls.toNat).testBit b;rw[EZ,h4 b hb1 hb2];have:(b==f.cls.toNat)=false:=by rw[beq_eq_false_iff_ne];omega
     rw[this,Bool.or_false]
   | false=>
     refine⟨fun _=>rfl,fun h=>?_⟩;exfalso;rcases h12 with e|e<;>simp[e]at h
  .have hn: ¬(f.op≠2\/f.cls=1\/f.cls=2):=by omega
   rw[if_neg hn,if_pos ho]
   have hb:(!c&&(!(f.op==2)||f.cls==1||f.cls==2))=false:=by
    have e1:(f.op==2)=true:=by simpa using ho
    have e2:(f.cls==1)=false:=by rw[beq_eq_false_iff_ne];omega
    have e3:(f.cls==2)=false:=by rw[beq_eq_false_iff_ne];omega
    rw[e1,e2,e3];simp
   rw[hb];refine⟨fun h=>(by cases h),fun _=>?_⟩;cases c with
   | true=>
     refine⟨_,rfl,h1,by simpa using h2,h3,fun b hb1 hb2=>?_,h5,h6⟩;exact OH (by omega) (h4 b hb1 hb2)
   | false=>
     refine⟨_,rfl,by simpa using h1,h2,fun b=>?_,h4,?_,?_⟩
     .exact OH (by omega) (h3 b)
     .show(k.BL|||2 ^ f.cls.toNat).testBit 1=false
      rw[EZ,h5];have:(1==f.cls.toNat)=false:=by rw[beq_eq_false_iff_ne];omega
      rw[this];rfl
     .show(k.BL|||2 ^ f.cls.toNat).testBit 2=false
      rw[EZ,h6];have:(2==f.cls.toNat)=false:=by rw[beq_eq_false_iff_ne];omega
      rw[this];rfl
 .rw[if_pos (.inl ho),if_neg ho]
  have e1:(f.op==2)=false:=by simpa using ho
  cases c with
  | true=>
    refine⟨fun h=>(by cases h),fun _=>⟨t,rfl,?_⟩⟩;split<;>exact⟨h1,h2,h3,h4,h5,h6⟩
  | false=>exact⟨fun _=>rfl,fun h=>by rw[e1]at h;cases h⟩
def SH {n:Nat}: ∀(os:List Fact) {t:BB} {k:Kn},RB n t (k.BL,k.DS)->GC n os->
    (os.any (fun l=>S4 (Ag l))=true->Jv os t=none)/\(os.any (fun l=>S4 (Ag l))=false-> ∃t',Jv os t=some t'/\RB n t' ((Dq os k).BL,(Dq os k).DS))
 | [],t,k,h,_=>⟨fun h=>(by cases h),fun _=>⟨t,rfl,h⟩⟩
 | l ::r,t,k,h,hc=>by
   obtain⟨s1,s2⟩:=a7 h (hc l (.head _));rw[Qj,Jv];cases hb:S4 (Ag l)with
   | true=>exact⟨fun _=>by rw[s1 hb];rfl,fun h=>(by cases h)⟩
   | false=>
     obtain⟨t',h1,h2⟩:=s2 hb;rw[h1,Bool.false_or,Option.bind_some];exact SH r h2 fun x hx=>hc x (.tail _ hx)
def jv {os:List Fact} {n:Nat} (hc:GC n os):(os.any fun l=>S4 (Ag l))=((Dq os k0).whole||(Dq os k0).BL.testBit 1||(Dq os k0).BL.testBit 2):=by
 rw[Gr,Ek,Ek,Iu,Iu,Kp];simp only[GF,S4,A4,Ek,Bool.not_eq_true',Cy,beq_eq_false_iff_ne,k0,Bool.false_or];constructor
 .rintro⟨l,hl,hb,(h|h)|h⟩
  .exact .inl (.inl ⟨l,hl,hb,h⟩)
  .by_cases ho:(Ag l).1.op=2
   .exact .inl (.inr ⟨l,hl,ho,hb,by rw[h];rfl⟩)
   .exact .inl (.inl ⟨l,hl,hb,ho⟩)
  .by_cases ho:(Ag l).1.op=2
   .exact .inr ⟨l,hl,ho,hb,by rw[h];rfl⟩
   .exact .inl (.inl ⟨l,hl,hb,ho⟩)
 .rintro((⟨l,hl,hb,h⟩|⟨l,hl,ho,hb,h⟩)|⟨l,hl,ho,hb,h⟩)
  .exact⟨l,hl,hb,.inl (.inl h)⟩
  .have:=hc l hl ho
   exact⟨l,hl,hb,.inl (.inr (by omega))⟩
  .have:=hc l hl ho
   exact⟨l,hl,hb,.inr (by omega)⟩
def Yn (w:AG) (Ad can:Int->Bool) (s:Int) (u:Nat×Nat):Option (Nat×Nat):=
 if Ad s&& !can s then none else some (if Ad s then u.1|||2 ^ (B2 w s).toNat else u.1,if can s then u.2 else u.2|||2 ^ (B2 w s).toNat)
def ID (w:AG) (Ad can:Int->Bool):List Int->Nat×Nat->Option (Nat×Nat)
 | [],u=>some u
 | s::r,u=>(Yn w Ad can s u).bind (ID w Ad can r)
def Zk {w:AG} {ls:List Fact} {a:Int} {p:List Int} {can Ad:Int->Bool} (hn: ∀s,Ad s= !EP ls a (p++[s])) {n:Nat} (how: ∀s:Int,0<=s->s<w.owner.length->3<=B2 w s/\B2 w s<n) :
    ∀(sl:List Int) {t:BB} {u:Nat×Nat},(∀s∈sl,0<=s/\s<w.owner.length)->RB n t u->
    (Ju w ls a p can sl t=none/\ID w Ad can sl u=none)\/ ∃t' u',Ju w ls a p can sl t=some t'/\ID w Ad can sl u=some u'/\RB n t' u'
 | [],t,u,_,h=> .inr ⟨t,u,rfl,rfl,h⟩
 | s ::r,t,u,hsl,h=>by
   have hs:=hsl s (.head _);have ho:=how s hs.1 hs.2;rw[Ju,ID,Uu,Yn,hn];obtain⟨h1,h2,h3,h4,h5,h6⟩:=h;split
   .exact .inl ⟨rfl,rfl⟩
   .rw[Option.bind_some,Option.bind_some]
    refine Zk hn how r (fun x hx=>hsl x (.tail _ hx)) ?_;have hb: ∀i,i<3->(i==(B2 w s).toNat)=false:=fun i hi=>by rw[beq_eq_false_iff_ne];omega
    cases EP ls a (p++[s])<;>cases can s<;>refine⟨by simpa using h1,by simpa using h2,fun b=>?_,fun b hb1 hb2=>?_,?_,?_⟩
    all_goals simp only[Bool.not_false,Bool.not_true,Jf,if_true,if_false]
    all_goals first
     | exact h3 b
     | exact h4 b hb1 hb2
     | exact h5
     | exact h6
     | exact OH (by omega) (h3 b)
     | exact OH (by omega) (h4 b hb1 hb2)
     | (rw[EZ,h5,hb 1 (by omega)];rfl)
     | (rw[EZ,h6,hb 2 (by omega)];rfl)
def Gx (m:Nat):Nat:=m - m % 2
def V9 (m b:Nat):(Gx m).testBit b=(m.testBit b&& !(b==0)):=by
 cases b with
 | zero=>
   simp[Gx,Nat.testBit_zero];omega
 | succ b=>
   rw[Nat.testBit_succ,Nat.testBit_succ,Gx,show(m - m % 2) / 2=m / 2 by omega];simp
def r9 {w : AG} (ho:ordered w.parents) {t:BB} {u:Nat×Nat} (h:RB (3+w.parents.length) t u) :
    (dk w t).isSome=(!u.2.testBit 0&&(Gx (DK (B1 w.parents) w.parents.length u.1)&&&u.2==0)):=by
 obtain⟨h1,h2,h3,h4,h5,h6⟩:=h;rw[dk,h4 0 (by decide) (by decide)];cases h0:u.2.testBit 0 with
 | true=>rfl
 | false =>
   rw[if_neg (by decide),Bool.not_false,Ed];have hl:(t.1.set 0 false).length=3+w.parents.length:=by simpa using h1
   have hR:=Yc ho hl;have hP:=QX ho u.1 w.parents.length
   have hS: ∀d,(t.1.set 0 false).getD d false=true↔d≠0/\u.1.testBit d=true:=fun d=>by
    rw[EY (by omega)];split
    .rename_i e;subst e;simp
    .rename_i e;rw[h3];exact⟨fun h=>⟨e,h⟩,fun h=>h.2⟩
   have hlt: ∀b,u.1.testBit b=true->b<3+w.parents.length:=fun b hb=>by
    rw[<-h3]at hb;rcases Nat.lt_or_ge b (3+w.parents.length)with h'|h'
    .exact h'
    .rw[Dh,List.getElem?_eq_none (by omega)]at hb;cases hb
   have h3b: ∀d,d≠0->u.1.testBit d=true->3<=d:=fun d hd hb=>by
    rcases d with _|_|_|d
    .exact absurd rfl hd
    .rw[h5]at hb;cases hb
    .rw[h6]at hb;cases hb
    .omega
   have hM: ∀b,(Gx (DK (B1 w.parents) w.parents.length u.1)).testBit b=true↔(Cc w.parents (3+w.parents.length) w.parents.length (t.1.set 0 false)).getD b false=true:=fun b=>by
    rw[V9,A4,hP b (IN _),hR,Bool.not_eq_true',beq_eq_false_iff_ne];constructor
    .rintro⟨h|⟨d,q1,q2,q3,q4⟩,hb⟩
     .exact⟨b,(hS b).2 ⟨hb,h⟩,FH ho b⟩
     .rcases q4 with e|q4
      .exact absurd e hb
      .exact⟨d,(hS d).2 ⟨by omega,q3⟩,q4⟩
    .rintro⟨d,hd,hu⟩
     obtain⟨hd0,hdu⟩:=(hS d).1 hd;have hd3:=h3b d hd0 hdu;have:=PC ho d b hd3 hu;exact⟨.inr ⟨d,hd3,hlt d hdu,hdu,.inr hu⟩,by omega⟩
   have hany:((List.range (3+w.parents.length)).any fun c=>(Cc w.parents (3+w.parents.length) w.parents.length (t.1.set 0 false)).getD c false&&t.2.getD c false)= !(Gx (DK (B1 w.parents) w.parents.length u.1)&&&u.2==0):=by
    rw[Gr,Bool.not_eq_true',<-Bool.not_eq_true,Ls,GF];constructor
    .rintro⟨c,hc,hx⟩ hall
     rw[A4]at hx;have hm:=(hM c).2 hx.1;obtain⟨d,hd,hu⟩:=(hR c).1 hx.1;obtain⟨hd0,hdu⟩:=(hS d).1 hd;have:=PC ho d c (h3b d hd0 hdu) hu;exact hall c hm (by rw[<-h4 c (by omega) (by omega)];exact hx.2)
    .intro hne
     rcases Classical.em (∃b,(Gx (DK (B1 w.parents) w.parents.length u.1)).testBit b=true/\u.2.testBit b=true)with⟨b,hb1,hb2⟩|hno
     .have hm:=(hM b).1 hb1
      obtain⟨d,hd,hu⟩:=(hR b).1 hm;obtain⟨hd0,hdu⟩:=(hS d).1 hd;have:=PC ho d b (h3b d hd0 hdu) hu;have:=er ho d b hu;have:=hlt d hdu;exact⟨b,List.mem_range.2 (by omega),by rw[hm,h4 b (by omega) (by omega),hb2];rfl⟩
     .exact absurd (fun b h1 h2=>hno ⟨b,h1,h2⟩) hne
   rw[hany];cases(Gx (DK (B1 w.parents) w.parents.length u.1)&&&u.2==0)<;>rfl
def Nx (w:AG) (k:Kn) (Ad can:Int->Bool):Nat×Bool:=
 if k.whole||k.BL.testBit 1||k.BL.testBit 2||k.DS.testBit 0 then(0,false)else
 match ID w Ad can k.AF (k.BL,k.DS)with
 | none=>(0,false)
 | some u=>(Gx (DK (B1 w.parents) w.parents.length u.1),Gx (DK (B1 w.parents) w.parents.length u.1)&&&u.2==0)
def QU {w:AG} {Ad can:Int->Bool} (how: ∀s:Int,0<=s->s<w.owner.length->3<=B2 w s): ∀(sl:List Int) {u u':Nat×Nat},(∀s∈sl,0<=s/\s<w.owner.length)->ID w Ad can sl u=some u'->u'.2.testBit 0=u.2.testBit 0
 | [],u,u',_,h=>by cases h;rfl
 | s ::r,u,u',hsl,h=>by
   have hs:=hsl s (.head _);have ho:=how s hs.1 hs.2;rw[ID,Yn]at h;split at h
   .cases h
   .rw[Option.bind_some]at h
    rw[QU how r (fun x hx=>hsl x (.tail _ hx)) h];simp only;split
    .rfl
    .rw[EZ]
     have:(0==(B2 w s).toNat)=false:=by rw[beq_eq_false_iff_ne];omega
     rw[this,Bool.or_false]
def om {w:AG} {ls:List Fact} {a:Int} {p:List Int} {can Ad:Int->Bool} (ho:ordered w.parents) (how: ∀s:Int,0<=s->s<w.owner.length->3<=B2 w s/\B2 w s<3+w.parents.length) (hc:GC (3+w.parents.length) ls) (hp:Gb w.owner.length ls) (hn: ∀s,Ad s= !EP ls a (p++[s])) :
    (Nx w (kn ls a p) Ad can).2=(UW w ls a p can).isSome:=by
 have hcore:=LK ls a p;have hsl:=Iv hp a p;generalize kn ls a p=k at *;have hc2:GC (3+w.parents.length) (ls.filter (Jk a p)):=fun l hl=>hc l (Kv.1 hl).1
 simp only[C9,Prod.mk.injEq]at hcore;obtain⟨-,-,-,c4,c5,c6⟩:=hcore;rw[Nx,UW,c4,c5,c6,<-jv hc2,hsl]
 have hR0:RB (3+w.parents.length) (tO w) (k0.BL,k0.DS):=by
  refine⟨by simp[tO],by simp[tO],fun b=>?_,fun b _ _=>?_,rfl,rfl⟩<;>
  .simp only[tO,k0,Nat.zero_testBit,Dh,List.getElem?_replicate]
   split<;>rfl
 obtain⟨f1,f2⟩:=SH _ hR0 hc2;cases hbad:(ls.filter (Jk a p)).any fun l=>S4 (Ag l)with
 | true=>rw[f1 hbad];rfl
 | false=>
   obtain⟨t,ht,hR⟩:=f2 hbad;rw[ht,Option.bind_some,Bool.false_or];have hin: ∀s∈CX w.owner.length ls a p,0<=s/\s<(w.owner.length:Int):=fun s hs=>HS hs
   rcases Zk (can:=can) hn (fun s h0 h1=>by have:=how s h0 h1;omega) (CX w.owner.length ls a p) hin hR with⟨e1,e2⟩|⟨t',u',e1,e2,hR'⟩
   .rw[e1,e2]
    split<;>rfl
   .rw[e1,e2,Option.bind_some,r9 ho hR']
    have:=QU (fun s h0 h1=>(how s h0 h1).1) _ hin e2;rw[this];simp only;cases((Dq (ls.filter (Jk a p)) k0).DS.testBit 0)<;>rfl
end Go.Gl
namespace Go.Gl
def GB (no:List Int):Nat->Int->Int
 | 0,n=>n
 | k+1,n=>if no.contains n then GB no k (n+1)else n
def from_ (no:List Int) (n:Int):Nat:=(no.filter fun x=>decide (n<=x)).length
def OT {no:List Int} {n:Int} (h:n∈no):from_ no (n+1)<from_ no n:=by
 induction no with
 | nil=>cases h
 | cons x r ih=>
   simp only[from_,List.filter_cons]at ih ⊢;by_cases hx:x=n
   .subst hx
    have hle:(r.filter fun y=>decide (x+1<=y)).length<=(r.filter fun y=>decide (x<=y)).length:=by
     refine List.Sublist.length_le ?_
     have e:(r.filter fun y=>decide (x+1<=y))=(r.filter fun y=>decide (x<=y)).filter fun y=>decide (x+1<=y):=by
      rw[List.filter_filter];refine List.filter_congr fun y _=>?_
      rw[Gr,A4,CT,CT];omega
     rw[e];exact List.filter_sublist
    rw[if_neg (by simp<;>omega),if_pos (by simp),Kt];omega
   .have h':n∈r:=by
     rcases FR.1 h with e|e
     .exact absurd e.symm hx
     .exact e
    have:=ih h';by_cases h1:n<=x
    .rw[if_pos (by rw[CT];omega),if_pos (by rw[CT];omega),Kt,Kt]
     omega
    .rw[if_neg (by rw[CT];omega),if_neg (by rw[CT];omega)]
     omega
def Tw (no:List Int) (n:Int):from_ no n<=no.length:=W9 _ _
def Lz {no:List Int}: ∀(k:Nat) (n:Int),from_ no n<=k->n<=GB no k n/\GB no k n∉no/\ ∀j,n<=j->j<GB no k n->j∈no
 | 0,n,h=>by
   refine⟨Int.le_refl _,fun hm=>?_,fun j h1 h2=>by simp only[GB]at h2;omega⟩;have:=OT hm;simp only[GB]at this;omega
 | k + 1,n,h=>by
   rw[GB];split
   .rename_i hc
    rw[List.contains_iff_mem]at hc;have hlt:=OT hc;obtain⟨h1,h2,h3⟩:=Lz (no:=no) k (n+1) (by omega);refine⟨by omega,h2,fun j hj1 hj2=>?_⟩;by_cases e:j=n
    .subst e;exact hc
    .exact h3 j (by omega) hj2
   .rename_i hc
    exact⟨Int.le_refl _,fun hm=>hc (List.contains_iff_mem.2 hm),fun j h1 h2=>by omega⟩
def gR {no:List Int} {k:Nat} {n:Int} (h:n∈no):GB no (k+1) n=GB no k (n+1):=by rw[GB,if_pos (List.contains_iff_mem.2 h)]
def Z4 {no:List Int} {k:Nat} {n:Int} (h:n∉no):GB no k n=n:=by
 cases k with
 | zero=>rfl
 | succ k=>rw[GB,if_neg (fun hc=>h (List.contains_iff_mem.1 hc))]
def OZ {no:List Int} {k k':Nat} {n:Int} (h:from_ no n<=k) (h':from_ no n<=k'):GB no k n=GB no k' n:=by
 obtain⟨a1,a2,a3⟩:=Lz k n h;obtain⟨b1,b2,b3⟩:=Lz k' n h';rcases Int.lt_trichotomy (GB no k n) (GB no k' n)with hl|he|hg
 .exact absurd (b3 _ a1 hl) a2
 .exact he
 .exact absurd (a3 _ b1 hg) b2
def D2 (k:Kn):Int:=GB k.no k.no.length k.low
def G7 (kf:Int->List Int->Kn) (a:Int) (p:List Int):Bool:=(kf a p).AF.all fun s=> !(kf a (p++[s])).Ad
def Dx (kf:Int->List Int->Kn) (a:Int) (p:List Int) (c:Nat):Bool:=Gs (kf a p).BL (1|||2 ^ c)&&((kf a p).DS&&&(1|||2 ^ c)==0&&G7 kf a p)
def Gv (kf:Int->List Int->Kn) (a:Int) (p:List Int):Bool:=decide (D2 (kf a p)<=(kf a p).high)&&Dx kf a p 1
def EA (kf:Int->List Int->Kn) (a:Int) (p:List Int):Bool:= !(kf a p).whole&&Dx kf a p 2
def N2 (w:AG) (kf:Int->List Int->Kn) (a:Int):Nat->List Int->Bool
 | 0,p=>Gv kf a p||(EA kf a p||(Nx w (kf a p) (fun s=>(kf a (p++[s])).Ad) (fun _=>false)).2)
 | d+1,p=>Gv kf a p||(EA kf a p||(Nx w (kf a p) (fun s=>(kf a (p++[s])).Ad) (fun s=>N2 w kf a d (p++[s]))).2)
def dV (w:AG) (kf:Int->List Int->Kn):Bool:=(BT 3).all fun a=>N2 w kf a 2 []
def Zo {n:Nat} {ls:List Fact} (h:Gb n ls) (a:Int) (p:List Int):G7 (kn ls) a p=GI n ls a p:=by
 rw[G7,GI,Iv h];congr 1;funext s;rw[JR,Bool.not_not]
def Xe {n m:Nat} {ls:List Fact} (hn:n<=64) (hc:GC n ls) (h:Gb m ls) (a:Int) (p:List Int):Gv (kn ls) a p=((Ny ls a p).isSome&&GI m ls a p):=by
 have hcore:=LK ls a p;have hc2:GC n (ls.filter (Jk a p)):=fun l hl=>hc l (Kv.1 hl).1
 simp only[C9,Prod.mk.injEq]at hcore;obtain⟨c1,c2,c3,c4,c5,-⟩:=hcore;rw[Gv,Dx,Zo h,c4,c5,<-Bool.and_assoc (Gs _ _),bT hn hc2,<-Bool.and_assoc];congr 1;have hf:=SI (ls.filter (Jk a p)) k0;rw[Ny,show t0=(k0.low,k0.high,k0.no) from rfl,hf,D2,c2,c3,c1];obtain⟨h1,h2,h3⟩:=Lz (no:=(Dq (ls.filter (Jk a p)) k0).no) _ (Dq (ls.filter (Jk a p)) k0).low (Tw _ _);have hs:=iC (high:=(Dq (ls.filter (Jk a p)) k0).high) h1 h2 h3;cases(ls.filter (Jk a p)).all fun l=>pZ (Ag l)with
 | false=>simp
 | true=>rw[if_pos rfl,Option.bind_some,hs,Bool.and_true]
def Ti {n m:Nat} {ls:List Fact} (hn:n<=64) (hc:GC n ls) (h:Gb m ls) (a:Int) (p:List Int):EA (kn ls) a p=Ic m ls a p:=by
 have hcore:=LK ls a p;have hc2:GC n (ls.filter (Jk a p)):=fun l hl=>hc l (Kv.1 hl).1
 simp only[C9,Prod.mk.injEq]at hcore;obtain⟨-,-,-,c4,c5,c6⟩:=hcore;rw[EA,Dx,Zo h,c4,c5,c6,Ic,<-X8 hn hc2];simp only[Bool.and_assoc]
def gI {w:AG} {ls:List Fact} (ho:ordered w.parents) (how: ∀s:Int,0<=s->s<w.owner.length->3<=B2 w s/\B2 w s<3+w.parents.length) (hn:3+w.parents.length<=64) (hc:GC (3+w.parents.length) ls) (hp:Gb w.owner.length ls) (a:Int): ∀(d:Nat) (p:List Int),N2 w (kn ls) a d p=S3 w ls a d p
 | 0,p=>by
   rw[N2,S3,Xe hn hc hp,Ti hn hc hp,om ho how hc hp fun s=>JR ls a (p++[s])]
 | d+1,p=>by
   rw[N2,S3,Xe hn hc hp,Ti hn hc hp,om ho how hc hp fun s=>JR ls a (p++[s])];have e:(fun s=>N2 w (kn ls) a d (p++[s]))=fun s=>S3 w ls a d (p++[s]):=funext fun s=>gI ho how hn hc hp a d (p++[s])
   rw[e]
def qW {w:AG} {ls:List Fact} (ho:ordered w.parents) (how: ∀s:Int,0<=s->s<w.owner.length->3<=B2 w s/\B2 w s<3+w.parents.length) (hn:3+w.parents.length<=64) (hc:GC (3+w.parents.length) ls) (hp:Gb w.owner.length ls):dV w (kn ls)=Ji w ls:=by
 rw[dV,Ji];congr 1;funext a;exact gI ho how hn hc hp a 2 []
end Go.Gl
namespace Go.Gl
open Go.Proofs
attribute [local irreducible] Ao Ai AY AO AJ AX AN AP AI AW AK AL Ak Au Sat AT Ar Aa W
section
variable {S:Type} (g:FuncId) (fi ca:List V) (H:S->List At) (f:Int->Bool) (J:S->Prop) (D:Int->Prop)
def RC {v:V} {xs:List Int} (hst:NV zP (.f (.func g) fi ca) eI (fun s=> .own v 1 (iL xs)::H s) f J D) (hD: ∀x∈xs,D x) (hxl:xs.length<=As) (s0:S) (hj0:J s0) :
    BK zP 114 [v,.f (.func g) fi ca] (.own v 1 (iL xs)::H s0) fun r post=>r= .ret (eI (NS f xs 0))/\ ∃s',J s'/\post= .own v 1 (iL xs)::H s':=by
 intro Z hs;have hM:=Mx;refine gE kZ ?_;refine zz ?_;(repeat clear U K);repeat intro K U
 refine Du xs.length (fun k (_:S)=>[(8,eI (Bj k))]) (fun _ s=> .own v 1 (iL xs)::H s) (fun k s=>J s/\NS f xs 0=NS f (xs.drop k) k) s0 rfl ⟨hj0,rfl⟩ hs ?_;clear hs hj0;rintro k s Z hk ⟨hj,hn⟩ hs;have hck:Bj k=k:=Av (by omega);rcases BJ xs hk with⟨y,hy,hlt⟩|hke
 .rw[drop_cons hy]at hn
  have hDy:=hD y (Dn hy);rw[NS]at hn
  conv=>whnf
  repeat'((first|clear U K|apply st|(apply zk;intro K U)|refine zY ?_|refine ze fun x hx=>?_|fail)<;>conv=>whnf)
  obtain rfl:x=y:=by rw[hck,Hc,hy]at hx;exact(Option.some.inj hx).symm
  refine hst.use hDy hj hs ?_;clear hs hj;intro s Z hj hs;cases hyes:f x
  .rw[hyes,if_neg (by decide)]at hn
   refine zz ?_;(repeat clear U K);repeat intro K U
   exact⟨hlt,_,rfl,⟨hj,hn⟩,hs⟩
  .rw[hyes,if_pos rfl]at hn
   refine zz ?_;(repeat clear U K);repeat intro K U
   rw[hn];exact AH ⟨_,⟨by rw[hck],s,hj,rfl⟩,hs⟩
 .rw[BS hke,NS]at hn
  refine zz ?_;(repeat clear U K);repeat intro K U
  rw[hn];exact AH ⟨_,⟨rfl,s,hj,rfl⟩,hs⟩
def OB {v:V} {xs:List Int} (hst:NV zP (.f (.func g) fi ca) eI (fun s=> .own v 1 (iL xs)::H s) f J D) (hD: ∀x∈xs,D x) (hxl:xs.length<=As) (s0:S) (hj0:J s0) :
    BK zP 66 [v,.f (.func g) fi ca] (.own v 1 (iL xs)::H s0) fun r post=>r= .ret (.b (xs.any f))/\ ∃s',J s'/\post= .own v 1 (iL xs)::H s':=by
 intro Z hs;refine o8 kZ ?_
 conv=>whnf
 repeat'((first|clear U K|apply st|(apply zk;intro K U)|fail)<;>conv=>whnf)
 refine(RC g fi ca H f J D hst hD hxl s0 hj0).use (rest:=[]) (by simpa using hs) ?_;rintro r post Z ⟨rfl,s',hj,rfl⟩ hs;refine zz ?_;(repeat clear U K);repeat intro K U
 exact AH ⟨_,⟨by rw[<-V3 f xs 0],s',hj,rfl⟩,by simpa using hs⟩
def mJ {v:V} {xs:List Int} (hst:NV zP (.f (.func g) fi ca) eI (fun s=> .own v 1 (iL xs)::H s) f J D):NV zP (.f (.func 227) [] [.rp [.f (.func g) fi ca]]) eI (fun s=> .own v 1 (iL xs)::H s) (fun y=> !f y) J D:=by
 intro y s hd hj Z hs;refine Ay ?_;show Ao zP 227 ([]++[eI y]++[.rp [.f (.func g) fi ca]]) Z _;refine fq kZ ?_;refine zz ?_;(repeat clear U K);repeat intro K U
 refine hst.use hd hj hs ?_;clear hs;intro s' Z hj' hs;refine zz ?_;(repeat clear U K);repeat intro K U
 exact AH ⟨rfl,s',hj',hs⟩
def Z3 {v:V} {xs:List Int} (hst:NV zP (.f (.func g) fi ca) eI (fun s=> .own v 1 (iL xs)::H s) f J D) (hD: ∀x∈xs,D x) (hxl:xs.length<=As) (s0:S) (hj0:J s0) :
    BK zP 180 [v,.f (.func g) fi ca] (.own v 1 (iL xs)::H s0) fun r post=>r= .ret (.b (xs.all f))/\ ∃s',J s'/\post= .own v 1 (iL xs)::H s':=by
 intro Z hs;refine fw kZ ?_
 conv=>whnf
 repeat'((first|clear U K|apply st|(apply zk;intro K U)|fail)<;>conv=>whnf)
 refine(OB 227 [] [.rp [.f (.func g) fi ca]] H _ J D (mJ g fi ca H f J D hst) hD hxl s0 hj0).use (rest:=[]) (by simpa using hs) ?_;rintro r post Z ⟨rfl,s',hj,rfl⟩ hs;refine zz ?_;(repeat clear U K);repeat intro K U
 refine AH ⟨_,⟨?_,s',hj,rfl⟩,by simpa using hs⟩;rw[List.all_eq_not_any_not]
end
abbrev IQ (l:Fact):List V:=xF (Ag l).1++[.b (Ag l).2]
abbrev DU (ls:List Fact):List (List V):=ls.map IQ
def lT (xs ys:List Int) (f g:Bool):Pure zP 45 [.l (iL xs) f,.l (iL ys) g] (.b (xs==ys)):=by
 refine Pure.fit (by kernel_rfl) fun hf=>?_
 have hx:=eR hf.1;have hy:=eR hf.2.1;have hM:=Mx;refine xS kZ ?_;have hs:=Sn
 conv=>whnf
 repeat'((first|clear U K|apply st|(apply zk;intro K U)|refine zY ?_|(refine zd (fun hc=>?_) (fun hc=>?_)<;>try exact⟨⟩)|fail)<;>conv=>whnf)
 .exact AS (by(have:(xs==ys)=false:=by(simp;intro e;subst e;simp at hc));rw[this])
 have hl:xs.length=ys.length:=by omega
 refine Du xs.length (fun k (_:Unit)=>[(13,eI (Bj k))]) (fun _ _=>[]) (fun k _=>(xs==ys)=(xs.drop k==ys.drop k)) () rfl rfl Sat.nil ?_;clear hs;rintro k - Z hk hn hs;rcases BJ xs hk with⟨x,hxk,hlt⟩|hke
 .obtain⟨y,hyk⟩: ∃y,ys[k]? =some y:=⟨_,Di (by omega)⟩
  rw[drop_cons hxk,drop_cons hyk]at hn
  conv=>whnf
  repeat'((first|clear U K|apply st|(apply zk;intro K U)|refine zY ?_|refine za (fun hc=>?_) fun hc=>?_|fail)<;>conv=>whnf)
  .exact AS (by rw[hn];simp[*])
  .exact⟨hlt,(),rfl,by rw[hn];simp[*],hs⟩
 .refine zz ?_;(repeat clear U K);repeat intro K U
  exact AS (by rw[hn,BS hke,BS (by omega)];rfl)
def mZ (a b:Bool) (u:V):Pure zP 235 [.l [] a,.l [] b,u] (.b true):=by
 refine tF kZ ?_;have hs:=Sn;have hM:=Mx
 conv=>whnf
 repeat'((first|clear U K|apply st|(apply zk;intro K U)|refine zY ?_|(refine zb (fun hc=>?_) (fun hc=>?_)<;>try exact⟨⟩)|fail)<;>conv=>whnf)
 refine Du 0 (fun k (_:Unit)=>[(17,eI (Bj k))]) (fun _ _=>[]) (fun _ _=>True) () rfl trivial Sat.nil ?_;clear hs;rintro k - Z hk - hs;obtain rfl:k=0:=by omega
 conv=>whnf
 repeat'((first|clear U K|apply st|(apply zk;intro K U)|refine zY ?_|(refine zd (fun hc=>?_) (fun hc=>?_)<;>try exact⟨⟩)|fail)<;>conv=>whnf)
 .exfalso
  simp at hc
 .exact AS rfl
def lU (f g:Fact) (hf:f.kids= []) (hg:g.kids= []):Pure zP 188 [.a (xF f),.a (xF g)] (.b (G2 f g)):=by
 have e:G2 f g=(f.op==g.op&&(f.arg==g.arg&&(f.cls==g.cls&&(f.n==g.n&&f.path==g.path)))):=by
  rw[VZ,hf,hg];simp[XT]
 obtain⟨o,a,p,c,n,k⟩:=f;obtain⟨o',a',p',c',n',k'⟩:=g;simp only[Fact.kids]at hf hg;subst hf;subst hg;refine ta kZ ?_;have hs:=Sn;rw[e]
 conv=>whnf
 repeat'((first|clear U K|apply st|(apply zk;intro K U)|refine zY ?_|refine Pure.use (lT _ _ _ _) ?_|refine Pure.use (mZ _ _ _) ?_|refine za (fun hc=>?_) fun hc=>?_|fail)<;>conv=>whnf)
 all_goals simp only[Fact.op,Fact.arg,Fact.cls,Fact.n,Fact.path]at *
 all_goals exact AS (by simp[*])
def TH:Ei IQ 7:=fun l=>by
 refine⟨rfl,fun v hv=>?_⟩;rcases Dm.1 hv with hv|hv
 .exact(PI (Ag l).1).2 v (by show v∈FX (Ag l).1;rw[Bq];exact hv)
 .simp at hv;subst hv;rfl
def RJ (x y:Fact):Bool:=(Ag x).2==(Ag y).2&&G2 (Ag x).1 (Ag y).1
abbrev Ys (l:Fact):Prop:=(Ag l).1.kids= []
abbrev pt (f:Fact->Bool):Fact->Unit->Bool×Unit:=fun y _=>(f y,())
def lV (x:Fact) (hx1:Ys x) (n:Nat):Cr zP (.f (.func 187) [] [.p n 0]) (fun y=> .a (IQ y)) (fun _:Unit=>[.box n (IQ x)]) (pt (RJ x)) (fun y _=>Ys y):=by
 intro y s hy1 Z hs;refine Ay ?_;show Ao zP 187 ([]++[.a (IQ y)]++[.p n 0]) Z _;refine tb kZ ?_;unfold RJ
 conv=>whnf
 repeat'((first|clear U K|apply st|(apply zk;intro K U)|refine zY ?_|refine Pure.use (lU _ _ hx1 hy1) ?_|refine za (fun hc=>?_) fun hc=>?_|fail)<;>conv=>whnf)
 all_goals exact AH ⟨by simp[pt, *],hs⟩
section
variable {S:Type} (g:FuncId) (fi ca:List V) (H:S->List At)
def RA (stp:Fact->S->Bool×S) (D:Fact->S->Prop) {v:V} {xs:List Fact} (hst:Cr zP (.f (.func g) fi ca) (fun y=> .a (IQ y)) (fun s=> .own v 7 (DU xs)::H s) stp D) (hxl:xs.length<=As) (s0:S) (hd:XA stp D xs s0) :
    BK zP 234 [v,.f (.func g) fi ca] (.own v 7 (DU xs)::H s0) fun r post=>r= .ret (eI (Bd stp xs 0 s0).1)/\post= .own v 7 (DU xs)::H (Bd stp xs 0 s0).2:=by
 intro Z hs;have hM:=Mx;refine tG kZ ?_;refine zz ?_;(repeat clear U K);repeat intro K U
 refine Du xs.length (fun k (_:S)=>[(8,eI (Bj k))]) (fun _ s=> .own v 7 (DU xs)::H s) (fun k s=>XA stp D (xs.drop k) s/\Bd stp xs 0 s0=Bd stp (xs.drop k) k s) s0 rfl ⟨hd,rfl⟩ hs ?_;clear hs;rintro k s Z hk ⟨hd,hn⟩ hs;have hck:Bj k=k:=Av (by omega);rcases BJ xs hk with⟨y,hy,hlt⟩|hke
 .rw[drop_cons hy]at hn hd
  obtain⟨hd1,hd2⟩:=hd;rw[Bd]at hn
  conv=>whnf
  repeat'((first|clear U K|apply st|(apply zk;intro K U)|refine zY ?_|refine ze fun x hx=>?_|fail)<;>conv=>whnf)
  obtain rfl:x=y:=by rw[hck,Hc,hy]at hx;exact(Option.some.inj hx).symm
  refine hst.use hd1 hs ?_;clear hs;intro Z hs;cases hyes:(stp x s).1
  .rw[hyes,if_neg (by decide)]at hn
   refine zz ?_;(repeat clear U K);repeat intro K U
   exact⟨hlt,_,rfl,⟨hd2,hn⟩,hs⟩
  .rw[hyes,if_pos rfl]at hn
   refine zz ?_;(repeat clear U K);repeat intro K U
   rw[hn];exact AH ⟨_,⟨by rw[hck],rfl⟩,hs⟩
 .rw[BS hke,Bd]at hn
  refine zz ?_;(repeat clear U K);repeat intro K U
  rw[hn];exact AH ⟨_,⟨rfl,rfl⟩,hs⟩
def NI (stp:Fact->S->Bool×S) (D:Fact->S->Prop) {v:V} {xs:List Fact} (hst:Cr zP (.f (.func g) fi ca) (fun y=> .a (IQ y)) (fun s=> .own v 7 (DU xs)::H s) stp D) (hxl:xs.length<=As) (s0:S) (hd:XA stp D xs s0) :
    BK zP 186 [v,.f (.func g) fi ca] (.own v 7 (DU xs)::H s0) fun r post=>r= .ret (.b (decide ((Bd stp xs 0 s0).1≥0)))/\post= .own v 7 (DU xs)::H (Bd stp xs 0 s0).2:=by
 intro Z hs;refine tc kZ ?_
 conv=>whnf
 repeat'((first|clear U K|apply st|(apply zk;intro K U)|fail)<;>conv=>whnf)
 refine(RA g fi ca H stp D hst hxl s0 hd).use (rest:=[]) (by simpa using hs) ?_;rintro r post Z ⟨rfl,rfl⟩ hs;refine zz ?_;(repeat clear U K);repeat intro K U
 exact AH ⟨_,⟨rfl,rfl⟩,by simpa using hs⟩
end
def jf (a:List Fact) (f:Bool) (hl:a.length<=1000000):BK zP 185 [.l (DU a) f] [] fun r post=> ∃v,r= .ret v/\post= [.own v 7 (DU a)]:=by
 intro Z hs;have hM:=Mx;refine td kZ ?_
 conv=>whnf
 repeat'((first|clear U K|apply st|(apply zk;intro K U)|fail)<;>conv=>whnf)
 refine⟨fun e t=>?_,fun _=>?_⟩
 .have hxe:a= []:=List.map_eq_nil_iff.1 e
  subst hxe
  conv=>whnf
  repeat'((first|clear U K|apply st|(apply zk;intro K U)|refine za (fun hc=>?_) fun hc=>?_|fail)<;>conv=>whnf)
  .exact AH ⟨_,⟨_,rfl,rfl⟩,DN hs 7⟩
  .replace hs:=DN hs 7
   refine O5 hs 0 (xs:=[]) (ys:=[]) rfl (by simp) TH fun v Z hs=>?_
   refine zz ?_;(repeat clear U K);repeat intro K U
   exact AH ⟨_,⟨_,rfl,rfl⟩,hs⟩
 .refine zz ?_;(repeat clear U K);repeat intro K U
  replace hs:=DN hs 7;refine O5 hs 0 (xs:=[]) (ys:=a) rfl (by simp;omega) TH fun v Z hs=>?_
  refine zz ?_;(repeat clear U K);repeat intro K U
  exact AH ⟨_,⟨_,rfl,rfl⟩,hs⟩
def VV {w:AG} {x:Fact} (h:C6 w x):x=if(Ag x).2 then EL (Ag x).1 else(Ag x).1:=by
 obtain⟨g,hn,hl,rfl|rfl⟩:=h
 .have:=E3 hl
  have h5: ¬x.op=5:=by omega
  simp only[Ag,if_neg h5];rfl
 .rfl
def ZB {w:AG} {x y:Fact} (hx1:C6 w x) (hy1:C6 w y):RJ x y=G2 x y:=by
 rw[Gr,Mv];simp only[RJ,A4,Cy,Mv];constructor
 .rintro⟨h1,h2⟩
  rw[VV hx1,VV hy1,h1,h2]
 .rintro rfl
  exact⟨rfl,rfl⟩
def R2 {w:AG} {x:Fact} (h:C6 w x):Ys x:=by
 obtain⟨-,hn,hl⟩:=HH h;have hlo:=E3 hl;have har:=Bs _ hn;rw[Lu,A4,Cy]at har
 have h0:Cv (Ag x).1.op=0:=by
  have h5: ¬(Ag x).1.op=5:=by omega
  have h6: ¬((Ag x).1.op=6\/(Ag x).1.op=7):=by omega
  simp[Cv,h5,h6]
  try omega
 rw[h0]at har;exact W7.1 har.1
def bo {w:AG} (a b:List Fact) (f g:Bool) (hla: ∀x∈a,C6 w x) (hlb: ∀x∈b,C6 w x) (hl:a.length+b.length<1000000):Pure zP 125 [.l (DU a) f,.l (DU b) g] (.l (DU (Cb a b)) false):=by
 have hM:=Mx;refine Pure.of ?_;refine uG kZ ?_;have hs:=Sn
 conv=>whnf
 repeat'((first|clear U K|apply st|(apply zk;intro K U)|fail)<;>conv=>whnf)
 refine(jf a f (by omega)).use (rest:=[]) (by simpa using hs) ?_;clear hs;rintro r post Z ⟨v,rfl,rfl⟩ hs;refine zz ?_;(repeat clear U K);repeat intro K U
 refine Du b.length (fun k v=>[(5,v),(12,eI (Bj k))]) (fun k v=>[.own v 7 (DU (Cb a (b.take k)))]) (fun _ _=>True) v rfl trivial hs ?_;clear hs;rintro k v Z hk - hs;have hml:=R9 a (b.take k);rw[NK]at hml;rcases BJ b hk with⟨x,hxk,hlt⟩|hke
 .have hsn:=YG a (b.take k) x
  rw[<-An hxk]at hsn;have hxg:=hlb x (Dn hxk)
  have hmem: ∀y∈Cb a (b.take k),C6 w y:=fun y hy=>by
   rcases R8 _ _ _ hy with h|h
   .exact hla y h
   .exact hlb y (List.mem_of_mem_take h)
  generalize Cb a (b.take k)=m at *
  have hany:m.any (RJ x)=m.any (G2 x):=by
   rw[Gr,GF,GF];exact⟨fun⟨y,hy,h⟩=>⟨y,hy,by rw[<-ZB hxg (hmem y hy)];exact h⟩,fun⟨y,hy,h⟩=>⟨y,hy,by rw[ZB hxg (hmem y hy)];exact h⟩⟩
  conv=>whnf
  repeat'((first|clear U K|apply st|(apply zk;intro K U)|refine zY ?_|refine zs fun Z hs=>?_|refine zo fun nn hnn Z hs=>?_|fail)<;>conv=>whnf)
  generalize nn=n7 at *;have hs2:Sat Z [.own v 7 (DU m),.box n7 (IQ x)]:=hs.perm (.swap _ _ _);clear hs hnn;refine(NI 187 [] [.p n7 0] (fun _:Unit=>[.box n7 (IQ x)]) (pt (RJ x)) (fun y _=>Ys y) ((lV x (R2 hxg) n7).more [_]) (by omega) () (Gc fun y hy _=>R2 (hmem y hy))).use (rest:=[]) hs2 ?_;clear hs2;rintro r post Z ⟨rfl,rfl⟩ hs;rw[Lr,hany];cases hy:m.any (G2 x)
  .rw[hy,if_neg Bool.false_ne_true]at hsn
   refine zz ?_;(repeat clear U K);repeat intro K U
   refine H2 (Yu (x:=x) (xs:=m) (enc:=IQ) hs 0 rfl (by omega) TH fun v Z hs hsl=>?_);refine zz ?_;(repeat clear U K);repeat intro K U
   exact⟨hlt,v,rfl,trivial,by rw[hsn];exact hs.less (.cons₂ _ (RF _))⟩
  .rw[hy,if_pos rfl]at hsn
   refine zz ?_;(repeat clear U K);repeat intro K U
   exact⟨hlt,v,rfl,trivial,by rw[hsn];exact hs.less (.cons₂ _ (RF _))⟩
 .refine zz ?_;(repeat clear U K);repeat intro K U
  exact dA (P0 hs 0 rfl (vf:= .l (DU (Cb a b)) false) (by rw[CE hke])) fun r Z h=>h.1
end Go.Gl
