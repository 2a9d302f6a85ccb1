import Derived.Test.YtegbmnmnaijioaaGreatProg
import Derived.KernelRfl
import Derived.Test.YtegbmnmnaijioaaGreatL6
import Derived.Test.YtegbmnmnaijioaaGreatL9
set_option linter.all false
set_option linter.defProp false
noncomputable section
namespace Go.Gl
def Uo (g:List (List Int)) (k:Nat): ∀(m d:Nat),d<3+k->(Bj g (k+m)).getD d 0=(Bj g k).getD d 0
 | 0,d,_=>rfl
 | m+1,d,h=>by
   rw[show k+(m+1)=k+m+1 from rfl,Bj,<-Uo g k m d h];rw[Ds,jO (by rw[DJ];omega),<-Ds]
def Uq (us:List Nat) (b:Nat): ∀(l:List Int) (s:Nat),(R6 us l s).testBit b=(s.testBit b||l.any fun c=>(us.getD c.toNat 0).testBit b)
 | [],s=>by simp[R6]
 | c::r,s=>by
   have:=Uq us b r (s|||us.getD c.toNat 0);rw[QB,<-Bool.or_assoc,<-Nat.testBit_or,<-this];rfl
def fb {α:Type} (f:α->Bool) (b:Bool): ∀(l:List α),(b||l.any fun x=>b||f x)=(b||l.any f)
 | []=>rfl
 | x::r=>by
   have:=fb f b r;simp only[QB];cases b
   .simpa using this
   .rfl
def any_congr {α:Type} {f g:α->Bool}: ∀ {l:List α},(∀x∈l,f x=g x)->l.any f=l.any g
 | [],_=>rfl
 | x::r,h=>by
   rw[QB,QB,h x (.head _),any_congr fun y hy=>h y (.tail _ hy)]
def Su {g:List (List Int)} (ho:ordered g): ∀(k d b:Nat),k<=g.length->d<3+k->((Bj g k).getD d 0).testBit b=(b==0||GI g d b)
 | 0,d,b,_,hd=>by
   have e:(Bj g 0).getD d 0=1|||2 ^ d:=by
    rcases d with _|_|_|d
    .rfl
    .rfl
    .rfl
    .omega
   rw[e,Sl,D4 ho,par,if_pos (by omega),List.any_nil,Bool.or_false];rw[Hf];simp only[EJ,Cr];omega
 | k + 1,d,b,hk,hd=>by
   by_cases hlt:d<3+k
   .rw[Uo g k 1 d hlt]
    exact Su ho k d b (by omega) hlt
   .obtain rfl:d=3+k:=by omega
    have e:(Bj g (k+1)).getD (3+k) 0=R6 (Bj g k) (g.getD k []) (1|||2 ^ (3+k)):=by
     rw[Bj,Ds,List.getElem?_append_right (by rw[DJ];omega),DJ,Nat.sub_self];rfl
    have hpar:par g (3+k)=g.getD k []:=by rw[par,if_neg (by omega),show 3+k - 3=k by omega]
    rw[e,Uq,Sl,D4 ho,hpar]
    have hc:((g.getD k []).any fun c=>((Bj g k).getD c.toNat 0).testBit b)=(g.getD k []).any fun p=>(b==0)||GI g p.toNat b:=any_congr fun p hp=>by
     have:=ho (3+k) p (by rw[hpar];exact hp);exact Su ho k p.toNat b (by omega) (by omega)
    rw[hc];have e2:(b==3+k)=(3+k==b):=by rw[Hf];simp only[Cr];omega
    rw[e2,Bool.or_assoc,Bool.or_left_comm,fb,Bool.or_left_comm]
def Up {g:List (List Int)} (ho:ordered g) {d b:Nat} (hd:d<3+g.length):((BQ g).getD d 0).testBit b=(b==0||GI g d b):=Su ho g.length d b (IN _) hd
def J0 {g:List (List Int)} (ho:ordered g): ∀(d b:Nat),3<=d->GI g d b=true->3<=b:=by
 intro d
 induction d using Nat.strongRecOn with
 | _ d ih=>
   intro b h3 h;rw[D4 ho]at h;simp only[EJ,Cr,He]at h;rcases h with rfl|⟨p,hp,h⟩
   .exact h3
   .have:=ho d p hp
    exact ih p.toNat (by omega) b (by omega) h
def Bi (us:List Nat):Nat->Nat->Nat
 | 0,m=>m
 | k+1,m=>if(Bi us k m).testBit (3+k)then Bi us k m|||us.getD (3+k) 0 else Bi us k m
def KV {g : List (List Int)} (ho:ordered g) (m:Nat): ∀(k b:Nat),k<=g.length->((Bi (BQ g) k m).testBit b=true↔m.testBit b=true\/ ∃d,3<=d/\d<3+k/\m.testBit d=true/\(b=0\/GI g d b=true))
 | 0,b,_=>by
   rw[Bi];exact⟨.inl,fun h=>h.elim id fun⟨d,h1,h2,_⟩=>by omega⟩
 | k + 1, b, hk=>by
   have ih:=KV ho m k;rw[Bi];split
   .rename_i hc
    rw[Nat.testBit_or,EJ,ih b (by omega),Up ho (by omega),EJ,Cr];rw[ih _ (by omega)]at hc;constructor
    .rintro((h|⟨d,h1,h2,h3,h4⟩)|h)
     .exact .inl h
     .exact .inr ⟨d,h1,by omega,h3,h4⟩
     .rcases hc with hc|⟨d,h1,h2,h3,h4⟩
      .exact .inr ⟨3+k,by omega,by omega,hc,h⟩
      .refine .inr ⟨d,h1,by omega,h3,?_⟩
       rcases h with h|h
       .exact .inl h
       .rcases h4 with h4|h4
        .omega
        .exact .inr (HR ho _ _ _ h4 h)
    .rintro(h|⟨d,h1,h2,h3,h4⟩)
     .exact .inl (.inl h)
     .by_cases e:d=3+k
      .subst e;exact .inr h4
      .exact .inl (.inr ⟨d,h1,by omega,h3,h4⟩)
   .rename_i hc
    rw[ih b (by omega)];constructor
    .rintro(h|⟨d,h1,h2,h3,h4⟩)
     .exact .inl h
     .exact .inr ⟨d,h1,by omega,h3,h4⟩
    .rintro(h|⟨d,h1,h2,h3,h4⟩)
     .exact .inl h
     .by_cases e:d=3+k
      .subst e;exact absurd ((ih _ (by omega)).2 (.inl h3)) hc
      .exact .inr ⟨d,h1,by omega,h3,h4⟩
def Js: ∀(l:List Int) (bs:List Bool),(∀q∈l,0<=q/\q.toNat<bs.length)-> ∀b:Nat,(l.foldl (fun b q=>b.set q.toNat true) bs).getD b false=(bs.getD b false||l.contains (b:Int))
 | [],bs,_,b=>by simp
 | q ::r,bs,h,b=>by
   have hq:=h q (.head _);rw[List.foldl_cons,Js r _ (fun x hx=>by rw[List.length_set];exact h x (.tail _ hx)),Ek hq.2,List.contains_cons];split
   .rename_i e
    subst e;have:((q.toNat:Int)==q)=true:=by rw[Cr];omega
    rw[this];simp
   .rename_i e
    have:((b:Int)==q)=false:=by rw[beq_eq_false_iff_ne];omega
    rw[this,Bool.false_or]
def Gw {g:List (List Int)} (ho:ordered g) {c:Nat} {bs:List Bool} (hc:c<=bs.length) (b:Nat):(JR g c bs).getD b false=(bs.getD b false||(bs.getD c false&&(par g c).contains (b:Int))):=by
 rw[JR];split
 .rename_i h
  rw[Js _ _ (fun q hq=>by have:=ho c q hq;omega),h,D2]
 .rename_i h
  have:bs.getD c false=false:=by simpa using h
  rw[this,Bool.false_and,Bool.or_false]
def Fp {g:List (List Int)} (ho:ordered g) {n:Nat} {S:List Bool} (hl:S.length=n): ∀(k b:Nat),(Ch g n k S).getD b false=true-> ∃d,S.getD d false=true/\GI g d b=true
 | 0,b,h=>⟨b,h,Dy ho b⟩
 | k + 1,b,h=>by
   rw[Ch,Gw ho (by rw[E3];omega),EJ,A8]at h;rcases h with h|⟨h1,h2⟩
   .exact Fp ho hl k b h
   .obtain⟨d,h3,h4⟩:=Fp ho hl k _ h1
    refine⟨d,h3,HR ho _ _ _ h4 ?_⟩;rw[D4 ho,EJ,He];rw[List.contains_iff_mem]at h2;exact .inr ⟨_,h2,by rw[Hd];exact Dy ho b⟩
def WS {g:List (List Int)} (ho:ordered g) {n:Nat} {S:List Bool} (hl:S.length=n) (k b:Nat) (h:(Ch g n k S).getD b false=true):(Ch g n (k+1) S).getD b false=true:=by
 rw[Ch,Gw ho (by rw[E3];omega),h];rfl
def Iw {g:List (List Int)} (ho:ordered g) {n:Nat} {S:List Bool} (hl:S.length=n): ∀(k b:Nat),S.getD b false=true->(Ch g n k S).getD b false=true
 | 0,_,h=>h
 | k+1,b,h=>WS ho hl k b (Iw ho hl k b h)
def Gx {g:List (List Int)} (ho:ordered g) {n:Nat} {S:List Bool} (hl:S.length=n): ∀(k c:Nat),k<=n->n - k<=c->(Ch g n k S).getD c false=true-> ∀q∈par g c,(Ch g n k S).getD q.toNat false=true
 | 0,c,_,hc,h,q,hq=>by
   rw[Ch,Ds,List.getElem?_eq_none (by omega)]at h;cases h
 | k + 1,c,hk,hc,h,q,hq=>by
   rw[Ch,Gw ho (by rw[E3];omega)]at h ⊢;have hoc:=ho c q hq;rw[EJ,A8]at h
   have hbase:(Ch g n k S).getD c false=true:=by
    rcases h with h|⟨-,h2⟩
    .exact h
    .rw[List.contains_iff_mem]at h2
     have:=ho _ _ h2;omega
   by_cases e:c=n - 1 - k
   .subst e
    rw[hbase,D2,EJ,List.contains_iff_mem];exact .inr (by rw[show((q.toNat:Nat):Int)=q by omega];exact hq)
   .rw[Gx ho hl k c (by omega) (by omega) hbase q hq];rfl
def YA {g:List (List Int)} (ho:ordered g) {S:List Bool} (hl:S.length=3+g.length) (b:Nat):(Ch g (3+g.length) g.length S).getD b false=true↔ ∃d,S.getD d false=true/\GI g d b=true:=by
 refine⟨Fp ho hl _ b,?_⟩
 have key: ∀d,(Ch g (3+g.length) g.length S).getD d false=true->GI g d b=true->(Ch g (3+g.length) g.length S).getD b false=true:=by
  intro d
  induction d using Nat.strongRecOn with
  | _ d ih=>
    intro h1 h2;rw[D4 ho,EJ,Cr,He]at h2;rcases h2 with rfl|⟨p,hp,h2⟩
    .exact h1
    .have hop:=ho d p hp
     refine ih p.toNat (by omega) (Gx ho hl g.length d (by omega) ?_ h1 p hp) h2;omega
 rintro⟨d,h1,h2⟩;exact key d (Iw ho hl _ d h1) h2
def RB (n:Nat) (t:BB) (u:Nat×Nat):Prop:=
 t.1.length=n/\t.2.length=n/\(∀b,t.1.getD b false=u.1.testBit b)/\(∀b,b≠1->b≠2->t.2.getD b false=u.2.testBit b)/\u.1.testBit 1=false/\u.1.testBit 2=false
def De (m c b:Nat):(m|||2 ^ c).testBit b=(m.testBit b||b==c):=by
 rw[Nat.testBit_or,Nat.testBit_two_pow];congr 1;rw[Hf];simp only[Cm,Cr];omega
def Nu {l:List Bool} {m c:Nat} (hc:c<l.length) {b:Nat} (h:l.getD b false=m.testBit b):(l.set c true).getD b false=(m|||2 ^ c).testBit b:=by
 rw[Ek hc,De,<-h];split
 .rename_i e;subst e;simp
 .rename_i e
  have:(b==c)=false:=by simpa using e
  rw[this,Bool.or_false]
def SJ (x:Fact×Bool):Bool:= !x.2&&(!(x.1.op==2)||x.1.cls==1||x.1.cls==2)
def aN {n : Nat} {x:Fact×Bool} {t:BB} {k:Kn} (h:RB n t (k.BJ,k.DU)) (hc:x.1.op=2->0<=x.1.cls/\x.1.cls<n) :
    (SJ x=true->M1 x t=none)/\(SJ x=false-> ∃t',M1 x t=some t'/\RB n t' ((Bt k x.1 x.2).BJ,(Bt k x.1 x.2).DU)):=by
 obtain⟨f,c⟩:=x;simp only at hc;obtain⟨h1,h2,h3,h4,h5,h6⟩:=h;unfold SJ M1 Bt;simp only;by_cases ho:f.op=2
 .have hc':=hc ho
  by_cases h12:f.cls=1\/f.cls=2
  .rw[if_pos (.inr h12),if_pos ho]
   cases c with
   | true=>
     refine⟨fun h=>(by cases h),fun _=>⟨t,rfl,h1,h2,h3,fun b hb1 hb2=>?_,h5,h6⟩⟩;rw[if_pos rfl];show _=(k.DU|||2 ^ f.cls.toNat).testBit b;rw[De,h4 b hb1 hb2];have:(b==f.cls.toNat)=false:=by rw[beq_eq_false_iff_ne];omega
     rw[this,Bool.or_false]
   | false=>
     refine⟨fun _=>rfl,fun h=>?_⟩;exfalso;rcases h12 with e|e<;>simp[e]at h
  .have hn: ¬(f.op≠2\/f.cls=1\/f.cls=2):=by omega
   rw[if_neg hn,if_pos ho]
   have hb:(!c&&(!(f.op==2)||f.cls==1||f.cls==2))=false:=by
    have e1:(f.op==2)=true:=by simpa using ho
    have e2:(f.cls==1)=false:=by rw[beq_eq_false_iff_ne];omega
    have e3:(f.cls==2)=false:=by rw[beq_eq_false_iff_ne];omega
    rw[e1,e2,e3];simp
   rw[hb];refine⟨fun h=>(by cases h),fun _=>?_⟩;cases c with
   | true=>
     refine⟨_,rfl,h1,by simpa using h2,h3,fun b hb1 hb2=>?_,h5,h6⟩;exact Nu (by omega) (h4 b hb1 hb2)
   | false=>
     refine⟨_,rfl,by simpa using h1,h2,fun b=>?_,h4,?_,?_⟩
     .exact Nu (by omega) (h3 b)
     .show(k.BJ|||2 ^ f.cls.toNat).testBit 1=false
      rw[De,h5];have:(1==f.cls.toNat)=false:=by rw[beq_eq_false_iff_ne];omega
      rw[this];rfl
     .show(k.BJ|||2 ^ f.cls.toNat).testBit 2=false
      rw[De,h6];have:(2==f.cls.toNat)=false:=by rw[beq_eq_false_iff_ne];omega
      rw[this];rfl
 .rw[if_pos (.inl ho),if_neg ho]
  have e1:(f.op==2)=false:=by simpa using ho
  cases c with
  | true=>
    refine⟨fun h=>(by cases h),fun _=>⟨t,rfl,?_⟩⟩;split<;>exact⟨h1,h2,h3,h4,h5,h6⟩
  | false=>exact⟨fun _=>rfl,fun h=>by rw[e1]at h;cases h⟩
def RX {n:Nat}: ∀(os:List Fact) {t:BB} {k:Kn},RB n t (k.BJ,k.DU)->GK n os->
    (os.any (fun l=>SJ (Ai l))=true->Jm os t=none)/\(os.any (fun l=>SJ (Ai l))=false-> ∃t',Jm os t=some t'/\RB n t' ((Du os k).BJ,(Du os k).DU))
 | [],t,k,h,_=>⟨fun h=>(by cases h),fun _=>⟨t,rfl,h⟩⟩
 | l ::r,t,k,h,hc=>by
   obtain⟨s1,s2⟩:=aN h (hc l (.head _));rw[QB,Jm];cases hb:SJ (Ai l)with
   | true=>exact⟨fun _=>by rw[s1 hb];rfl,fun h=>(by cases h)⟩
   | false=>
     obtain⟨t',h1,h2⟩:=s2 hb;rw[h1,Bool.false_or,Option.bind_some];exact RX r h2 fun x hx=>hc x (.tail _ hx)
def jB {os:List Fact} {n:Nat} (hc:GK n os):(os.any fun l=>SJ (Ai l))=((Du os k0).whole||(Du os k0).BJ.testBit 1||(Du os k0).BJ.testBit 2):=by
 rw[Hf,EJ,EJ,HJ,HJ,KY];simp only[He,SJ,A8,EJ,Bool.not_eq_true',Cr,beq_eq_false_iff_ne,k0,Bool.false_or];constructor
 .rintro⟨l,hl,hb,(h|h)|h⟩
  .exact .inl (.inl ⟨l,hl,hb,h⟩)
  .by_cases ho:(Ai l).1.op=2
   .exact .inl (.inr ⟨l,hl,ho,hb,by rw[h];rfl⟩)
   .exact .inl (.inl ⟨l,hl,hb,ho⟩)
  .by_cases ho:(Ai l).1.op=2
   .exact .inr ⟨l,hl,ho,hb,by rw[h];rfl⟩
   .exact .inl (.inl ⟨l,hl,hb,ho⟩)
 .rintro((⟨l,hl,hb,h⟩|⟨l,hl,ho,hb,h⟩)|⟨l,hl,ho,hb,h⟩)
  .exact⟨l,hl,hb,.inl (.inl h)⟩
  .have:=hc l hl ho
   exact⟨l,hl,hb,.inl (.inr (by omega))⟩
  .have:=hc l hl ho
   exact⟨l,hl,hb,.inr (by omega)⟩
def YM (w:AJ) (Af can:Int->Bool) (s:Int) (u:Nat×Nat):Option (Nat×Nat):=
 if Af s&& !can s then none else some (if Af s then u.1|||2 ^ (Bh w s).toNat else u.1,if can s then u.2 else u.2|||2 ^ (Bh w s).toNat)
def H7 (w:AJ) (Af can:Int->Bool):List Int->Nat×Nat->Option (Nat×Nat)
 | [],u=>some u
 | s::r,u=>(YM w Af can s u).bind (H7 w Af can r)
def ZK {w:AJ} {ls:List Fact} {a:Int} {p:List Int} {can Af:Int->Bool} (hn: ∀s,Af s= !Ec ls a (p++[s])) {n:Nat} (how: ∀s:Int,0<=s->s<w.owner.length->3<=Bh w s/\Bh w s<n) :
    ∀(sl:List Int) {t:BB} {u:Nat×Nat},(∀s∈sl,0<=s/\s<w.owner.length)->RB n t u->
    (Jl w ls a p can sl t=none/\H7 w Af can sl u=none)\/ ∃t' u',Jl w ls a p can sl t=some t'/\H7 w Af can sl u=some u'/\RB n t' u'
 | [],t,u,_,h=> .inr ⟨t,u,rfl,rfl,h⟩
 | s ::r,t,u,hsl,h=>by
   have hs:=hsl s (.head _);have ho:=how s hs.1 hs.2;rw[Jl,H7,UL,YM,hn];obtain⟨h1,h2,h3,h4,h5,h6⟩:=h;split
   .exact .inl ⟨rfl,rfl⟩
   .rw[Option.bind_some,Option.bind_some]
    refine ZK hn how r (fun x hx=>hsl x (.tail _ hx)) ?_;have hb: ∀i,i<3->(i==(Bh w s).toNat)=false:=fun i hi=>by rw[beq_eq_false_iff_ne];omega
    cases Ec ls a (p++[s])<;>cases can s<;>refine⟨by simpa using h1,by simpa using h2,fun b=>?_,fun b hb1 hb2=>?_,?_,?_⟩
    all_goals simp only[Bool.not_false,Bool.not_true,Kc,if_true,if_false]
    all_goals first
     | exact h3 b
     | exact h4 b hb1 hb2
     | exact h5
     | exact h6
     | exact Nu (by omega) (h3 b)
     | exact Nu (by omega) (h4 b hb1 hb2)
     | (rw[De,h5,hb 1 (by omega)];rfl)
     | (rw[De,h6,hb 2 (by omega)];rfl)
def G3 (m:Nat):Nat:=m - m % 2
def Vc (m b:Nat):(G3 m).testBit b=(m.testBit b&& !(b==0)):=by
 cases b with
 | zero=>
   simp[G3,Nat.testBit_zero];omega
 | succ b=>
   rw[Nat.testBit_succ,Nat.testBit_succ,G3,show(m - m % 2) / 2=m / 2 by omega];simp
def rB {w : AJ} (ho:ordered w.parents) {t:BB} {u:Nat×Nat} (h:RB (3+w.parents.length) t u) :
    (dK w t).isSome=(!u.2.testBit 0&&(G3 (Bi (BQ w.parents) w.parents.length u.1)&&&u.2==0)):=by
 obtain⟨h1,h2,h3,h4,h5,h6⟩:=h;rw[dK,h4 0 (by decide) (by decide)];cases h0:u.2.testBit 0 with
 | true=>rfl
 | false =>
   rw[if_neg (by decide),Bool.not_false,D2];have hl:(t.1.set 0 false).length=3+w.parents.length:=by simpa using h1
   have G:=YA ho hl;have F:=KV ho u.1 w.parents.length
   have hS: ∀d,(t.1.set 0 false).getD d false=true↔d≠0/\u.1.testBit d=true:=fun d=>by
    rw[Ek (by omega)];split
    .rename_i e;subst e;simp
    .rename_i e;rw[h3];exact⟨fun h=>⟨e,h⟩,fun h=>h.2⟩
   have hlt: ∀b,u.1.testBit b=true->b<3+w.parents.length:=fun b hb=>by
    rw[<-h3]at hb;rcases Nat.lt_or_ge b (3+w.parents.length)with h'|h'
    .exact h'
    .rw[Ds,List.getElem?_eq_none (by omega)]at hb;cases hb
   have h3b: ∀d,d≠0->u.1.testBit d=true->3<=d:=fun d hd hb=>by
    rcases d with _|_|_|d
    .exact absurd rfl hd
    .rw[h5]at hb;cases hb
    .rw[h6]at hb;cases hb
    .omega
   have hM: ∀b,(G3 (Bi (BQ w.parents) w.parents.length u.1)).testBit b=true↔(Ch w.parents (3+w.parents.length) w.parents.length (t.1.set 0 false)).getD b false=true:=fun b=>by
    rw[Vc,A8,F b (IN _),G,Bool.not_eq_true',beq_eq_false_iff_ne];constructor
    .rintro⟨h|⟨d,q1,q2,q3,q4⟩,hb⟩
     .exact⟨b,(hS b).2 ⟨hb,h⟩,Dy ho b⟩
     .rcases q4 with e|q4
      .exact absurd e hb
      .exact⟨d,(hS d).2 ⟨by omega,q3⟩,q4⟩
    .rintro⟨d,hd,hu⟩
     obtain⟨hd0,hdu⟩:=(hS d).1 hd;have hd3:=h3b d hd0 hdu;have:=J0 ho d b hd3 hu;exact⟨.inr ⟨d,hd3,hlt d hdu,hdu,.inr hu⟩,by omega⟩
   have hany:((List.range (3+w.parents.length)).any fun c=>(Ch w.parents (3+w.parents.length) w.parents.length (t.1.set 0 false)).getD c false&&t.2.getD c false)= !(G3 (Bi (BQ w.parents) w.parents.length u.1)&&&u.2==0):=by
    rw[Hf,Bool.not_eq_true',<-Bool.not_eq_true,Lb,He];constructor
    .rintro⟨c,hc,hx⟩ hall
     rw[A8]at hx;have hm:=(hM c).2 hx.1;obtain⟨d,hd,hu⟩:=(G c).1 hx.1;obtain⟨hd0,hdu⟩:=(hS d).1 hd;have:=J0 ho d c (h3b d hd0 hdu) hu;exact hall c hm (by rw[<-h4 c (by omega) (by omega)];exact hx.2)
    .intro hne
     rcases Classical.em (∃b,(G3 (Bi (BQ w.parents) w.parents.length u.1)).testBit b=true/\u.2.testBit b=true)with⟨b,hb1,hb2⟩|hno
     .have hm:=(hM b).1 hb1
      obtain⟨d,hd,hu⟩:=(G b).1 hm;obtain⟨hd0,hdu⟩:=(hS d).1 hd;have:=J0 ho d b (h3b d hd0 hdu) hu;have:=eF ho d b hu;have:=hlt d hdu;exact⟨b,List.mem_range.2 (by omega),by rw[hm,h4 b (by omega) (by omega),hb2];rfl⟩
     .exact absurd (fun b h1 h2=>hno ⟨b,h1,h2⟩) hne
   rw[hany];cases(G3 (Bi (BQ w.parents) w.parents.length u.1)&&&u.2==0)<;>rfl
def NY (w:AJ) (k:Kn) (Af can:Int->Bool):Nat×Bool:=
 if k.whole||k.BJ.testBit 1||k.BJ.testBit 2||k.DU.testBit 0 then(0,false)else
 match H7 w Af can k.AI (k.BJ,k.DU)with
 | none=>(0,false)
 | some u=>(G3 (Bi (BQ w.parents) w.parents.length u.1),G3 (Bi (BQ w.parents) w.parents.length u.1)&&&u.2==0)
def Ps {w:AJ} {Af can:Int->Bool} (how: ∀s:Int,0<=s->s<w.owner.length->3<=Bh w s): ∀(sl:List Int) {u u':Nat×Nat},(∀s∈sl,0<=s/\s<w.owner.length)->H7 w Af can sl u=some u'->u'.2.testBit 0=u.2.testBit 0
 | [],u,u',_,h=>by cases h;rfl
 | s ::r,u,u',hsl,h=>by
   have hs:=hsl s (.head _);have ho:=how s hs.1 hs.2;rw[H7,YM]at h;split at h
   .cases h
   .rw[Option.bind_some]at h
    rw[Ps how r (fun x hx=>hsl x (.tail _ hx)) h];simp only;split
    .rfl
    .rw[De]
     have:(0==(Bh w s).toNat)=false:=by rw[beq_eq_false_iff_ne];omega
     rw[this,Bool.or_false]
def nj {w:AJ} {ls:List Fact} {a:Int} {p:List Int} {can Af:Int->Bool} (ho:ordered w.parents) (how: ∀s:Int,0<=s->s<w.owner.length->3<=Bh w s/\Bh w s<3+w.parents.length) (hc:GK (3+w.parents.length) ls) (hp:Gi w.owner.length ls) (hn: ∀s,Af s= !Ec ls a (p++[s])) :
    (NY w (kn ls a p) Af can).2=(Ty w ls a p can).isSome:=by
 have hcore:=K3 ls a p;have hsl:=Ip hp a p;generalize kn ls a p=k at *;have hc2:GK (3+w.parents.length) (ls.filter (Jd a p)):=fun l hl=>hc l (Jc.1 hl).1
 simp only[DB,Prod.mk.injEq]at hcore;obtain⟨-,-,-,c4,c5,c6⟩:=hcore;rw[NY,Ty,c4,c5,c6,<-jB hc2,hsl]
 have hR0:RB (3+w.parents.length) (tO w) (k0.BJ,k0.DU):=by
  refine⟨by simp[tO],by simp[tO],fun b=>?_,fun b _ _=>?_,rfl,rfl⟩<;>
  .simp only[tO,k0,Nat.zero_testBit,Ds,List.getElem?_replicate]
   split<;>rfl
 obtain⟨f1,f2⟩:=RX _ hR0 hc2;cases hbad:(ls.filter (Jd a p)).any fun l=>SJ (Ai l)with
 | true=>rw[f1 hbad];rfl
 | false=>
   obtain⟨t,ht,G⟩:=f2 hbad;rw[ht,Option.bind_some,Bool.false_or];have hin: ∀s∈Cb w.owner.length ls a p,0<=s/\s<(w.owner.length:Int):=fun s hs=>HS hs
   rcases ZK (can:=can) hn (fun s h0 h1=>by have:=how s h0 h1;omega) (Cb w.owner.length ls a p) hin G with⟨e1,e2⟩|⟨t',u',e1,e2,hR'⟩
   .rw[e1,e2]
    split<;>rfl
   .rw[e1,e2,Option.bind_some,rB ho hR']
    have:=Ps (fun s h0 h1=>(how s h0 h1).1) _ hin e2;rw[this];simp only;cases((Du (ls.filter (Jd a p)) k0).DU.testBit 0)<;>rfl
end Go.Gl
namespace Go.Gl
abbrev B6 (a:Int) (p:List Int):V:= .a [eI a,eI (p.length:Int),eI (p.getD 0 0),eI (p.getD 1 0)]
structure Bx where
 a:Int
 p:List Int
 b:Nat
 vn:V
 vs:V
 k:Kn
abbrev Bx.is (e:Bx) (a:Int) (p:List Int):Bool:=e.a==a&&e.p==p
abbrev xZ (b:Nat) (vn vs:V) (k:Kn):At:= .box b [eI k.low,eI k.high,vn,eU k.BJ,eU k.DU,.b k.whole,.b k.Af,vs]
abbrev pK (b:Nat) (vn vs:V) (k:Kn):List At:=[xZ b vn vs k,.own vn 1 (iL k.no),.own vs 1 (iL k.AI)]
abbrev UY (e:Bx):List At:=pK e.b e.vn e.vs e.k
def R3 (es:List Bx):List (V×V):=es.map fun e=>(B6 e.a e.p,.p e.b 0)
def B8 (L:Nat) (es:List Bx):List At:= .map L (R3 es)::es.flatMap UY
def G7 (L:Nat) (es pre post:List Bx):List At:= .map L (R3 es)::(pre++post).flatMap UY
def F5 {e:Bx} {a:Int} {p:List Int}:e.is a p=true↔e.a=a/\e.p=p:=by simp[Bx.is]
def N2 {e:Bx} {a:Int} {p:List Int}:e.is a p=false↔ ¬(e.a=a/\e.p=p):=by rw[<-F5,Bool.not_eq_true]
def SY {a a':Int} {p p':List Int} (h:p.length<=2) (h':p'.length<=2):DZ (B6 a p) (B6 a' p')=(a==a'&&p==p'):=by
 have e:DZ (B6 a p) (B6 a' p')=(a==a'&&((p.length:Int)==p'.length&&(p.getD 0 0==p'.getD 0 0&&(p.getD 1 0==p'.getD 1 0)))):=by
  simp[DZ,Bp,B6]
 rw[e];congr 1
 match p,h,p',h' with
 | [],_,[],_=>rfl
 | [],_,[_],_=>simp
 | [],_,[_,_],_=>simp<;>omega
 | [_],_,[],_=>simp
 | [x],_,[y],_=>simp
 | [_],_,[_,_],_=>simp<;>omega
 | [_,_],_,[],_=>simp<;>omega
 | [_,_],_,[_],_=>simp<;>omega
 | [x,y],_,[z,u],_=>simp
def HO (es:List Bx): ∀kv∈R3 es,BI (.a [.i64,.i64,.i64,.i64]) kv.1=true:=by
 intro kv h;obtain⟨e,_,rfl⟩:=Iz.1 h;rfl
def O4 {a:Int} {p:List Int} (hp:p.length<=2): ∀ {es:List Bx},(∀e∈es,e.p.length<=2)->(∀e∈es,e.is a p=false)->CU (B6 a p) (R3 es)=none
 | [],_,_=>rfl
 | e ::r,hl,h=>by
   have he:=h e (.head _);rw[R3,E4,CU,SY hp (hl e (.head _))]
   have:(a==e.a&&p==e.p)=false:=by
    rw[<-he,Bx.is,Hf];simp only[A8,Cr];exact⟨fun⟨h1,h2⟩=>⟨h1.symm,h2.symm⟩,fun⟨h1,h2⟩=>⟨h1.symm,h2.symm⟩⟩
   rw[this,cond_false];exact O4 hp (fun x hx=>hl x (.tail _ hx)) (fun x hx=>h x (.tail _ hx))
def W7 {a:Int} {p:List Int} (hp:p.length<=2) (b:Nat) (vn vs:V) (k:Kn): ∀ {es:List Bx},(∀e∈es,e.p.length<=2)->(∀e∈es,e.is a p=false)->DA (B6 a p) (.p b 0) (R3 es)=R3 (es++[⟨a,p,b,vn,vs,k⟩])
 | [],_,_=>rfl
 | e ::r,hl,h=>by
   have he:=h e (.head _);have ih:=W7 hp b vn vs k (fun x hx=>hl x (.tail _ hx)) (fun x hx=>h x (.tail _ hx));simp only[R3]at ih;rw[R3,E4,DA,SY hp (hl e (.head _))]
   have:(a==e.a&&p==e.p)=false:=by
    rw[<-he,Bx.is,Hf];simp only[A8,Cr];exact⟨fun⟨h1,h2⟩=>⟨h1.symm,h2.symm⟩,fun⟨h1,h2⟩=>⟨h1.symm,h2.symm⟩⟩
   rw[this,cond_false,ih];rfl
def O3 {a:Int} {p:List Int} (hp:p.length<=2) {e:Bx} (he:e.is a p=true) {post:List Bx}: ∀ {pre:List Bx},(∀x∈pre++e::post,x.p.length<=2)->(∀x∈pre,x.is a p=false)->CU (B6 a p) (R3 (pre++e::post))=some (.p e.b 0)
 | [],hl,_=>by
   rw[List.nil_append,R3,E4,CU,SY hp (hl e (.head _))];obtain⟨h1,h2⟩:=F5.1 he;rw[h1,h2];simp
 | x ::r,hl,h=>by
   have hx:=h x (.head _);rw[List.cons_append,R3,E4,CU,SY hp (hl x (.head _))]
   have:(a==x.a&&p==x.p)=false:=by
    rw[<-hx,Bx.is,Hf];simp only[A8,Cr];exact⟨fun⟨h1,h2⟩=>⟨h1.symm,h2.symm⟩,fun⟨h1,h2⟩=>⟨h1.symm,h2.symm⟩⟩
   rw[this,cond_false];exact O3 hp he (fun y hy=>hl y (.tail _ hy)) (fun y hy=>h y (.tail _ hy))
def dY (a : Int) (p:List Int): ∀(es:List Bx),(∀e∈es,e.is a p=false)\/ ∃pre e post,es=pre++e::post/\e.is a p=true/\ ∀x∈pre,x.is a p=false
 | []=> .inl fun _ h=>by cases h
 | e ::r=>by
   cases h:e.is a p with
   | true=>exact .inr ⟨[],e,r,rfl,h,fun _ h=>by cases h⟩
   | false=>
     rcases dY a p r with h1|⟨pre,x,post,rfl,h1,h2⟩
     .exact .inl fun x hx=>by
       rcases Fq.1 hx with rfl|hx
       .exact h
       .exact h1 x hx
     .exact .inr ⟨e::pre,x,post,rfl,h1,fun y hy=>by
       rcases Fq.1 hy with rfl|hy
       .exact h
       .exact h2 y hy⟩
def VL (L:Nat) (pre post:List Bx) (e:Bx):(B8 L (pre++e::post)).Perm (UY e++G7 L (pre++e::post) pre post):=by
 unfold B8 G7;rw[List.flatMap_append,List.flatMap_cons,List.flatMap_append];refine List.Perm.trans ?_ (List.perm_middle.symm);refine List.Perm.cons _ ?_;rw[<-P7,<-P7];exact List.Perm.append_right _ Np
def Pj {pre post:List Bx} {e e':Bx} (h1:e'.a=e.a) (h2:e'.p=e.p) (h3:e'.b=e.b):R3 (pre++e'::post)=R3 (pre++e::post):=by
 simp only[R3,YF,E4,h1,h2,h3]
def TV {L:Nat} {pre post:List Bx} {e e':Bx} (h1:e'.a=e.a) (h2:e'.p=e.p) (h3:e'.b=e.b):G7 L (pre++e'::post) pre post=G7 L (pre++e::post) pre post:=by
 rw[G7,G7,Pj h1 h2 h3]
structure Br (kf:Int->List Int->Kn) (es:List Bx):Prop where
 val: ∀e∈es,e.k=kf e.a e.p
 I0: ∀a p,(∀e∈es,e.is a p=false)->kf a p=k0
 one:es.Pairwise fun e e'=>e.is e'.a e'.p=false
 len: ∀e∈es,e.p.length<=2
def Qi (es:List Bx):Prop:= ∀e∈es,∀s∈e.k.AI,∃e'∈es,e'.is e.a (e.p++[s])=true
def Br.congr {kf kf':Int->List Int->Kn} {es:List Bx} (h:Br kf es) (e: ∀a p,kf a p=kf' a p):Br kf' es:=
 ⟨fun x hx=>(h.val x hx).trans (e _ _),fun a p hp=>(e a p).symm.trans (h.I0 a p hp),h.one,h.len⟩
def Br.add {kf:Int->List Int->Kn} {es:List Bx} (h:Br kf es) {a:Int} {p:List Int} (hp:p.length<=2) (hn: ∀e∈es,e.is a p=false) (b:Nat) (vn vs:V):Br kf (es++[⟨a,p,b,vn,vs,k0⟩]):=by
 refine⟨fun x hx=>?_,fun a' p' h'=>h.I0 a' p' fun x hx=>h' x (NU _ hx),?_,fun x hx=>?_⟩
 .rcases Dr.1 hx with hx|hx
  .exact h.val x hx
  .rw[My.1 hx];exact(h.I0 a p hn).symm
 .rw[List.pairwise_append]
  exact⟨h.one,List.pairwise_singleton _ _,fun x hx y hy=>by rw[My.1 hy];exact hn x hx⟩
 .rcases Dr.1 hx with hx|hx
  .exact h.len x hx
  .rw[My.1 hx];exact hp
def Qi.add {es:List Bx} (h:Qi es) {a:Int} {p:List Int} (b:Nat) (vn vs:V):Qi (es++[⟨a,p,b,vn,vs,k0⟩]):=by
 intro e he s hs;rcases Dr.1 he with he|he
 .obtain⟨e',h1,h2⟩:=h e he s hs
  exact⟨e',NU _ h1,h2⟩
 .rw[My.1 he]at hs
  cases hs
def L3 (kf:Int->List Int->Kn) (a:Int) (p:List Int) (k:Kn):Int->List Int->Kn:=fun a' p'=>if a'=a/\p'=p then k else kf a' p'
def Br.change {kf:Int->List Int->Kn} {pre post:List Bx} {e:Bx} (h:Br kf (pre++e::post)) (b:Nat) (vn vs:V) (k:Kn):Br (L3 kf e.a e.p k) (pre++⟨e.a,e.p,b,vn,vs,k⟩::post):=by
 have h1:=h.one;rw[List.pairwise_append,List.pairwise_cons]at h1;obtain⟨o1,⟨o2,o3⟩,o4⟩:=h1;refine⟨fun x hx=>?_,fun a p hp=>?_,?_,fun x hx=>?_⟩
 .rw [L3]
  rcases Dr.1 hx with hx|hx
  .rw[if_neg]
   .exact h.val x (NU _ hx)
   .have:=o4 x hx e (.head _)
    rw[N2]at this;exact this
  .rcases Fq.1 hx with rfl|hx
   .rw[if_pos ⟨rfl,rfl⟩]
   .rw[if_neg]
    .exact h.val x (M0 _ (.tail _ hx))
    .have:=o2 x hx
     rw[N2]at this;exact fun⟨q1,q2⟩=>this ⟨q1.symm,q2.symm⟩
 .have he:=N2.1 (hp _ (M0 _ (.head _)))
  rw[L3,if_neg (fun⟨q1,q2⟩=>he ⟨q1.symm,q2.symm⟩)];refine h.I0 a p fun x hx=>?_
  rcases Dr.1 hx with hx|hx
  .exact hp x (NU _ hx)
  .rcases Fq.1 hx with rfl|hx
   .exact N2.2 he
   .exact hp x (M0 _ (.tail _ hx))
 .rw[List.pairwise_append,List.pairwise_cons]
  refine⟨o1,⟨o2,o3⟩,fun x hx y hy=>?_⟩;rcases Fq.1 hy with rfl|hy
  .exact o4 x hx e (.head _)
  .exact o4 x hx y (.tail _ hy)
 .rcases Dr.1 hx with hx|hx
  .exact h.len x (NU _ hx)
  .rcases Fq.1 hx with rfl|hx
   .exact h.len e (M0 _ (.head _))
   .exact h.len x (M0 _ (.tail _ hx))
def Qi.change {pre post:List Bx} {e:Bx} (h:Qi (pre++e::post)) (b:Nat) (vn vs:V) (k:Kn) (hs: ∀s∈k.AI,s∈e.k.AI\/ ∃e'∈pre++e::post,e'.is e.a (e.p++[s])=true):Qi (pre++⟨e.a,e.p,b,vn,vs,k⟩::post):=by
 have mov: ∀ {a p},(∃e'∈pre++e::post,e'.is a p=true)-> ∃e'∈pre++(⟨e.a,e.p,b,vn,vs,k⟩:Bx)::post,e'.is a p=true:=by
  rintro a p ⟨x,hx,h'⟩;rcases Dr.1 hx with hx|hx
  .exact⟨x,NU _ hx,h'⟩
  .rcases Fq.1 hx with rfl|hx
   .exact⟨_,M0 _ (.head _),h'⟩
   .exact⟨x,M0 _ (.tail _ hx),h'⟩
 intro x hx s hxs;rcases Dr.1 hx with hx|hx
 .exact mov (h x (NU _ hx) s hxs)
 .rcases Fq.1 hx with rfl|hx
  .rcases hs s hxs with h'|h'
   .exact mov (h e (M0 _ (.head _)) s h')
   .exact mov h'
  .exact mov (h x (M0 _ (.tail _ hx)) s hxs)
def DP (f:Fact) (c:Bool) (j:Nat) (a:Int) (p:List Int) (k:Kn):Kn:=
 if f.arg=a/\Be f.path p=true then(if p.length<j then ct (Bv k c) (f.path.getD p.length 0)else if p.length=j then Bv k c else k)else k
def Gb {path p:List Int}:Be path p=true↔p.length<=path.length/\p=path.take p.length:=by
 rw[Bw];constructor
 .rintro⟨t,rfl⟩
  exact⟨by simp,by simp⟩
 .rintro⟨h1,h2⟩
  exact⟨path.drop p.length,by conv=>rhs;rw[h2,NT,Nat.min_eq_left h1,List.take_append_drop]⟩
def lS (f:Fact) (c:Bool) (a:Int) (p:List Int) (k:Kn):DP f c 0 a p k=if a=f.arg/\p= []then Bv k c else k:=by
 unfold DP;by_cases h:f.arg=a/\Be f.path p=true
 .rw[if_pos h,if_neg (by omega)]
  by_cases hp:p.length=0
  .rw[if_pos hp,if_pos ⟨h.1.symm,Zm.1 hp⟩]
  .rw[if_neg hp,if_neg (fun h'=>hp (by rw[h'.2];rfl))]
 .rw[if_neg h,if_neg]
  rintro⟨rfl,rfl⟩;exact h ⟨rfl,Bw.2 ⟨f.path,by simp⟩⟩
def lT (f:Fact) (c:Bool) {j:Nat} (hj:j<f.path.length) (a:Int) (p:List Int) (k:Kn):DP f c (j+1) a p k=if a=f.arg/\p=f.path.take (j+1)then Bv (DP f c j a p k) c else if a=f.arg/\p=f.path.take j then ct (DP f c j a p k) (f.path.getD j 0)else DP f c j a p k:=by
 unfold DP;by_cases h:f.arg=a/\Be f.path p=true
 .rw [if_pos h,if_pos h]
  obtain⟨h1,h2⟩:=h;rw[Gb]at h2;obtain⟨h2,h3⟩:=h2;have l1:p=f.path.take (j+1)↔p.length=j+1:=⟨fun e=>by rw[e,NT];omega,fun e=>by rw[e]at h3;exact h3⟩
  have l2:p=f.path.take j↔p.length=j:=⟨fun e=>by rw[e,NT];omega,fun e=>by rw[e]at h3;exact h3⟩
  have n1:p.length≠j+1-> ¬(a=f.arg/\p=f.path.take (j+1)):=fun h h'=>h (l1.1 h'.2)
  have n2:p.length≠j-> ¬(a=f.arg/\p=f.path.take j):=fun h h'=>h (l2.1 h'.2)
  by_cases q1:p.length<j
  .rw[if_pos (show p.length<j+1 by omega),if_neg (n1 (by omega)),if_neg (n2 (by omega)),if_pos q1]
  .by_cases q2:p.length=j
   .rw[if_pos (show p.length<j+1 by omega),if_neg (n1 (by omega)),if_pos (show a=f.arg/\p=f.path.take j from⟨h1.symm,l2.2 q2⟩),if_neg q1,if_pos q2,q2]
   .by_cases q3:p.length=j+1
    .rw[if_neg (show¬p.length<j+1 by omega),if_pos q3,if_pos (show a=f.arg/\p=f.path.take (j+1) from⟨h1.symm,l1.2 q3⟩),if_neg q1,if_neg q2]
    .rw[if_neg (show¬p.length<j+1 by omega),if_neg q3,if_neg (n1 q3),if_neg (n2 q2),if_neg q1,if_neg q2]
 .rw[if_neg h,if_neg h,if_neg,if_neg]
  .rintro⟨rfl,rfl⟩
   exact h ⟨rfl,Bw.2 ⟨f.path.drop j,by rw[List.take_append_drop]⟩⟩
  .rintro⟨rfl,rfl⟩
   exact h ⟨rfl,Bw.2 ⟨f.path.drop (j+1),by rw[List.take_append_drop]⟩⟩
def qg (a : Int) (p:List Int) (k:Kn) (l:Fact):Cj a p k l=if a=(Ai l).1.arg/\p=(Ai l).1.path then Bt (DP (Ai l).1 (Ai l).2 (Ai l).1.path.length a p k) (Ai l).1 (Ai l).2 else DP (Ai l).1 (Ai l).2 (Ai l).1.path.length a p k:=by
 unfold Cj DP;by_cases h:(Ai l).1.arg=a/\Be (Ai l).1.path p=true
 .rw [if_pos h,if_pos h]
  obtain⟨h1,h2⟩:=h;rw[Gb]at h2;obtain⟨h2,h3⟩:=h2;by_cases hp:(Ai l).1.path=p
  .rw[if_pos hp,if_pos ⟨h1.symm,hp.symm⟩,if_neg (by rw[hp];omega),if_pos (by rw[hp])]
  .have hne:p.length<(Ai l).1.path.length:=by
    rcases Nat.lt_or_ge p.length (Ai l).1.path.length with h'|h'
    .exact h'
    .rw[List.take_of_length_le h']at h3
     exact absurd h3.symm hp
   rw[if_neg hp,if_neg (fun h=>hp h.2.symm),if_pos hne]
 .rw[if_neg h,if_neg h,if_neg]
  rintro⟨rfl,rfl⟩;exact h ⟨rfl,Ix _⟩
def lV (ls:List Fact) (l:Fact) (a:Int) (p:List Int):kn (ls++[l]) a p=Cj a p (kn ls a p) l:=by
 rw[kn,List.foldl_append];rfl
def Rw (l:List Int) (s:Int):(IE l s).length<=l.length+1:=by
 unfold IE;split
 .omega
 .rw[List.length_mergeSort];simp
def P2 (k:Kn) (f:Fact) (b:Bool):(Bt k f b).no.length<=k.no.length+1:=by
 unfold Bt
 repeat' split
 all_goals simp
def er (a:Int) (p:List Int): ∀(ls:List Fact) (k:Kn),(ls.foldl (Cj a p) k).no.length<=k.no.length+ls.length/\(ls.foldl (Cj a p) k).AI.length<=k.AI.length+ls.length
 | [],k=>⟨IN _,IN _⟩
 | l ::r,k=>by
   obtain⟨h1,h2⟩:=er a p r (Cj a p k l)
   have h3:(Cj a p k l).no.length<=k.no.length+1/\(Cj a p k l).AI.length<=k.AI.length+1:=by
    unfold Cj
    repeat' split
    .have:=P2 (Bv k (Ai l).2) (Ai l).1 (Ai l).2
     rw[Hc];simp only[Bv]at this ⊢;omega
    .have:=Rw k.AI ((Ai l).1.path.getD p.length 0)
     simp only[ct,Bv]at this ⊢;omega
    .omega
   rw[List.foldl_cons,Lz];omega
def lW {n:Nat} {ls:List Fact} (h:GK n ls) (a:Int) (p:List Int):(kn ls a p).BJ<2 ^ n/\(kn ls a p).DU<2 ^ n:=by
 have hc:=K3 ls a p;simp only[DB,Prod.mk.injEq]at hc;have hc2:GK n (ls.filter (Jd a p)):=fun l hl=>h l (Jc.1 hl).1
 rw[hc.2.2.2.1,hc.2.2.2.2.1];exact⟨K1 hc2,ed hc2⟩
end Go.Gl
namespace Go.Gl
def GJ (no:List Int):Nat->Int->Int
 | 0,n=>n
 | k+1,n=>if no.contains n then GJ no k (n+1)else n
def from_ (no:List Int) (n:Int):Nat:=(no.filter fun x=>decide (n<=x)).length
def N4 {no:List Int} {n:Int} (h:n∈no):from_ no (n+1)<from_ no n:=by
 induction no with
 | nil=>cases h
 | cons x r ih=>
   simp only[from_,List.filter_cons]at ih ⊢;by_cases hx:x=n
   .subst hx
    have hle:(r.filter fun y=>decide (x+1<=y)).length<=(r.filter fun y=>decide (x<=y)).length:=by
     refine List.Sublist.length_le ?_
     have e:(r.filter fun y=>decide (x+1<=y))=(r.filter fun y=>decide (x<=y)).filter fun y=>decide (x+1<=y):=by
      rw[List.filter_filter];refine List.filter_congr fun y _=>?_
      rw[Hf,A8,Cm,Cm];omega
     rw[e];exact List.filter_sublist
    rw[if_neg (by simp<;>omega),if_pos (by simp),Lz];omega
   .have h':n∈r:=by
     rcases Fq.1 h with e|e
     .exact absurd e.symm hx
     .exact e
    have:=ih h';by_cases h1:n<=x
    .rw[if_pos (by rw[Cm];omega),if_pos (by rw[Cm];omega),Lz,Lz]
     omega
    .rw[if_neg (by rw[Cm];omega),if_neg (by rw[Cm];omega)]
     omega
def TJ (no:List Int) (n:Int):from_ no n<=no.length:=Wb _ _
def Lj {no:List Int}: ∀(k:Nat) (n:Int),from_ no n<=k->n<=GJ no k n/\GJ no k n∉no/\ ∀j,n<=j->j<GJ no k n->j∈no
 | 0,n,h=>by
   refine⟨Int.le_refl _,fun hm=>?_,fun j h1 h2=>by simp only[GJ]at h2;omega⟩;have:=N4 hm;simp only[GJ]at this;omega
 | k + 1,n,h=>by
   rw[GJ];split
   .rename_i hc
    rw[List.contains_iff_mem]at hc;have hlt:=N4 hc;obtain⟨h1,h2,h3⟩:=Lj (no:=no) k (n+1) (by omega);refine⟨by omega,h2,fun j hj1 hj2=>?_⟩;by_cases e:j=n
    .subst e;exact hc
    .exact h3 j (by omega) hj2
   .rename_i hc
    exact⟨Int.le_refl _,fun hm=>hc (List.contains_iff_mem.2 hm),fun j h1 h2=>by omega⟩
def fj {no:List Int} {k:Nat} {n:Int} (h:n∈no):GJ no (k+1) n=GJ no k (n+1):=by rw[GJ,if_pos (List.contains_iff_mem.2 h)]
def Za {no:List Int} {k:Nat} {n:Int} (h:n∉no):GJ no k n=n:=by
 cases k with
 | zero=>rfl
 | succ k=>rw[GJ,if_neg (fun hc=>h (List.contains_iff_mem.1 hc))]
def N8 {no:List Int} {k k':Nat} {n:Int} (h:from_ no n<=k) (h':from_ no n<=k'):GJ no k n=GJ no k' n:=by
 obtain⟨a1,a2,a3⟩:=Lj k n h;obtain⟨b1,b2,b3⟩:=Lj k' n h';rcases Int.lt_trichotomy (GJ no k n) (GJ no k' n)with hl|he|hg
 .exact absurd (b3 _ a1 hl) a2
 .exact he
 .exact absurd (a3 _ b1 hg) b2
def EA (k:Kn):Int:=GJ k.no k.no.length k.low
def HD (kf:Int->List Int->Kn) (a:Int) (p:List Int):Bool:=(kf a p).AI.all fun s=> !(kf a (p++[s])).Af
def D5 (kf:Int->List Int->Kn) (a:Int) (p:List Int) (c:Nat):Bool:=Gz (kf a p).BJ (1|||2 ^ c)&&((kf a p).DU&&&(1|||2 ^ c)==0&&HD kf a p)
def FT (kf:Int->List Int->Kn) (a:Int) (p:List Int):Bool:=decide (EA (kf a p)<=(kf a p).high)&&D5 kf a p 1
def C9 (kf:Int->List Int->Kn) (a:Int) (p:List Int):Bool:= !(kf a p).whole&&D5 kf a p 2
def Nc (w:AJ) (kf:Int->List Int->Kn) (a:Int):Nat->List Int->Bool
 | 0,p=>FT kf a p||(C9 kf a p||(NY w (kf a p) (fun s=>(kf a (p++[s])).Af) (fun _=>false)).2)
 | d+1,p=>FT kf a p||(C9 kf a p||(NY w (kf a p) (fun s=>(kf a (p++[s])).Af) (fun s=>Nc w kf a d (p++[s]))).2)
def cz (w:AJ) (kf:Int->List Int->Kn):Bool:=(Bd 3).all fun a=>Nc w kf a 2 []
def ZO {n:Nat} {ls:List Fact} (h:Gi n ls) (a:Int) (p:List Int):HD (kn ls) a p=GP n ls a p:=by
 rw[HD,GP,Ip h];congr 1;funext s;rw[JL,Bool.not_not]
def XB {n m:Nat} {ls:List Fact} (hn:n<=64) (hc:GK n ls) (h:Gi m ls) (a:Int) (p:List Int):FT (kn ls) a p=((NZ ls a p).isSome&&GP m ls a p):=by
 have hcore:=K3 ls a p;have hc2:GK n (ls.filter (Jd a p)):=fun l hl=>hc l (Jc.1 hl).1
 simp only[DB,Prod.mk.injEq]at hcore;obtain⟨c1,c2,c3,c4,c5,-⟩:=hcore;rw[FT,D5,ZO h,c4,c5,<-Bool.and_assoc (Gz _ _),az hn hc2,<-Bool.and_assoc];congr 1;have hf:=RY (ls.filter (Jd a p)) k0;rw[NZ,show t0=(k0.low,k0.high,k0.no) from rfl,hf,EA,c2,c3,c1];obtain⟨h1,h2,h3⟩:=Lj (no:=(Du (ls.filter (Jd a p)) k0).no) _ (Du (ls.filter (Jd a p)) k0).low (TJ _ _);have hs:=gR (high:=(Du (ls.filter (Jd a p)) k0).high) h1 h2 h3;cases(ls.filter (Jd a p)).all fun l=>oZ (Ai l)with
 | false=>simp
 | true=>rw[if_pos rfl,Option.bind_some,hs,Bool.and_true]
def S4 {n m:Nat} {ls:List Fact} (hn:n<=64) (hc:GK n ls) (h:Gi m ls) (a:Int) (p:List Int):C9 (kn ls) a p=Ia m ls a p:=by
 have hcore:=K3 ls a p;have hc2:GK n (ls.filter (Jd a p)):=fun l hl=>hc l (Jc.1 hl).1
 simp only[DB,Prod.mk.injEq]at hcore;obtain⟨-,-,-,c4,c5,c6⟩:=hcore;rw[C9,D5,ZO h,c4,c5,c6,Ia,<-Xi hn hc2];simp only[Bool.and_assoc]
def fY {w:AJ} {ls:List Fact} (ho:ordered w.parents) (how: ∀s:Int,0<=s->s<w.owner.length->3<=Bh w s/\Bh w s<3+w.parents.length) (hn:3+w.parents.length<=64) (hc:GK (3+w.parents.length) ls) (hp:Gi w.owner.length ls) (a:Int): ∀(d:Nat) (p:List Int),Nc w (kn ls) a d p=SI w ls a d p
 | 0,p=>by
   rw[Nc,SI,XB hn hc hp,S4 hn hc hp,nj ho how hc hp fun s=>JL ls a (p++[s])]
 | d+1,p=>by
   rw[Nc,SI,XB hn hc hp,S4 hn hc hp,nj ho how hc hp fun s=>JL ls a (p++[s])];have e:(fun s=>Nc w (kn ls) a d (p++[s]))=fun s=>SI w ls a d (p++[s]):=funext fun s=>fY ho how hn hc hp a d (p++[s])
   rw[e]
def pW {w:AJ} {ls:List Fact} (ho:ordered w.parents) (how: ∀s:Int,0<=s->s<w.owner.length->3<=Bh w s/\Bh w s<3+w.parents.length) (hn:3+w.parents.length<=64) (hc:GK (3+w.parents.length) ls) (hp:Gi w.owner.length ls):cz w (kn ls)=Fg w ls:=by
 rw[cz,Fg];congr 1;funext a;exact fY ho how hn hc hp a 2 []
end Go.Gl
namespace Go.Gl
open Go.Proofs
attribute [local irreducible] As Am Ac AQ AM Ab AP AR AL Aa AN AO Ao Ax Sat AW Au Ad W
section
variable {S:Type} (g:FuncId) (fi ca:List V) (H:S->List At) (f:Int->Bool) (J:S->Prop) (D:Int->Prop)
def QT {v:V} {xs:List Int} (hst:NA Tryz.prog (.f (.func g) fi ca) eI (fun s=> .own v 1 (iL xs)::H s) f J D) (hD: ∀x∈xs,D x) (hxl:xs.length<=Ay) (s0:S) (hj0:J s0) :
    BK Tryz.prog 117 [v,.f (.func g) fi ca] (.own v 1 (iL xs)::H s0) fun r post=>r= .ret (eI (M7 f xs 0))/\ ∃s',J s'/\post= .own v 1 (iL xs)::H s':=by
 intro σ hs;have hM:=Mx;refine fV kZ ?_
 conv=>whnf
 repeat'((first|apply st|(apply sq;intro K U)|(apply si;intro A B Y Z)|(apply Y;clear Z B Y A)|(apply U;clear U K)|refine lo ?_|fail)<;>conv=>whnf)
 refine D3 xs.length (fun k (_:S)=>[(8,eI (Bq k))]) (fun _ s=> .own v 1 (iL xs)::H s) (fun k s=>J s/\M7 f xs 0=M7 f (xs.drop k) k) s0 rfl ⟨hj0,rfl⟩ hs ?_;clear hs hj0;rintro k s σ hk ⟨hj,hn⟩ hs;have hck:Bq k=k:=AV (by omega);rcases BM xs hk with⟨y,hy,hlt⟩|hke
 .rw[drop_cons hy]at hn
  have hDy:=hD y (Dm hy);rw[M7]at hn
  conv=>whnf
  repeat'((first|apply st|(apply sq;intro K U)|(apply si;intro A B Y Z)|(apply Y;clear Z B Y A)|(apply U;clear U K)|refine⟨rfl,?_⟩|refine oi ?_|refine ol fun x hx=>?_|(refine DV (fun hc=>?_)<;>(try rw[hc])<;>clear hc)|fail)<;>conv=>whnf)
  obtain rfl:x=y:=by rw[hck,Hd,hy]at hx;exact(Option.some.inj hx).symm
  refine hst.use hDy hj hs ?_;clear hs hj;intro s σ hj hs;cases hyes:f x
  .rw[hyes,if_neg (by decide)]at hn
   conv=>whnf
   repeat'((first|apply st|(apply si;intro A B Y Z)|(apply Y;clear Z B Y A)|(apply U;clear U K)|refine⟨rfl,?_⟩|clear U K)<;>conv=>whnf)
   exact⟨hlt,_,rfl,⟨hj,hn⟩,hs⟩
  .rw[hyes,if_pos rfl]at hn
   conv=>whnf
   repeat'((first|apply st|(apply sq;intro K U)|(apply si;intro A B Y Z)|(apply Y;clear Z B Y A)|(apply U;clear U K)|clear U K)<;>conv=>whnf)
   rw[hn];exact AK ⟨_,⟨by rw[hck],s,hj,rfl⟩,hs⟩
 .rw[BX hke,M7]at hn
  conv=>whnf
  repeat'((first|apply st|(apply sq;intro K U)|(apply si;intro A B Y Z)|(apply Y;clear Z B Y A)|(apply U;clear U K)|refine⟨rfl,?_⟩|(refine EZ (fun hc=>?_)<;>(try rw[hc])<;>clear hc)|clear U K)<;>conv=>whnf)
  rw[hn];exact AK ⟨_,⟨rfl,s,hj,rfl⟩,hs⟩
def Nn {v:V} {xs:List Int} (hst:NA Tryz.prog (.f (.func g) fi ca) eI (fun s=> .own v 1 (iL xs)::H s) f J D) (hD: ∀x∈xs,D x) (hxl:xs.length<=Ay) (s0:S) (hj0:J s0) :
    BK Tryz.prog 49 [v,.f (.func g) fi ca] (.own v 1 (iL xs)::H s0) fun r post=>r= .ret (.b (xs.any f))/\ ∃s',J s'/\post= .own v 1 (iL xs)::H s':=by
 intro σ hs;refine oF kZ ?_
 conv=>whnf
 repeat'((first|(apply sq;intro K U)|(apply si;intro A B Y Z)|(apply Y;clear Z B Y A)|(apply U;clear U K)|fail)<;>conv=>whnf)
 refine(QT g fi ca H f J D hst hD hxl s0 hj0).use (rest:=[]) (by simpa using hs) ?_;rintro r post σ ⟨rfl,s',hj,rfl⟩ hs
 conv=>whnf
 repeat'((first|apply st|(apply Y;clear Z B Y A)|(apply U;clear U K)|refine⟨rfl,?_⟩|fail)<;>conv=>whnf)
 exact AK ⟨_,⟨by rw[<-VW f xs 0],s',hj,rfl⟩,by simpa using hs⟩
def lI {v:V} {xs:List Int} (hst:NA Tryz.prog (.f (.func g) fi ca) eI (fun s=> .own v 1 (iL xs)::H s) f J D):NA Tryz.prog (.f (.func 301) [] [.rp [.f (.func g) fi ca]]) eI (fun s=> .own v 1 (iL xs)::H s) (fun y=> !f y) J D:=by
 intro y s hd hj σ hs;refine BD ?_;show As Tryz.prog 301 ([]++[eI y]++[.rp [.f (.func g) fi ca]]) σ _;refine fM kZ ?_
 conv=>whnf
 repeat'((first|apply st|(apply sq;intro K U)|(apply si;intro A B Y Z)|(apply Y;clear Z B Y A)|(apply U;clear U K)|fail)<;>conv=>whnf)
 refine hst.use hd hj hs ?_;clear hs;intro s' σ hj' hs
 conv=>whnf
 repeat'((first|apply st|(apply Y;clear Z B Y A)|(apply U;clear U K)|fail)<;>conv=>whnf)
 exact AK ⟨rfl,s',hj',hs⟩
def ZZ {v:V} {xs:List Int} (hst:NA Tryz.prog (.f (.func g) fi ca) eI (fun s=> .own v 1 (iL xs)::H s) f J D) (hD: ∀x∈xs,D x) (hxl:xs.length<=Ay) (s0:S) (hj0:J s0) :
    BK Tryz.prog 246 [v,.f (.func g) fi ca] (.own v 1 (iL xs)::H s0) fun r post=>r= .ret (.b (xs.all f))/\ ∃s',J s'/\post= .own v 1 (iL xs)::H s':=by
 intro σ hs;refine fQ kZ ?_
 conv=>whnf
 repeat'((first|(apply sq;intro K U)|(apply si;intro A B Y Z)|(apply Y;clear Z B Y A)|(apply U;clear U K)|fail)<;>conv=>whnf)
 refine(Nn 301 [] [.rp [.f (.func g) fi ca]] H _ J D (lI g fi ca H f J D hst) hD hxl s0 hj0).use (rest:=[]) (by simpa using hs) ?_;rintro r post σ ⟨rfl,s',hj,rfl⟩ hs
 conv=>whnf
 repeat'((first|apply st|(apply Y;clear Z B Y A)|(apply U;clear U K)|fail)<;>conv=>whnf)
 refine AK ⟨_,⟨?_,s',hj,rfl⟩,by simpa using hs⟩;rw[List.all_eq_not_any_not]
end
abbrev IL (l:Fact):List V:=xF (Ai l).1++[.b (Ai l).2]
abbrev DY (ls:List Fact):List (List V):=ls.map IL
def kN (xs ys:List Int) (f g:Bool):Pure Tryz.prog 95 [.l (iL xs) f,.l (iL ys) g] (.b (xs==ys)):=by
 refine Pure.fit (by kernel_rfl) fun hf=>?_
 have hx:=di hf.1;have hy:=di hf.2.1;have hM:=Mx;refine wD kZ ?_;have hs:=Sn
 conv=>whnf
 repeat'((first|apply st|(apply sq;intro K U)|(apply si;intro A B Y Z)|(apply Y;clear Z B Y A)|(apply U;clear U K)|refine⟨rfl,?_⟩|(constructor<;>intro hc<;>(try rw[hc])<;>(replace hc:=bp hc)<;>(try simp(disch:=omega) only[Bu,wrap64,AV]at hc))|clear U K)<;>conv=>whnf)
 .exact AS (by(have:(xs==ys)=false:=by(simp;intro e;subst e;simp at hc));rw[this])
 have hl:xs.length=ys.length:=by omega
 refine D3 xs.length (fun k (_:Unit)=>[(13,eI (Bq k))]) (fun _ _=>[]) (fun k _=>(xs==ys)=(xs.drop k==ys.drop k)) () rfl rfl Sat.nil ?_;clear hs;rintro k - σ hk hn hs;rcases BM xs hk with⟨x,hxk,hlt⟩|hke
 .obtain⟨y,hyk⟩: ∃y,ys[k]? =some y:=⟨_,ES (by omega)⟩
  rw[drop_cons hxk,drop_cons hyk]at hn
  conv=>whnf
  repeat'((first|apply st|(apply sq;intro K U)|(apply si;intro A B Y Z)|(apply Y;clear Z B Y A)|(apply U;clear U K)|apply dr|refine⟨rfl,?_⟩|refine ix ?_|(refine DV (fun hc=>?_)<;>(try rw[hc])<;>clear hc)|(constructor<;>intro hc<;>(try rw[hc])<;>(replace hc:=bp hc))|clear U K)<;>conv=>whnf)
  .exact AS (by rw[hn];simp[*])
  .exact⟨hlt,(),rfl,by rw[hn];simp[*],hs⟩
 .conv=>whnf
  repeat'((first|apply st|(apply sq;intro K U)|(apply si;intro A B Y Z)|(apply Y;clear Z B Y A)|(apply U;clear U K)|refine⟨rfl,?_⟩|(refine EZ (fun hc=>?_)<;>(try rw[hc])<;>clear hc)|clear U K)<;>conv=>whnf)
  exact AS (by rw[hn,BX hke,BX (by omega)];rfl)
def lX (a b:Bool) (u:V):Pure Tryz.prog 293 [.l [] a,.l [] b,u] (.b true):=by
 refine r7 kZ ?_;have hs:=Sn;have hM:=Mx
 conv=>whnf
 repeat'((first|apply st|(apply sq;intro K U)|(apply si;intro A B Y Z)|(apply Y;clear Z B Y A)|(apply U;clear U K)|refine⟨rfl,?_⟩|(constructor<;>intro hc<;>(try rw[hc])<;>(replace hc:=bp hc)<;>(try simp(disch:=omega) only[Bu,wrap64,AV]at hc)<;>try(exfalso;omega))|fail)<;>conv=>whnf)
 refine D3 0 (fun k (_:Unit)=>[(17,eI (Bq k))]) (fun _ _=>[]) (fun _ _=>True) () rfl trivial Sat.nil ?_;clear hs;rintro k - σ hk - hs;obtain rfl:k=0:=by omega
 conv=>whnf
 repeat'((first|apply st|(apply sq;intro K U)|(apply si;intro A B Y Z)|(apply Y;clear Z B Y A)|(apply U;clear U K)|refine⟨rfl,?_⟩|(constructor<;>intro hc<;>(try rw[hc])<;>(replace hc:=bp hc)<;>(try simp(disch:=omega) only[Bu,wrap64,AV]at hc))|clear U K)<;>conv=>whnf)
 .exfalso
  simp at hc
 .exact AS rfl
set_option maxHeartbeats 1000000 in
def kO (f g:Fact) (hf:f.kids= []) (hg:g.kids= []):Pure Tryz.prog 227 [.a (xF f),.a (xF g)] (.b (G6 f g)):=by
 have e:G6 f g=(f.op==g.op&&(f.arg==g.arg&&(f.cls==g.cls&&(f.n==g.n&&f.path==g.path)))):=by
  rw[U2,hf,hg];simp[Wx]
 obtain⟨o,a,p,c,n,k⟩:=f;obtain⟨o',a',p',c',n',k'⟩:=g;simp only[Fact.kids]at hf hg;subst hf;subst hg;refine sg kZ ?_;have hs:=Sn;rw[e]
 conv=>whnf
 repeat'((first|apply st|(apply sq;intro K U)|(apply si;intro A B Y Z)|(apply Y;clear Z B Y A)|(apply U;clear U K)|refine⟨rfl,?_⟩|refine Pure.use (kN _ _ _ _) ?_|refine Pure.use (lX _ _ _) ?_|(constructor<;>intro hc<;>(try rw[hc])<;>(replace hc:=bp hc))|fail)<;>conv=>whnf)
 all_goals simp only[Fact.op,Fact.arg,Fact.cls,Fact.n,Fact.path]at *
 all_goals exact AS (by simp[*])
def Sa:FI IL 7:=fun l=>by
 refine⟨rfl,fun v hv=>?_⟩;rcases Dr.1 hv with hv|hv
 .exact(Sb (Ai l).1).2 v (by show v∈F0 (Ai l).1;rw[CT];exact hv)
 .simp at hv;subst hv;rfl
def QY (x y:Fact):Bool:=(Ai x).2==(Ai y).2&&G6 (Ai x).1 (Ai y).1
abbrev YR (l:Fact):Prop:=(Ai l).1.kids= []
abbrev oo (f:Fact->Bool):Fact->Unit->Bool×Unit:=fun y _=>(f y,())
def kP (x:Fact) (hx1:YR x) (n:Nat):Cu Tryz.prog (.f (.func 266) [] [.p n 0]) (fun y=> .a (IL y)) (fun _:Unit=>[.box n (IL x)]) (oo (QY x)) (fun y _=>YR y):=by
 intro y s hy1 σ hs;refine BD ?_;show As Tryz.prog 266 ([]++[.a (IL y)]++[.p n 0]) σ _;refine sP kZ ?_;unfold QY
 conv=>whnf
 repeat'((first|apply st|(apply sq;intro K U)|(apply si;intro A B Y Z)|(apply Y;clear Z B Y A)|(apply U;clear U K)|refine⟨kZ,?_⟩|refine ld ?_|refine Pure.use (kO _ _ hx1 hy1) ?_|(constructor<;>intro hc<;>(try rw[hc])<;>(replace hc:=bp hc))|fail)<;>conv=>whnf)
 all_goals exact AK ⟨by simp[oo, *],hs⟩
section
variable {S:Type} (g:FuncId) (fi ca:List V) (H:S->List At)
def QS (stp:Fact->S->Bool×S) (D:Fact->S->Prop) {v:V} {xs:List Fact} (hst:Cu Tryz.prog (.f (.func g) fi ca) (fun y=> .a (IL y)) (fun s=> .own v 7 (DY xs)::H s) stp D) (hxl:xs.length<=Ay) (s0:S) (hd:Wc stp D xs s0) :
    BK Tryz.prog 313 [v,.f (.func g) fi ca] (.own v 7 (DY xs)::H s0) fun r post=>r= .ret (eI (Bl stp xs 0 s0).1)/\post= .own v 7 (DY xs)::H (Bl stp xs 0 s0).2:=by
 intro σ hs;have hM:=Mx;refine rj kZ ?_
 conv=>whnf
 repeat'((first|apply st|(apply sq;intro K U)|(apply si;intro A B Y Z)|(apply Y;clear Z B Y A)|(apply U;clear U K)|refine lo ?_|fail)<;>conv=>whnf)
 refine D3 xs.length (fun k (_:S)=>[(8,eI (Bq k))]) (fun _ s=> .own v 7 (DY xs)::H s) (fun k s=>Wc stp D (xs.drop k) s/\Bl stp xs 0 s0=Bl stp (xs.drop k) k s) s0 rfl ⟨hd,rfl⟩ hs ?_;clear hs;rintro k s σ hk ⟨hd,hn⟩ hs;have hck:Bq k=k:=AV (by omega);rcases BM xs hk with⟨y,hy,hlt⟩|hke
 .rw[drop_cons hy]at hn hd
  obtain⟨hd1,hd2⟩:=hd;rw[Bl]at hn
  conv=>whnf
  repeat'((first|apply st|(apply sq;intro K U)|(apply si;intro A B Y Z)|(apply Y;clear Z B Y A)|(apply U;clear U K)|refine⟨rfl,?_⟩|refine⟨kZ,?_⟩|refine oi ?_|refine ol fun x hx=>?_|(refine DV (fun hc=>?_)<;>(try rw[hc])<;>clear hc)|fail)<;>conv=>whnf)
  obtain rfl:x=y:=by rw[hck,Hd,hy]at hx;exact(Option.some.inj hx).symm
  refine hst.use hd1 hs ?_;clear hs;intro σ hs;cases hyes:(stp x s).1
  .rw[hyes,if_neg (by decide)]at hn
   conv=>whnf
   repeat'((first|apply st|(apply si;intro A B Y Z)|(apply Y;clear Z B Y A)|(apply U;clear U K)|refine⟨rfl,?_⟩|clear U K)<;>conv=>whnf)
   exact⟨hlt,_,rfl,⟨hd2,hn⟩,hs⟩
  .rw[hyes,if_pos rfl]at hn
   conv=>whnf
   repeat'((first|apply st|(apply sq;intro K U)|(apply si;intro A B Y Z)|(apply Y;clear Z B Y A)|(apply U;clear U K)|clear U K)<;>conv=>whnf)
   rw[hn];exact AK ⟨_,⟨by rw[hck],rfl⟩,hs⟩
 .rw[BX hke,Bl]at hn
  conv=>whnf
  repeat'((first|apply st|(apply sq;intro K U)|(apply si;intro A B Y Z)|(apply Y;clear Z B Y A)|(apply U;clear U K)|refine⟨rfl,?_⟩|(refine EZ (fun hc=>?_)<;>(try rw[hc])<;>clear hc)|clear U K)<;>conv=>whnf)
  rw[hn];exact AK ⟨_,⟨rfl,rfl⟩,hs⟩
def Mw (stp:Fact->S->Bool×S) (D:Fact->S->Prop) {v:V} {xs:List Fact} (hst:Cu Tryz.prog (.f (.func g) fi ca) (fun y=> .a (IL y)) (fun s=> .own v 7 (DY xs)::H s) stp D) (hxl:xs.length<=Ay) (s0:S) (hd:Wc stp D xs s0) :
    BK Tryz.prog 265 [v,.f (.func g) fi ca] (.own v 7 (DY xs)::H s0) fun r post=>r= .ret (.b (decide ((Bl stp xs 0 s0).1≥0)))/\post= .own v 7 (DY xs)::H (Bl stp xs 0 s0).2:=by
 intro σ hs;refine sQ kZ ?_
 conv=>whnf
 repeat'((first|(apply sq;intro K U)|(apply si;intro A B Y Z)|(apply Y;clear Z B Y A)|(apply U;clear U K)|fail)<;>conv=>whnf)
 refine(QS g fi ca H stp D hst hxl s0 hd).use (rest:=[]) (by simpa using hs) ?_;rintro r post σ ⟨rfl,rfl⟩ hs
 conv=>whnf
 repeat'((first|apply st|(apply Y;clear Z B Y A)|(apply U;clear U K)|refine⟨rfl,?_⟩|fail)<;>conv=>whnf)
 exact AK ⟨_,⟨rfl,rfl⟩,by simpa using hs⟩
end
def ie (a:List Fact) (f:Bool) (hl:a.length<=1000000):BK Tryz.prog 264 [.l (DY a) f] [] fun r post=> ∃v,r= .ret v/\post= [.own v 7 (DY a)]:=by
 intro σ hs;have hM:=Mx;refine sR kZ ?_
 conv=>whnf
 repeat'((first|(apply sq;intro K U)|(apply si;intro A B Y Z)|(apply Y;clear Z B Y A)|(apply U;clear U K)|fail)<;>conv=>whnf)
 refine⟨fun e t=>?_,fun _=>?_⟩
 .have hxe:a= []:=List.map_eq_nil_iff.1 e
  subst hxe
  conv=>whnf
  repeat'((first|apply st|(apply sq;intro K U)|(apply si;intro A B Y Z)|(apply Y;clear Z B Y A)|(apply U;clear U K)|(constructor<;>intro hc<;>(try rw[hc])<;>(replace hc:=bp hc))|clear U K)<;>conv=>whnf)
  .exact AK ⟨_,⟨_,rfl,rfl⟩,DQ hs 7⟩
  .replace hs:=DQ hs 7
   refine OV hs 0 (xs:=[]) (ys:=[]) rfl (by simp) Sa fun v σ hs=>?_
   conv=>whnf
   repeat'((first|apply st|(apply Y;clear Z B Y A)|(apply U;clear U K)|fail)<;>conv=>whnf)
   exact AK ⟨_,⟨_,rfl,rfl⟩,hs⟩
 .conv=>whnf
  repeat'((first|apply st|(apply sq;intro K U)|(apply si;intro A B Y Z)|(apply Y;clear Z B Y A)|(apply U;clear U K)|fail)<;>conv=>whnf)
  replace hs:=DQ hs 7;refine OV hs 0 (xs:=[]) (ys:=a) rfl (by simp;omega) Sa fun v σ hs=>?_
  conv=>whnf
  repeat'((first|apply st|(apply Y;clear Z B Y A)|(apply U;clear U K)|fail)<;>conv=>whnf)
  exact AK ⟨_,⟨_,rfl,rfl⟩,hs⟩
def Uy {w:AJ} {x:Fact} (h:C1 w x):x=if(Ai x).2 then Ea (Ai x).1 else(Ai x).1:=by
 obtain⟨g,hn,hl,rfl|rfl⟩:=h
 .have:=E8 hl
  have h5: ¬x.op=5:=by omega
  simp only[Ai,if_neg h5];rfl
 .rfl
def Yl {w:AJ} {x y:Fact} (hx1:C1 w x) (hy1:C1 w y):QY x y=G6 x y:=by
 rw[Hf,Mb];simp only[QY,A8,Cr,Mb];constructor
 .rintro⟨h1,h2⟩
  rw[Uy hx1,Uy hy1,h1,h2]
 .rintro rfl
  exact⟨rfl,rfl⟩
def RA {w:AJ} {x:Fact} (h:C1 w x):YR x:=by
 obtain⟨-,hn,hl⟩:=HM h;have hlo:=E8 hl;have har:=By _ hn;rw[Le,A8,Cr]at har
 have h0:Cy (Ai x).1.op=0:=by
  have h5: ¬(Ai x).1.op=5:=by omega
  have h6: ¬((Ai x).1.op=6\/(Ai x).1.op=7):=by omega
  simp[Cy,h5,h6]
  try omega
 rw[h0]at har;exact Zm.1 har.1
def bM {w:AJ} (a b:List Fact) (f g:Bool) (hla: ∀x∈a,C1 w x) (hlb: ∀x∈b,C1 w x) (hl:a.length+b.length<1000000):Pure Tryz.prog 190 [.l (DY a) f,.l (DY b) g] (.l (DY (Cf a b)) false):=by
 have hM:=Mx;refine Pure.of ?_;refine tF kZ ?_;have hs:=Sn
 conv=>whnf
 repeat'((first|(apply sq;intro K U)|(apply si;intro A B Y Z)|(apply Y;clear Z B Y A)|(apply U;clear U K)|fail)<;>conv=>whnf)
 refine(ie a f (by omega)).use (rest:=[]) (by simpa using hs) ?_;clear hs;rintro r post σ ⟨v,rfl,rfl⟩ hs
 conv=>whnf
 repeat'((first|apply st|(apply sq;intro K U)|(apply si;intro A B Y Z)|(apply Y;clear Z B Y A)|(apply U;clear U K)|fail)<;>conv=>whnf)
 refine D3 b.length (fun k v=>[(5,v),(12,eI (Bq k))]) (fun k v=>[.own v 7 (DY (Cf a (b.take k)))]) (fun _ _=>True) v rfl trivial hs ?_;clear hs;rintro k v σ hk - hs;have hml:=RI a (b.take k);rw[NT]at hml;rcases BM b hk with⟨x,hxk,hlt⟩|hke
 .have hsn:=Xq a (b.take k) x
  rw[<-Ar hxk]at hsn;have hxg:=hlb x (Dm hxk)
  have hmem: ∀y∈Cf a (b.take k),C1 w y:=fun y hy=>by
   rcases RH _ _ _ hy with h|h
   .exact hla y h
   .exact hlb y (List.mem_of_mem_take h)
  generalize Cf a (b.take k)=m at *
  have hany:m.any (QY x)=m.any (G6 x):=by
   rw[Hf,He,He];exact⟨fun⟨y,hy,h⟩=>⟨y,hy,by rw[<-Yl hxg (hmem y hy)];exact h⟩,fun⟨y,hy,h⟩=>⟨y,hy,by rw[Yl hxg (hmem y hy)];exact h⟩⟩
  conv=>whnf
  repeat'((first|apply st|(apply sq;intro K U)|(apply si;intro A B Y Z)|(apply Y;clear Z B Y A)|(apply U;clear U K)|refine⟨rfl,?_⟩|refine⟨kZ,?_⟩|refine ix ?_|refine Di fun σ hs=>?_|(refine DV (fun hc=>?_)<;>(try rw[hc])<;>clear hc)|(intro nn hnn;generalize hg:A6 _ nn _=σ;refine Ci hg fun hs=>?_;clear hg)|fail)<;>conv=>whnf)
  generalize nn=n7 at *;have hs2:Sat σ [.own v 7 (DY m),.box n7 (IL x)]:=hs.perm (.swap _ _ _);clear hs hnn;refine(Mw 266 [] [.p n7 0] (fun _:Unit=>[.box n7 (IL x)]) (oo (QY x)) (fun y _=>YR y) ((kP x (RA hxg) n7).more [_]) (by omega) () (Gk fun y hy _=>RA (hmem y hy))).use (rest:=[]) hs2 ?_;clear hs2;rintro r post σ ⟨rfl,rfl⟩ hs;rw[La,hany];cases hy:m.any (G6 x)
  .rw[hy,if_neg Bool.false_ne_true]at hsn
   conv=>whnf
   repeat'((first|apply st|(apply si;intro A B Y Z)|(apply Y;clear Z B Y A)|(apply U;clear U K)|refine⟨kZ,?_⟩|refine ld ?_|refine FX ?_|fail)<;>conv=>whnf)
   refine Hu (YU (x:=x) (xs:=m) (enc:=IL) hs 0 rfl (by omega) Sa fun v σ hs hsl=>?_)
   conv=>whnf
   repeat'((first|(apply si;intro A B Y Z)|(apply Y;clear Z B Y A)|(apply U;clear U K)|refine⟨rfl,?_⟩|clear U K)<;>conv=>whnf)
   exact⟨hlt,v,rfl,trivial,by rw[hsn];exact hs.less (.cons₂ _ (QV _))⟩
  .rw[hy,if_pos rfl]at hsn
   conv=>whnf
   repeat'((first|apply st|(apply si;intro A B Y Z)|(apply Y;clear Z B Y A)|(apply U;clear U K)|refine⟨rfl,?_⟩|refine Es ?_|clear U K)<;>conv=>whnf)
   exact⟨hlt,v,rfl,trivial,by rw[hsn];exact hs.less (.cons₂ _ (QV _))⟩
 .conv=>whnf
  repeat'((first|apply st|(apply sq;intro K U)|(apply si;intro A B Y Z)|(apply Y;clear Z B Y A)|(apply U;clear U K)|refine⟨rfl,?_⟩|(refine EZ (fun hc=>?_)<;>(try rw[hc])<;>clear hc)|clear U K)<;>conv=>whnf)
  exact cQ (PL hs 0 rfl (vf:= .l (DY (Cf a b)) false) (by rw[CJ hke])) fun r σ h=>h.1
end Go.Gl
namespace Go.Gl
open Go.Proofs
abbrev fu:AX:=(.seq [0,3] (.Cs [⟨(some 3),.Nd (.t 1),none⟩,
 ⟨(some 4),.mv (.c .pn),none⟩])
 (.seq [0,3,5,6] (.G2 [0,3,5,6] [⟨0,⟨(some 8),.mv (.t 0),none⟩,[],[]⟩,
  ⟨1,⟨(some 9),.H5 (.t 8),none⟩,[],[]⟩,
  ⟨2,⟨(some 10),.Fc 1 (.t 9),none⟩,[],[]⟩,
  ⟨3,⟨(some 11),.load none (.t 10),none⟩,[],[]⟩,
  ⟨4,⟨(some 12),.load (some 4) (.t 3),none⟩,[],[]⟩,
  ⟨5,⟨(some 13),.lookup (.a [.i64,.i64,.i64,.i64]) .pn true (.t 11) (.t 12),none⟩,[],[]⟩,
  ⟨6,⟨(some 7),.mv (.t 13),none⟩,[],[]⟩,
  ⟨7,⟨(some 14),.extract 0 (.t 7),none⟩,[],[]⟩,
  ⟨8,⟨(some 15),.extract 1 (.t 7),none⟩,[],[]⟩,
  ⟨9,⟨(some 5),.mv (.t 14),none⟩,[],[]⟩,
  ⟨10,⟨(some 6),.mv (.t 15),none⟩,[],[]⟩])
 (.seq [5] (.seq [0,3,5,17] (.Cs [⟨(some 16),.mv (.t 6),none⟩,
  ⟨(some 17),.not (.t 16),none⟩])
 (.cond (.t 17)
 (.seq [0,3,5] (.Cs [⟨(some 18),.build [(.i .i64 0),(.i .i64 0),(.l [] true)] [(0,1,(.c (.i .i64 (-1000000000)))),(1,1,(.c (.i .i64 1000000000)))],none⟩,
  ⟨(some 19),.build [(.i .i64 0),(.i .i64 0),(.l [] true),(.i .u64 0),(.i .u64 0),(.b false),(.b false),(.l [] true)] [(0,3,(.t 18))],none⟩,
  ⟨(some 20),.box (.t 19),none⟩,
  ⟨(some 5),.mv (.t 20),none⟩])
 (.G2 [5] [⟨0,⟨(some 21),.mv (.t 0),none⟩,[],[]⟩,
  ⟨1,⟨(some 22),.H5 (.t 21),none⟩,[],[]⟩,
  ⟨2,⟨(some 23),.Fc 1 (.t 22),none⟩,[],[]⟩,
  ⟨3,⟨(some 24),.load none (.t 23),none⟩,[],[]⟩,
  ⟨4,⟨(some 25),.load (some 4) (.t 3),none⟩,[],[]⟩,
  ⟨5,⟨(some 26),.mv (.t 5),none⟩,[],[]⟩,
  ⟨6,⟨none,.D8 (.a [.i64,.i64,.i64,.i64]) (.t 24) (.t 25) (.t 26),none⟩,[],[]⟩]))
 .skip))
 (.seq [4] (.Cs [⟨(some 27),.mv (.t 5),none⟩,
  ⟨(some 4),.mv (.t 27),none⟩])
 .ret))))
def kW:Tryz.f198.body.bind (res Tryz.prog Tryz.f198.ntmps [] [3])=some (erase fu):=by kernel_rfl
def mb {args:List V} (hn:args.length<=28) {σ:AH} {Q:R->AH->Prop} (h:W Tryz.prog fu (dR [4] Q) (A3 0 args) σ):As Tryz.prog 198 args σ Q:=
 KT Tryz.func198 (by kernel_rfl) kW rfl hn (jc h)
end Go.Gl
namespace Go.Gl
open Go.Proofs
attribute [local irreducible] As Am Ac AQ AM Ab AP AR AL Aa AN AO Ao Ax Sat AW Au Ad W
abbrev Tm (w:AJ) (us:List Nat) (L:Nat):V:= .rp [.rp (wC w us),.m L]
def Jb (es es':List Bx):Prop:= ∃new:List Bx,es'=es++new/\ ∀x∈new,x.k=k0
def Jb.refl (es:List Bx):Jb es es:=⟨[],by simp,by simp⟩
def Jb.trans {a b c:List Bx} (h1:Jb a b) (h2:Jb b c):Jb a c:=by
 obtain⟨x,rfl,hx⟩:=h1;obtain⟨y,rfl,hy⟩:=h2;refine⟨x++y,by simp,fun z hz=>?_⟩;rcases Dr.1 hz with h|h
 .exact hx z h
 .exact hy z h
def Jb.mem {a b:List Bx} (h:Jb a b) {e:Bx} (he:e∈a):e∈b:=by
 obtain⟨x,rfl,_⟩:=h;exact NU _ he
structure jv (kf:Int->List Int->Kn) (es es':List Bx) (a:Int) (p:List Int) (e:Bx):Prop where
 inv:Br kf es'
 ext:Jb es es'
 mem:e∈es'
 is:e.is a p=true
def jv.k {kf:Int->List Int->Kn} {es es':List Bx} {a:Int} {p:List Int} {e:Bx} (h:jv kf es es' a p e):e.k=kf a p:=by
 have:=h.inv.val e h.mem;obtain⟨h1,h2⟩:=F5.1 h.is;rw[this,h1,h2]
def MI {σ:AH} {l:List At} (h:Sat σ l) (i:Nat) {n:Nat} {kvs:List (V×V)} {ks:KS} {z vk:V} {ok:Bool} {o:Option V} (hi:l[i]? =some (.map n kvs)) (hk:BI ks vk=true) (hks: ∀kv∈kvs,BI ks kv.1=true) (hf:CU vk kvs=o) {K:V->Prop} (h':K (found z ok o)) :
    AN σ ks z ok (.m n) vk K:=I6 h i hi hk hks (hf ▸ h')
def Ku (w:AJ) (us:List Nat) {kf:Int->List Int->Kn} {L:Nat} {es:List Bx} (h:Br kf es) {a:Int} {p:List Int} (hp:p.length<=2) :
    BK Tryz.prog 198 [Tm w us L,B6 a p] (B8 L es) fun r post=> ∃es' e,jv kf es es' a p e/\r= .ret (.p e.b 0)/\post=B8 L es':=by
 intro σ hs;refine mb kZ ?_;unfold B8 at hs;rcases dY a p es with hn|⟨pre,e,post,rfl,he,hpre⟩
 .have hf:=O4 hp h.len hn
  conv=>whnf
  repeat'((first|apply st|(apply sq;intro K U)|(apply si;intro A B Y Z)|(apply Y;clear Z B Y A)|(apply U;clear U K)|apply dr|refine⟨kZ,?_⟩|refine FX ?_|refine MI hs 0 rfl rfl (HO _) hf ?_|refine Hp hs 1 rfl rfl (HO _) fun σ hs=>?_|(intro nn hnn;generalize hg:A6 _ nn _=σ;refine Ci hg fun hs=>?_;clear hg)|fail)<;>conv=>whnf)
  simp only[List.set_cons_succ,List.set_cons_zero]at hs;change Sat σ (_:: .map L (DA (B6 a p) (.p nn 0) (R3 es))::_)at hs;rw[W7 hp nn (.l [] true) (.l [] true) k0 h.len hn]at hs;have hs2:=DQ (DQ hs 1) 1;refine AK ⟨_,⟨es++[⟨a,p,nn,.l [] true,.l [] true,k0⟩],⟨a,p,nn,.l [] true,.l [] true,k0⟩,⟨h.add hp hn _ _ _,⟨_,rfl,by simp⟩,by simp,by simp[Bx.is]⟩,rfl,rfl⟩,?_⟩;unfold B8;rw[List.flatMap_append,List.flatMap_cons,List.flatMap_nil,Ep];refine hs2.perm ((List.perm_middle (l₁:=[_,_,_])).trans (.cons _ (Np.trans (List.Perm.append_left _ (List.reverse_perm _).symm))))
 .have hf:=O3 hp he h.len hpre
  conv=>whnf
  repeat'((first|apply st|(apply sq;intro K U)|(apply si;intro A B Y Z)|(apply Y;clear Z B Y A)|(apply U;clear U K)|apply dr|refine⟨kZ,?_⟩|refine Es ?_|refine MI hs 0 rfl rfl (HO _) hf ?_|fail)<;>conv=>whnf)
  exact AK ⟨_,⟨_,e,⟨h,.refl _,by simp,he⟩,rfl,rfl⟩,hs⟩
def N0 (a:Int) (p:List Int) (s:Int) (hp:p.length<2):Pure Tryz.prog 199 [B6 a p,eI s] (B6 a (p++[s])):=by
 refine s9 kZ ?_;have hs:=Sn
 match p,hp with
 | [],_=>
   conv=>whnf
   repeat'((first|apply st|(apply sq;intro K U)|(apply si;intro A B Y Z)|(apply Y;clear Z B Y A)|(apply U;clear U K)|refine⟨rfl,?_⟩|refine⟨kZ,?_⟩|refine WY ?_|refine ld ?_|refine EK fun σ hs=>?_|refine Di fun σ hs=>?_|(intro nn hnn;generalize hg:A6 _ nn _=σ;refine Ci hg fun hs=>?_;clear hg)|fail)<;>conv=>whnf)
   all_goals exact AS rfl
 | [x],_=>
   conv=>whnf
   repeat'((first|apply st|(apply sq;intro K U)|(apply si;intro A B Y Z)|(apply Y;clear Z B Y A)|(apply U;clear U K)|refine⟨rfl,?_⟩|refine⟨kZ,?_⟩|refine WY ?_|refine ld ?_|refine EK fun σ hs=>?_|refine Di fun σ hs=>?_|(intro nn hnn;generalize hg:A6 _ nn _=σ;refine Ci hg fun hs=>?_;clear hg)|fail)<;>conv=>whnf)
   all_goals exact AS rfl
set_option maxHeartbeats 1000000 in
def uB {b:Nat} {vn vs:V} {k:Kn} (f:Fact) (c:Bool) (hl:f.op=2\/f.op=3\/f.op=4) (hc:f.op=2->0<=f.cls/\f.cls<64) (hm:k.BJ<18446744073709551616) (hn:k.DU<18446744073709551616) (hno:k.no.length<1000000) (hN: -1000000000<=f.n/\f.n<=1000000000) :
    BK Tryz.prog 269 [.p b 0,.a (xF f++[.b c])] (pK b vn vs k) fun r post=>r= .ret (.t [])/\ ∃vn',post=pK b vn' vs (Bt k f c):=by
 intro σ hs;have hM:=Mx;refine sN kZ ?_;rw[show xF f++[V.b c]= [eI f.op,eI f.arg,.l (iL f.path) false,eI f.cls,eI f.n,.l (f.kids.map F0) false,.b c] from rfl];have hw:IntKind.i64.wrap (f.n - 1)=f.n - 1:=wrap64 (by omega) (by omega);cases c<;>rcases hl with h2|h3|h4
 .have hE:Bt k f false= {k with BJ:=k.BJ|||2 ^ f.cls.toNat}:=by rw[Bt,if_pos h2,if_neg Bool.false_ne_true]
  rw[hE]
  conv=>whnf
  repeat'((first|apply st|(apply sq;intro K U)|(apply si;intro A B Y Z)|(apply Y;clear Z B Y A)|(apply U;clear U K)|apply dr|refine⟨rfl,?_⟩|refine ld ?_|refine EK fun σ hs=>?_|refine Es ?_|refine Pure.use (HG _ _ hm (by omega) (by omega)) ?_|(constructor<;>intro hc<;>(try rw[hc])<;>(replace hc:=bp hc)<;>try(exfalso;omega))|fail)<;>conv=>whnf)
  exact AK ⟨_,⟨rfl,vn,rfl⟩,hs⟩
 .have hE:Bt k f false= {k with high:=if f.n - 1<k.high then f.n - 1 else k.high,whole:=true}:=by rw[Bt,if_neg (by omega),if_pos h3,if_neg Bool.false_ne_true]
  rw[hE]
  conv=>whnf
  repeat'((first|apply st|(apply sq;intro K U)|(apply si;intro A B Y Z)|(apply Y;clear Z B Y A)|(apply U;clear U K)|apply dr|refine⟨rfl,?_⟩|refine ld ?_|refine EK fun σ hs=>?_|refine Es ?_|(constructor<;>intro hc<;>(try rw[hc])<;>(replace hc:=bp hc)<;>try(exfalso;omega))|fail)<;>conv=>whnf)
  rw[hw]at hs;exact AK ⟨_,⟨rfl,vn,rfl⟩,hs⟩
 .have hE:Bt k f false= {k with low:=if f.n > k.low then f.n else k.low,high:=if f.n<k.high then f.n else k.high,whole:=true}:=by rw[Bt,if_neg (by omega),if_neg (by omega),if_neg Bool.false_ne_true]
  rw[hE]
  conv=>whnf
  repeat'((first|apply st|(apply sq;intro K U)|(apply si;intro A B Y Z)|(apply Y;clear Z B Y A)|(apply U;clear U K)|apply dr|refine rk ?_ ?_|exact fun s e=>by cases e;rfl|refine⟨rfl,?_⟩|refine ld ?_|refine EK fun σ hs=>?_|(constructor<;>intro hc<;>(try rw[hc])<;>(replace hc:=bp hc)<;>try(exfalso;omega))|fail)<;>conv=>whnf)
  exact AK ⟨_,⟨rfl,vn,rfl⟩,hs⟩
 .have hE:Bt k f true= {k with DU:=k.DU|||2 ^ f.cls.toNat}:=by rw[Bt,if_pos h2,if_pos rfl]
  rw[hE]
  conv=>whnf
  repeat'((first|apply st|(apply sq;intro K U)|(apply si;intro A B Y Z)|(apply Y;clear Z B Y A)|(apply U;clear U K)|apply dr|refine⟨rfl,?_⟩|refine ld ?_|refine EK fun σ hs=>?_|refine FX ?_|refine Pure.use (HG _ _ hn (by omega) (by omega)) ?_|(constructor<;>intro hc<;>(try rw[hc])<;>(replace hc:=bp hc)<;>try(exfalso;omega))|fail)<;>conv=>whnf)
  exact AK ⟨_,⟨rfl,vn,rfl⟩,hs⟩
 .have hE:Bt k f true= {k with low:=if f.n > k.low then f.n else k.low}:=by rw[Bt,if_neg (by omega),if_pos h3,if_pos rfl]
  rw[hE]
  conv=>whnf
  repeat'((first|apply st|(apply sq;intro K U)|(apply si;intro A B Y Z)|(apply Y;clear Z B Y A)|(apply U;clear U K)|apply dr|refine⟨rfl,?_⟩|refine ld ?_|refine EK fun σ hs=>?_|refine FX ?_|(constructor<;>intro hc<;>(try rw[hc])<;>(replace hc:=bp hc)<;>try(exfalso;omega))|fail)<;>conv=>whnf)
  exact AK ⟨_,⟨rfl,vn,rfl⟩,hs⟩
 .have hE:Bt k f true= {k with no:=k.no++[f.n]}:=by rw[Bt,if_neg (by omega),if_neg (by omega),if_pos rfl]
  rw[hE]
  conv=>whnf
  repeat'((first|apply st|(apply sq;intro K U)|(apply si;intro A B Y Z)|(apply Y;clear Z B Y A)|(apply U;clear U K)|apply dr|refine⟨rfl,?_⟩|refine ld ?_|refine EK fun σ hs=>?_|refine aq fun v σ hs hsl=>?_|(constructor<;>intro hc<;>(try rw[hc])<;>(replace hc:=bp hc)<;>try(exfalso;omega))|fail)<;>conv=>whnf)
  exact AK ⟨_,⟨rfl,_,rfl⟩,hs⟩
def HA {σ:AH} {X:List At} {L:Nat} {pre post:List Bx} {e:Bx} (h:Sat σ (X++B8 L (pre++e::post))):Sat σ (.box e.b [eI e.k.low,eI e.k.high,e.vn,eU e.k.BJ,eU e.k.DU,.b e.k.whole,.b e.k.Af,e.vs]:: .own e.vn 1 (iL e.k.no):: .own e.vs 1 (iL e.k.AI)::(X++G7 L (pre++e::post) pre post)):=by
 have h2:Sat σ (UY e++(X++G7 L (pre++e::post) pre post)):=h.perm ((List.Perm.append_left X (VL L pre post e)).trans (by rw[<-P7,<-P7];exact Np.append_right _));exact h2
def EB {σ:AH} {X:List At} {L:Nat} {pre post:List Bx} {e e':Bx} (h1:e'.a=e.a) (h2:e'.p=e.p) (h3:e'.b=e.b) (h:Sat σ (UY e'++(X++G7 L (pre++e::post) pre post))):Sat σ (X++B8 L (pre++e'::post)):=by
 rw[<-TV h1 h2 h3]at h;exact h.perm ((List.Perm.append_left X (VL L pre post e')).trans (by rw[<-P7,<-P7];exact Np.append_right _)).symm
def IX {α:Type} (a b c:α) (l:List α):(a::b::c::l).Perm (b::c::a::l):=(List.Perm.swap _ _ _).trans (.cons _ (.swap _ _ _))
def Mk {α:Type} (a:α) (l:List α):(a::l).Perm (l++[a]):=(List.perm_append_singleton a l).symm
def Zq (m:Nat) (k:Kn):Prop:=k.BJ<18446744073709551616/\k.DU<18446744073709551616/\k.no.length<=m/\k.AI.length<=m
def lU (f:Fact) (c:Bool) (j:Nat) (a:Int) (p:List Int) (k:Kn):(DP f c j a p k).BJ=k.BJ:=by unfold DP;(repeat' split)<;>rfl
def qf (f:Fact) (c:Bool) (j:Nat) (a:Int) (p:List Int) (k:Kn):(DP f c j a p k).DU=k.DU:=by unfold DP;(repeat' split)<;>rfl
def vd (f:Fact) (c:Bool) (j:Nat) (a:Int) (p:List Int) (k:Kn):(DP f c j a p k).no=k.no:=by unfold DP;(repeat' split)<;>rfl
def iF (f:Fact) (c:Bool) (j:Nat) (a:Int) (p:List Int) (k:Kn):(DP f c j a p k).AI.length<=k.AI.length+1:=by
 unfold DP
 repeat' split
 .exact Rw _ _
 all_goals simp[Bv]
def vZ {m:Nat} {k:Kn} (h:Zq m k) (f:Fact) (c:Bool) (j:Nat) (a:Int) (p:List Int):Zq (m+1) (DP f c j a p k):=by
 obtain⟨h1,h2,h3,h4⟩:=h;refine⟨by rw[lU];exact h1,by rw[qf];exact h2,by rw[vd];omega,?_⟩;have:=iF f c j a p k;omega
def JK {k:Kn} (c:Bool) (h:k.Af=true):Bv k c= {k with Af:=true}:=by simp[Bv,h]
def Hs {k:Kn} (c:Bool) (h:k.Af=false):Bv k c= {k with Af:= !c}:=by simp[Bv,h]
abbrev FQ (a:Int) (p:List Int):List V:=[eI a,eI (p.length:Int),eI (p.getD 0 0),eI (p.getD 1 0)]
structure du (f:Fact):Prop where
 op:f.op=2\/f.op=3\/f.op=4
 path:f.path.length<=2
 cls:f.op=2->0<=f.cls/\f.cls<64
 n: -1000000000<=f.n/\f.n<=1000000000
set_option maxHeartbeats 2000000 in
def nC (w : AJ) (us:List Nat) {kf:Int->List Int->Kn} {L:Nat} {es:List Bx} (h:Br kf es) (f:Fact) (c:Bool) (hl:du f) {m:Nat} (hm:m<1000) (hb: ∀a p,Zq m (kf a p)) :
    BK Tryz.prog 193 [Tm w us L,.a (xF f++[.b c])] (B8 L es) fun r post=>r= .ret (.t [])/\ ∃es',Br (fun a p=>if a=f.arg/\p=f.path then Bt (DP f c f.path.length a p (kf a p)) f c else DP f c f.path.length a p (kf a p)) es'/\post=B8 L es':=by
 intro σ hs;have hM:=Mx;obtain⟨l1,l2,l3,l4⟩:=hl;refine tD kZ ?_;rw[show xF f++[V.b c]= [eI f.op,eI f.arg,.l (iL f.path) false,eI f.cls,eI f.n,.l (f.kids.map F0) false,.b c] from rfl]
 conv=>whnf
 repeat'((first|apply st|(apply sq;intro K U)|(apply si;intro A B Y Z)|(apply Y;clear Z B Y A)|(apply U;clear U K)|refine⟨kZ,?_⟩|refine ld ?_|refine Di fun σ hs=>?_|(intro nn hnn;generalize hg:A6 _ nn _=σ;refine Ci hg fun hs=>?_;clear hg)|fail)<;>conv=>whnf)
 generalize nn=nx at *;refine(Ku w us h (a:=f.arg) (p:=[]) (by simp)).use (rest:=[.box nx (FQ f.arg [])]) (hs.perm (Mk _ _)) ?_;clear hs hnn;rintro r post σ ⟨es1,e1,got,rfl,rfl⟩ hs;have hek:=got.k;obtain⟨hea,hep⟩:=F5.1 got.is;obtain⟨pre,post,rfl⟩:=List.append_of_mem got.mem;replace hs:=HA (X:=[.box nx (FQ f.arg [])]) (hs.perm Np);cases hnd:e1.k.Af<;>rw[hnd]at hs
 all_goals
  conv=>whnf
  repeat'((first|apply st|(apply sq;intro K U)|(apply si;intro A B Y Z)|(apply Y;clear Z B Y A)|(apply U;clear U K)|refine ld ?_|refine EK fun σ hs=>?_|fail)<;>conv=>whnf)
  obtain⟨e2,es2,Y,Z,hC⟩: ∃(e2:Bx) (es2:List Bx),(Br (fun a p=>DP f c 0 a p (kf a p)) es2/\e2∈es2/\e2.is f.arg (f.path.take 0)=true)/\e2.b=e1.b/\Sat σ (.box nx (FQ f.arg (f.path.take 0))::B8 L es2):=by
   refine⟨⟨e1.a,e1.p,e1.b,e1.vn,e1.vs,Bv e1.k c⟩,_,⟨(got.inv.change e1.b e1.vn e1.vs (Bv e1.k c)).congr fun a p=>?_,M0 _ (.head _),got.is⟩,rfl,?_⟩
   .rw[lS,L3,hea,hep,hek]
    by_cases ha:a=f.arg/\p= []
    .rw[if_pos ha,if_pos ha,ha.1,ha.2]
    .rw[if_neg ha,if_neg ha]
   .refine EB (X:=[.box nx (FQ f.arg [])]) (e:=e1) rfl rfl rfl ?_
    first
     | (rw[JK c hnd];exact hs)
     | (rw[Hs c hnd];exact hs)
  rw[<-Z];clear hs hnd got hek hea hep;refine D3 f.path.length (fun j (x:List Bx×Bx)=>[(31,eI (Bq j)),(5,.p x.2.b 0)]) (fun j x=> .box nx (FQ f.arg (f.path.take j))::B8 L x.1) (fun j x=>Br (fun a p=>DP f c j a p (kf a p)) x.1/\x.2∈x.1/\x.2.is f.arg (f.path.take j)=true) (es2,e2) rfl Y hC ?_;clear Y hC;generalize e2.b=b0 at *;clear Z e2 es2;rintro j ⟨es2,e2⟩ σ hj ⟨hinv,hmem,his⟩ hs;simp only at hinv hmem his hs
  have hek:e2.k=DP f c j f.arg (f.path.take j) (kf f.arg (f.path.take j)):=by
   have:=hinv.val e2 hmem;obtain⟨h1,h2⟩:=F5.1 his;rw[this,h1,h2]
  have hok:Zq (m+1) e2.k:=by rw[hek];exact vZ (hb _ _) f c j _ _
  obtain⟨hea,hep⟩:=F5.1 his;obtain⟨pre2,post2,rfl⟩:=List.append_of_mem hmem;replace hs:=HA (X:=[.box nx (FQ f.arg (f.path.take j))]) hs;have hck:Bq j=j:=AV (by omega);rcases BM f.path hj with⟨s,hsj,hjlt⟩|hje
  .have hct:=fun b=>Ck e2.k.AI b s
   have hk4:=hok.2.2.2;have hsl0:ct e2.k s= {e2.k with AI:=IE e2.k.AI s}:=rfl
   have hne:f.path.take j++[s]≠f.path.take j:=by
    intro e;have:=congrArg List.length e;simp at this
   have hgd:f.path.getD j 0=s:=by rw[Ds,hsj];rfl
   have htk:f.path.take (j+1)=f.path.take j++[s]:=Ar hsj;cases hcB:e2.k.AI.contains s
   all_goals
    rw[hcB]at hct
    conv=>whnf
    repeat'((first|apply st|(apply sq;intro K U)|(apply si;intro A B Y Z)|(apply Y;clear Z B Y A)|(apply U;clear U K)|refine⟨rfl,?_⟩|refine⟨kZ,?_⟩|refine ix ?_|refine ld ?_|refine EK fun σ hs=>?_|refine Di fun σ hs=>?_|refine aq fun v σ hs hsl=>?_|refine FX ?_|refine Es ?_|(refine DV (fun hc=>?_)<;>(try rw[hc])<;>clear hc)|refine Pure.T3 (hct false) (.cons (hs.IJ 2 rfl) (.cons (.refl _) .nil)) rfl ?_|refine Pure.use (N0 f.arg (f.path.take j) s (by rw[NT];omega)) ?_|fail)<;>conv=>whnf)
   refine(dT (.inl hsl)).use (rest:=_) (hs.front (j:=2) rfl) ?_;clear hs;rintro r post σ ⟨rfl,rfl⟩ hs;replace hs:Sat σ (.box e2.b [eI e2.k.low,eI e2.k.high,e2.vn,eU e2.k.BJ,eU e2.k.DU,.b e2.k.whole,.b e2.k.Af,v]:: .own e2.vn 1 (iL e2.k.no):: .own v 1 (iL ((e2.k.AI++[s]).mergeSort Gy))::([.box nx (FQ f.arg (f.path.take j))]++G7 L (pre2++e2::post2) pre2 post2)):=hs.perm (IX _ _ _ _)
   conv=>whnf
   repeat'((first|(apply sq;intro K U)|(apply si;intro A B Y Z)|(apply Y;clear Z B Y A)|(apply U;clear U K)|refine⟨kZ,?_⟩|refine ld ?_|refine Di fun σ hs=>?_|refine Pure.use (N0 f.arg (f.path.take j) s (by rw[NT];omega)) ?_|fail)<;>conv=>whnf)
   have hs3: ∃vs3,Sat σ (.box nx (FQ f.arg (f.path.take j++[s]))::B8 L (pre2++⟨e2.a,e2.p,e2.b,e2.vn,vs3,ct e2.k s⟩::post2)):=⟨v,EB (X:=[_]) (e:=e2) rfl rfl rfl (by rw[hsl0,IE,if_neg (by rw[hcB];decide)];exact hs)⟩
   rotate_left
   have hs3: ∃vs3,Sat σ (.box nx (FQ f.arg (f.path.take j++[s]))::B8 L (pre2++⟨e2.a,e2.p,e2.b,e2.vn,vs3,ct e2.k s⟩::post2)):=⟨e2.vs,EB (X:=[_]) (e:=e2) rfl rfl rfl (by rw[hsl0,IE,if_pos hcB];exact hs)⟩
   all_goals
    clear hs;obtain⟨vs3,hs⟩:=hs3;have hinv3:=hinv.change e2.b e2.vn vs3 (ct e2.k s);refine(Ku w us hinv3 (a:=f.arg) (p:=f.path.take j++[s]) (by rw[R0,NT];simp;omega)).use (rest:=[.box nx (FQ f.arg (f.path.take j++[s]))]) (hs.perm (Mk _ _)) ?_;clear hs;rintro r post σ ⟨es4,e4,got,rfl,rfl⟩ hs;have hek4:=got.k;obtain⟨hea4,hep4⟩:=F5.1 got.is;obtain⟨pre4,post4,rfl⟩:=List.append_of_mem got.mem;replace hs:=HA (X:=[.box nx (FQ f.arg (f.path.take j++[s]))]) (hs.perm Np);cases hnd:e4.k.Af<;>rw[hnd]at hs
    all_goals
     conv=>whnf
     repeat'((first|apply st|(apply si;intro A B Y Z)|(apply Y;clear Z B Y A)|(apply U;clear U K)|refine⟨rfl,?_⟩|refine ld ?_|refine EK fun σ hs=>?_|clear U K)<;>conv=>whnf)
     refine⟨hjlt,(pre4++⟨e4.a,e4.p,e4.b,e4.vn,e4.vs,Bv e4.k c⟩::post4,⟨e4.a,e4.p,e4.b,e4.vn,e4.vs,Bv e4.k c⟩),rfl,⟨(got.inv.change e4.b e4.vn e4.vs (Bv e4.k c)).congr fun a p=>?_,M0 _ (.head _),by rw[htk];exact got.is⟩,?_⟩
     .rw[lT f c hjlt,L3,hea4,hep4,htk,hgd]
      by_cases h1:a=f.arg/\p=f.path.take j++[s]
      .rw[if_pos h1,if_pos h1,hek4,L3,hea,hep,if_neg (fun h=>hne h.2),h1.1,h1.2]
      .rw[if_neg h1,if_neg h1,L3,hea,hep]
       by_cases h2:a=f.arg/\p=f.path.take j
       .rw[if_pos h2,if_pos h2,hek,h2.1,h2.2]
       .rw[if_neg h2,if_neg h2]
     .rw[htk]
      refine EB (X:=[.box nx (FQ f.arg (f.path.take j++[s]))]) (e:=e4) rfl rfl rfl ?_
      first
       | (rw[JK c hnd];exact hs)
       | (rw[Hs c hnd];exact hs)
  .have etk:f.path.take j=f.path:=CJ hje
   rw[etk]at his hs hek hep
   conv=>whnf
   repeat'((first|apply st|(apply sq;intro K U)|(apply si;intro A B Y Z)|(apply Y;clear Z B Y A)|(apply U;clear U K)|refine⟨rfl,?_⟩|refine⟨kZ,?_⟩|(refine EZ (fun hc=>?_)<;>(try rw[hc])<;>clear hc)|clear U K)<;>conv=>whnf)
   refine(uB f c l1 l3 hok.1 hok.2.1 (by have:=hok.2.2.1;omega) l4).use (rest:=[.box nx (FQ f.arg f.path)]++G7 L (pre2++e2::post2) pre2 post2) hs ?_;rintro r post σ ⟨rfl,vn',rfl⟩ hs
   conv=>whnf
   repeat'((first|(apply Y;clear Z B Y A)|fail)<;>conv=>whnf)
   refine AK ⟨_,⟨rfl,_,(hinv.change e2.b vn' e2.vs (Bt e2.k f c)).congr fun a p=>?_,rfl⟩,(EB (X:=[.box nx (FQ f.arg f.path)]) (e:=e2) (e':=⟨e2.a,e2.p,e2.b,vn',e2.vs,Bt e2.k f c⟩) rfl rfl rfl hs).less (Mz _ _)⟩;rw[L3,hea,hep,hek,<-hje];by_cases h1:a=f.arg/\p=f.path
   .rw[if_pos h1,if_pos h1,h1.1,h1.2]
   .rw[if_neg h1,if_neg h1]
def uF (w:AJ) (us:List Nat) {kf:Int->List Int->Kn} {L:Nat} {es:List Bx} (h:Br kf es) (l:Fact) (hl:du (Ai l).1) {m:Nat} (hm:m<1000) (hb: ∀a p,Zq m (kf a p)) :
    BK Tryz.prog 193 [Tm w us L,.a (IL l)] (B8 L es) fun r post=>r= .ret (.t [])/\ ∃es',Br (fun a p=>Cj a p (kf a p) l) es'/\post=B8 L es':=fun σ hs=>
 As.mono (nC w us h (Ai l).1 (Ai l).2 hl hm hb σ hs) fun r σ' ⟨post,⟨h1,es',h2,h3⟩,h4⟩=>⟨post,⟨h1,es',h2.congr fun a p=>(qg a p (kf a p) l).symm,h3⟩,h4⟩
def MS (ls:List Fact):Prop:= ∀l∈ls,du (Ai l).1
def ep {ls:List Fact} (h:MS ls) (a:Int) (p:List Int):Zq ls.length (kn ls a p):=by
 have hc:GK 64 ls:=fun l hl ho=>(h l hl).cls ho
 obtain⟨h1,h2⟩:=lW hc a p;obtain⟨h3,h4⟩:=er a p ls k0;exact⟨by simpa using h1,by simpa using h2,by simpa[kn,k0]using h3,by simpa[kn,k0]using h4⟩
def xU:Br (kn []) []:=⟨fun x hx=>(by cases hx),fun a p _=>rfl,.nil,fun x hx=>(by cases hx)⟩
set_option maxHeartbeats 1000000 in
def gQ (w:AJ) (us:List Nat) (ls:List Fact) (b:Bool) (h:MS ls) (hlen:ls.length<900) :
    BK Tryz.prog 128 [.rp (wC w us),.l (DY ls) b] [] fun r post=> ∃L es,r= .ret (Tm w us L)/\Br (kn ls) es/\post=B8 L es:=by
 intro σ hs;have hM:=Mx;refine ti kZ ?_
 conv=>whnf
 repeat'((first|apply st|(apply sq;intro K U)|(apply si;intro A B Y Z)|(apply Y;clear Z B Y A)|(apply U;clear U K)|(intro nn hnn;generalize hg:A6 _ nn _=σ;refine Ci hg fun hs=>?_;clear hg)|fail)<;>conv=>whnf)
 generalize nn=L at *;refine D3 ls.length (fun k (x:List Bx)=>[(14,eI (Bq k))]) (fun k x=>B8 L x) (fun k x=>Br (kn (ls.take k)) x) [] rfl xU hs ?_;clear hs hnn;rintro k es σ hk hinv hs;rcases BM ls hk with⟨l,hlk,hlt⟩|hke
 .have hlm:l∈ls:=Dm hlk
  have htk:ls.take (k+1)=ls.take k++[l]:=Ar hlk;have hbk: ∀a p,Zq (ls.take k).length (kn (ls.take k) a p):=ep fun x hx=>h x (List.mem_of_mem_take hx)
  conv=>whnf
  repeat'((first|apply st|(apply sq;intro K U)|(apply si;intro A B Y Z)|(apply Y;clear Z B Y A)|(apply U;clear U K)|refine⟨rfl,?_⟩|refine⟨kZ,?_⟩|refine ix ?_|refine ld ?_|refine Di fun σ hs=>?_|(refine DV (fun hc=>?_)<;>(try rw[hc])<;>clear hc)|(intro nn hnn;generalize hg:A6 _ nn _=σ;refine Ci hg fun hs=>?_;clear hg)|fail)<;>conv=>whnf)
  rename_i nb hnb _ hs;generalize nn=n7 at *;refine(uF w us hinv l (h l hlm) (m:=(ls.take k).length) (by rw[NT];omega) hbk).use (rest:=[.box n7 (IL l)]) (hs.perm (Mk _ _)) ?_;clear hs;rintro r post σ ⟨rfl,es',hinv',rfl⟩ hs
  conv=>whnf
  repeat'((first|(apply si;intro A B Y Z)|(apply Y;clear Z B Y A)|(apply U;clear U K)|refine⟨rfl,?_⟩|clear U K)<;>conv=>whnf)
  refine⟨hlt,es',rfl,?_,hs.less (List.sublist_append_left _ _)⟩;rw[htk];exact hinv'.congr fun a p=>(lV _ _ _ _).symm
 .have etk:ls.take k=ls:=CJ hke
  rw[etk]at hinv
  conv=>whnf
  repeat'((first|apply st|(apply sq;intro K U)|(apply si;intro A B Y Z)|(apply Y;clear Z B Y A)|(apply U;clear U K)|refine⟨rfl,?_⟩|(refine EZ (fun hc=>?_)<;>(try rw[hc])<;>clear hc)|clear U K)<;>conv=>whnf)
  exact AK ⟨_,⟨L,es,rfl,hinv,rfl⟩,hs⟩
end Go.Gl
