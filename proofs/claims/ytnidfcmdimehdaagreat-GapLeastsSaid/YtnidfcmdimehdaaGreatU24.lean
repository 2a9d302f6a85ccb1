import Derived.Test.YtnidfcmdimehdaaGreatU20
import Derived.Test.YtnidfcmdimehdaaGreatU22
import Derived.Test.YtnidfcmdimehdaaGreatU23
set_option linter.all false
set_option linter.defProp false
set_option maxHeartbeats 8000000
noncomputable section
namespace Go.Gl
def Vr (g:List (List Int)) (k:Nat): ∀(m d:Nat),d<3+k->(Bk g (k+m)).getD d 0=(Bk g k).getD d 0
 | 0,d,_=>rfl
 | m+1,d,h=>by
   rw[show k+(m+1)=k+m+1 from rfl,Bk,<-Vr g k m d h];rw[Co,Xm (by rw[Dc];omega),<-Co]
def Vt (us:List Nat) (b:Nat): ∀(l:List Int) (s:Nat),(Ti us l s).testBit b=(s.testBit b||l.any fun c=>(us.getD c.toNat 0).testBit b)
 | [],s=>by simp[Ti]
 | c::r,s=>by
   have:=Vt us b r (s|||us.getD c.toNat 0);rw[Oj,<-Bool.or_assoc,<-Nat.testBit_or,<-this];rfl
def gy {α:Type} (f:α->Bool) (b:Bool): ∀(l:List α),(b||l.any fun x=>b||f x)=(b||l.any f)
 | []=>rfl
 | x::r=>by
   have:=gy f b r;simp only[Oj];cases b
   .simpa using this
   .rfl
def any_congr {α:Type} {f g:α->Bool}: ∀ {l:List α},(∀x∈l,f x=g x)->l.any f=l.any g
 | [],_=>rfl
 | x::r,h=>by
   rw[Oj,Oj,h x (.head _),any_congr fun y hy=>h y (.tail _ hy)]
def UI {g:List (List Int)} (ho:ordered g): ∀(k d b:Nat),k<=g.length->d<3+k->((Bk g k).getD d 0).testBit b=(b==0||G3 g d b)
 | 0,d,b,_,hd=>by
   have e:(Bk g 0).getD d 0=1|||2 ^ d:=by
    rcases d with _|_|_|d
    .rfl
    .rfl
    .rfl
    .omega
   rw[e,UC,FJ ho,par,if_pos (by omega),List.any_nil,Bool.or_false];rw[KF];simp only[Ew,Cd];omega
 | k + 1,d,b,hk,hd=>by
   by_cases hlt:d<3+k
   .rw[Vr g k 1 d hlt]
    exact UI ho k d b (by omega) hlt
   .obtain rfl:d=3+k:=by omega
    have e:(Bk g (k+1)).getD (3+k) 0=Ti (Bk g k) (g.getD k []) (1|||2 ^ (3+k)):=by
     rw[Bk,Co,List.getElem?_append_right (by rw[Dc];omega),Dc,Nat.sub_self];rfl
    have hpar:par g (3+k)=g.getD k []:=by rw[par,if_neg (by omega),show 3+k - 3=k by omega]
    rw[e,Vt,UC,FJ ho,hpar]
    have hc:((g.getD k []).any fun c=>((Bk g k).getD c.toNat 0).testBit b)=(g.getD k []).any fun p=>(b==0)||G3 g p.toNat b:=any_congr fun p hp=>by
     have:=ho (3+k) p (by rw[hpar];exact hp);exact UI ho k p.toNat b (by omega) (by omega)
    rw[hc];have e2:(b==3+k)=(3+k==b):=by rw[KF];simp only[Cd];omega
    rw[e2,Bool.or_assoc,Bool.or_left_comm,gy,Bool.or_left_comm]
def Vs {g:List (List Int)} (ho:ordered g) {d b:Nat} (hd:d<3+g.length):((BR g).getD d 0).testBit b=(b==0||G3 g d b):=UI ho g.length d b (G0 _) hd
def LS {g:List (List Int)} (ho:ordered g): ∀(d b:Nat),3<=d->G3 g d b=true->3<=b:=by
 intro d
 induction d using Nat.strongRecOn with
 | _ d ih=>
   intro b h3 h;rw[FJ ho]at h;simp only[Ew,Cd,G1]at h;rcases h with rfl|⟨p,hp,h⟩
   .exact h3
   .have:=ho d p hp
    exact ih p.toNat (by omega) b (by omega) h
def Bj (us:List Nat):Nat->Nat->Nat
 | 0,m=>m
 | k+1,m=>if(Bj us k m).testBit (3+k)then Bj us k m|||us.getD (3+k) 0 else Bj us k m
def Lm {g : List (List Int)} (ho:ordered g) (m:Nat): ∀(k b:Nat),k<=g.length->((Bj (BR g) k m).testBit b=true↔m.testBit b=true\/ ∃d,3<=d/\d<3+k/\m.testBit d=true/\(b=0\/G3 g d b=true))
 | 0,b,_=>by
   rw[Bj];exact⟨.inl,fun h=>h.elim id fun⟨d,h1,h2,_⟩=>by omega⟩
 | k + 1, b, hk=>by
   have ih:=Lm ho m k;rw[Bj];split
   .rename_i hc
    rw[Nat.testBit_or,Ew,ih b (by omega),Vs ho (by omega),Ew,Cd];rw[ih _ (by omega)]at hc;constructor
    .rintro((h|⟨d,h1,h2,h3,h4⟩)|h)
     .exact .inl h
     .exact .inr ⟨d,h1,by omega,h3,h4⟩
     .rcases hc with hc|⟨d,h1,h2,h3,h4⟩
      .exact .inr ⟨3+k,by omega,by omega,hc,h⟩
      .refine .inr ⟨d,h1,by omega,h3,?_⟩
       rcases h with h|h
       .exact .inl h
       .rcases h4 with h4|h4
        .omega
        .exact .inr (Ka ho _ _ _ h4 h)
    .rintro(h|⟨d,h1,h2,h3,h4⟩)
     .exact .inl (.inl h)
     .by_cases e:d=3+k
      .subst e;exact .inr h4
      .exact .inl (.inr ⟨d,h1,by omega,h3,h4⟩)
   .rename_i hc
    rw[ih b (by omega)];constructor
    .rintro(h|⟨d,h1,h2,h3,h4⟩)
     .exact .inl h
     .exact .inr ⟨d,h1,by omega,h3,h4⟩
    .rintro(h|⟨d,h1,h2,h3,h4⟩)
     .exact .inl h
     .by_cases e:d=3+k
      .subst e;exact absurd ((ih _ (by omega)).2 (.inl h3)) hc
      .exact .inr ⟨d,h1,by omega,h3,h4⟩
def LH: ∀(l:List Int) (bs:List Bool),(∀q∈l,0<=q/\q.toNat<bs.length)-> ∀b:Nat,(l.foldl (fun b q=>b.set q.toNat true) bs).getD b false=(bs.getD b false||l.contains (b:Int))
 | [],bs,_,b=>by simp
 | q ::r,bs,h,b=>by
   have hq:=h q (.head _);rw[List.foldl_cons,LH r _ (fun x hx=>by rw[List.length_set];exact h x (.tail _ hx)),Ea hq.2,List.contains_cons];split
   .rename_i e
    subst e;have:((q.toNat:Int)==q)=true:=by rw[Cd];omega
    rw[this];simp
   .rename_i e
    have:((b:Int)==q)=false:=by rw[beq_eq_false_iff_ne];omega
    rw[this,Bool.false_or]
def Hn {g:List (List Int)} (ho:ordered g) {c:Nat} {bs:List Bool} (hc:c<=bs.length) (b:Nat):(IX g c bs).getD b false=(bs.getD b false||(bs.getD c false&&(par g c).contains (b:Int))):=by
 rw[IX];split
 .rename_i h
  rw[LH _ _ (fun q hq=>by have:=ho c q hq;omega),h,Db]
 .rename_i h
  have:bs.getD c false=false:=by simpa using h
  rw[this,Bool.false_and,Bool.or_false]
def GS {g:List (List Int)} (ho:ordered g) {n:Nat} {S:List Bool} (hl:S.length=n): ∀(k b:Nat),(B4 g n k S).getD b false=true-> ∃d,S.getD d false=true/\G3 g d b=true
 | 0,b,h=>⟨b,h,FR ho b⟩
 | k + 1,b,h=>by
   rw[B4,Hn ho (by rw[Ev];omega),Ew,A7]at h;rcases h with h|⟨h1,h2⟩
   .exact GS ho hl k b h
   .obtain⟨d,h3,h4⟩:=GS ho hl k _ h1
    refine⟨d,h3,Ka ho _ _ _ h4 ?_⟩;rw[FJ ho,Ew,G1];rw[List.contains_iff_mem]at h2;exact .inr ⟨_,h2,by rw[FZ];exact FR ho b⟩
def Xc {g:List (List Int)} (ho:ordered g) {n:Nat} {S:List Bool} (hl:S.length=n) (k b:Nat) (h:(B4 g n k S).getD b false=true):(B4 g n (k+1) S).getD b false=true:=by
 rw[B4,Hn ho (by rw[Ev];omega),h];rfl
def KC {g:List (List Int)} (ho:ordered g) {n:Nat} {S:List Bool} (hl:S.length=n): ∀(k b:Nat),S.getD b false=true->(B4 g n k S).getD b false=true
 | 0,_,h=>h
 | k+1,b,h=>Xc ho hl k b (KC ho hl k b h)
def Ho {g:List (List Int)} (ho:ordered g) {n:Nat} {S:List Bool} (hl:S.length=n): ∀(k c:Nat),k<=n->n - k<=c->(B4 g n k S).getD c false=true-> ∀q∈par g c,(B4 g n k S).getD q.toNat false=true
 | 0,c,_,hc,h,q,hq=>by
   rw[B4,Co,List.getElem?_eq_none (by omega)]at h;cases h
 | k + 1,c,hk,hc,h,q,hq=>by
   rw[B4,Hn ho (by rw[Ev];omega)]at h ⊢;have hoc:=ho c q hq;rw[Ew,A7]at h
   have hbase:(B4 g n k S).getD c false=true:=by
    rcases h with h|⟨-,h2⟩
    .exact h
    .rw[List.contains_iff_mem]at h2
     have:=ho _ _ h2;omega
   by_cases e:c=n - 1 - k
   .subst e
    rw[hbase,Db,Ew,List.contains_iff_mem];exact .inr (by rw[show((q.toNat:Nat):Int)=q by omega];exact hq)
   .rw[Ho ho hl k c (by omega) (by omega) hbase q hq];rfl
def ZD {g:List (List Int)} (ho:ordered g) {S:List Bool} (hl:S.length=3+g.length) (b:Nat):(B4 g (3+g.length) g.length S).getD b false=true↔ ∃d,S.getD d false=true/\G3 g d b=true:=by
 refine⟨GS ho hl _ b,?_⟩
 have key: ∀d,(B4 g (3+g.length) g.length S).getD d false=true->G3 g d b=true->(B4 g (3+g.length) g.length S).getD b false=true:=by
  intro d
  induction d using Nat.strongRecOn with
  | _ d ih=>
    intro h1 h2;rw[FJ ho,Ew,Cd,G1]at h2;rcases h2 with rfl|⟨p,hp,h2⟩
    .exact h1
    .have hop:=ho d p hp
     refine ih p.toNat (by omega) (Ho ho hl g.length d (by omega) ?_ h1 p hp) h2;omega
 rintro⟨d,h1,h2⟩;exact key d (KC ho hl _ d h1) h2
def RB (n:Nat) (t:BB) (u:Nat×Nat):Prop:=
 t.1.length=n/\t.2.length=n/\(∀b,t.1.getD b false=u.1.testBit b)/\(∀b,b≠1->b≠2->t.2.getD b false=u.2.testBit b)/\u.1.testBit 1=false/\u.1.testBit 2=false
def D7 (m c b:Nat):(m|||2 ^ c).testBit b=(m.testBit b||b==c):=by
 rw[Nat.testBit_or,Nat.testBit_two_pow];congr 1;rw[KF];simp only[CF,Cd];omega
def O7 {l:List Bool} {m c:Nat} (hc:c<l.length) {b:Nat} (h:l.getD b false=m.testBit b):(l.set c true).getD b false=(m|||2 ^ c).testBit b:=by
 rw[Ea hc,D7,<-h];split
 .rename_i e;subst e;simp
 .rename_i e
  have:(b==c)=false:=by simpa using e
  rw[this,Bool.or_false]
def Tq (x:Fact×Bool):Bool:= !x.2&&(!(x.1.op==2)||x.1.cls==1||x.1.cls==2)
def bu {n : Nat} {x:Fact×Bool} {t:BB} {k:Kn} (h:RB n t (k.BJ,k.Dv)) (hc:x.1.op=2->0<=x.1.cls/\x.1.cls<n) :
    (Tq x=true->Ga x t=none)/\(Tq x=false-> ∃t',Ga x t=some t'/\RB n t' ((Bs k x.1 x.2).BJ,(Bs k x.1 x.2).Dv)):=by
 obtain⟨f,c⟩:=x;simp only at hc;obtain⟨h1,h2,h3,h4,h5,h6⟩:=h;unfold Tq Ga Bs;simp only;by_cases ho:f.op=2
 .have hc':=hc ho
  by_cases h12:f.cls=1\/f.cls=2
  .rw[if_pos (.inr h12),if_pos ho]
   cases c with
   | true=>
     refine⟨fun h=>(by cases h),fun _=>⟨t,rfl,h1,h2,h3,fun b hb1 hb2=>?_,h5,h6⟩⟩;rw[if_pos rfl];show _=(k.Dv|||2 ^ f.cls.toNat).testBit b;rw[D7,h4 b hb1 hb2];have:(b==f.cls.toNat)=false:=by rw[beq_eq_false_iff_ne];omega
     rw[this,Bool.or_false]
   | false=>
     refine⟨fun _=>rfl,fun h=>?_⟩;exfalso;rcases h12 with e|e<;>simp[e]at h
  .have hn: ¬(f.op≠2\/f.cls=1\/f.cls=2):=by omega
   rw[if_neg hn,if_pos ho]
   have hb:(!c&&(!(f.op==2)||f.cls==1||f.cls==2))=false:=by
    have e1:(f.op==2)=true:=by simpa using ho
    have e2:(f.cls==1)=false:=by rw[beq_eq_false_iff_ne];omega
    have e3:(f.cls==2)=false:=by rw[beq_eq_false_iff_ne];omega
    rw[e1,e2,e3];simp
   rw[hb];refine⟨fun h=>(by cases h),fun _=>?_⟩;cases c with
   | true=>
     refine⟨_,rfl,h1,by simpa using h2,h3,fun b hb1 hb2=>?_,h5,h6⟩;exact O7 (by omega) (h4 b hb1 hb2)
   | false=>
     refine⟨_,rfl,by simpa using h1,h2,fun b=>?_,h4,?_,?_⟩
     .exact O7 (by omega) (h3 b)
     .show(k.BJ|||2 ^ f.cls.toNat).testBit 1=false
      rw[D7,h5];have:(1==f.cls.toNat)=false:=by rw[beq_eq_false_iff_ne];omega
      rw[this];rfl
     .show(k.BJ|||2 ^ f.cls.toNat).testBit 2=false
      rw[D7,h6];have:(2==f.cls.toNat)=false:=by rw[beq_eq_false_iff_ne];omega
      rw[this];rfl
 .rw[if_pos (.inl ho),if_neg ho]
  have e1:(f.op==2)=false:=by simpa using ho
  cases c with
  | true=>
    refine⟨fun h=>(by cases h),fun _=>⟨t,rfl,?_⟩⟩;split<;>exact⟨h1,h2,h3,h4,h5,h6⟩
  | false=>exact⟨fun _=>rfl,fun h=>by rw[e1]at h;cases h⟩
def TA {n:Nat}: ∀(os:List Fact) {t:BB} {k:Kn},RB n t (k.BJ,k.Dv)->G6 n os->
    (os.any (fun l=>Tq (Ac l))=true->EI os t=none)/\(os.any (fun l=>Tq (Ac l))=false-> ∃t',EI os t=some t'/\RB n t' ((EW os k).BJ,(EW os k).Dv))
 | [],t,k,h,_=>⟨fun h=>(by cases h),fun _=>⟨t,rfl,h⟩⟩
 | l ::r,t,k,h,hc=>by
   obtain⟨s1,s2⟩:=bu h (hc l (.head _));rw[Oj,EI];cases hb:Tq (Ac l)with
   | true=>exact⟨fun _=>by rw[s1 hb];rfl,fun h=>(by cases h)⟩
   | false=>
     obtain⟨t',h1,h2⟩:=s2 hb;rw[h1,Bool.false_or,Option.bind_some];exact TA r h2 fun x hx=>hc x (.tail _ hx)
def kW {os:List Fact} {n:Nat} (hc:G6 n os):(os.any fun l=>Tq (Ac l))=((EW os k0).whole||(EW os k0).BJ.testBit 1||(EW os k0).BJ.testBit 2):=by
 rw[KF,Ew,Ew,IE,IE,Lp];simp only[G1,Tq,A7,Ew,Bool.not_eq_true',Cd,beq_eq_false_iff_ne,k0,Bool.false_or];constructor
 .rintro⟨l,hl,hb,(h|h)|h⟩
  .exact .inl (.inl ⟨l,hl,hb,h⟩)
  .by_cases ho:(Ac l).1.op=2
   .exact .inl (.inr ⟨l,hl,ho,hb,by rw[h];rfl⟩)
   .exact .inl (.inl ⟨l,hl,hb,ho⟩)
  .by_cases ho:(Ac l).1.op=2
   .exact .inr ⟨l,hl,ho,hb,by rw[h];rfl⟩
   .exact .inl (.inl ⟨l,hl,hb,ho⟩)
 .rintro((⟨l,hl,hb,h⟩|⟨l,hl,ho,hb,h⟩)|⟨l,hl,ho,hb,h⟩)
  .exact⟨l,hl,hb,.inl (.inl h)⟩
  .have:=hc l hl ho
   exact⟨l,hl,hb,.inl (.inr (by omega))⟩
  .have:=hc l hl ho
   exact⟨l,hl,hb,.inr (by omega)⟩
def ZP (w:AE) (Ab can:Int->Bool) (s:Int) (u:Nat×Nat):Option (Nat×Nat):=
 if Ab s&& !can s then none else some (if Ab s then u.1|||2 ^ (Bb w s).toNat else u.1,if can s then u.2 else u.2|||2 ^ (Bb w s).toNat)
def JJ (w:AE) (Ab can:Int->Bool):List Int->Nat×Nat->Option (Nat×Nat)
 | [],u=>some u
 | s::r,u=>(ZP w Ab can s u).bind (JJ w Ab can r)
def aZ {w:AE} {ls:List Fact} {a:Int} {p:List Int} {can Ab:Int->Bool} (hn: ∀s,Ab s= !DB ls a (p++[s])) {n:Nat} (how: ∀s:Int,0<=s->s<w.owner.length->3<=Bb w s/\Bb w s<n) :
    ∀(sl:List Int) {t:BB} {u:Nat×Nat},(∀s∈sl,0<=s/\s<w.owner.length)->RB n t u->
    (D0 w ls a p can sl t=none/\JJ w Ab can sl u=none)\/ ∃t' u',D0 w ls a p can sl t=some t'/\JJ w Ab can sl u=some u'/\RB n t' u'
 | [],t,u,_,h=> .inr ⟨t,u,rfl,rfl,h⟩
 | s ::r,t,u,hsl,h=>by
   have hs:=hsl s (.head _);have ho:=how s hs.1 hs.2;rw[D0,JJ,JC,ZP,hn];obtain⟨h1,h2,h3,h4,h5,h6⟩:=h;split
   .exact .inl ⟨rfl,rfl⟩
   .rw[Option.bind_some,Option.bind_some]
    refine aZ hn how r (fun x hx=>hsl x (.tail _ hx)) ?_;have hb: ∀i,i<3->(i==(Bb w s).toNat)=false:=fun i hi=>by rw[beq_eq_false_iff_ne];omega
    cases DB ls a (p++[s])<;>cases can s<;>refine⟨by simpa using h1,by simpa using h2,fun b=>?_,fun b hb1 hb2=>?_,?_,?_⟩
    all_goals simp only[Bool.not_false,Bool.not_true,Jc,if_true,if_false]
    all_goals first
     | exact h3 b
     | exact h4 b hb1 hb2
     | exact h5
     | exact h6
     | exact O7 (by omega) (h3 b)
     | exact O7 (by omega) (h4 b hb1 hb2)
     | (rw[D7,h5,hb 1 (by omega)];rfl)
     | (rw[D7,h6,hb 2 (by omega)];rfl)
def Hz (m:Nat):Nat:=m - m % 2
def Wl (m b:Nat):(Hz m).testBit b=(m.testBit b&& !(b==0)):=by
 cases b with
 | zero=>
   simp[Hz,Nat.testBit_zero];omega
 | succ b=>
   rw[Nat.testBit_succ,Nat.testBit_succ,Hz,show(m - m % 2) / 2=m / 2 by omega];simp
def sx {w : AE} (ho:ordered w.parents) {t:BB} {u:Nat×Nat} (h:RB (3+w.parents.length) t u) :
    (VM w t).isSome=(!u.2.testBit 0&&(Hz (Bj (BR w.parents) w.parents.length u.1)&&&u.2==0)):=by
 obtain⟨h1,h2,h3,h4,h5,h6⟩:=h;rw[VM,h4 0 (by decide) (by decide)];cases h0:u.2.testBit 0 with
 | true=>rfl
 | false =>
   rw[if_neg (by decide),Bool.not_false,Db];have hl:(t.1.set 0 false).length=3+w.parents.length:=by simpa using h1
   have hR:=ZD ho hl;have hP:=Lm ho u.1 w.parents.length
   have hS: ∀d,(t.1.set 0 false).getD d false=true↔d≠0/\u.1.testBit d=true:=fun d=>by
    rw[Ea (by omega)];split
    .rename_i e;subst e;simp
    .rename_i e;rw[h3];exact⟨fun h=>⟨e,h⟩,fun h=>h.2⟩
   have hlt: ∀b,u.1.testBit b=true->b<3+w.parents.length:=fun b hb=>by
    rw[<-h3]at hb;rcases Nat.lt_or_ge b (3+w.parents.length)with h'|h'
    .exact h'
    .rw[Co,List.getElem?_eq_none (by omega)]at hb;cases hb
   have h3b: ∀d,d≠0->u.1.testBit d=true->3<=d:=fun d hd hb=>by
    rcases d with _|_|_|d
    .exact absurd rfl hd
    .rw[h5]at hb;cases hb
    .rw[h6]at hb;cases hb
    .omega
   have hM: ∀b,(Hz (Bj (BR w.parents) w.parents.length u.1)).testBit b=true↔(B4 w.parents (3+w.parents.length) w.parents.length (t.1.set 0 false)).getD b false=true:=fun b=>by
    rw[Wl,A7,hP b (G0 _),hR,Bool.not_eq_true',beq_eq_false_iff_ne];constructor
    .rintro⟨h|⟨d,q1,q2,q3,q4⟩,hb⟩
     .exact⟨b,(hS b).2 ⟨hb,h⟩,FR ho b⟩
     .rcases q4 with e|q4
      .exact absurd e hb
      .exact⟨d,(hS d).2 ⟨by omega,q3⟩,q4⟩
    .rintro⟨d,hd,hu⟩
     obtain⟨hd0,hdu⟩:=(hS d).1 hd;have hd3:=h3b d hd0 hdu;have:=LS ho d b hd3 hu;exact⟨.inr ⟨d,hd3,hlt d hdu,hdu,.inr hu⟩,by omega⟩
   have hany:((List.range (3+w.parents.length)).any fun c=>(B4 w.parents (3+w.parents.length) w.parents.length (t.1.set 0 false)).getD c false&&t.2.getD c false)= !(Hz (Bj (BR w.parents) w.parents.length u.1)&&&u.2==0):=by
    rw[KF,Bool.not_eq_true',<-Bool.not_eq_true,Ms,G1];constructor
    .rintro⟨c,hc,hx⟩ hall
     rw[A7]at hx;have hm:=(hM c).2 hx.1;obtain⟨d,hd,hu⟩:=(hR c).1 hx.1;obtain⟨hd0,hdu⟩:=(hS d).1 hd;have:=LS ho d c (h3b d hd0 hdu) hu;exact hall c hm (by rw[<-h4 c (by omega) (by omega)];exact hx.2)
    .intro hne
     rcases Classical.em (∃b,(Hz (Bj (BR w.parents) w.parents.length u.1)).testBit b=true/\u.2.testBit b=true)with⟨b,hb1,hb2⟩|hno
     .have hm:=(hM b).1 hb1
      obtain⟨d,hd,hu⟩:=(hR b).1 hm;obtain⟨hd0,hdu⟩:=(hS d).1 hd;have:=LS ho d b (h3b d hd0 hdu) hu;have:=fe ho d b hu;have:=hlt d hdu;exact⟨b,List.mem_range.2 (by omega),by rw[hm,h4 b (by omega) (by omega),hb2];rfl⟩
     .exact absurd (fun b h1 h2=>hno ⟨b,h1,h2⟩) hne
   rw[hany];cases(Hz (Bj (BR w.parents) w.parents.length u.1)&&&u.2==0)<;>rfl
def Oq (w:AE) (k:Kn) (Ab can:Int->Bool):Nat×Bool:=
 if k.whole||k.BJ.testBit 1||k.BJ.testBit 2||k.Dv.testBit 0 then(0,false)else
 match JJ w Ab can k.AL (k.BJ,k.Dv)with
 | none=>(0,false)
 | some u=>(Hz (Bj (BR w.parents) w.parents.length u.1),Hz (Bj (BR w.parents) w.parents.length u.1)&&&u.2==0)
def RR {w:AE} {Ab can:Int->Bool} (how: ∀s:Int,0<=s->s<w.owner.length->3<=Bb w s): ∀(sl:List Int) {u u':Nat×Nat},(∀s∈sl,0<=s/\s<w.owner.length)->JJ w Ab can sl u=some u'->u'.2.testBit 0=u.2.testBit 0
 | [],u,u',_,h=>by cases h;rfl
 | s ::r,u,u',hsl,h=>by
   have hs:=hsl s (.head _);have ho:=how s hs.1 hs.2;rw[JJ,ZP]at h;split at h
   .cases h
   .rw[Option.bind_some]at h
    rw[RR how r (fun x hx=>hsl x (.tail _ hx)) h];simp only;split
    .rfl
    .rw[D7]
     have:(0==(Bb w s).toNat)=false:=by rw[beq_eq_false_iff_ne];omega
     rw[this,Bool.or_false]
def pS {w:AE} {ls:List Fact} {a:Int} {p:List Int} {can Ab:Int->Bool} (ho:ordered w.parents) (how: ∀s:Int,0<=s->s<w.owner.length->3<=Bb w s/\Bb w s<3+w.parents.length) (hc:G6 (3+w.parents.length) ls) (hp:Hc w.owner.length ls) (hn: ∀s,Ab s= !DB ls a (p++[s])) :
    (Oq w (kn ls a p) Ab can).2=(LL w ls a p can).isSome:=by
 have hcore:=MN ls a p;have hsl:=J3 hp a p;generalize kn ls a p=k at *;have hc2:G6 (3+w.parents.length) (ls.filter (Fq a p)):=fun l hl=>hc l (Ia.1 hl).1
 simp only[DY,Prod.mk.injEq]at hcore;obtain⟨-,-,-,c4,c5,c6⟩:=hcore;rw[Oq,LL,c4,c5,c6,<-kW hc2,hsl]
 have hR0:RB (3+w.parents.length) (tO w) (k0.BJ,k0.Dv):=by
  refine⟨by simp[tO],by simp[tO],fun b=>?_,fun b _ _=>?_,rfl,rfl⟩<;>
  .simp only[tO,k0,Nat.zero_testBit,Co,List.getElem?_replicate]
   split<;>rfl
 obtain⟨f1,f2⟩:=TA _ hR0 hc2;cases hbad:(ls.filter (Fq a p)).any fun l=>Tq (Ac l)with
 | true=>rw[f1 hbad];rfl
 | false=>
   obtain⟨t,ht,hR⟩:=f2 hbad;rw[ht,Option.bind_some,Bool.false_or];have hin: ∀s∈BM w.owner.length ls a p,0<=s/\s<(w.owner.length:Int):=fun s hs=>Fi hs
   rcases aZ (can:=can) hn (fun s h0 h1=>by have:=how s h0 h1;omega) (BM w.owner.length ls a p) hin hR with⟨e1,e2⟩|⟨t',u',e1,e2,hR'⟩
   .rw[e1,e2]
    split<;>rfl
   .rw[e1,e2,Option.bind_some,sx ho hR']
    have:=RR (fun s h0 h1=>(how s h0 h1).1) _ hin e2;rw[this];simp only;cases((EW (ls.filter (Fq a p)) k0).Dv.testBit 0)<;>rfl
end Go.Gl
