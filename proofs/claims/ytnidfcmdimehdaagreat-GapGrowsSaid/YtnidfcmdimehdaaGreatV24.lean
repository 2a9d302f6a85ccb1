import Derived.Test.YtnidfcmdimehdaaGreatV14
import Derived.Test.YtnidfcmdimehdaaGreatV15
import Derived.Test.YtnidfcmdimehdaaGreatV18
import Derived.Test.YtnidfcmdimehdaaGreatV19
import Derived.Test.YtnidfcmdimehdaaGreatV20
import Derived.Test.YtnidfcmdimehdaaGreatV21
import Derived.Test.YtnidfcmdimehdaaGreatV23
set_option linter.all false
set_option linter.defProp false
set_option maxHeartbeats 8000000
noncomputable section
namespace Go.Gl
def V8 (g:List (List Int)) (k:Nat): ∀(m d:Nat),d<3+k->(Bm g (k+m)).getD d 0=(Bm g k).getD d 0
 | 0,d,_=>rfl
 | m+1,d,h=>by
   rw[show k+(m+1)=k+m+1 from rfl,Bm,<-V8 g k m d h];rw[DK,ec (by rw[Db];omega),<-DK]
def WA (us:List Nat) (b:Nat): ∀(l:List Int) (s:Nat),(TZ us l s).testBit b=(s.testBit b||l.any fun c=>(us.getD c.toNat 0).testBit b)
 | [],s=>by simp[TZ]
 | c::r,s=>by
   have:=WA us b r (s|||us.getD c.toNat 0);rw[Rj,<-Bool.or_assoc,<-Nat.testBit_or,<-this];rfl
def iv {α:Type} (f:α->Bool) (b:Bool): ∀(l:List α),(b||l.any fun x=>b||f x)=(b||l.any f)
 | []=>rfl
 | x::r=>by
   have:=iv f b r;simp only[Rj];cases b
   .simpa using this
   .rfl
def any_congr {α:Type} {f g:α->Bool}: ∀ {l:List α},(∀x∈l,f x=g x)->l.any f=l.any g
 | [],_=>rfl
 | x::r,h=>by
   rw[Rj,Rj,h x (.head _),any_congr fun y hy=>h y (.tail _ hy)]
def UK {g:List (List Int)} (ho:ordered g): ∀(k d b:Nat),k<=g.length->d<3+k->((Bm g k).getD d 0).testBit b=(b==0||GA g d b)
 | 0,d,b,_,hd=>by
   have e:(Bm g 0).getD d 0=1|||2 ^ d:=by
    rcases d with _|_|_|d
    .rfl
    .rfl
    .rfl
    .omega
   rw[e,UG,D0 ho,par,if_pos (by omega),List.any_nil,Bool.or_false];rw[Hb];simp only[EP,C1];omega
 | k + 1,d,b,hk,hd=>by
   by_cases hlt:d<3+k
   .rw[V8 g k 1 d hlt]
    exact UK ho k d b (by omega) hlt
   .obtain rfl:d=3+k:=by omega
    have e:(Bm g (k+1)).getD (3+k) 0=TZ (Bm g k) (g.getD k []) (1|||2 ^ (3+k)):=by
     rw[Bm,DK,List.getElem?_append_right (by rw[Db];omega),Db,Nat.sub_self];rfl
    have hpar:par g (3+k)=g.getD k []:=by rw[par,if_neg (by omega),show 3+k - 3=k by omega]
    rw[e,WA,UG,D0 ho,hpar]
    have hc:((g.getD k []).any fun c=>((Bm g k).getD c.toNat 0).testBit b)=(g.getD k []).any fun p=>(b==0)||GA g p.toNat b:=any_congr fun p hp=>by
     have:=ho (3+k) p (by rw[hpar];exact hp);exact UK ho k p.toNat b (by omega) (by omega)
    rw[hc];have e2:(b==3+k)=(3+k==b):=by rw[Hb];simp only[C1];omega
    rw[e2,Bool.or_assoc,Bool.or_left_comm,iv,Bool.or_left_comm]
def V9 {g:List (List Int)} (ho:ordered g) {d b:Nat} (hd:d<3+g.length):((BX g).getD d 0).testBit b=(b==0||GA g d b):=UK ho g.length d b (IS _) hd
def LH {g:List (List Int)} (ho:ordered g): ∀(d b:Nat),3<=d->GA g d b=true->3<=b:=by
 intro d
 induction d using Nat.strongRecOn with
 | _ d ih=>
   intro b h3 h;rw[D0 ho]at h;simp only[EP,C1,Gx]at h;rcases h with rfl|⟨p,hp,h⟩
   .exact h3
   .have:=ho d p hp
    exact ih p.toNat (by omega) b (by omega) h
def Bl (us:List Nat):Nat->Nat->Nat
 | 0,m=>m
 | k+1,m=>if(Bl us k m).testBit (3+k)then Bl us k m|||us.getD (3+k) 0 else Bl us k m
def Lm {g : List (List Int)} (ho:ordered g) (m:Nat): ∀(k b:Nat),k<=g.length->((Bl (BX g) k m).testBit b=true↔m.testBit b=true\/ ∃d,3<=d/\d<3+k/\m.testBit d=true/\(b=0\/GA g d b=true))
 | 0,b,_=>by
   rw[Bl];exact⟨.inl,fun h=>h.elim id fun⟨d,h1,h2,_⟩=>by omega⟩
 | k + 1, b, hk=>by
   have ih:=Lm ho m k;rw[Bl];split
   .rename_i hc
    rw[Nat.testBit_or,EP,ih b (by omega),V9 ho (by omega),EP,C1];rw[ih _ (by omega)]at hc;constructor
    .rintro((h|⟨d,h1,h2,h3,h4⟩)|h)
     .exact .inl h
     .exact .inr ⟨d,h1,by omega,h3,h4⟩
     .rcases hc with hc|⟨d,h1,h2,h3,h4⟩
      .exact .inr ⟨3+k,by omega,by omega,hc,h⟩
      .refine .inr ⟨d,h1,by omega,h3,?_⟩
       rcases h with h|h
       .exact .inl h
       .rcases h4 with h4|h4
        .omega
        .exact .inr (IB ho _ _ _ h4 h)
    .rintro(h|⟨d,h1,h2,h3,h4⟩)
     .exact .inl (.inl h)
     .by_cases e:d=3+k
      .subst e;exact .inr h4
      .exact .inl (.inr ⟨d,h1,by omega,h3,h4⟩)
   .rename_i hc
    rw[ih b (by omega)];constructor
    .rintro(h|⟨d,h1,h2,h3,h4⟩)
     .exact .inl h
     .exact .inr ⟨d,h1,by omega,h3,h4⟩
    .rintro(h|⟨d,h1,h2,h3,h4⟩)
     .exact .inl h
     .by_cases e:d=3+k
      .subst e;exact absurd ((ih _ (by omega)).2 (.inl h3)) hc
      .exact .inr ⟨d,h1,by omega,h3,h4⟩
def K8: ∀(l:List Int) (bs:List Bool),(∀q∈l,0<=q/\q.toNat<bs.length)-> ∀b:Nat,(l.foldl (fun b q=>b.set q.toNat true) bs).getD b false=(bs.getD b false||l.contains (b:Int))
 | [],bs,_,b=>by simp
 | q ::r,bs,h,b=>by
   have hq:=h q (.head _);rw[List.foldl_cons,K8 r _ (fun x hx=>by rw[List.length_set];exact h x (.tail _ hx)),E9 hq.2,List.contains_cons];split
   .rename_i e
    subst e;have:((q.toNat:Int)==q)=true:=by rw[C1];omega
    rw[this];simp
   .rename_i e
    have:((b:Int)==q)=false:=by rw[beq_eq_false_iff_ne];omega
    rw[this,Bool.false_or]
def HV {g:List (List Int)} (ho:ordered g) {c:Nat} {bs:List Bool} (hc:c<=bs.length) (b:Nat):(Ke g c bs).getD b false=(bs.getD b false||(bs.getD c false&&(par g c).contains (b:Int))):=by
 rw[Ke];split
 .rename_i h
  rw[K8 _ _ (fun q hq=>by have:=ho c q hq;omega),h,Du]
 .rename_i h
  have:bs.getD c false=false:=by simpa using h
  rw[this,Bool.false_and,Bool.or_false]
def GJ {g:List (List Int)} (ho:ordered g) {n:Nat} {S:List Bool} (hl:S.length=n): ∀(k b:Nat),(C0 g n k S).getD b false=true-> ∃d,S.getD d false=true/\GA g d b=true
 | 0,b,h=>⟨b,h,ET ho b⟩
 | k + 1,b,h=>by
   rw[C0,HV ho (by rw[FW];omega),EP,A4]at h;rcases h with h|⟨h1,h2⟩
   .exact GJ ho hl k b h
   .obtain⟨d,h3,h4⟩:=GJ ho hl k _ h1
    refine⟨d,h3,IB ho _ _ _ h4 ?_⟩;rw[D0 ho,EP,Gx];rw[List.contains_iff_mem]at h2;exact .inr ⟨_,h2,by rw[HX];exact ET ho b⟩
def Xr {g:List (List Int)} (ho:ordered g) {n:Nat} {S:List Bool} (hl:S.length=n) (k b:Nat) (h:(C0 g n k S).getD b false=true):(C0 g n (k+1) S).getD b false=true:=by
 rw[C0,HV ho (by rw[FW];omega),h];rfl
def Jx {g:List (List Int)} (ho:ordered g) {n:Nat} {S:List Bool} (hl:S.length=n): ∀(k b:Nat),S.getD b false=true->(C0 g n k S).getD b false=true
 | 0,_,h=>h
 | k+1,b,h=>Xr ho hl k b (Jx ho hl k b h)
def HW {g:List (List Int)} (ho:ordered g) {n:Nat} {S:List Bool} (hl:S.length=n): ∀(k c:Nat),k<=n->n - k<=c->(C0 g n k S).getD c false=true-> ∀q∈par g c,(C0 g n k S).getD q.toNat false=true
 | 0,c,_,hc,h,q,hq=>by
   rw[C0,DK,List.getElem?_eq_none (by omega)]at h;cases h
 | k + 1,c,hk,hc,h,q,hq=>by
   rw[C0,HV ho (by rw[FW];omega)]at h ⊢;have hoc:=ho c q hq;rw[EP,A4]at h
   have hbase:(C0 g n k S).getD c false=true:=by
    rcases h with h|⟨-,h2⟩
    .exact h
    .rw[List.contains_iff_mem]at h2
     have:=ho _ _ h2;omega
   by_cases e:c=n - 1 - k
   .subst e
    rw[hbase,Du,EP,List.contains_iff_mem];exact .inr (by rw[show((q.toNat:Nat):Int)=q by omega];exact hq)
   .rw[HW ho hl k c (by omega) (by omega) hbase q hq];rfl
def ZQ {g:List (List Int)} (ho:ordered g) {S:List Bool} (hl:S.length=3+g.length) (b:Nat):(C0 g (3+g.length) g.length S).getD b false=true↔ ∃d,S.getD d false=true/\GA g d b=true:=by
 refine⟨GJ ho hl _ b,?_⟩
 have key: ∀d,(C0 g (3+g.length) g.length S).getD d false=true->GA g d b=true->(C0 g (3+g.length) g.length S).getD b false=true:=by
  intro d
  induction d using Nat.strongRecOn with
  | _ d ih=>
    intro h1 h2;rw[D0 ho,EP,C1,Gx]at h2;rcases h2 with rfl|⟨p,hp,h2⟩
    .exact h1
    .have hop:=ho d p hp
     refine ih p.toNat (by omega) (HW ho hl g.length d (by omega) ?_ h1 p hp) h2;omega
 rintro⟨d,h1,h2⟩;exact key d (Jx ho hl _ d h1) h2
def RB (n:Nat) (t:BB) (u:Nat×Nat):Prop:=
 t.1.length=n/\t.2.length=n/\(∀b,t.1.getD b false=u.1.testBit b)/\(∀b,b≠1->b≠2->t.2.getD b false=u.2.testBit b)/\u.1.testBit 1=false/\u.1.testBit 2=false
def D6 (m c b:Nat):(m|||2 ^ c).testBit b=(m.testBit b||b==c):=by
 rw[Nat.testBit_or,Nat.testBit_two_pow];congr 1;rw[Hb];simp only[Cp,C1];omega
def PM {l:List Bool} {m c:Nat} (hc:c<l.length) {b:Nat} (h:l.getD b false=m.testBit b):(l.set c true).getD b false=(m|||2 ^ c).testBit b:=by
 rw[E9 hc,D6,<-h];split
 .rename_i e;subst e;simp
 .rename_i e
  have:(b==c)=false:=by simpa using e
  rw[this,Bool.or_false]
def To (x:Fact×Bool):Bool:= !x.2&&(!(x.1.op==2)||x.1.cls==1||x.1.cls==2)
def cM {n : Nat} {x:Fact×Bool} {t:BB} {k:Kn} (h:RB n t (k.BS,k.Dt)) (hc:x.1.op=2->0<=x.1.cls/\x.1.cls<n) :
    (To x=true->OV x t=none)/\(To x=false-> ∃t',OV x t=some t'/\RB n t' ((By k x.1 x.2).BS,(By k x.1 x.2).Dt)):=by
 obtain⟨f,c⟩:=x;simp only at hc;obtain⟨h1,h2,h3,h4,h5,h6⟩:=h;unfold To OV By;simp only;by_cases ho:f.op=2
 .have hc':=hc ho
  by_cases h12:f.cls=1\/f.cls=2
  .rw[if_pos (.inr h12),if_pos ho]
   cases c with
   | true=>
     refine⟨fun h=>(by cases h),fun _=>⟨t,rfl,h1,h2,h3,fun b hb1 hb2=>?_,h5,h6⟩⟩;rw[if_pos rfl];show _=(k.Dt|||2 ^ f.cls.toNat).testBit b;rw[D6,h4 b hb1 hb2];have:(b==f.cls.toNat)=false:=by rw[beq_eq_false_iff_ne];omega
     rw[this,Bool.or_false]
   | false=>
     refine⟨fun _=>rfl,fun h=>?_⟩;exfalso;rcases h12 with e|e<;>simp[e]at h
  .have hn: ¬(f.op≠2\/f.cls=1\/f.cls=2):=by omega
   rw[if_neg hn,if_pos ho]
   have hb:(!c&&(!(f.op==2)||f.cls==1||f.cls==2))=false:=by
    have e1:(f.op==2)=true:=by simpa using ho
    have e2:(f.cls==1)=false:=by rw[beq_eq_false_iff_ne];omega
    have e3:(f.cls==2)=false:=by rw[beq_eq_false_iff_ne];omega
    rw[e1,e2,e3];simp
   rw[hb];refine⟨fun h=>(by cases h),fun _=>?_⟩;cases c with
   | true=>
     refine⟨_,rfl,h1,by simpa using h2,h3,fun b hb1 hb2=>?_,h5,h6⟩;exact PM (by omega) (h4 b hb1 hb2)
   | false=>
     refine⟨_,rfl,by simpa using h1,h2,fun b=>?_,h4,?_,?_⟩
     .exact PM (by omega) (h3 b)
     .show(k.BS|||2 ^ f.cls.toNat).testBit 1=false
      rw[D6,h5];have:(1==f.cls.toNat)=false:=by rw[beq_eq_false_iff_ne];omega
      rw[this];rfl
     .show(k.BS|||2 ^ f.cls.toNat).testBit 2=false
      rw[D6,h6];have:(2==f.cls.toNat)=false:=by rw[beq_eq_false_iff_ne];omega
      rw[this];rfl
 .rw[if_pos (.inl ho),if_neg ho]
  have e1:(f.op==2)=false:=by simpa using ho
  cases c with
  | true=>
    refine⟨fun h=>(by cases h),fun _=>⟨t,rfl,?_⟩⟩;split<;>exact⟨h1,h2,h3,h4,h5,h6⟩
  | false=>exact⟨fun _=>rfl,fun h=>by rw[e1]at h;cases h⟩
def S5 {n:Nat}: ∀(os:List Fact) {t:BB} {k:Kn},RB n t (k.BS,k.Dt)->Gv n os->
    (os.any (fun l=>To (Ah l))=true->K0 os t=none)/\(os.any (fun l=>To (Ah l))=false-> ∃t',K0 os t=some t'/\RB n t' ((ES os k).BS,(ES os k).Dt))
 | [],t,k,h,_=>⟨fun h=>(by cases h),fun _=>⟨t,rfl,h⟩⟩
 | l ::r,t,k,h,hc=>by
   obtain⟨s1,s2⟩:=cM h (hc l (.head _));rw[Rj,K0];cases hb:To (Ah l)with
   | true=>exact⟨fun _=>by rw[s1 hb];rfl,fun h=>(by cases h)⟩
   | false=>
     obtain⟨t',h1,h2⟩:=s2 hb;rw[h1,Bool.false_or,Option.bind_some];exact S5 r h2 fun x hx=>hc x (.tail _ hx)
def lk {os:List Fact} {n:Nat} (hc:Gv n os):(os.any fun l=>To (Ah l))=((ES os k0).whole||(ES os k0).BS.testBit 1||(ES os k0).BS.testBit 2):=by
 rw[Hb,EP,EP,H2,H2,Lp];simp only[Gx,To,A4,EP,Bool.not_eq_true',C1,beq_eq_false_iff_ne,k0,Bool.false_or];constructor
 .rintro⟨l,hl,hb,(h|h)|h⟩
  .exact .inl (.inl ⟨l,hl,hb,h⟩)
  .by_cases ho:(Ah l).1.op=2
   .exact .inl (.inr ⟨l,hl,ho,hb,by rw[h];rfl⟩)
   .exact .inl (.inl ⟨l,hl,hb,ho⟩)
  .by_cases ho:(Ah l).1.op=2
   .exact .inr ⟨l,hl,ho,hb,by rw[h];rfl⟩
   .exact .inl (.inl ⟨l,hl,hb,ho⟩)
 .rintro((⟨l,hl,hb,h⟩|⟨l,hl,ho,hb,h⟩)|⟨l,hl,ho,hb,h⟩)
  .exact⟨l,hl,hb,.inl (.inl h)⟩
  .have:=hc l hl ho
   exact⟨l,hl,hb,.inl (.inr (by omega))⟩
  .have:=hc l hl ho
   exact⟨l,hl,hb,.inr (by omega)⟩
def ZZ (w:AG) (AZ can:Int->Bool) (s:Int) (u:Nat×Nat):Option (Nat×Nat):=
 if AZ s&& !can s then none else some (if AZ s then u.1|||2 ^ (Bh w s).toNat else u.1,if can s then u.2 else u.2|||2 ^ (Bh w s).toNat)
def I8 (w:AG) (AZ can:Int->Bool):List Int->Nat×Nat->Option (Nat×Nat)
 | [],u=>some u
 | s::r,u=>(ZZ w AZ can s u).bind (I8 w AZ can r)
def au {w:AG} {ls:List Fact} {a:Int} {p:List Int} {can AZ:Int->Bool} (hn: ∀s,AZ s= !E2 ls a (p++[s])) {n:Nat} (how: ∀s:Int,0<=s->s<w.owner.length->3<=Bh w s/\Bh w s<n) :
    ∀(sl:List Int) {t:BB} {u:Nat×Nat},(∀s∈sl,0<=s/\s<w.owner.length)->RB n t u->
    (Ky w ls a p can sl t=none/\I8 w AZ can sl u=none)\/ ∃t' u',Ky w ls a p can sl t=some t'/\I8 w AZ can sl u=some u'/\RB n t' u'
 | [],t,u,_,h=> .inr ⟨t,u,rfl,rfl,h⟩
 | s ::r,t,u,hsl,h=>by
   have hs:=hsl s (.head _);have ho:=how s hs.1 hs.2;rw[Ky,I8,Ve,ZZ,hn];obtain⟨h1,h2,h3,h4,h5,h6⟩:=h;split
   .exact .inl ⟨rfl,rfl⟩
   .rw[Option.bind_some,Option.bind_some]
    refine au hn how r (fun x hx=>hsl x (.tail _ hx)) ?_;have hb: ∀i,i<3->(i==(Bh w s).toNat)=false:=fun i hi=>by rw[beq_eq_false_iff_ne];omega
    cases E2 ls a (p++[s])<;>cases can s<;>refine⟨by simpa using h1,by simpa using h2,fun b=>?_,fun b hb1 hb2=>?_,?_,?_⟩
    all_goals simp only[Bool.not_false,Bool.not_true,NN,if_true,if_false]
    all_goals first
     | exact h3 b
     | exact h4 b hb1 hb2
     | exact h5
     | exact h6
     | exact PM (by omega) (h3 b)
     | exact PM (by omega) (h4 b hb1 hb2)
     | (rw[D6,h5,hb 1 (by omega)];rfl)
     | (rw[D6,h6,hb 2 (by omega)];rfl)
def Hl (m:Nat):Nat:=m - m % 2
def W4 (m b:Nat):(Hl m).testBit b=(m.testBit b&& !(b==0)):=by
 cases b with
 | zero=>
   simp[Hl,Nat.testBit_zero];omega
 | succ b=>
   rw[Nat.testBit_succ,Nat.testBit_succ,Hl,show(m - m % 2) / 2=m / 2 by omega];simp
def tu {w : AG} (ho:ordered w.parents) {t:BB} {u:Nat×Nat} (h:RB (3+w.parents.length) t u) :
    (fh w t).isSome=(!u.2.testBit 0&&(Hl (Bl (BX w.parents) w.parents.length u.1)&&&u.2==0)):=by
 obtain⟨h1,h2,h3,h4,h5,h6⟩:=h;rw[fh,h4 0 (by decide) (by decide)];cases h0:u.2.testBit 0 with
 | true=>rfl
 | false =>
   rw[if_neg (by decide),Bool.not_false,Du];have hl:(t.1.set 0 false).length=3+w.parents.length:=by simpa using h1
   have hR:=ZQ ho hl;have hP:=Lm ho u.1 w.parents.length
   have hS: ∀d,(t.1.set 0 false).getD d false=true↔d≠0/\u.1.testBit d=true:=fun d=>by
    rw[E9 (by omega)];split
    .rename_i e;subst e;simp
    .rename_i e;rw[h3];exact⟨fun h=>⟨e,h⟩,fun h=>h.2⟩
   have hlt: ∀b,u.1.testBit b=true->b<3+w.parents.length:=fun b hb=>by
    rw[<-h3]at hb;rcases Nat.lt_or_ge b (3+w.parents.length)with h'|h'
    .exact h'
    .rw[DK,List.getElem?_eq_none (by omega)]at hb;cases hb
   have h3b: ∀d,d≠0->u.1.testBit d=true->3<=d:=fun d hd hb=>by
    rcases d with _|_|_|d
    .exact absurd rfl hd
    .rw[h5]at hb;cases hb
    .rw[h6]at hb;cases hb
    .omega
   have hM: ∀b,(Hl (Bl (BX w.parents) w.parents.length u.1)).testBit b=true↔(C0 w.parents (3+w.parents.length) w.parents.length (t.1.set 0 false)).getD b false=true:=fun b=>by
    rw[W4,A4,hP b (IS _),hR,Bool.not_eq_true',beq_eq_false_iff_ne];constructor
    .rintro⟨h|⟨d,q1,q2,q3,q4⟩,hb⟩
     .exact⟨b,(hS b).2 ⟨hb,h⟩,ET ho b⟩
     .rcases q4 with e|q4
      .exact absurd e hb
      .exact⟨d,(hS d).2 ⟨by omega,q3⟩,q4⟩
    .rintro⟨d,hd,hu⟩
     obtain⟨hd0,hdu⟩:=(hS d).1 hd;have hd3:=h3b d hd0 hdu;have:=LH ho d b hd3 hu;exact⟨.inr ⟨d,hd3,hlt d hdu,hdu,.inr hu⟩,by omega⟩
   have hany:((List.range (3+w.parents.length)).any fun c=>(C0 w.parents (3+w.parents.length) w.parents.length (t.1.set 0 false)).getD c false&&t.2.getD c false)= !(Hl (Bl (BX w.parents) w.parents.length u.1)&&&u.2==0):=by
    rw[Hb,Bool.not_eq_true',<-Bool.not_eq_true,Mv,Gx];constructor
    .rintro⟨c,hc,hx⟩ hall
     rw[A4]at hx;have hm:=(hM c).2 hx.1;obtain⟨d,hd,hu⟩:=(hR c).1 hx.1;obtain⟨hd0,hdu⟩:=(hS d).1 hd;have:=LH ho d c (h3b d hd0 hdu) hu;exact hall c hm (by rw[<-h4 c (by omega) (by omega)];exact hx.2)
    .intro hne
     rcases Classical.em (∃b,(Hl (Bl (BX w.parents) w.parents.length u.1)).testBit b=true/\u.2.testBit b=true)with⟨b,hb1,hb2⟩|hno
     .have hm:=(hM b).1 hb1
      obtain⟨d,hd,hu⟩:=(hR b).1 hm;obtain⟨hd0,hdu⟩:=(hS d).1 hd;have:=LH ho d b (h3b d hd0 hdu) hu;have:=gY ho d b hu;have:=hlt d hdu;exact⟨b,List.mem_range.2 (by omega),by rw[hm,h4 b (by omega) (by omega),hb2];rfl⟩
     .exact absurd (fun b h1 h2=>hno ⟨b,h1,h2⟩) hne
   rw[hany];cases(Hl (Bl (BX w.parents) w.parents.length u.1)&&&u.2==0)<;>rfl
def O4 (w:AG) (k:Kn) (AZ can:Int->Bool):Nat×Bool:=
 if k.whole||k.BS.testBit 1||k.BS.testBit 2||k.Dt.testBit 0 then(0,false)else
 match I8 w AZ can k.AF (k.BS,k.Dt)with
 | none=>(0,false)
 | some u=>(Hl (Bl (BX w.parents) w.parents.length u.1),Hl (Bl (BX w.parents) w.parents.length u.1)&&&u.2==0)
def RM {w:AG} {AZ can:Int->Bool} (how: ∀s:Int,0<=s->s<w.owner.length->3<=Bh w s): ∀(sl:List Int) {u u':Nat×Nat},(∀s∈sl,0<=s/\s<w.owner.length)->I8 w AZ can sl u=some u'->u'.2.testBit 0=u.2.testBit 0
 | [],u,u',_,h=>by cases h;rfl
 | s ::r,u,u',hsl,h=>by
   have hs:=hsl s (.head _);have ho:=how s hs.1 hs.2;rw[I8,ZZ]at h;split at h
   .cases h
   .rw[Option.bind_some]at h
    rw[RM how r (fun x hx=>hsl x (.tail _ hx)) h];simp only;split
    .rfl
    .rw[D6]
     have:(0==(Bh w s).toNat)=false:=by rw[beq_eq_false_iff_ne];omega
     rw[this,Bool.or_false]
def qZ {w:AG} {ls:List Fact} {a:Int} {p:List Int} {can AZ:Int->Bool} (ho:ordered w.parents) (how: ∀s:Int,0<=s->s<w.owner.length->3<=Bh w s/\Bh w s<3+w.parents.length) (hc:Gv (3+w.parents.length) ls) (hp:HK w.owner.length ls) (hn: ∀s,AZ s= !E2 ls a (p++[s])) :
    (O4 w (kn ls a p) AZ can).2=(VI w ls a p can).isSome:=by
 have hcore:=MI ls a p;have hsl:=Jo hp a p;generalize kn ls a p=k at *;have hc2:Gv (3+w.parents.length) (ls.filter (Kp a p)):=fun l hl=>hc l (Kj.1 hl).1
 simp only[DV,Prod.mk.injEq]at hcore;obtain⟨-,-,-,c4,c5,c6⟩:=hcore;rw[O4,VI,c4,c5,c6,<-lk hc2,hsl]
 have hR0:RB (3+w.parents.length) (tO w) (k0.BS,k0.Dt):=by
  refine⟨by simp[tO],by simp[tO],fun b=>?_,fun b _ _=>?_,rfl,rfl⟩<;>
  .simp only[tO,k0,Nat.zero_testBit,DK,List.getElem?_replicate]
   split<;>rfl
 obtain⟨f1,f2⟩:=S5 _ hR0 hc2;cases hbad:(ls.filter (Kp a p)).any fun l=>To (Ah l)with
 | true=>rw[f1 hbad];rfl
 | false=>
   obtain⟨t,ht,hR⟩:=f2 hbad;rw[ht,Option.bind_some,Bool.false_or];have hin: ∀s∈Cr w.owner.length ls a p,0<=s/\s<(w.owner.length:Int):=fun s hs=>IC hs
   rcases au (can:=can) hn (fun s h0 h1=>by have:=how s h0 h1;omega) (Cr w.owner.length ls a p) hin hR with⟨e1,e2⟩|⟨t',u',e1,e2,hR'⟩
   .rw[e1,e2]
    split<;>rfl
   .rw[e1,e2,Option.bind_some,tu ho hR']
    have:=RM (fun s h0 h1=>(how s h0 h1).1) _ hin e2;rw[this];simp only;cases((ES (ls.filter (Kp a p)) k0).Dt.testBit 0)<;>rfl
end Go.Gl
namespace Go.Gl
def Gs (no:List Int):Nat->Int->Int
 | 0,n=>n
 | k+1,n=>if no.contains n then Gs no k (n+1)else n
def from_ (no:List Int) (n:Int):Nat:=(no.filter fun x=>decide (n<=x)).length
def PZ {no:List Int} {n:Int} (h:n∈no):from_ no (n+1)<from_ no n:=by
 induction no with
 | nil=>cases h
 | cons x r ih=>
   simp only[from_,List.filter_cons]at ih ⊢;by_cases hx:x=n
   .subst hx
    have hle:(r.filter fun y=>decide (x+1<=y)).length<=(r.filter fun y=>decide (x<=y)).length:=by
     refine List.Sublist.length_le ?_
     have e:(r.filter fun y=>decide (x+1<=y))=(r.filter fun y=>decide (x<=y)).filter fun y=>decide (x+1<=y):=by
      rw[List.filter_filter];refine List.filter_congr fun y _=>?_
      rw[Hb,A4,Cp,Cp];omega
     rw[e];exact List.filter_sublist
    rw[if_neg (by simp<;>omega),if_pos (by simp),NM];omega
   .have h':n∈r:=by
     rcases Fg.1 h with e|e
     .exact absurd e.symm hx
     .exact e
    have:=ih h';by_cases h1:n<=x
    .rw[if_pos (by rw[Cp];omega),if_pos (by rw[Cp];omega),NM,NM]
     omega
    .rw[if_neg (by rw[Cp];omega),if_neg (by rw[Cp];omega)]
     omega
def Ui (no:List Int) (n:Int):from_ no n<=no.length:=Xv _ _
def M4 {no:List Int}: ∀(k:Nat) (n:Int),from_ no n<=k->n<=Gs no k n/\Gs no k n∉no/\ ∀j,n<=j->j<Gs no k n->j∈no
 | 0,n,h=>by
   refine⟨Int.le_refl _,fun hm=>?_,fun j h1 h2=>by simp only[Gs]at h2;omega⟩;have:=PZ hm;simp only[Gs]at this;omega
 | k + 1,n,h=>by
   rw[Gs];split
   .rename_i hc
    rw[List.contains_iff_mem]at hc;have hlt:=PZ hc;obtain⟨h1,h2,h3⟩:=M4 (no:=no) k (n+1) (by omega);refine⟨by omega,h2,fun j hj1 hj2=>?_⟩;by_cases e:j=n
    .subst e;exact hc
    .exact h3 j (by omega) hj2
   .rename_i hc
    exact⟨Int.le_refl _,fun hm=>hc (List.contains_iff_mem.2 hm),fun j h1 h2=>by omega⟩
def jA {no:List Int} {k:Nat} {n:Int} (h:n∈no):Gs no (k+1) n=Gs no k (n+1):=by rw[Gs,if_pos (List.contains_iff_mem.2 h)]
def bP {no:List Int} {k:Nat} {n:Int} (h:n∉no):Gs no k n=n:=by
 cases k with
 | zero=>rfl
 | succ k=>rw[Gs,if_neg (fun hc=>h (List.contains_iff_mem.1 hc))]
def Pe {no:List Int} {k k':Nat} {n:Int} (h:from_ no n<=k) (h':from_ no n<=k'):Gs no k n=Gs no k' n:=by
 obtain⟨a1,a2,a3⟩:=M4 k n h;obtain⟨b1,b2,b3⟩:=M4 k' n h';rcases Int.lt_trichotomy (Gs no k n) (Gs no k' n)with hl|he|hg
 .exact absurd (b3 _ a1 hl) a2
 .exact he
 .exact absurd (a3 _ b1 hg) b2
def Ef (k:Kn):Int:=Gs k.no k.no.length k.low
def Hv (kf:Int->List Int->Kn) (a:Int) (p:List Int):Bool:=(kf a p).AF.all fun s=> !(kf a (p++[s])).AZ
def Eb (kf:Int->List Int->Kn) (a:Int) (p:List Int) (c:Nat):Bool:=Hg (kf a p).BS (1|||2 ^ c)&&((kf a p).Dt&&&(1|||2 ^ c)==0&&Hv kf a p)
def Fw (kf:Int->List Int->Kn) (a:Int) (p:List Int):Bool:=decide (Ef (kf a p)<=(kf a p).high)&&Eb kf a p 1
def DT (kf:Int->List Int->Kn) (a:Int) (p:List Int):Bool:= !(kf a p).whole&&Eb kf a p 2
def O8 (w:AG) (kf:Int->List Int->Kn) (a:Int):Nat->List Int->Bool
 | 0,p=>Fw kf a p||(DT kf a p||(O4 w (kf a p) (fun s=>(kf a (p++[s])).AZ) (fun _=>false)).2)
 | d+1,p=>Fw kf a p||(DT kf a p||(O4 w (kf a p) (fun s=>(kf a (p++[s])).AZ) (fun s=>O8 w kf a d (p++[s]))).2)
def fO (w:AG) (kf:Int->List Int->Kn):Bool:=(Bi 3).all fun a=>O8 w kf a 2 []
def a7 {n:Nat} {ls:List Fact} (h:HK n ls) (a:Int) (p:List Int):Hv (kn ls) a p=G0 n ls a p:=by
 rw[Hv,G0,Jo h];congr 1;funext s;rw[KW,Bool.not_not]
def YQ {n m:Nat} {ls:List Fact} (hn:n<=64) (hc:Gv n ls) (h:HK m ls) (a:Int) (p:List Int):Fw (kn ls) a p=((O5 ls a p).isSome&&G0 m ls a p):=by
 have hcore:=MI ls a p;have hc2:Gv n (ls.filter (Kp a p)):=fun l hl=>hc l (Kj.1 hl).1
 simp only[DV,Prod.mk.injEq]at hcore;obtain⟨c1,c2,c3,c4,c5,-⟩:=hcore;rw[Fw,Eb,a7 h,c4,c5,<-Bool.and_assoc (Hg _ _),cu hn hc2,<-Bool.and_assoc];congr 1;have hf:=S6 (ls.filter (Kp a p)) k0;rw[O5,show t0=(k0.low,k0.high,k0.no) from rfl,hf,Ef,c2,c3,c1];obtain⟨h1,h2,h3⟩:=M4 (no:=(ES (ls.filter (Kp a p)) k0).no) _ (ES (ls.filter (Kp a p)) k0).low (Ui _ _);have hs:=jg (high:=(ES (ls.filter (Kp a p)) k0).high) h1 h2 h3;cases(ls.filter (Kp a p)).all fun l=>rQ (Ah l)with
 | false=>simp
 | true=>rw[if_pos rfl,Option.bind_some,hs,Bool.and_true]
def UW {n m:Nat} {ls:List Fact} (hn:n<=64) (hc:Gv n ls) (h:HK m ls) (a:Int) (p:List Int):DT (kn ls) a p=JZ m ls a p:=by
 have hcore:=MI ls a p;have hc2:Gv n (ls.filter (Kp a p)):=fun l hl=>hc l (Kj.1 hl).1
 simp only[DV,Prod.mk.injEq]at hcore;obtain⟨-,-,-,c4,c5,c6⟩:=hcore;rw[DT,Eb,a7 h,c4,c5,c6,JZ,<-Yv hn hc2];simp only[Bool.and_assoc]
def ik {w:AG} {ls:List Fact} (ho:ordered w.parents) (how: ∀s:Int,0<=s->s<w.owner.length->3<=Bh w s/\Bh w s<3+w.parents.length) (hn:3+w.parents.length<=64) (hc:Gv (3+w.parents.length) ls) (hp:HK w.owner.length ls) (a:Int): ∀(d:Nat) (p:List Int),O8 w (kn ls) a d p=Tm w ls a d p
 | 0,p=>by
   rw[O8,Tm,YQ hn hc hp,UW hn hc hp,qZ ho how hc hp fun s=>KW ls a (p++[s])]
 | d+1,p=>by
   rw[O8,Tm,YQ hn hc hp,UW hn hc hp,qZ ho how hc hp fun s=>KW ls a (p++[s])];have e:(fun s=>O8 w (kn ls) a d (p++[s]))=fun s=>Tm w ls a d (p++[s]):=funext fun s=>ik ho how hn hc hp a d (p++[s])
   rw[e]
def sO {w:AG} {ls:List Fact} (ho:ordered w.parents) (how: ∀s:Int,0<=s->s<w.owner.length->3<=Bh w s/\Bh w s<3+w.parents.length) (hn:3+w.parents.length<=64) (hc:Gv (3+w.parents.length) ls) (hp:HK w.owner.length ls):fO w (kn ls)=EG w ls:=by
 rw[fO,EG];congr 1;funext a;exact ik ho how hn hc hp a 2 []
end Go.Gl
namespace Go.Gl
open Go.Proofs
attribute [local irreducible] Av An Af AQ AL Ac AP AS AK Ab AN AO As A3 Sat AV A0 Ag W
section
variable {S:Type} (g:FuncId) (fi ca:List V) (H:S->List At) (f:Int->Bool) (J:S->Prop) (D:Int->Prop)
def R6 {v:V} {xs:List Int} (hst:Of zP (.f (.func g) fi ca) eI (fun s=> .own v 1 (iL xs)::H s) f J D) (hD: ∀x∈xs,D x) (hxl:xs.length<=Ad) (s0:S) (hj0:J s0) :
    BO zP 114 [v,.f (.func g) fi ca] (.own v 1 (iL xs)::H s0) fun r post=>r= .ret (eI (Od f xs 0))/\ ∃s',J s'/\post= .own v 1 (iL xs)::H s':=by
 intro Z hs;have hM:=Mx;refine ie kZ ?_;refine zz ?_;(repeat clear U K);repeat intro K U
 refine Cn xs.length (fun k (_:S)=>[(8,eI (BR k))]) (fun _ s=> .own v 1 (iL xs)::H s) (fun k s=>J s/\Od f xs 0=Od f (xs.drop k) k) s0 rfl ⟨hj0,rfl⟩ hs ?_;clear hs hj0;rintro k s Z hk ⟨hj,hn⟩ hs;have hck:BR k=k:=Ae (by omega);rcases BK xs hk with⟨y,hy,hlt⟩|hke
 .rw[drop_cons hy]at hn
  have hDy:=hD y (Cm hy);rw[Od]at hn
  conv=>whnf
  repeat'((first|clear U K|apply st|(apply zk;intro K U)|refine zY ?_|refine ze fun x hx=>?_|fail)<;>conv=>whnf)
  obtain rfl:x=y:=by rw[hck,HX,hy]at hx;exact(Option.some.inj hx).symm
  refine hst.use hDy hj hs ?_;clear hs hj;intro s Z hj hs;cases hyes:f x
  .rw[hyes,if_neg (by decide)]at hn
   refine zz ?_;(repeat clear U K);repeat intro K U
   exact⟨hlt,_,rfl,⟨hj,hn⟩,hs⟩
  .rw[hyes,if_pos rfl]at hn
   refine zz ?_;(repeat clear U K);repeat intro K U
   rw[hn];exact AH ⟨_,⟨by rw[hck],s,hj,rfl⟩,hs⟩
 .rw[Au hke,Od]at hn
  refine zz ?_;(repeat clear U K);repeat intro K U
  rw[hn];exact AH ⟨_,⟨rfl,s,hj,rfl⟩,hs⟩
def PF {v:V} {xs:List Int} (hst:Of zP (.f (.func g) fi ca) eI (fun s=> .own v 1 (iL xs)::H s) f J D) (hD: ∀x∈xs,D x) (hxl:xs.length<=Ad) (s0:S) (hj0:J s0) :
    BO zP 66 [v,.f (.func g) fi ca] (.own v 1 (iL xs)::H s0) fun r post=>r= .ret (.b (xs.any f))/\ ∃s',J s'/\post= .own v 1 (iL xs)::H s':=by
 intro Z hs;refine qu kZ ?_
 conv=>whnf
 repeat'((first|clear U K|apply st|(apply zk;intro K U)|fail)<;>conv=>whnf)
 refine(R6 g fi ca H f J D hst hD hxl s0 hj0).use (rest:=[]) (by simpa using hs) ?_;rintro r post Z ⟨rfl,s',hj,rfl⟩ hs;refine zz ?_;(repeat clear U K);repeat intro K U
 exact AH ⟨_,⟨by rw[<-Wv f xs 0],s',hj,rfl⟩,by simpa using hs⟩
def ny {v:V} {xs:List Int} (hst:Of zP (.f (.func g) fi ca) eI (fun s=> .own v 1 (iL xs)::H s) f J D):Of zP (.f (.func 227) [] [.rp [.f (.func g) fi ca]]) eI (fun s=> .own v 1 (iL xs)::H s) (fun y=> !f y) J D:=by
 intro y s hd hj Z hs;refine BH ?_;show Av zP 227 ([]++[eI y]++[.rp [.f (.func g) fi ca]]) Z _;refine iV kZ ?_;refine zz ?_;(repeat clear U K);repeat intro K U
 refine hst.use hd hj hs ?_;clear hs;intro s' Z hj' hs;refine zz ?_;(repeat clear U K);repeat intro K U
 exact AH ⟨rfl,s',hj',hs⟩
def bO {v:V} {xs:List Int} (hst:Of zP (.f (.func g) fi ca) eI (fun s=> .own v 1 (iL xs)::H s) f J D) (hD: ∀x∈xs,D x) (hxl:xs.length<=Ad) (s0:S) (hj0:J s0) :
    BO zP 180 [v,.f (.func g) fi ca] (.own v 1 (iL xs)::H s0) fun r post=>r= .ret (.b (xs.all f))/\ ∃s',J s'/\post= .own v 1 (iL xs)::H s':=by
 intro Z hs;refine iZ kZ ?_
 conv=>whnf
 repeat'((first|clear U K|apply st|(apply zk;intro K U)|fail)<;>conv=>whnf)
 refine(PF 227 [] [.rp [.f (.func g) fi ca]] H _ J D (ny g fi ca H f J D hst) hD hxl s0 hj0).use (rest:=[]) (by simpa using hs) ?_;rintro r post Z ⟨rfl,s',hj,rfl⟩ hs;refine zz ?_;(repeat clear U K);repeat intro K U
 refine AH ⟨_,⟨?_,s',hj,rfl⟩,by simpa using hs⟩;rw[List.all_eq_not_any_not]
end
abbrev JI (l:Fact):List V:=xF (Ah l).1++[.b (Ah l).2]
abbrev Dx (ls:List Fact):List (List V):=ls.map JI
def UP (xs ys:List Int) (f g:Bool):Pure zP 45 [.l (iL xs) f,.l (iL ys) g] (.b (xs==ys)):=by
 refine Pure.fit (by kernel_rfl) fun hf=>?_
 have hx:=Vp hf.1;have hy:=Vp hf.2.1;have hM:=Mx;refine zQ kZ ?_;have hs:=Sn
 conv=>whnf
 repeat'((first|clear U K|apply st|(apply zk;intro K U)|refine zY ?_|(refine zd (fun hc=>?_) (fun hc=>?_)<;>try exact⟨⟩)|fail)<;>conv=>whnf)
 .exact AJ (by(have:(xs==ys)=false:=by(simp;intro e;subst e;simp at hc));rw[this])
 have hl:xs.length=ys.length:=by omega
 refine Cn xs.length (fun k (_:Unit)=>[(13,eI (BR k))]) (fun _ _=>[]) (fun k _=>(xs==ys)=(xs.drop k==ys.drop k)) () rfl rfl Sat.nil ?_;clear hs;rintro k - Z hk hn hs;rcases BK xs hk with⟨x,hxk,hlt⟩|hke
 .obtain⟨y,hyk⟩: ∃y,ys[k]? =some y:=⟨_,Dp (by omega)⟩
  rw[drop_cons hxk,drop_cons hyk]at hn
  conv=>whnf
  repeat'((first|clear U K|apply st|(apply zk;intro K U)|refine zY ?_|refine za (fun hc=>?_) fun hc=>?_|fail)<;>conv=>whnf)
  .exact AJ (by rw[hn];simp[*])
  .exact⟨hlt,(),rfl,by rw[hn];simp[*],hs⟩
 .refine zz ?_;(repeat clear U K);repeat intro K U
  exact AJ (by rw[hn,Au hke,Au (by omega)];rfl)
def oM (a b:Bool) (u:V):Pure zP 235 [.l [] a,.l [] b,u] (.b true):=by
 refine vF kZ ?_;have hs:=Sn;have hM:=Mx
 conv=>whnf
 repeat'((first|clear U K|apply st|(apply zk;intro K U)|refine zY ?_|(refine zb (fun hc=>?_) (fun hc=>?_)<;>try exact⟨⟩)|fail)<;>conv=>whnf)
 refine Cn 0 (fun k (_:Unit)=>[(17,eI (BR k))]) (fun _ _=>[]) (fun _ _=>True) () rfl trivial Sat.nil ?_;clear hs;rintro k - Z hk - hs;obtain rfl:k=0:=by omega
 conv=>whnf
 repeat'((first|clear U K|apply st|(apply zk;intro K U)|refine zY ?_|(refine zd (fun hc=>?_) (fun hc=>?_)<;>try exact⟨⟩)|fail)<;>conv=>whnf)
 .exfalso
  simp at hc
 .exact AJ rfl
def nD (f g:Fact) (hf:f.kids= []) (hg:g.kids= []):Pure zP 188 [.a (xF f),.a (xF g)] (.b (Hp f g)):=by
 have e:Hp f g=(f.op==g.op&&(f.arg==g.arg&&(f.cls==g.cls&&(f.n==g.n&&f.path==g.path)))):=by
  rw[WS,hf,hg];simp[YD]
 obtain⟨o,a,p,c,n,k⟩:=f;obtain⟨o',a',p',c',n',k'⟩:=g;simp only[Fact.kids]at hf hg;subst hf;subst hg;refine vq kZ ?_;have hs:=Sn;rw[e]
 conv=>whnf
 repeat'((first|clear U K|apply st|(apply zk;intro K U)|refine zY ?_|refine Pure.use (UP _ _ _ _) ?_|refine Pure.use (oM _ _ _) ?_|refine za (fun hc=>?_) fun hc=>?_|fail)<;>conv=>whnf)
 all_goals simp only[Fact.op,Fact.arg,Fact.cls,Fact.n,Fact.path]at *
 all_goals exact AJ (by simp[*])
def T5:E0 JI 7:=fun l=>by
 refine⟨rfl,fun v hv=>?_⟩;rcases Ds.1 hv with hv|hv
 .exact(QA (Ah l).1).2 v (by show v∈Fm (Ah l).1;rw[Bw];exact hv)
 .simp at hv;subst hv;rfl
def SB (x y:Fact):Bool:=(Ah x).2==(Ah y).2&&Hp (Ah x).1 (Ah y).1
abbrev Zc (l:Fact):Prop:=(Ah l).1.kids= []
abbrev ra (f:Fact->Bool):Fact->Unit->Bool×Unit:=fun y _=>(f y,())
def nE (x:Fact) (hx1:Zc x) (n:Nat):DG zP (.f (.func 187) [] [.p n 0]) (fun y=> .a (JI y)) (fun _:Unit=>[.box n (JI x)]) (ra (SB x)) (fun y _=>Zc y):=by
 intro y s hy1 Z hs;refine BH ?_;show Av zP 187 ([]++[.a (JI y)]++[.p n 0]) Z _;refine vr kZ ?_;unfold SB
 conv=>whnf
 repeat'((first|clear U K|apply st|(apply zk;intro K U)|refine zY ?_|refine Pure.use (nD _ _ hx1 hy1) ?_|refine za (fun hc=>?_) fun hc=>?_|fail)<;>conv=>whnf)
 all_goals exact AH ⟨by simp[ra, *],hs⟩
section
variable {S:Type} (g:FuncId) (fi ca:List V) (H:S->List At)
def R5 (stp:Fact->S->Bool×S) (D:Fact->S->Prop) {v:V} {xs:List Fact} (hst:DG zP (.f (.func g) fi ca) (fun y=> .a (JI y)) (fun s=> .own v 7 (Dx xs)::H s) stp D) (hxl:xs.length<=Ad) (s0:S) (hd:Xz stp D xs s0) :
    BO zP 234 [v,.f (.func g) fi ca] (.own v 7 (Dx xs)::H s0) fun r post=>r= .ret (eI (Bp stp xs 0 s0).1)/\post= .own v 7 (Dx xs)::H (Bp stp xs 0 s0).2:=by
 intro Z hs;have hM:=Mx;refine vG kZ ?_;refine zz ?_;(repeat clear U K);repeat intro K U
 refine Cn xs.length (fun k (_:S)=>[(8,eI (BR k))]) (fun _ s=> .own v 7 (Dx xs)::H s) (fun k s=>Xz stp D (xs.drop k) s/\Bp stp xs 0 s0=Bp stp (xs.drop k) k s) s0 rfl ⟨hd,rfl⟩ hs ?_;clear hs;rintro k s Z hk ⟨hd,hn⟩ hs;have hck:BR k=k:=Ae (by omega);rcases BK xs hk with⟨y,hy,hlt⟩|hke
 .rw[drop_cons hy]at hn hd
  obtain⟨hd1,hd2⟩:=hd;rw[Bp]at hn
  conv=>whnf
  repeat'((first|clear U K|apply st|(apply zk;intro K U)|refine zY ?_|refine ze fun x hx=>?_|fail)<;>conv=>whnf)
  obtain rfl:x=y:=by rw[hck,HX,hy]at hx;exact(Option.some.inj hx).symm
  refine hst.use hd1 hs ?_;clear hs;intro Z hs;cases hyes:(stp x s).1
  .rw[hyes,if_neg (by decide)]at hn
   refine zz ?_;(repeat clear U K);repeat intro K U
   exact⟨hlt,_,rfl,⟨hd2,hn⟩,hs⟩
  .rw[hyes,if_pos rfl]at hn
   refine zz ?_;(repeat clear U K);repeat intro K U
   rw[hn];exact AH ⟨_,⟨by rw[hck],rfl⟩,hs⟩
 .rw[Au hke,Bp]at hn
  refine zz ?_;(repeat clear U K);repeat intro K U
  rw[hn];exact AH ⟨_,⟨rfl,rfl⟩,hs⟩
def OR (stp:Fact->S->Bool×S) (D:Fact->S->Prop) {v:V} {xs:List Fact} (hst:DG zP (.f (.func g) fi ca) (fun y=> .a (JI y)) (fun s=> .own v 7 (Dx xs)::H s) stp D) (hxl:xs.length<=Ad) (s0:S) (hd:Xz stp D xs s0) :
    BO zP 186 [v,.f (.func g) fi ca] (.own v 7 (Dx xs)::H s0) fun r post=>r= .ret (.b (decide ((Bp stp xs 0 s0).1≥0)))/\post= .own v 7 (Dx xs)::H (Bp stp xs 0 s0).2:=by
 intro Z hs;refine vt kZ ?_
 conv=>whnf
 repeat'((first|clear U K|apply st|(apply zk;intro K U)|fail)<;>conv=>whnf)
 refine(R5 g fi ca H stp D hst hxl s0 hd).use (rest:=[]) (by simpa using hs) ?_;rintro r post Z ⟨rfl,rfl⟩ hs;refine zz ?_;(repeat clear U K);repeat intro K U
 exact AH ⟨_,⟨rfl,rfl⟩,by simpa using hs⟩
end
def lN (a:List Fact) (f:Bool) (hl:a.length<=1000000):BO zP 185 [.l (Dx a) f] [] fun r post=> ∃v,r= .ret v/\post= [.own v 7 (Dx a)]:=by
 intro Z hs;have hM:=Mx;refine vw kZ ?_
 conv=>whnf
 repeat'((first|clear U K|apply st|(apply zk;intro K U)|fail)<;>conv=>whnf)
 refine⟨fun e t=>?_,fun _=>?_⟩
 .have hxe:a= []:=List.map_eq_nil_iff.1 e
  subst hxe
  conv=>whnf
  repeat'((first|clear U K|apply st|(apply zk;intro K U)|refine za (fun hc=>?_) fun hc=>?_|fail)<;>conv=>whnf)
  .exact AH ⟨_,⟨_,rfl,rfl⟩,DF hs 7⟩
  .replace hs:=DF hs 7
   refine Kx hs 0 (xs:=[]) (ys:=[]) rfl (by simp) T5 fun v Z hs=>?_
   refine zz ?_;(repeat clear U K);repeat intro K U
   exact AH ⟨_,⟨_,rfl,rfl⟩,hs⟩
 .refine zz ?_;(repeat clear U K);repeat intro K U
  replace hs:=DF hs 7;refine Kx hs 0 (xs:=[]) (ys:=a) rfl (by simp;omega) T5 fun v Z hs=>?_
  refine zz ?_;(repeat clear U K);repeat intro K U
  exact AH ⟨_,⟨_,rfl,rfl⟩,hs⟩
def WK {w:AG} {x:Fact} (h:Dq w x):x=if(Ah x).2 then Ey (Ah x).1 else(Ah x).1:=by
 obtain⟨g,hn,hl,rfl|rfl⟩:=h
 .have:=FZ hl
  have h5: ¬x.op=5:=by omega
  simp only[Ah,if_neg h5];rfl
 .rfl
def Zz {w:AG} {x y:Fact} (hx1:Dq w x) (hy1:Dq w y):SB x y=Hp x y:=by
 rw[Hb,N5];simp only[SB,A4,C1,N5];constructor
 .rintro⟨h1,h2⟩
  rw[WK hx1,WK hy1,h1,h2]
 .rintro rfl
  exact⟨rfl,rfl⟩
def Sq {w:AG} {x:Fact} (h:Dq w x):Zc x:=by
 obtain⟨-,hn,hl⟩:=H4 h;have hlo:=FZ hl;have har:=B5 _ hn;rw[My,A4,C1]at har
 have h0:CD (Ah x).1.op=0:=by
  have h5: ¬(Ah x).1.op=5:=by omega
  have h6: ¬((Ah x).1.op=6\/(Ah x).1.op=7):=by omega
  simp[CD,h5,h6]
  try omega
 rw[h0]at har;exact Xy.1 har.1
def dN {w:AG} (a b:List Fact) (f g:Bool) (hla: ∀x∈a,Dq w x) (hlb: ∀x∈b,Dq w x) (hl:a.length+b.length<1000000):Pure zP 125 [.l (Dx a) f,.l (Dx b) g] (.l (Dx (Cz a b)) false):=by
 have hM:=Mx;refine Pure.of ?_;refine wm kZ ?_;have hs:=Sn
 conv=>whnf
 repeat'((first|clear U K|apply st|(apply zk;intro K U)|fail)<;>conv=>whnf)
 refine(lN a f (by omega)).use (rest:=[]) (by simpa using hs) ?_;clear hs;rintro r post Z ⟨v,rfl,rfl⟩ hs;refine zz ?_;(repeat clear U K);repeat intro K U
 refine Cn b.length (fun k v=>[(5,v),(12,eI (BR k))]) (fun k v=>[.own v 7 (Dx (Cz a (b.take k)))]) (fun _ _=>True) v rfl trivial hs ?_;clear hs;rintro k v Z hk - hs;have hml:=Sx a (b.take k);rw[Lv]at hml;rcases BK b hk with⟨x,hxk,hlt⟩|hke
 .have hsn:=Y4 a (b.take k) x
  rw[<-AU hxk]at hsn;have hxg:=hlb x (Cm hxk)
  have hmem: ∀y∈Cz a (b.take k),Dq w y:=fun y hy=>by
   rcases Sw _ _ _ hy with h|h
   .exact hla y h
   .exact hlb y (List.mem_of_mem_take h)
  generalize Cz a (b.take k)=m at *
  have hany:m.any (SB x)=m.any (Hp x):=by
   rw[Hb,Gx,Gx];exact⟨fun⟨y,hy,h⟩=>⟨y,hy,by rw[<-Zz hxg (hmem y hy)];exact h⟩,fun⟨y,hy,h⟩=>⟨y,hy,by rw[Zz hxg (hmem y hy)];exact h⟩⟩
  conv=>whnf
  repeat'((first|clear U K|apply st|(apply zk;intro K U)|refine zY ?_|refine zs fun Z hs=>?_|refine zo fun nn hnn Z hs=>?_|fail)<;>conv=>whnf)
  generalize nn=n7 at *;have hs2:Sat Z [.own v 7 (Dx m),.box n7 (JI x)]:=hs.perm (.swap _ _ _);clear hs hnn;refine(OR 187 [] [.p n7 0] (fun _:Unit=>[.box n7 (JI x)]) (ra (SB x)) (fun y _=>Zc y) ((nE x (Sq hxg) n7).more [_]) (by omega) () (HN fun y hy _=>Sq (hmem y hy))).use (rest:=[]) hs2 ?_;clear hs2;rintro r post Z ⟨rfl,rfl⟩ hs;rw[Mu,hany];cases hy:m.any (Hp x)
  .rw[hy,if_neg Bool.false_ne_true]at hsn
   refine zz ?_;(repeat clear U K);repeat intro K U
   refine Ir (GR (x:=x) (xs:=m) (enc:=JI) hs 0 rfl (by omega) T5 fun v Z hs hsl=>?_);refine zz ?_;(repeat clear U K);repeat intro K U
   exact⟨hlt,v,rfl,trivial,by rw[hsn];exact hs.less (.cons₂ _ (NQ _))⟩
  .rw[hy,if_pos rfl]at hsn
   refine zz ?_;(repeat clear U K);repeat intro K U
   exact⟨hlt,v,rfl,trivial,by rw[hsn];exact hs.less (.cons₂ _ (NQ _))⟩
 .refine zz ?_;(repeat clear U K);repeat intro K U
  exact eV (Ge hs 0 rfl (vf:= .l (Dx (Cz a b)) false) (by rw[BI hke])) fun r Z h=>h.1
end Go.Gl
