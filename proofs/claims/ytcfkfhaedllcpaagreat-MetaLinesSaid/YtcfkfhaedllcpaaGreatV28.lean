import Derived.Test.YtcfkfhaedllcpaaGreatV14
import Derived.Test.YtcfkfhaedllcpaaGreatV15
import Derived.Test.YtcfkfhaedllcpaaGreatV18
import Derived.Test.YtcfkfhaedllcpaaGreatV21
import Derived.Test.YtcfkfhaedllcpaaGreatV22
import Derived.Test.YtcfkfhaedllcpaaGreatV23
import Derived.Test.YtcfkfhaedllcpaaGreatV27
set_option linter.all false
set_option linter.defProp false
set_option maxHeartbeats 8000000
noncomputable section
namespace Go.Gl
open Go.Proofs
attribute [local irreducible] A6 Ar Ah AR AI Ae AQ AT AK Ad AN AO Ay A7 Sat AY A5 Ai W
def qL {a b:Nat} {A B:Prop} (e:a=b) (h:A):(a=b->A)/\(a≠b->B):=⟨fun _=>h,fun n=>absurd e n⟩
def tasN {a b:Nat} {A B:Prop} (e:a≠b) (h:B):(a=b->A)/\(a≠b->B):=⟨fun n=>absurd n e,fun _=>h⟩
def iT {P:Program} {Z:AE} {tab:List (TypeId×FuncId)} {t:TypeId} {f:FuncId} {v:V} {args:List V} {Q:R->AE->Prop} (h:look t tab=some f) (hc:A6 P f (v::args) Z Q):A7 P tab (.E9 t v) args Z Q:=by
 unfold A7;simp only[h];exact hc
def kW (p:Prog) (n size depth:Int):Pure zP 200 [.a (BK p),eI n,.a [eI size,eI depth]] (.f (.func 264) [] [.rp (BK p),.rp [eI n],.rp [eI size,eI depth]]):=by
 refine vO kZ ?_;have hs:=Sn;exact zW
def sc (p:Prog) (next:Bool) {L:Nat} {E:Env} {ok:FuncId->Array Tmp->Code->Code->Nat->Prop} {v:V} {nO:Nat}
    (hY:NO zP L E ok z8 (hOut nO v) (fun s=>s.length=p.nodes.length) (fun y s=>er (FM p next y.1 y.2.1 y.2.2 s)) (dP p)) (n size:Int) (s:List Int) (h0:0<=size) (h1:size<=20) (hl:s.length=p.nodes.length) (rest:List At) (Z:AE)
    (hs : Sat Z (.obj L (.loop .ready E ok)::(hOut nO v s++rest))) :
     A6 zP 264 [.f (.yield L) [] [],.rp (BK p),.rp [eI n],.rp [eI size,eI 1]] Z
      (lO L E ok (hOut nO v) (fun s=>s.length=p.nodes.length) rest (.t []) (.t []) (er (CK p next 12 n size s))):=by
 refine ug kZ ?_
 conv=>whnf
 repeat'((first|clear U K|apply st|(apply zk;intro K U)|refine zY ?_|refine zs fun Z hs=>?_|refine zo fun nn hnn Z hs=>?_|fail)<;>conv=>whnf)
 have hp:Sat Z (.obj L (.loop .ready E ok)::(hOut nO v s++(.box nn [Xi p L nn]::rest))):=hs.perm (by
  refine(List.Perm.swap _ _ _).trans (.cons _ ?_)
  exact(List.perm_middle (l₁:=hOut nO v s)).symm)
 refine Bh ((ly p next hY 12 (I3 _) n size 1 s rfl h0 (by omega) hl nn rest Z hp).mono ?_);cases hw:CK p next 12 n size s with
 | none=>
   rintro r Z' ⟨rfl,s',hj,hs'⟩
   conv=>whnf
   repeat'((first|clear U K|apply st|fail)<;>conv=>whnf)
   refine DJ ?_;rw[hw];exact⟨rfl,s',hj,hs'.less (List.Sublist.append_left (LW _ _) _)⟩
 | some s2=>
   rintro r Z' ⟨rfl,hs'⟩
   conv=>whnf
   repeat'((first|clear U K|apply st|fail)<;>conv=>whnf)
   refine AU ?_;rw[hw];exact⟨rfl,hs'.less (.cons₂ _ (List.Sublist.append_left (LW _ _) _))⟩
def W5 (p:Prog) (x:Node):(x.op=5/\Rv x.op= .E9 272 (.a []))\/(x.op≠5/\ ∃m:Int,Rv x.op= .E9 271 (eI m)/\JT p x=m)\/(Rv x.op= .De/\JT p x= -1):=by
 unfold Rv JT;by_cases h5:x.op=5
 .exact .inl ⟨h5,by rw[if_pos h5]⟩
 .rw[if_neg h5]
  split
  .exact .inr (.inl ⟨h5,_,rfl,rfl⟩)
  split
  .exact .inr (.inl ⟨h5,_,rfl,rfl⟩)
  split
  .exact .inr (.inl ⟨h5,_,rfl,rfl⟩)
  split
  .exact .inr (.inl ⟨h5,_,rfl,rfl⟩)
  .exact .inr (.inr ⟨rfl,by rw[if_neg (by rintro⟨h,_⟩;exact h5 h)]⟩)
def UL {p:Prog} {x:Node} (h:x.op=5) {size:Int} (hn:M0 p x size=true):0<=x.n/\x.n<p.CW.length/\JT p x=p.CW.getD x.n.toNat 0:=by
 have h2:0<=x.n/\x.n<p.CW.length:=by
  simp only[M0,h]at hn;simpa using hn
 refine⟨h2.1,h2.2,?_⟩;unfold JT;rw[h,if_neg (by decide),if_neg (by decide),if_neg (by decide),if_neg (by decide),if_pos ⟨rfl,h2.1,h2.2⟩]
def iZ {p:Prog} {next:Bool} {n size depth:Int} {s:List Int} (h:n<0\/(p.nodes.length:Int)<=n\/0<=s.getD n.toNat 0\/12<depth):FM p next n size depth s=none:=by
 unfold FM;rw[if_pos h]
def ia {p:Prog} {next:Bool} {n size depth:Int} {s:List Int} {y:Int} {x:Node} (h0:0<=n) (h1:n<(p.nodes.length:Int)) (hy:s[n.toNat]? =some y) (hy0:y<0) (hd:depth<=12) (hx:p.nodes[n.toNat]? =some x):FM p next n size depth s=if D4 p next size x then some (s.set n.toNat size)else none:=by
 have e:s.getD n.toNat 0=y:=by rw[DL,hy];rfl
 unfold FM;rw[if_neg (by rw[e];omega),hx]
def y5 (p:Prog) (nO:Nat) (v:V) (rest:List At) (o:Option (List Int)) (r:R) (Z:AE):Prop:=
 match o with
 | some s=>r= .ret (.t [])/\Sat Z (hOut nO v s++rest)
 | none=>r= .Bd Dp/\ ∃s:List Int,s.length=p.nodes.length/\Sat Z (hOut nO v s++rest)
def UX (p:Prog) (next:Bool) {v:V} {nO:Nat} (hv:(Bg v).isSome=true) (n size:Int) (s:List Int) (h0:0<=size) (h1:size<=20) (hl:s.length=p.nodes.length) (rest:List At) (Z:AE) (hs:Sat Z (hOut nO v s++rest)) :
    A6 zP 199 [eI n,eI size,.b next,.rp (BK p),.p nO 0] Z (y5 p nO v rest (CK p next 12 n size s)):=by
 refine A6.fit (by kernel_rfl) fun hf=>?_
 have hM:=Mx
 have hfp:Eu (.a (BK p)):=by
  have:=hf.2.2.2.1;simp only[UR]at this;simpa only[GV]using this
 have⟨p1,p2,p3,p4⟩:=Ev hfp;refine vP kZ ?_
 conv=>whnf
 repeat'((first|clear U K|apply st|(apply zk;intro K U)|refine zY ?_|refine Pure.use (kW _ _ _ _) ?_|refine zo fun nn hnn Z hs=>?_|fail)<;>conv=>whnf)
 refine A6.mono (sc p next (L:=nn) (v:=v) (nO:=nO) ?_ n size s h0 h1 hl rest Z hs) ?_
 .refine OH (fun y=>rfl) ?_
  clear hs hnn hl h0 h1;rintro⟨k,sz,dp⟩ s ⟨d0,d1,d2,d3,hl⟩ rest Z hs;dsimp only at d0 d1 d2 d3 hl;dsimp only;rw[show z8 (k,sz,dp)= [eI k,.a [eI sz,eI dp]] from rfl]
  conv=>whnf
  repeat'((first|apply st|(apply sq;intro K U)|(apply si;intro A B hA hB)|(refine hA _ _ ?_;clear hB B hA A)|(refine hB _ _ _ ?_;clear hB B hA A)|(refine hB _ _ fun Z hsub=>?_;clear hB B hA A)|(apply U;clear U K)|apply dr|refine rk ?_ ?_|exact fun s e=>by cases e;rfl|refine⟨rfl,?_⟩|refine⟨kZ,?_⟩|refine iq fun x hx=>?_|refine ld ?_|refine Gk fun Z hs=>?_|refine oi ?_|refine ol fun x hx=>?_|refine oset fun Z hs=>?_|refine Uy ?_|refine Rp ?_|(refine Cm (fun hc=>?_) (fun hc=>?_)<;>(replace hc:=bp hc)<;>(try simp(disch:=omega) only[BL,wrap64,AM]at hc)<;>(try(cases hc;done)))|refine Pure.use (cV _ _ _) ?_|refine Pure.use (cu _) ?_|(rcases W5 p (by assumption)with⟨e5,ek⟩|⟨e5,m,ek,hm⟩|⟨ek,hm⟩<;>rw[ek]<;>clear ek)|refine qL rfl ?_|refine tasN (by decide) ?_|refine iT rfl (Pure.use (x4 _ _ _) ?_)|refine iT rfl (Pure.use (oZ _ _ (UL (by assumption) (by assumption)).1 (UL (by assumption) (by assumption)).2.1) ?_)|(constructor<;>intro hc<;>(try rw[hc])<;>(replace hc:=bp hc)<;>(try simp(disch:=omega) only[BL,wrap64,AM]at hc))|(intro nn hnn;generalize hg:BV _ nn _=Z;refine G5 hg fun hs=>?_;clear hg)|clear U K)<;>conv=>whnf)
  all_goals first
   | (intro hn;refine SL (s:=s) (by rw[iZ (by first|omega|(rw[DL,‹s[k.toNat]? =some _›];simp only[Option.getD_some];omega))];rfl) hl (hs.less (by repeat first|exact List.Sublist.refl _|apply List.Sublist.cons)) hn)
   | skip
  all_goals
   have hva:=ia (next:=next) (size:=sz) (depth:=dp) (show 0<=k by omega) (show k<(p.nodes.length:Int) by omega) ‹s[k.toNat]? =some _› (by assumption) (by omega) ‹p.nodes[k.toNat]? =some _›
   rename Node=>x
   have hk5:x.op=5->M0 p x sz=true->JT p x=p.CW.getD x.n.toNat 0:=fun h hn=>(UL h hn).2.2
   intro hn
  all_goals first
   | (rw[if_neg (by first|(intro h;rw[D4,hk5 (by assumption) (by assumption)]at h;simp only[BD,EZ]at h;exact absurd h.1 (by assumption))|(simp[D4, *];done)|(simp[D4, *];omega)|(rw[D4,hk5 (by assumption) (by assumption)];simp[*];done)|(simp[D4, *];intros;omega))]at hva
      refine SL (s:=s.set k.toNat sz) (by rw[hva];rfl) (by simpa using hl) ?_ hn
      first
       | exact hs.less (by repeat first|exact List.Sublist.refl _|apply List.Sublist.cons)
       | exact(hs.less (by repeat first|exact List.Sublist.refl _|apply List.Sublist.cons)).up (by assumption))
   | (rw[if_pos (by first|(simp[D4, *];done)|(rw[D4,hk5 (by assumption) (by assumption)];simp[*];done))]at hva
      exact Vx (s:=s.set k.toNat sz) (by rw[hva];rfl) (hs.less (by repeat first|exact List.Sublist.refl _|apply List.Sublist.cons)) hn)
 .cases hw:CK p next 12 n size s with
  | none=>
    rintro r Z' ⟨rfl,s',hj,hs'⟩
    conv=>whnf
    exact DJ ⟨rfl,s',hj,hs'⟩
  | some s2=>
    rintro r Z' ⟨rfl,hs'⟩;refine Pr hs' fun Z2 hs2=>?_
    conv=>whnf
    exact AU ⟨rfl,hs2⟩
end Go.Gl
namespace Go.Gl
def Vk (g:List (List Int)) (k:Nat): ∀(m d:Nat),d<3+k->(Cd g (k+m)).getD d 0=(Cd g k).getD d 0
 | 0,d,_=>rfl
 | m+1,d,h=>by
   rw[show k+(m+1)=k+m+1 from rfl,Cd,<-Vk g k m d h];rw[DL,k7 (by rw[GC];omega),<-DL]
def Vl (us:List Nat) (b:Nat): ∀(l:List Int) (s:Nat),(XX us l s).testBit b=(s.testBit b||l.any fun c=>(us.getD c.toNat 0).testBit b)
 | [],s=>by simp[XX]
 | c::r,s=>by
   have:=Vl us b r (s|||us.getD c.toNat 0);rw[Q7,<-Bool.or_assoc,<-Nat.testBit_or,<-this];rfl
def iB {α:Type} (f:α->Bool) (b:Bool): ∀(l:List α),(b||l.any fun x=>b||f x)=(b||l.any f)
 | []=>rfl
 | x::r=>by
   have:=iB f b r;simp only[Q7];cases b
   .simpa using this
   .rfl
def any_congr {α:Type} {f g:α->Bool}: ∀ {l:List α},(∀x∈l,f x=g x)->l.any f=l.any g
 | [],_=>rfl
 | x::r,h=>by
   rw[Q7,Q7,h x (.head _),any_congr fun y hy=>h y (.tail _ hy)]
def T5 {g:List (List Int)} (ho:ordered g): ∀(k d b:Nat),k<=g.length->d<3+k->((Cd g k).getD d 0).testBit b=(b==0||KD g d b)
 | 0,d,b,_,hd=>by
   have e:(Cd g 0).getD d 0=1|||2 ^ d:=by
    rcases d with _|_|_|d
    .rfl
    .rfl
    .rfl
    .omega
   rw[e,Tz,FN ho,par,if_pos (by omega),List.any_nil,Bool.or_false];rw[KO];simp only[F1,EZ];omega
 | k + 1,d,b,hk,hd=>by
   by_cases hlt:d<3+k
   .rw[Vk g k 1 d hlt]
    exact T5 ho k d b (by omega) hlt
   .obtain rfl:d=3+k:=by omega
    have e:(Cd g (k+1)).getD (3+k) 0=XX (Cd g k) (g.getD k []) (1|||2 ^ (3+k)):=by
     rw[Cd,DL,List.getElem?_append_right (by rw[GC];omega),GC,Nat.sub_self];rfl
    have hpar:par g (3+k)=g.getD k []:=by rw[par,if_neg (by omega),show 3+k - 3=k by omega]
    rw[e,Vl,Tz,FN ho,hpar]
    have hc:((g.getD k []).any fun c=>((Cd g k).getD c.toNat 0).testBit b)=(g.getD k []).any fun p=>(b==0)||KD g p.toNat b:=any_congr fun p hp=>by
     have:=ho (3+k) p (by rw[hpar];exact hp);exact T5 ho k p.toNat b (by omega) (by omega)
    rw[hc];have e2:(b==3+k)=(3+k==b):=by rw[KO];simp only[EZ];omega
    rw[e2,Bool.or_assoc,Bool.or_left_comm,iB,Bool.or_left_comm]
def ib {g:List (List Int)} (ho:ordered g) {d b:Nat} (hd:d<3+g.length):((Es g).getD d 0).testBit b=(b==0||KD g d b):=T5 ho g.length d b (I3 _) hd
def Xk {g:List (List Int)} (ho:ordered g): ∀(d b:Nat),3<=d->KD g d b=true->3<=b:=by
 intro d
 induction d using Nat.strongRecOn with
 | _ d ih=>
   intro b h3 h;rw[FN ho]at h;simp only[F1,EZ,KM]at h;rcases h with rfl|⟨p,hp,h⟩
   .exact h3
   .have:=ho d p hp
    exact ih p.toNat (by omega) b (by omega) h
def DY (us:List Nat):Nat->Nat->Nat
 | 0,m=>m
 | k+1,m=>if(DY us k m).testBit (3+k)then DY us k m|||us.getD (3+k) 0 else DY us k m
def Qw {g : List (List Int)} (ho:ordered g) (m:Nat): ∀(k b:Nat),k<=g.length->((DY (Es g) k m).testBit b=true↔m.testBit b=true\/ ∃d,3<=d/\d<3+k/\m.testBit d=true/\(b=0\/KD g d b=true))
 | 0,b,_=>by
   rw[DY];exact⟨.inl,fun h=>h.elim id fun⟨d,h1,h2,_⟩=>by omega⟩
 | k + 1, b, hk=>by
   have ih:=Qw ho m k;rw[DY];split
   .rename_i hc
    rw[Nat.testBit_or,F1,ih b (by omega),ib ho (by omega),F1,EZ];rw[ih _ (by omega)]at hc;constructor
    .rintro((h|⟨d,h1,h2,h3,h4⟩)|h)
     .exact .inl h
     .exact .inr ⟨d,h1,by omega,h3,h4⟩
     .rcases hc with hc|⟨d,h1,h2,h3,h4⟩
      .exact .inr ⟨3+k,by omega,by omega,hc,h⟩
      .refine .inr ⟨d,h1,by omega,h3,?_⟩
       rcases h with h|h
       .exact .inl h
       .rcases h4 with h4|h4
        .omega
        .exact .inr (NS ho _ _ _ h4 h)
    .rintro(h|⟨d,h1,h2,h3,h4⟩)
     .exact .inl (.inl h)
     .by_cases e:d=3+k
      .subst e;exact .inr h4
      .exact .inl (.inr ⟨d,h1,by omega,h3,h4⟩)
   .rename_i hc
    rw[ih b (by omega)];constructor
    .rintro(h|⟨d,h1,h2,h3,h4⟩)
     .exact .inl h
     .exact .inr ⟨d,h1,by omega,h3,h4⟩
    .rintro(h|⟨d,h1,h2,h3,h4⟩)
     .exact .inl h
     .by_cases e:d=3+k
      .subst e;exact absurd ((ih _ (by omega)).2 (.inl h3)) hc
      .exact .inr ⟨d,h1,by omega,h3,h4⟩
def Kf: ∀(l:List Int) (bs:List Bool),(∀q∈l,0<=q/\q.toNat<bs.length)-> ∀b:Nat,(l.foldl (fun b q=>b.set q.toNat true) bs).getD b false=(bs.getD b false||l.contains (b:Int))
 | [],bs,_,b=>by simp
 | q ::r,bs,h,b=>by
   have hq:=h q (.head _);rw[List.foldl_cons,Kf r _ (fun x hx=>by rw[List.length_set];exact h x (.tail _ hx)),EE hq.2,List.contains_cons];split
   .rename_i e
    subst e;have:((q.toNat:Int)==q)=true:=by rw[EZ];omega
    rw[this];simp
   .rename_i e
    have:((b:Int)==q)=false:=by rw[beq_eq_false_iff_ne];omega
    rw[this,Bool.false_or]
def HM {g:List (List Int)} (ho:ordered g) {c:Nat} {bs:List Bool} (hc:c<=bs.length) (b:Nat):(H2 g c bs).getD b false=(bs.getD b false||(bs.getD c false&&(par g c).contains (b:Int))):=by
 rw[H2];split
 .rename_i h
  rw[Kf _ _ (fun q hq=>by have:=ho c q hq;omega),h,GJ]
 .rename_i h
  have:bs.getD c false=false:=by simpa using h
  rw[this,Bool.false_and,Bool.or_false]
def GB {g:List (List Int)} (ho:ordered g) {n:Nat} {S:List Bool} (hl:S.length=n): ∀(k b:Nat),(B1 g n k S).getD b false=true-> ∃d,S.getD d false=true/\KD g d b=true
 | 0,b,h=>⟨b,h,Hf ho b⟩
 | k + 1,b,h=>by
   rw[B1,HM ho (by rw[EX];omega),F1,BD]at h;rcases h with h|⟨h1,h2⟩
   .exact GB ho hl k b h
   .obtain⟨d,h3,h4⟩:=GB ho hl k _ h1
    refine⟨d,h3,NS ho _ _ _ h4 ?_⟩;rw[FN ho,F1,KM];rw[List.contains_iff_mem]at h2;exact .inr ⟨_,h2,by rw[JC];exact Hf ho b⟩
def XK {g:List (List Int)} (ho:ordered g) {n:Nat} {S:List Bool} (hl:S.length=n) (k b:Nat) (h:(B1 g n k S).getD b false=true):(B1 g n (k+1) S).getD b false=true:=by
 rw[B1,HM ho (by rw[EX];omega),h];rfl
def Jk {g:List (List Int)} (ho:ordered g) {n:Nat} {S:List Bool} (hl:S.length=n): ∀(k b:Nat),S.getD b false=true->(B1 g n k S).getD b false=true
 | 0,_,h=>h
 | k+1,b,h=>XK ho hl k b (Jk ho hl k b h)
def HN {g:List (List Int)} (ho:ordered g) {n:Nat} {S:List Bool} (hl:S.length=n): ∀(k c:Nat),k<=n->n - k<=c->(B1 g n k S).getD c false=true-> ∀q∈par g c,(B1 g n k S).getD q.toNat false=true
 | 0,c,_,hc,h,q,hq=>by
   rw[B1,DL,List.getElem?_eq_none (by omega)]at h;cases h
 | k + 1,c,hk,hc,h,q,hq=>by
   rw[B1,HM ho (by rw[EX];omega)]at h ⊢;have hoc:=ho c q hq;rw[F1,BD]at h
   have hbase:(B1 g n k S).getD c false=true:=by
    rcases h with h|⟨-,h2⟩
    .exact h
    .rw[List.contains_iff_mem]at h2
     have:=ho _ _ h2;omega
   by_cases e:c=n - 1 - k
   .subst e
    rw[hbase,GJ,F1,List.contains_iff_mem];exact .inr (by rw[show((q.toNat:Nat):Int)=q by omega];exact hq)
   .rw[HN ho hl k c (by omega) (by omega) hbase q hq];rfl
def Yy {g:List (List Int)} (ho:ordered g) {S:List Bool} (hl:S.length=3+g.length) (b:Nat):(B1 g (3+g.length) g.length S).getD b false=true↔ ∃d,S.getD d false=true/\KD g d b=true:=by
 refine⟨GB ho hl _ b,?_⟩
 have key: ∀d,(B1 g (3+g.length) g.length S).getD d false=true->KD g d b=true->(B1 g (3+g.length) g.length S).getD b false=true:=by
  intro d
  induction d using Nat.strongRecOn with
  | _ d ih=>
    intro h1 h2;rw[FN ho,F1,EZ,KM]at h2;rcases h2 with rfl|⟨p,hp,h2⟩
    .exact h1
    .have hop:=ho d p hp
     refine ih p.toNat (by omega) (HN ho hl g.length d (by omega) ?_ h1 p hp) h2;omega
 rintro⟨d,h1,h2⟩;exact key d (Jk ho hl _ d h1) h2
def RB (n:Nat) (t:BB) (u:Nat×Nat):Prop:=
 t.1.length=n/\t.2.length=n/\(∀b,t.1.getD b false=u.1.testBit b)/\(∀b,b≠1->b≠2->t.2.getD b false=u.2.testBit b)/\u.1.testBit 1=false/\u.1.testBit 2=false
def GZ (m c b:Nat):(m|||2 ^ c).testBit b=(m.testBit b||b==c):=by
 rw[Nat.testBit_or,Nat.testBit_two_pow];congr 1;rw[KO];simp only[CD,EZ];omega
def Oq {l:List Bool} {m c:Nat} (hc:c<l.length) {b:Nat} (h:l.getD b false=m.testBit b):(l.set c true).getD b false=(m|||2 ^ c).testBit b:=by
 rw[EE hc,GZ,<-h];split
 .rename_i e;subst e;simp
 .rename_i e
  have:(b==c)=false:=by simpa using e
  rw[this,Bool.or_false]
def Tc (x:Fact×Bool):Bool:= !x.2&&(!(x.1.op==2)||x.1.cls==1||x.1.cls==2)
def cB {n : Nat} {x:Fact×Bool} {t:BB} {k:Kn} (h:RB n t (k.B5,k.Gq)) (hc:x.1.op=2->0<=x.1.cls/\x.1.cls<n) :
    (Tc x=true->GN x t=none)/\(Tc x=false-> ∃t',GN x t=some t'/\RB n t' ((Cn k x.1 x.2).B5,(Cn k x.1 x.2).Gq)):=by
 obtain⟨f,c⟩:=x;simp only at hc;obtain⟨h1,h2,h3,h4,h5,h6⟩:=h;unfold Tc GN Cn;simp only;by_cases ho:f.op=2
 .have hc':=hc ho
  by_cases h12:f.cls=1\/f.cls=2
  .rw[if_pos (.inr h12),if_pos ho]
   cases c with
   | true=>
     refine⟨fun h=>(by cases h),fun _=>⟨t,rfl,h1,h2,h3,fun b hb1 hb2=>?_,h5,h6⟩⟩;rw[if_pos rfl];show _=(k.Gq|||2 ^ f.cls.toNat).testBit b;rw[GZ,h4 b hb1 hb2];have:(b==f.cls.toNat)=false:=by rw[beq_eq_false_iff_ne];omega
     rw[this,Bool.or_false]
   | false=>
     refine⟨fun _=>rfl,fun h=>?_⟩;exfalso;rcases h12 with e|e<;>simp[e]at h
  .have hn: ¬(f.op≠2\/f.cls=1\/f.cls=2):=by omega
   rw[if_neg hn,if_pos ho]
   have hb:(!c&&(!(f.op==2)||f.cls==1||f.cls==2))=false:=by
    have e1:(f.op==2)=true:=by simpa using ho
    have e2:(f.cls==1)=false:=by rw[beq_eq_false_iff_ne];omega
    have e3:(f.cls==2)=false:=by rw[beq_eq_false_iff_ne];omega
    rw[e1,e2,e3];simp
   rw[hb];refine⟨fun h=>(by cases h),fun _=>?_⟩;cases c with
   | true=>
     refine⟨_,rfl,h1,by simpa using h2,h3,fun b hb1 hb2=>?_,h5,h6⟩;exact Oq (by omega) (h4 b hb1 hb2)
   | false=>
     refine⟨_,rfl,by simpa using h1,h2,fun b=>?_,h4,?_,?_⟩
     .exact Oq (by omega) (h3 b)
     .show(k.B5|||2 ^ f.cls.toNat).testBit 1=false
      rw[GZ,h5];have:(1==f.cls.toNat)=false:=by rw[beq_eq_false_iff_ne];omega
      rw[this];rfl
     .show(k.B5|||2 ^ f.cls.toNat).testBit 2=false
      rw[GZ,h6];have:(2==f.cls.toNat)=false:=by rw[beq_eq_false_iff_ne];omega
      rw[this];rfl
 .rw[if_pos (.inl ho),if_neg ho]
  have e1:(f.op==2)=false:=by simpa using ho
  cases c with
  | true=>
    refine⟨fun h=>(by cases h),fun _=>⟨t,rfl,?_⟩⟩;split<;>exact⟨h1,h2,h3,h4,h5,h6⟩
  | false=>exact⟨fun _=>rfl,fun h=>by rw[e1]at h;cases h⟩
def Ss {n:Nat}: ∀(os:List Fact) {t:BB} {k:Kn},RB n t (k.B5,k.Gq)->JM n os->
    (os.any (fun l=>Tc (Av l))=true->D3 os t=none)/\(os.any (fun l=>Tc (Av l))=false-> ∃t',D3 os t=some t'/\RB n t' ((Eo os k).B5,(Eo os k).Gq))
 | [],t,k,h,_=>⟨fun h=>(by cases h),fun _=>⟨t,rfl,h⟩⟩
 | l ::r,t,k,h,hc=>by
   obtain⟨s1,s2⟩:=cB h (hc l (.head _));rw[Q7,D3];cases hb:Tc (Av l)with
   | true=>exact⟨fun _=>by rw[s1 hb];rfl,fun h=>(by cases h)⟩
   | false=>
     obtain⟨t',h1,h2⟩:=s2 hb;rw[h1,Bool.false_or,Option.bind_some];exact Ss r h2 fun x hx=>hc x (.tail _ hx)
def ke {os:List Fact} {n:Nat} (hc:JM n os):(os.any fun l=>Tc (Av l))=((Eo os k0).whole||(Eo os k0).B5.testBit 1||(Eo os k0).B5.testBit 2):=by
 rw[KO,F1,F1,MO,MO,LP];simp only[KM,Tc,BD,F1,Bool.not_eq_true',EZ,beq_eq_false_iff_ne,k0,Bool.false_or];constructor
 .rintro⟨l,hl,hb,(h|h)|h⟩
  .exact .inl (.inl ⟨l,hl,hb,h⟩)
  .by_cases ho:(Av l).1.op=2
   .exact .inl (.inr ⟨l,hl,ho,hb,by rw[h];rfl⟩)
   .exact .inl (.inl ⟨l,hl,hb,ho⟩)
  .by_cases ho:(Av l).1.op=2
   .exact .inr ⟨l,hl,ho,hb,by rw[h];rfl⟩
   .exact .inl (.inl ⟨l,hl,hb,ho⟩)
 .rintro((⟨l,hl,hb,h⟩|⟨l,hl,ho,hb,h⟩)|⟨l,hl,ho,hb,h⟩)
  .exact⟨l,hl,hb,.inl (.inl h)⟩
  .have:=hc l hl ho
   exact⟨l,hl,hb,.inl (.inr (by omega))⟩
  .have:=hc l hl ho
   exact⟨l,hl,hb,.inr (by omega)⟩
def ZE (w:AH) (A0 can:Int->Bool) (s:Int) (u:Nat×Nat):Option (Nat×Nat):=
 if A0 s&& !can s then none else some (if A0 s then u.1|||2 ^ (Cp w s).toNat else u.1,if can s then u.2 else u.2|||2 ^ (Cp w s).toNat)
def It (w:AH) (A0 can:Int->Bool):List Int->Nat×Nat->Option (Nat×Nat)
 | [],u=>some u
 | s::r,u=>(ZE w A0 can s u).bind (It w A0 can r)
def aM {w:AH} {ls:List Fact} {a:Int} {p:List Int} {can A0:Int->Bool} (hn: ∀s,A0 s= !EC ls a (p++[s])) {n:Nat} (how: ∀s:Int,0<=s->s<w.owner.length->3<=Cp w s/\Cp w s<n) :
    ∀(sl:List Int) {t:BB} {u:Nat×Nat},(∀s∈sl,0<=s/\s<w.owner.length)->RB n t u->
    (Di w ls a p can sl t=none/\It w A0 can sl u=none)\/ ∃t' u',Di w ls a p can sl t=some t'/\It w A0 can sl u=some u'/\RB n t' u'
 | [],t,u,_,h=> .inr ⟨t,u,rfl,rfl,h⟩
 | s ::r,t,u,hsl,h=>by
   have hs:=hsl s (.head _);have ho:=how s hs.1 hs.2;rw[Di,It,Ik,ZE,hn];obtain⟨h1,h2,h3,h4,h5,h6⟩:=h;split
   .exact .inl ⟨rfl,rfl⟩
   .rw[Option.bind_some,Option.bind_some]
    refine aM hn how r (fun x hx=>hsl x (.tail _ hx)) ?_;have hb: ∀i,i<3->(i==(Cp w s).toNat)=false:=fun i hi=>by rw[beq_eq_false_iff_ne];omega
    cases EC ls a (p++[s])<;>cases can s<;>refine⟨by simpa using h1,by simpa using h2,fun b=>?_,fun b hb1 hb2=>?_,?_,?_⟩
    all_goals simp only[Bool.not_false,Bool.not_true,KQ,if_true,if_false]
    all_goals first
     | exact h3 b
     | exact h4 b hb1 hb2
     | exact h5
     | exact h6
     | exact Oq (by omega) (h3 b)
     | exact Oq (by omega) (h4 b hb1 hb2)
     | (rw[GZ,h5,hb 1 (by omega)];rfl)
     | (rw[GZ,h6,hb 2 (by omega)];rfl)
def HU (m:Nat):Nat:=m - m % 2
def WY (m b:Nat):(HU m).testBit b=(m.testBit b&& !(b==0)):=by
 cases b with
 | zero=>
   simp[HU,Nat.testBit_zero];omega
 | succ b=>
   rw[Nat.testBit_succ,Nat.testBit_succ,HU,show(m - m % 2) / 2=m / 2 by omega];simp
def so {w : AH} (ho:ordered w.parents) {t:BB} {u:Nat×Nat} (h:RB (3+w.parents.length) t u) :
    (U9 w t).isSome=(!u.2.testBit 0&&(HU (DY (Es w.parents) w.parents.length u.1)&&&u.2==0)):=by
 obtain⟨h1,h2,h3,h4,h5,h6⟩:=h;rw[U9,h4 0 (by decide) (by decide)];cases h0:u.2.testBit 0 with
 | true=>rfl
 | false =>
   rw[if_neg (by decide),Bool.not_false,GJ];have hl:(t.1.set 0 false).length=3+w.parents.length:=by simpa using h1
   have hR:=Yy ho hl;have hP:=Qw ho u.1 w.parents.length
   have hS: ∀d,(t.1.set 0 false).getD d false=true↔d≠0/\u.1.testBit d=true:=fun d=>by
    rw[EE (by omega)];split
    .rename_i e;subst e;simp
    .rename_i e;rw[h3];exact⟨fun h=>⟨e,h⟩,fun h=>h.2⟩
   have hlt: ∀b,u.1.testBit b=true->b<3+w.parents.length:=fun b hb=>by
    rw[<-h3]at hb;rcases Nat.lt_or_ge b (3+w.parents.length)with h'|h'
    .exact h'
    .rw[DL,List.getElem?_eq_none (by omega)]at hb;cases hb
   have h3b: ∀d,d≠0->u.1.testBit d=true->3<=d:=fun d hd hb=>by
    rcases d with _|_|_|d
    .exact absurd rfl hd
    .rw[h5]at hb;cases hb
    .rw[h6]at hb;cases hb
    .omega
   have hM: ∀b,(HU (DY (Es w.parents) w.parents.length u.1)).testBit b=true↔(B1 w.parents (3+w.parents.length) w.parents.length (t.1.set 0 false)).getD b false=true:=fun b=>by
    rw[WY,BD,hP b (I3 _),hR,Bool.not_eq_true',beq_eq_false_iff_ne];constructor
    .rintro⟨h|⟨d,q1,q2,q3,q4⟩,hb⟩
     .exact⟨b,(hS b).2 ⟨hb,h⟩,Hf ho b⟩
     .rcases q4 with e|q4
      .exact absurd e hb
      .exact⟨d,(hS d).2 ⟨by omega,q3⟩,q4⟩
    .rintro⟨d,hd,hu⟩
     obtain⟨hd0,hdu⟩:=(hS d).1 hd;have hd3:=h3b d hd0 hdu;have:=Xk ho d b hd3 hu;exact⟨.inr ⟨d,hd3,hlt d hdu,hdu,.inr hu⟩,by omega⟩
   have hany:((List.range (3+w.parents.length)).any fun c=>(B1 w.parents (3+w.parents.length) w.parents.length (t.1.set 0 false)).getD c false&&t.2.getD c false)= !(HU (DY (Es w.parents) w.parents.length u.1)&&&u.2==0):=by
    rw[KO,Bool.not_eq_true',<-Bool.not_eq_true,QB,KM];constructor
    .rintro⟨c,hc,hx⟩ hall
     rw[BD]at hx;have hm:=(hM c).2 hx.1;obtain⟨d,hd,hu⟩:=(hR c).1 hx.1;obtain⟨hd0,hdu⟩:=(hS d).1 hd;have:=Xk ho d c (h3b d hd0 hdu) hu;exact hall c hm (by rw[<-h4 c (by omega) (by omega)];exact hx.2)
    .intro hne
     rcases Classical.em (∃b,(HU (DY (Es w.parents) w.parents.length u.1)).testBit b=true/\u.2.testBit b=true)with⟨b,hb1,hb2⟩|hno
     .have hm:=(hM b).1 hb1
      obtain⟨d,hd,hu⟩:=(hR b).1 hm;obtain⟨hd0,hdu⟩:=(hS d).1 hd;have:=Xk ho d b (h3b d hd0 hdu) hu;have:=fq ho d b hu;have:=hlt d hdu;exact⟨b,List.mem_range.2 (by omega),by rw[hm,h4 b (by omega) (by omega),hb2];rfl⟩
     .exact absurd (fun b h1 h2=>hno ⟨b,h1,h2⟩) hne
   rw[hany];cases(HU (DY (Es w.parents) w.parents.length u.1)&&&u.2==0)<;>rfl
def OZ (w:AH) (k:Kn) (A0 can:Int->Bool):Nat×Bool:=
 if k.whole||k.B5.testBit 1||k.B5.testBit 2||k.Gq.testBit 0 then(0,false)else
 match It w A0 can k.AG (k.B5,k.Gq)with
 | none=>(0,false)
 | some u=>(HU (DY (Es w.parents) w.parents.length u.1),HU (DY (Es w.parents) w.parents.length u.1)&&&u.2==0)
def Qs {w:AH} {A0 can:Int->Bool} (how: ∀s:Int,0<=s->s<w.owner.length->3<=Cp w s): ∀(sl:List Int) {u u':Nat×Nat},(∀s∈sl,0<=s/\s<w.owner.length)->It w A0 can sl u=some u'->u'.2.testBit 0=u.2.testBit 0
 | [],u,u',_,h=>by cases h;rfl
 | s ::r,u,u',hsl,h=>by
   have hs:=hsl s (.head _);have ho:=how s hs.1 hs.2;rw[It,ZE]at h;split at h
   .cases h
   .rw[Option.bind_some]at h
    rw[Qs how r (fun x hx=>hsl x (.tail _ hx)) h];simp only;split
    .rfl
    .rw[GZ]
     have:(0==(Cp w s).toNat)=false:=by rw[beq_eq_false_iff_ne];omega
     rw[this,Bool.or_false]
def pR {w:AH} {ls:List Fact} {a:Int} {p:List Int} {can A0:Int->Bool} (ho:ordered w.parents) (how: ∀s:Int,0<=s->s<w.owner.length->3<=Cp w s/\Cp w s<3+w.parents.length) (hc:JM (3+w.parents.length) ls) (hp:IB w.owner.length ls) (hn: ∀s,A0 s= !EC ls a (p++[s])) :
    (OZ w (kn ls a p) A0 can).2=(Kk w ls a p can).isSome:=by
 have hcore:=Oz ls a p;have hsl:=MQ hp a p;generalize kn ls a p=k at *;have hc2:JM (3+w.parents.length) (ls.filter (G4 a p)):=fun l hl=>hc l (LX.1 hl).1
 simp only[FL,Prod.mk.injEq]at hcore;obtain⟨-,-,-,c4,c5,c6⟩:=hcore;rw[OZ,Kk,c4,c5,c6,<-ke hc2,hsl]
 have hR0:RB (3+w.parents.length) (tO w) (k0.B5,k0.Gq):=by
  refine⟨by simp[tO],by simp[tO],fun b=>?_,fun b _ _=>?_,rfl,rfl⟩<;>
  .simp only[tO,k0,Nat.zero_testBit,DL,List.getElem?_replicate]
   split<;>rfl
 obtain⟨f1,f2⟩:=Ss _ hR0 hc2;cases hbad:(ls.filter (G4 a p)).any fun l=>Tc (Av l)with
 | true=>rw[f1 hbad];rfl
 | false=>
   obtain⟨t,ht,hR⟩:=f2 hbad;rw[ht,Option.bind_some,Bool.false_or];have hin: ∀s∈Bj w.owner.length ls a p,0<=s/\s<(w.owner.length:Int):=fun s hs=>J5 hs
   rcases aM (can:=can) hn (fun s h0 h1=>by have:=how s h0 h1;omega) (Bj w.owner.length ls a p) hin hR with⟨e1,e2⟩|⟨t',u',e1,e2,hR'⟩
   .rw[e1,e2]
    split<;>rfl
   .rw[e1,e2,Option.bind_some,so ho hR']
    have:=Qs (fun s h0 h1=>(how s h0 h1).1) _ hin e2;rw[this];simp only;cases((Eo (ls.filter (G4 a p)) k0).Gq.testBit 0)<;>rfl
end Go.Gl
namespace Go.Gl
def HQ (no:List Int):Nat->Int->Int
 | 0,n=>n
 | k+1,n=>if no.contains n then HQ no k (n+1)else n
def from_ (no:List Int) (n:Int):Nat:=(no.filter fun x=>decide (n<=x)).length
def UQ {no:List Int} {n:Int} (h:n∈no):from_ no (n+1)<from_ no n:=by
 induction no with
 | nil=>cases h
 | cons x r ih=>
   simp only[from_,List.filter_cons]at ih ⊢;by_cases hx:x=n
   .subst hx
    have hle:(r.filter fun y=>decide (x+1<=y)).length<=(r.filter fun y=>decide (x<=y)).length:=by
     refine List.Sublist.length_le ?_
     have e:(r.filter fun y=>decide (x+1<=y))=(r.filter fun y=>decide (x<=y)).filter fun y=>decide (x+1<=y):=by
      rw[List.filter_filter];refine List.filter_congr fun y _=>?_
      rw[KO,BD,CD,CD];omega
     rw[e];exact List.filter_sublist
    rw[if_neg (by simp<;>omega),if_pos (by simp),JD];omega
   .have h':n∈r:=by
     rcases GK.1 h with e|e
     .exact absurd e.symm hx
     .exact e
    have:=ih h';by_cases h1:n<=x
    .rw[if_pos (by rw[CD];omega),if_pos (by rw[CD];omega),JD,JD]
     omega
    .rw[if_neg (by rw[CD];omega),if_neg (by rw[CD];omega)]
     omega
def aI (no:List Int) (n:Int):from_ no n<=no.length:=Q8 _ _
def Mb {no:List Int}: ∀(k:Nat) (n:Int),from_ no n<=k->n<=HQ no k n/\HQ no k n∉no/\ ∀j,n<=j->j<HQ no k n->j∈no
 | 0,n,h=>by
   refine⟨Int.le_refl _,fun hm=>?_,fun j h1 h2=>by simp only[HQ]at h2;omega⟩;have:=UQ hm;simp only[HQ]at this;omega
 | k + 1,n,h=>by
   rw[HQ];split
   .rename_i hc
    rw[List.contains_iff_mem]at hc;have hlt:=UQ hc;obtain⟨h1,h2,h3⟩:=Mb (no:=no) k (n+1) (by omega);refine⟨by omega,h2,fun j hj1 hj2=>?_⟩;by_cases e:j=n
    .subst e;exact hc
    .exact h3 j (by omega) hj2
   .rename_i hc
    exact⟨Int.le_refl _,fun hm=>hc (List.contains_iff_mem.2 hm),fun j h1 h2=>by omega⟩
def wk {no:List Int} {k:Nat} {n:Int} (h:n∈no):HQ no (k+1) n=HQ no k (n+1):=by rw[HQ,if_pos (List.contains_iff_mem.2 h)]
def oj {no:List Int} {k:Nat} {n:Int} (h:n∉no):HQ no k n=n:=by
 cases k with
 | zero=>rfl
 | succ k=>rw[HQ,if_neg (fun hc=>h (List.contains_iff_mem.1 hc))]
def az {no:List Int} {k k':Nat} {n:Int} (h:from_ no n<=k) (h':from_ no n<=k'):HQ no k n=HQ no k' n:=by
 obtain⟨a1,a2,a3⟩:=Mb k n h;obtain⟨b1,b2,b3⟩:=Mb k' n h';rcases Int.lt_trichotomy (HQ no k n) (HQ no k' n)with hl|he|hg
 .exact absurd (b3 _ a1 hl) a2
 .exact he
 .exact absurd (a3 _ b1 hg) b2
def Kv (k:Kn):Int:=HQ k.no k.no.length k.low
def PU (kf:Int->List Int->Kn) (a:Int) (p:List Int):Bool:=(kf a p).AG.all fun s=> !(kf a (p++[s])).A0
def IA (kf:Int->List Int->Kn) (a:Int) (p:List Int) (c:Nat):Bool:=RP (kf a p).B5 (1|||2 ^ c)&&((kf a p).Gq&&&(1|||2 ^ c)==0&&PU kf a p)
def TW (kf:Int->List Int->Kn) (a:Int) (p:List Int):Bool:=decide (Kv (kf a p)<=(kf a p).high)&&IA kf a p 1
def Ll (kf:Int->List Int->Kn) (a:Int) (p:List Int):Bool:= !(kf a p).whole&&IA kf a p 2
def Oe (w:AH) (kf:Int->List Int->Kn) (a:Int):Nat->List Int->Bool
 | 0,p=>TW kf a p||(Ll kf a p||(OZ w (kf a p) (fun s=>(kf a (p++[s])).A0) (fun _=>false)).2)
 | d+1,p=>TW kf a p||(Ll kf a p||(OZ w (kf a p) (fun s=>(kf a (p++[s])).A0) (fun s=>Oe w kf a d (p++[s]))).2)
def ed (w:AH) (kf:Int->List Int->Kn):Bool:=(Cq 3).all fun a=>Oe w kf a 2 []
def aQ {n:Nat} {ls:List Fact} (h:IB n ls) (a:Int) (p:List Int):PU (kn ls) a p=FJ n ls a p:=by
 rw[PU,FJ,MQ h];congr 1;funext s;rw[Nj,Bool.not_not]
def gT {n m:Nat} {ls:List Fact} (hn:n<=64) (hc:JM n ls) (h:IB m ls) (a:Int) (p:List Int):TW (kn ls) a p=((I9 ls a p).isSome&&FJ m ls a p):=by
 have hcore:=Oz ls a p;have hc2:JM n (ls.filter (G4 a p)):=fun l hl=>hc l (LX.1 hl).1
 simp only[FL,Prod.mk.injEq]at hcore;obtain⟨c1,c2,c3,c4,c5,-⟩:=hcore;rw[TW,IA,aQ h,c4,c5,<-Bool.and_assoc (RP _ _),cR hn hc2,<-Bool.and_assoc];congr 1;have hf:=Su (ls.filter (G4 a p)) k0;rw[I9,show t0=(k0.low,k0.high,k0.no) from rfl,hf,Kv,c2,c3,c1];obtain⟨h1,h2,h3⟩:=Mb (no:=(Eo (ls.filter (G4 a p)) k0).no) _ (Eo (ls.filter (G4 a p)) k0).low (aI _ _);have hs:=il (high:=(Eo (ls.filter (G4 a p)) k0).high) h1 h2 h3;cases(ls.filter (G4 a p)).all fun l=>qG (Av l)with
 | false=>simp
 | true=>rw[if_pos rfl,Option.bind_some,hs,Bool.and_true]
def Zy {n m:Nat} {ls:List Fact} (hn:n<=64) (hc:JM n ls) (h:IB m ls) (a:Int) (p:List Int):Ll (kn ls) a p=HZ m ls a p:=by
 have hcore:=Oz ls a p;have hc2:JM n (ls.filter (G4 a p)):=fun l hl=>hc l (LX.1 hl).1
 simp only[FL,Prod.mk.injEq]at hcore;obtain⟨-,-,-,c4,c5,c6⟩:=hcore;rw[Ll,IA,aQ h,c4,c5,c6,HZ,<-YR hn hc2];simp only[Bool.and_assoc]
def hZ {w:AH} {ls:List Fact} (ho:ordered w.parents) (how: ∀s:Int,0<=s->s<w.owner.length->3<=Cp w s/\Cp w s<3+w.parents.length) (hn:3+w.parents.length<=64) (hc:JM (3+w.parents.length) ls) (hp:IB w.owner.length ls) (a:Int): ∀(d:Nat) (p:List Int),Oe w (kn ls) a d p=Lh w ls a d p
 | 0,p=>by
   rw[Oe,Lh,gT hn hc hp,Zy hn hc hp,pR ho how hc hp fun s=>Nj ls a (p++[s])]
 | d+1,p=>by
   rw[Oe,Lh,gT hn hc hp,Zy hn hc hp,pR ho how hc hp fun s=>Nj ls a (p++[s])];have e:(fun s=>Oe w (kn ls) a d (p++[s]))=fun s=>Lh w ls a d (p++[s]):=funext fun s=>hZ ho how hn hc hp a d (p++[s])
   rw[e]
def qw {w:AH} {ls:List Fact} (ho:ordered w.parents) (how: ∀s:Int,0<=s->s<w.owner.length->3<=Cp w s/\Cp w s<3+w.parents.length) (hn:3+w.parents.length<=64) (hc:JM (3+w.parents.length) ls) (hp:IB w.owner.length ls):ed w (kn ls)=G7 w ls:=by
 rw[ed,G7];congr 1;funext a;exact hZ ho how hn hc hp a 2 []
end Go.Gl
namespace Go.Gl
open Go.Proofs
attribute [local irreducible] A6 Ar Ah AR AI Ae AQ AT AK Ad AN AO Ay A7 Sat AY A5 Ai W
section
variable {S:Type} (g:FuncId) (fi ca:List V) (H:S->List At) (f:Int->Bool) (J:S->Prop) (D:Int->Prop)
def Rk {v:V} {xs:List Int} (hst:OC zP (.f (.func g) fi ca) eI (fun s=> .own v 1 (iL xs)::H s) f J D) (hD: ∀x∈xs,D x) (hxl:xs.length<=AX) (s0:S) (hj0:J s0) :
    Be zP 207 [v,.f (.func g) fi ca] (.own v 1 (iL xs)::H s0) fun r post=>r= .ret (eI (OA f xs 0))/\ ∃s',J s'/\post= .own v 1 (iL xs)::H s':=by
 intro Z hs;have hM:=Mx;refine gm kZ ?_;refine zz ?_;(repeat clear U K);repeat intro K U
 refine By xs.length (fun k (_:S)=>[(8,eI (A9 k))]) (fun _ s=> .own v 1 (iL xs)::H s) (fun k s=>J s/\OA f xs 0=OA f (xs.drop k) k) s0 rfl ⟨hj0,rfl⟩ hs ?_;clear hs hj0;rintro k s Z hk ⟨hj,hn⟩ hs;have hck:A9 k=k:=AM (by omega);rcases A3 xs hk with⟨y,hy,hlt⟩|hke
 .rw[drop_cons hy]at hn
  have hDy:=hD y (Bz hy);rw[OA]at hn
  conv=>whnf
  repeat'((first|clear U K|apply st|(apply zk;intro K U)|refine zY ?_|refine ze fun x hx=>?_|fail)<;>conv=>whnf)
  obtain rfl:x=y:=by rw[hck,JC,hy]at hx;exact(Option.some.inj hx).symm
  refine hst.use hDy hj hs ?_;clear hs hj;intro s Z hj hs;cases hyes:f x
  .rw[hyes,if_neg (by decide)]at hn
   refine zz ?_;(repeat clear U K);repeat intro K U
   exact⟨hlt,_,rfl,⟨hj,hn⟩,hs⟩
  .rw[hyes,if_pos rfl]at hn
   refine zz ?_;(repeat clear U K);repeat intro K U
   rw[hn];exact AU ⟨_,⟨by rw[hck],s,hj,rfl⟩,hs⟩
 .rw[Al hke,OA]at hn
  refine zz ?_;(repeat clear U K);repeat intro K U
  rw[hn];exact AU ⟨_,⟨rfl,s,hj,rfl⟩,hs⟩
def Oi {v:V} {xs:List Int} (hst:OC zP (.f (.func g) fi ca) eI (fun s=> .own v 1 (iL xs)::H s) f J D) (hD: ∀x∈xs,D x) (hxl:xs.length<=AX) (s0:S) (hj0:J s0) :
    Be zP 139 [v,.f (.func g) fi ca] (.own v 1 (iL xs)::H s0) fun r post=>r= .ret (.b (xs.any f))/\ ∃s',J s'/\post= .own v 1 (iL xs)::H s':=by
 intro Z hs;refine gv kZ ?_
 conv=>whnf
 repeat'((first|clear U K|apply st|(apply zk;intro K U)|fail)<;>conv=>whnf)
 refine(Rk g fi ca H f J D hst hD hxl s0 hj0).use (rest:=[]) (by simpa using hs) ?_;rintro r post Z ⟨rfl,s',hj,rfl⟩ hs;refine zz ?_;(repeat clear U K);repeat intro K U
 exact AU ⟨_,⟨by rw[<-WR f xs 0],s',hj,rfl⟩,by simpa using hs⟩
def m4 {v:V} {xs:List Int} (hst:OC zP (.f (.func g) fi ca) eI (fun s=> .own v 1 (iL xs)::H s) f J D):OC zP (.f (.func 362) [] [.rp [.f (.func g) fi ca]]) eI (fun s=> .own v 1 (iL xs)::H s) (fun y=> !f y) J D:=by
 intro y s hd hj Z hs;refine Bh ?_;show A6 zP 362 ([]++[eI y]++[.rp [.f (.func g) fi ca]]) Z _;refine gh kZ ?_;refine zz ?_;(repeat clear U K);repeat intro K U
 refine hst.use hd hj hs ?_;clear hs;intro s' Z hj' hs;refine zz ?_;(repeat clear U K);repeat intro K U
 exact AU ⟨rfl,s',hj',hs⟩
def av {v:V} {xs:List Int} (hst:OC zP (.f (.func g) fi ca) eI (fun s=> .own v 1 (iL xs)::H s) f J D) (hD: ∀x∈xs,D x) (hxl:xs.length<=AX) (s0:S) (hj0:J s0) :
    Be zP 330 [v,.f (.func g) fi ca] (.own v 1 (iL xs)::H s0) fun r post=>r= .ret (.b (xs.all f))/\ ∃s',J s'/\post= .own v 1 (iL xs)::H s':=by
 intro Z hs;refine gi kZ ?_
 conv=>whnf
 repeat'((first|clear U K|apply st|(apply zk;intro K U)|fail)<;>conv=>whnf)
 refine(Oi 362 [] [.rp [.f (.func g) fi ca]] H _ J D (m4 g fi ca H f J D hst) hD hxl s0 hj0).use (rest:=[]) (by simpa using hs) ?_;rintro r post Z ⟨rfl,s',hj,rfl⟩ hs;refine zz ?_;(repeat clear U K);repeat intro K U
 refine AU ⟨_,⟨?_,s',hj,rfl⟩,by simpa using hs⟩;rw[List.all_eq_not_any_not]
end
end Go.Gl
