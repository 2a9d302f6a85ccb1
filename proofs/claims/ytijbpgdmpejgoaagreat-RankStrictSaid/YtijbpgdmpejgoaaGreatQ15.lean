import Derived.Test.YtijbpgdmpejgoaaGreatQ13
import Derived.Test.YtijbpgdmpejgoaaGreatQ14
set_option linter.all false
set_option linter.unusedVariables false
set_option linter.unusedSimpArgs false
namespace Go.Gl
variable {P:Program} {σ:AG}
theorem Y0 {v:V} {Q Q':R→AG→Prop} (h:BJ σ v Q) (hq: ∀r σ,Q r σ→Q' r σ):BJ σ v Q':=by
 obtain⟨vf,s2,h1,h2,h3⟩:=h;exact⟨vf,s2,h1,h2,hq _ _ h3⟩
theorem DD.more {α S:Type} {g:FuncId} {fi ca:List V} {ea:α→V} {H:S→List At} {stp:α→S→Bool×S} {D:α→S→Prop} (h:DD P (.f (.func g) fi ca) ea H stp D) (pre:List At):DD P (.f (.func g) fi ca) ea (fun s=>pre++H s) stp D:=fun y s hd σ hs=>by
 have h1:Bx P g (fi++[ea y]++ca) (H s) fun r post=>r= .ret (.b (stp y s).1)∧post=H (stp y s).2:=fun σ hs=>BQ.mono (h y s hd σ hs) fun r σ' ⟨e,h2⟩=>⟨_,⟨e,rfl⟩,h2⟩
 refine CZ (h1.use (rest:=pre) (hs.perm List.perm_append_comm) ?_);rintro r post σ' ⟨rfl,rfl⟩ hs';exact⟨rfl,hs'.perm List.perm_append_comm⟩
def L0 {α S:Type} (P:Program) (x:V) (ea:α→V) (H:S→List At) (f:α→Bool) (J:S→Prop) (D:α→Prop):Prop:=
 ∀y s,D y→J s→ ∀σ,Sat σ (H s)→BT P x [ea y] σ fun r σ'=>r= .ret (.b (f y))∧ ∃s',J s'∧Sat σ' (H s')
theorem L0.use {α S:Type} {x:V} {ea:α→V} {H:S→List At} {f:α→Bool} {J:S→Prop} {D:α→Prop} (h:L0 P x ea H f J D) {y:α} {s:S} (hd:D y) (hj:J s) (hs:Sat σ (H s)) {k kp:V→AG→Prop} (hk: ∀s' σ',J s'→Sat σ' (H s')→k (.b (f y)) σ'):BT P x [ea y] σ (qk k kp):=
 (h y s hd hj σ hs).mono fun r σ' ⟨e,s',hj',h'⟩=>by rw[e];exact hk s' σ' hj' h'
def Lx {α:Type} (f:α→Bool):List α→Nat→Int
 | [],_=> -1
 | y::r,k=>if f y then(k:Int)else Lx f r (k+1)
theorem TL {α:Type} (f:α→Bool): ∀(xs:List α) (k:Nat),decide (Lx f xs k≥0)=xs.any f
 | [],_=>rfl
 | y::r,k=>by
   rw[Lx,List.any_cons];cases f y
   ·exact TL f r (k+1)
   ·simp
end Go.Gl
namespace Go.Gl
structure Kn where
 low:Int
 high:Int
 no:List Int
 CK:Nat
 Ft:Nat
 whole:Bool
 Au:Bool
 AL:List Int
def k0:Kn:=⟨-1000000000,1000000000,[],0,0,false,false,[]⟩
def Hp (l:List Int) (s:Int):List Int:=if l.contains s then l else(l++[s]).mergeSort Mw
def Cd (k:Kn) (f:Fact) (b:Bool):Kn:=
 if f.op=2 then(if b then {k with Ft:=k.Ft|||2 ^ f.cls.toNat}else {k with CK:=k.CK|||2 ^ f.cls.toNat})
 else if f.op=3 then(if b then {k with low:=if f.n > k.low then f.n else k.low}else {k with high:=if f.n - 1<k.high then f.n - 1 else k.high,whole:=true})
 else if b then {k with no:=k.no++[f.n]}else {k with low:=if f.n > k.low then f.n else k.low,high:=if f.n<k.high then f.n else k.high,whole:=true}
def DV (k:Kn) (b:Bool):Kn:={k with Au:=k.Au|| !b}
def ct (k:Kn) (s:Int):Kn:={k with AL:=Hp k.AL s}
def C1 (a:Int) (p:List Int) (k:Kn) (l:Fact):Kn:=
 if(Ay l).1.arg=a∧B2 (Ay l).1.path p=true then
  (if(Ay l).1.path=p then Cd (DV k (Ay l).2) (Ay l).1 (Ay l).2 else ct (DV k (Ay l).2) ((Ay l).1.path.getD p.length 0))
 else k
def kn (ls:List Fact) (a:Int) (p:List Int):Kn:=ls.foldl (C1 a p) k0
theorem V0 (k:Kn) (f:Fact) (b:Bool):(Cd k f b).Au=k.Au:=by
 unfold Cd
 (repeat' split)<;>rfl
theorem P5 (k:Kn) (f:Fact) (b:Bool):(Cd k f b).AL=k.AL:=by
 unfold Cd
 (repeat' split)<;>rfl
theorem Re (a:Int) (p:List Int) (k:Kn) (l:Fact):(C1 a p k l).Au=(k.Au|| !((Ay l).2|| !((Ay l).1.arg==a&&B2 (Ay l).1.path p))):=by
 unfold C1;split
 ·rename_i h
  have e:((Ay l).1.arg==a)=true:=by simpa using h.1
  rw[e,h.2];split
  ·rw[V0];simp[DV]
  ·simp[ct,DV]
 ·rename_i h
  have:((Ay l).1.arg==a&&B2 (Ay l).1.path p)=false:=by
   cases hb:((Ay l).1.arg==a&&B2 (Ay l).1.path p)with
   | false=>rfl
   | true=>rw[BO]at hb;exact absurd ⟨by simpa using hb.1,hb.2⟩ h
  rw[this];simp
theorem Kq (a:Int) (p:List Int): ∀(ls:List Fact) (k:Kn),(ls.foldl (C1 a p) k).Au=(k.Au|| !Et ls a p)
 | [],k=>by simp[Et]
 | l::r,k=>by
   rw[List.foldl_cons,Kq a p r,Re];simp only[Et,List.all_cons];generalize (r.all _)=x;generalize ((Ay l).2||_)=y;cases k.Au<;>cases x<;>cases y<;>rfl
theorem Lg (ls:List Fact) (a:Int) (p:List Int):(kn ls a p).Au= !Et ls a p:=by rw[kn,Kq];rfl
theorem Yv (l:List Int) (s x:Int):x∈Hp l s↔x∈l∨x=s:=by
 unfold Hp;split
 ·rename_i h
  rw[List.contains_iff_mem]at h;constructor
  ·exact .inl
  ·rintro(h'|rfl)
   ·exact h'
   ·exact h
 ·rw[(List.mergeSort_perm _ Mw).mem_iff];simp
theorem Ro {l:List Int} (s:Int) (h:l.Pairwise (· < ·)):(Hp l s).Pairwise (· < ·):=by
 unfold Hp;split
 ·exact h
 ·rename_i hc
  have hc':s∉l:=by simpa using hc
  have hp:=List.mergeSort_perm (l++[s]) Mw;have h1:((l++[s]).mergeSort Mw).Pairwise (fun a b=>Mw a b=true):=List.pairwise_mergeSort (fun a b c=>by simp only[Mw,DU];omega) (fun a b=>by simp only[Mw,Bool.or_eq_true,DU];omega) _
  have h2:((l++[s]).mergeSort Mw).Nodup:=hp.nodup_iff.2 (by
   rw[List.nodup_append];refine⟨h.imp fun hab=>by omega,by simp,fun a ha b hb=>?_⟩;simp only[List.mem_singleton]at hb;rintro rfl
   exact hc' (hb ▸ ha))
  exact(h1.and h2).imp fun⟨h3,h4⟩=>by
   simp only[Mw,DU]at h3;omega
theorem N5: ∀ {l m:List Int},l.Pairwise (· < ·)→m.Pairwise (· < ·)→(∀x,x∈l↔x∈m)→l=m
 | [],[],_,_,_=>rfl
 | [],y::m,_,_,h=>absurd ((h y).2 (.head _)) (by simp)
 | x::l,[],_,_,h=>absurd ((h x).1 (.head _)) (by simp)
 | x ::l,y::m,h1,h2,h=>by
   rw[List.pairwise_cons]at h1 h2
   have hxy:x=y:=by
    rcases G3.1 ((h x).1 (.head _))with e|hx
    ·exact e
    ·rcases G3.1 ((h y).2 (.head _))with e|hy
     ·exact e.symm
     ·have:=h1.1 y hy
      have:=h2.1 x hx;omega
   subst hxy;congr 1;refine N5 h1.2 h2.2 fun z=>?_
   constructor
   ·intro hz
    rcases G3.1 ((h z).1 (.tail _ hz))with e|hz'
    ·have:=h1.1 z hz;omega
    ·exact hz'
   ·intro hz
    rcases G3.1 ((h z).2 (.tail _ hz))with e|hz'
    ·have:=h2.1 z hz;omega
    ·exact hz'
theorem CJ {path pre:List Int}:B2 path pre=true↔ ∃t,path=pre++t:=by
 simp only[B2,BO,DU,Dp];constructor
 ·rintro⟨_,h⟩
  exact⟨path.drop pre.length,by conv=>lhs;rw[←List.take_append_drop pre.length path,h]⟩
 ·rintro⟨t,rfl⟩
  simp
theorem T9 {path p:List Int} {s:Int}:B2 path (p++[s])=true↔B2 path p=true∧path≠p∧path.getD p.length 0=s:=by
 rw[CJ,CJ];constructor
 ·rintro⟨t,rfl⟩
  refine⟨⟨s::t,by simp⟩,fun e=>?_,by simp⟩;have:=congrArg List.length e;simp at this
 ·rintro⟨⟨t,rfl⟩,hne,hs⟩
  cases t with
  | nil=>simp at hne
  | cons y t=>simp at hs;subst hs;exact⟨t,by simp⟩
theorem Wy {a:Int} {p:List Int} {s:Int} {l:Fact}:kJ a p s l=true↔(Ay l).1.arg=a∧B2 (Ay l).1.path p=true∧(Ay l).1.path≠p∧(Ay l).1.path.getD p.length 0=s:=by
 rw[kJ,BO,T9,Dp]
theorem Tw (a:Int) (p:List Int) (k:Kn) (l:Fact):(C1 a p k l).AL=if(Ay l).1.arg=a∧B2 (Ay l).1.path p=true∧(Ay l).1.path≠p then Hp k.AL ((Ay l).1.path.getD p.length 0)else k.AL:=by
 unfold C1;by_cases h1:(Ay l).1.arg=a∧B2 (Ay l).1.path p=true
 ·rw[if_pos h1]
  by_cases h2:(Ay l).1.path=p
  ·rw[if_pos h2,if_neg (fun h=>h.2.2 h2),P5];rfl
  ·rw[if_neg h2,if_pos ⟨h1.1,h1.2,h2⟩];rfl
 ·rw[if_neg h1,if_neg (fun h=>h1 ⟨h.1,h.2.1⟩)]
theorem OO (a:Int) (p:List Int): ∀(ls:List Fact) (k:Kn),k.AL.Pairwise (· < ·)→(ls.foldl (C1 a p) k).AL.Pairwise (· < ·)∧ ∀s,s∈(ls.foldl (C1 a p) k).AL↔s∈k.AL∨ls.any (kJ a p s)=true
 | [],k,h=>⟨h,fun s=>by simp⟩
 | l ::r,k,h=>by
   rw[List.foldl_cons];have e:=Tw a p k l
   have h1:(C1 a p k l).AL.Pairwise (· < ·):=by
    rw[e];split
    ·exact Ro _ h
    ·exact h
   obtain⟨i1,i2⟩:=OO a p r _ h1;refine⟨i1,fun s=>?_⟩;rw[i2,e,List.any_cons,Bool.or_eq_true,Wy];split
   ·rename_i hc
    rw[Yv];constructor
    ·rintro((h|rfl)|h)
     ·exact .inl h
     ·exact .inr (.inl ⟨hc.1,hc.2.1,hc.2.2,rfl⟩)
     ·exact .inr (.inr h)
    ·rintro(h|⟨-,-,-,h⟩|h)
     ·exact .inl (.inl h)
     ·exact .inl (.inr h.symm)
     ·exact .inr h
   ·rename_i hc
    constructor
    ·rintro(h|h)
     ·exact .inl h
     ·exact .inr (.inr h)
    ·rintro(h|⟨q1,q2,q3,-⟩|h)
     ·exact .inl h
     ·exact absurd ⟨q1,q2,q3⟩ hc
     ·exact .inr h
def HB (n:Nat) (ls:List Fact):Prop:= ∀l∈ls,∀s∈(Ay l).1.path,(0:Int)≤s∧s<n
theorem JU {n:Nat} {s:Int}:s∈E8 n↔0≤s∧s<n:=by
 simp only[E8,Oe,List.mem_range];constructor
 ·rintro⟨m,hm,rfl⟩
  exact⟨Int.natCast_nonneg m,by simpa using hm⟩
 ·rintro⟨h0,h1⟩
  exact⟨s.toNat,by omega,by simp;omega⟩
theorem O0 (n:Nat):(E8 n).Pairwise (· < ·):=by
 rw[E8,List.pairwise_map];exact List.pairwise_lt_range.imp fun h=>by simpa using h
theorem so {n:Nat} {ls:List Fact} (h:HB n ls) {a:Int} {p:List Int} {s:Int} {l:Fact} (hl:l∈ls) (hg:kJ a p s l=true):0≤s∧s<n:=by
 rw[Wy]at hg;obtain⟨-,h2,h3,h4⟩:=hg;obtain⟨t,ht⟩:=CJ.1 h2;refine h l hl s ?_;rw[ht]at h3 h4 ⊢;cases t with
 | nil=>simp at h3
 | cons y t=>simp at h4;subst h4;simp
theorem KU {n:Nat} {ls:List Fact} (h:HB n ls) (a:Int) (p:List Int):(kn ls a p).AL=DY n ls a p:=by
 obtain⟨h1,h2⟩:=OO a p ls k0 .nil;refine N5 h1 ((O0 n).filter _) fun s=>?_
 show s∈(ls.foldl (C1 a p) k0).AL↔_;rw[h2,DY,Mt,JU];constructor
 ·rintro(h|hs)
  ·cases h
  ·obtain⟨l,hl,hg⟩:=List.any_eq_true.1 hs
   exact⟨so h hl hg,hs⟩
 ·exact fun hs=> .inr hs.2
def ED (os:List Fact) (k:Kn):Kn:=os.foldl (fun k l=>Cd k (Ay l).1 (Ay l).2) k
abbrev EV (k:Kn):Int×Int×List Int×Nat×Nat×Bool:=(k.low,k.high,k.no,k.CK,k.Ft,k.whole)
theorem TQ {k k':Kn} (h:EV k=EV k') (f:Fact) (b:Bool):EV (Cd k f b)=EV (Cd k' f b):=by
 cases k;cases k';simp only[EV,Prod.mk.injEq]at h;obtain⟨rfl,rfl,rfl,rfl,rfl,rfl⟩:=h;unfold Cd
 (repeat' split)<;>rfl
theorem MI (p:List Int):B2 p p=true:=CJ.2 ⟨[],by simp⟩
theorem Yn (a:Int) (p:List Int) (k:Kn) (l:Fact):EV (C1 a p k l)=if Lt a p l then EV (Cd k (Ay l).1 (Ay l).2)else EV k:=by
 unfold C1 Lt;by_cases h1:(Ay l).1.arg=a
 ·by_cases h2:(Ay l).1.path=p
  ·have e:((Ay l).1.arg==a&&(Ay l).1.path==p)=true:=by simp[h1,h2]
   rw[if_pos ⟨h1,by rw[h2];exact MI p⟩,if_pos h2,e,if_pos rfl];exact TQ (k:=DV k (Ay l).2) (k':=k) rfl _ _
  ·have e:((Ay l).1.arg==a&&(Ay l).1.path==p)=false:=by simp[h2]
   rw[if_neg h2,e,if_neg Bool.false_ne_true];split<;>rfl
 ·have e:((Ay l).1.arg==a&&(Ay l).1.path==p)=false:=by simp[h1]
  rw[if_neg (fun h=>h1 h.1),e,if_neg Bool.false_ne_true]
theorem Ll (a:Int) (p:List Int): ∀(ls:List Fact) (k k':Kn),EV k=EV k'→EV (ls.foldl (C1 a p) k)=EV (ED (ls.filter (Lt a p)) k')
 | [],k,k',h=>h
 | l ::r,k,k',h=>by
   rw[List.foldl_cons,List.filter_cons];have e:=Yn a p k l;split
   ·rename_i ho
    rw[if_pos ho]at e;exact Ll a p r _ _ (e.trans (TQ h _ _))
   ·rename_i ho
    rw[if_neg (by simpa using ho)]at e;exact Ll a p r _ _ (e.trans h)
theorem Mm (ls:List Fact) (a:Int) (p:List Int):EV (kn ls a p)=EV (ED (ls.filter (Lt a p)) k0):=Ll a p ls k0 k0 rfl
def qy (x:Fact×Bool):Bool:= !(x.1.op==2)||(decide (x.1.cls > 1)==x.2)
theorem Xt (x:Fact×Bool) (k:Kn):SL x (k.low,k.high,k.no)=if qy x then some ((Cd k x.1 x.2).low,(Cd k x.1 x.2).high,(Cd k x.1 x.2).no)else none:=by
 unfold SL qy Cd;by_cases h2:x.1.op=2
 ·rw[if_pos h2,if_pos h2]
  cases x.2<;>cases decide (x.1.cls > 1)<;>simp[h2]
 ·rw[if_neg h2,if_neg h2]
  by_cases h3:x.1.op=3
  ·rw[if_pos h3,if_pos h3]
   cases x.2<;>simp[h2]
  ·rw[if_neg h3,if_neg h3]
   cases x.2<;>simp[h2]
theorem Pu: ∀(os:List Fact) (k:Kn),foldI os (k.low,k.high,k.no)=if os.all (fun l=>qy (Ay l))then some ((ED os k).low,(ED os k).high,(ED os k).no)else none
 | [],k=>rfl
 | l ::r,k=>by
   rw[foldI,Xt,List.all_cons];cases hb:qy (Ay l)with
   | false=>rfl
   | true=>
     rw[if_pos rfl,Option.bind_some,Pu r,Bool.true_and];rfl
theorem cd (k:Kn) (f:Fact) (c:Bool) (b:Nat):(Cd k f c).CK.testBit b=(k.CK.testBit b||(f.op==2&& !c&&f.cls.toNat==b)):=by
 unfold Cd;by_cases h2:f.op=2
 ·rw[if_pos h2]
  cases c<;>simp[h2,Nat.testBit_or,Nat.testBit_two_pow,Bool.beq_eq_decide_eq]
 ·rw[if_neg h2]
  have:(f.op==2)=false:=by simpa using h2
  rw[this]
  repeat' split
  all_goals simp
theorem j7 (k:Kn) (f:Fact) (c:Bool) (b:Nat):(Cd k f c).Ft.testBit b=(k.Ft.testBit b||(f.op==2&&c&&f.cls.toNat==b)):=by
 unfold Cd;by_cases h2:f.op=2
 ·rw[if_pos h2]
  cases c<;>simp[h2,Nat.testBit_or,Nat.testBit_two_pow,Bool.beq_eq_decide_eq]
 ·rw[if_neg h2]
  have:(f.op==2)=false:=by simpa using h2
  rw[this]
  repeat' split
  all_goals simp
theorem Yu (k:Kn) (f:Fact) (c:Bool):(Cd k f c).whole=(k.whole||(!c&& !(f.op==2))):=by
 unfold Cd;by_cases h2:f.op=2
 ·rw[if_pos h2]
  cases c<;>simp[h2]
 ·rw[if_neg h2]
  have:(f.op==2)=false:=by simpa using h2
  rw[this];cases c<;>(repeat' split)<;>simp_all
theorem Lo: ∀(os:List Fact) (k:Kn) (b:Nat),(ED os k).CK.testBit b=(k.CK.testBit b||os.any fun l=>(Ay l).1.op==2&& !(Ay l).2&&(Ay l).1.cls.toNat==b)
 | [],k,b=>by simp[ED]
 | l::r,k,b=>by
   have:=Lo r (Cd k (Ay l).1 (Ay l).2) b;rw[cd]at this;rw[List.any_cons,←Bool.or_assoc,←this];rfl
theorem Nw: ∀(os:List Fact) (k:Kn) (b:Nat),(ED os k).Ft.testBit b=(k.Ft.testBit b||os.any fun l=>(Ay l).1.op==2&&(Ay l).2&&(Ay l).1.cls.toNat==b)
 | [],k,b=>by simp[ED]
 | l::r,k,b=>by
   have:=Nw r (Cd k (Ay l).1 (Ay l).2) b;rw[j7]at this;rw[List.any_cons,←Bool.or_assoc,←this];rfl
theorem Jd: ∀(os:List Fact) (k:Kn),(ED os k).whole=(k.whole||os.any fun l=> !(Ay l).2&& !((Ay l).1.op==2))
 | [],k=>by simp[ED]
 | l::r,k=>by
   have:=Jd r (Cd k (Ay l).1 (Ay l).2);rw[Yu]at this;rw[List.any_cons,←Bool.or_assoc,←this];rfl
def Oi (m up:Nat):Bool:=(List.range 64).all fun b=> !m.testBit b||up.testBit b
theorem Nd {m up:Nat} (hm:m<2 ^ 64):Oi m up=true↔ ∀b,m.testBit b=true→up.testBit b=true:=by
 simp only[Oi,GL,List.mem_range,Bool.or_eq_true,Bool.not_eq_true'];constructor
 ·intro h b hb
  have hlt:b<64:=by
   rcases Nat.lt_or_ge b 64 with h'|h'
   ·exact h'
   ·rw[Nat.testBit_lt_two_pow (Nat.lt_of_lt_of_le hm (Nat.pow_le_pow_right (by decide) h'))]at hb;cases hb
  rcases h b hlt with h'|h'
  ·rw[hb]at h';cases h'
  ·exact h'
 ·intro h b _
  cases hb:m.testBit b with
  | false=>exact .inl rfl
  | true=>exact .inr (h b hb)
theorem Nu {m n:Nat}:(m&&&n==0)=true↔ ∀b,m.testBit b=true→n.testBit b=true→False:=by
 rw[Dp];constructor
 ·intro h b h1 h2
  have:=congrArg (fun x=>x.testBit b) h;simp[Nat.testBit_and,h1,h2]at this
 ·intro h
  refine Nat.eq_of_testBit_eq fun b=>?_
  rw[Nat.testBit_and,Nat.zero_testBit];cases h1:m.testBit b with
  | false=>rfl
  | true=>
    cases h2:n.testBit b with
    | false=>rfl
    | true=>exact(h b h1 h2).elim
theorem Qr (c b:Nat):(1|||2 ^ c).testBit b=(b==0||b==c):=by
 rw[Nat.testBit_or,Nat.testBit_two_pow,show(1:Nat)=2 ^ 0 from rfl,Nat.testBit_two_pow];rw[Bool.eq_iff_iff];simp only[Bool.or_eq_true,DU,Dp];omega
def Hk (n:Nat) (ls:List Fact):Prop:= ∀l∈ls,(Ay l).1.op=2→0≤(Ay l).1.cls∧(Ay l).1.cls<n
theorem OJ {m n:Nat} (h: ∀b,m.testBit b=true→b<n):m<2 ^ n:=by
 refine Nat.lt_pow_two_of_testBit _ fun i hi=>?_
 cases hb:m.testBit i with
 | false=>rfl
 | true=>have:=h i hb;omega
theorem Q6 {os:List Fact} {n:Nat} (h:Hk n os):(ED os k0).CK<2 ^ n:=OJ fun b hb=>by
 rw[Lo]at hb;simp only[k0,Nat.zero_testBit,Bool.false_or,List.any_eq_true,BO,Dp]at hb;obtain⟨l,hl,⟨h2,-⟩,rfl⟩:=hb;have:=h l hl h2;omega
theorem sA {os:List Fact} {n:Nat} (h:Hk n os):(ED os k0).Ft<2 ^ n:=OJ fun b hb=>by
 rw[Nw]at hb;simp only[k0,Nat.zero_testBit,Bool.false_or,List.any_eq_true,BO,Dp]at hb;obtain⟨l,hl,⟨h2,-⟩,rfl⟩:=hb;have:=h l hl h2;omega
theorem KO {os:List Fact} {b:Nat}:(ED os k0).CK.testBit b=true↔ ∃l∈os,(Ay l).1.op=2∧(Ay l).2=false∧(Ay l).1.cls.toNat=b:=by
 rw[Lo];simp only[k0,Nat.zero_testBit,Bool.false_or,List.any_eq_true,BO,Dp,Bool.not_eq_true',and_assoc]
theorem Wn {os:List Fact} {b:Nat}:(ED os k0).Ft.testBit b=true↔ ∃l∈os,(Ay l).1.op=2∧(Ay l).2=true∧(Ay l).1.cls.toNat=b:=by
 rw[Nw];simp only[k0,Nat.zero_testBit,Bool.false_or,List.any_eq_true,BO,Dp,and_assoc]
theorem X6 {os:List Fact} {n:Nat} (hn:n≤64) (h:Hk n os):(Oi (ED os k0).CK (1|||2 ^ 1)&&((ED os k0).Ft&&&(1|||2 ^ 1)==0))=os.all fun l=>qy (Ay l):=by
 rw[Bool.eq_iff_iff,BO,Nd (Nat.lt_of_lt_of_le (Q6 h) (Nat.pow_le_pow_right (by decide) hn)),Nu];simp only[KO,Wn,Qr,GL,qy,Bool.or_eq_true,Bool.not_eq_true',beq_eq_false_iff_ne,Dp,ne_eq];constructor
 ·rintro⟨h1,h2⟩ l hl
  by_cases ho:(Ay l).1.op=2
  ·right
   have hc:=h l hl ho;cases hb:(Ay l).2 with
   | false=>
     have:=h1 _ ⟨l,hl,ho,hb,rfl⟩;rw[decide_eq_false_iff_not];omega
   | true=>
     rw[DU];rcases Int.lt_or_le 1 (Ay l).1.cls with hlt|hle
     ·exact hlt
     ·exact(h2 _ ⟨l,hl,ho,hb,rfl⟩ (by omega)).elim
  ·exact .inl ho
 ·intro h1
  constructor
  ·rintro b ⟨l,hl,ho,hb,rfl⟩
   rcases h1 l hl with h'|h'
   ·exact absurd ho h'
   ·have hc:=h l hl ho
    rw[hb,decide_eq_false_iff_not]at h';omega
  ·rintro b ⟨l,hl,ho,hb,rfl⟩ hu
   rcases h1 l hl with h'|h'
   ·exact absurd ho h'
   ·have hc:=h l hl ho
    rw[hb,DU]at h';omega
theorem Xr (x:Fact×Bool):(!O7 x)=true↔(x.2=false→x.1.op=2∧(x.1.cls=0∨x.1.cls=2))∧(x.2=true→ ¬(x.1.op=2∧(x.1.cls=0∨x.1.cls=2))):=by
 have e:(x.1.op==2&&(x.1.cls==0||x.1.cls==2))=true↔x.1.op=2∧(x.1.cls=0∨x.1.cls=2):=by
  simp only[BO,Bool.or_eq_true,Dp]
 rw[←e,O7];generalize (x.1.op==2&&(x.1.cls==0||x.1.cls==2))=y;cases x.2<;>cases y<;>simp
theorem Xm {os:List Fact}:(!(ED os k0).whole)=true↔ ∀l∈os,(Ay l).2=false→(Ay l).1.op=2:=by
 rw[Jd,Bool.not_eq_true',←Bool.not_eq_true];simp only[k0,Bool.false_or,List.any_eq_true,BO,Bool.not_eq_true',beq_eq_false_iff_ne];constructor
 ·intro h l hl hb
  rcases Classical.em ((Ay l).1.op=2)with e|e
  ·exact e
  ·exact absurd ⟨l,hl,hb,e⟩ h
 ·rintro h ⟨l,hl,hb,e⟩
  exact e (h l hl hb)
theorem VU {os:List Fact} {n:Nat} (hn:n≤64) (h:Hk n os):(!(ED os k0).whole&&(Oi (ED os k0).CK (1|||2 ^ 2)&&((ED os k0).Ft&&&(1|||2 ^ 2)==0)))=os.all fun l=> !O7 (Ay l):=by
 rw[Bool.eq_iff_iff,BO,BO,Nd (Nat.lt_of_lt_of_le (Q6 h) (Nat.pow_le_pow_right (by decide) hn)),Nu,Xm,GL];simp only[KO,Wn,Qr,Bool.or_eq_true,Dp,Xr];constructor
 ·rintro⟨h0,h1,h2⟩ l hl
  refine⟨fun hb=>?_,fun hb ⟨ho,hc⟩=>h2 _ ⟨l,hl,ho,hb,rfl⟩ (by omega)⟩;have ho:=h0 l hl hb;have hc:=h l hl ho;have:=h1 _ ⟨l,hl,ho,hb,rfl⟩;exact⟨ho,by omega⟩
 ·intro h1
  refine⟨fun l hl hb=>((h1 l hl).1 hb).1,?_,?_⟩
  ·rintro b ⟨l,hl,ho,hb,rfl⟩
   have:=((h1 l hl).1 hb).2;omega
  ·rintro b ⟨l,hl,ho,hb,rfl⟩ hu
   have hc:=h l hl ho;exact(h1 l hl).2 hb ⟨ho,by omega⟩
theorem LV {no:List Int}: ∀(k:Nat) (m:Int),(ZK no k m).isSome=true↔ ∃j:Nat,j<k∧m+j∉no
 | 0,m=>by simp[ZK]
 | k + 1,m=>by
   rw[ZK];split
   ·rename_i h
    simp only[Option.isSome_some,true_iff];refine⟨0,by omega,fun hm=>?_⟩;rw[GL]at h;have:=h _ hm;simp at this
   ·rename_i h
    rw[LV k]
    have hm:m∈no:=by
     rcases Classical.em (m∈no)with h'|h'
     ·exact h'
     ·refine absurd (GL.2 fun x hx=>?_) h
      rw[bne_iff_ne];rintro rfl;exact h' hx
    constructor
    ·rintro⟨j,hj,h'⟩
     exact⟨j+1,by omega,by rw[show m+((j+1:Nat):Int)=m+1+j by omega];exact h'⟩
    ·rintro⟨j,hj,h'⟩
     cases j with
     | zero=>simp at h';exact absurd hm h'
     | succ j=>exact⟨j,by omega,by rw[show m+1+(j:Int)=m+((j+1:Nat):Int) by omega];exact h'⟩
theorem bP {low high n:Int} {no:List Int} (h0:low≤n) (h1:n∉no) (h2: ∀m,low≤m→m<n→m∈no):(SM (low,high,no)).isSome=decide (n≤high):=by
 rw[Bool.eq_iff_iff,SM,LV,DU];constructor
 ·rintro⟨j,hj,h⟩
  rcases Int.lt_or_le (low+j) n with hlt|hle
  ·exact absurd (h2 _ (by omega) hlt) h
  ·simp only at hj;omega
 ·intro h
  refine⟨(n - low).toNat,by simp only;omega,?_⟩;rw[show low+((n - low).toNat:Int)=n by omega];exact h1
end Go.Gl
namespace Go.Gl
theorem Sg (g:List (List Int)) (k:Nat): ∀(m d:Nat),d<3+k→(CS g (k+m)).getD d 0=(CS g k).getD d 0
 | 0,d,_=>rfl
 | m+1,d,h=>by
   rw[show k+(m+1)=k+m+1 from rfl,CS,←Sg g k m d h];rw[FA,qv (by rw[FT];omega),←FA]
theorem Sh (us:List Nat) (b:Nat): ∀(l:List Int) (s:Nat),(UU us l s).testBit b=(s.testBit b||l.any fun c=>(us.getD c.toNat 0).testBit b)
 | [],s=>by simp[UU]
 | c::r,s=>by
   have:=Sh us b r (s|||us.getD c.toNat 0);rw[List.any_cons,←Bool.or_assoc,←Nat.testBit_or,←this];rfl
theorem af {α:Type} (f:α→Bool) (b:Bool): ∀(l:List α),(b||l.any fun x=>b||f x)=(b||l.any f)
 | []=>rfl
 | x::r=>by
   have:=af f b r;simp only[List.any_cons];cases b
   ·simpa using this
   ·rfl
theorem any_congr {α:Type} {f g:α→Bool}: ∀ {l:List α},(∀x∈l,f x=g x)→l.any f=l.any g
 | [],_=>rfl
 | x::r,h=>by
   rw[List.any_cons,List.any_cons,h x (.head _),any_congr fun y hy=>h y (.tail _ hy)]
theorem Qw {g:List (List Int)} (ho:ordered g): ∀(k d b:Nat),k≤g.length→d<3+k→((CS g k).getD d 0).testBit b=(b==0||Ih g d b)
 | 0,d,b,_,hd=>by
   have e:(CS g 0).getD d 0=1|||2 ^ d:=by
    rcases d with _|_|_|d
    ·rfl
    ·rfl
    ·rfl
    ·omega
   rw[e,Qr,EZ ho,par,if_pos (by omega),List.any_nil,Bool.or_false];rw[Bool.eq_iff_iff];simp only[Bool.or_eq_true,Dp];omega
 | k + 1,d,b,hk,hd=>by
   by_cases hlt:d<3+k
   ·rw[Sg g k 1 d hlt]
    exact Qw ho k d b (by omega) hlt
   ·obtain rfl:d=3+k:=by omega
    have e:(CS g (k+1)).getD (3+k) 0=UU (CS g k) (g.getD k []) (1|||2 ^ (3+k)):=by
     rw[CS,FA,List.getElem?_append_right (by rw[FT];omega),FT,Nat.sub_self];rfl
    have hpar:par g (3+k)=g.getD k []:=by rw[par,if_neg (by omega),show 3+k - 3=k by omega]
    rw[e,Sh,Qr,EZ ho,hpar]
    have hc:((g.getD k []).any fun c=>((CS g k).getD c.toNat 0).testBit b)=(g.getD k []).any fun p=>(b==0)||Ih g p.toNat b:=any_congr fun p hp=>by
     have:=ho (3+k) p (by rw[hpar];exact hp);exact Qw ho k p.toNat b (by omega) (by omega)
    rw[hc];have e2:(b==3+k)=(3+k==b):=by rw[Bool.eq_iff_iff];simp only[Dp];omega
    rw[e2,Bool.or_assoc,Bool.or_left_comm,af,Bool.or_left_comm]
theorem bK {g:List (List Int)} (ho:ordered g) {d b:Nat} (hd:d<3+g.length):((EF g).getD d 0).testBit b=(b==0||Ih g d b):=Qw ho g.length d b (Nat.le_refl _) hd
theorem Ur {g:List (List Int)} (ho:ordered g): ∀(d b:Nat),3≤d→Ih g d b=true→3≤b:=by
 intro d
 induction d using Nat.strongRecOn with
 | _ d ih=>
   intro b h3 h;rw[EZ ho]at h;simp only[Bool.or_eq_true,Dp,List.any_eq_true]at h;rcases h with rfl|⟨p,hp,h⟩
   ·exact h3
   ·have:=ho d p hp
    exact ih p.toNat (by omega) b (by omega) h
def DQ (us:List Nat):Nat→Nat→Nat
 | 0,m=>m
 | k+1,m=>if(DQ us k m).testBit (3+k)then DQ us k m|||us.getD (3+k) 0 else DQ us k m
theorem OU {g : List (List Int)} (ho:ordered g) (m:Nat): ∀(k b:Nat),k≤g.length→((DQ (EF g) k m).testBit b=true↔m.testBit b=true∨ ∃d,3≤d∧d<3+k∧m.testBit d=true∧(b=0∨Ih g d b=true))
 | 0,b,_=>by
   rw[DQ];exact⟨.inl,fun h=>h.elim id fun⟨d,h1,h2,_⟩=>by omega⟩
 | k + 1, b, hk=>by
   have ih:=OU ho m k;rw[DQ];split
   ·rename_i hc
    rw[Nat.testBit_or,Bool.or_eq_true,ih b (by omega),bK ho (by omega),Bool.or_eq_true,Dp];rw[ih _ (by omega)]at hc;constructor
    ·rintro((h|⟨d,h1,h2,h3,h4⟩)|h)
     ·exact .inl h
     ·exact .inr ⟨d,h1,by omega,h3,h4⟩
     ·rcases hc with hc|⟨d,h1,h2,h3,h4⟩
      ·exact .inr ⟨3+k,by omega,by omega,hc,h⟩
      ·refine .inr ⟨d,h1,by omega,h3,?_⟩
       rcases h with h|h
       ·exact .inl h
       ·rcases h4 with h4|h4
        ·omega
        ·exact .inr (LR ho _ _ _ h4 h)
    ·rintro(h|⟨d,h1,h2,h3,h4⟩)
     ·exact .inl (.inl h)
     ·by_cases e:d=3+k
      ·subst e;exact .inr h4
      ·exact .inl (.inr ⟨d,h1,by omega,h3,h4⟩)
   ·rename_i hc
    rw[ih b (by omega)];constructor
    ·rintro(h|⟨d,h1,h2,h3,h4⟩)
     ·exact .inl h
     ·exact .inr ⟨d,h1,by omega,h3,h4⟩
    ·rintro(h|⟨d,h1,h2,h3,h4⟩)
     ·exact .inl h
     ·by_cases e:d=3+k
      ·subst e;exact absurd ((ih _ (by omega)).2 (.inl h3)) hc
      ·exact .inr ⟨d,h1,by omega,h3,h4⟩
theorem I2: ∀(l:List Int) (bs:List Bool),(∀q∈l,0≤q∧q.toNat<bs.length)→ ∀b:Nat,(l.foldl (fun b q=>b.set q.toNat true) bs).getD b false=(bs.getD b false||l.contains (b:Int))
 | [],bs,_,b=>by simp
 | q ::r,bs,h,b=>by
   have hq:=h q (.head _);rw[List.foldl_cons,I2 r _ (fun x hx=>by rw[List.length_set];exact h x (.tail _ hx)),EN hq.2,List.contains_cons];split
   ·rename_i e
    subst e;have:((q.toNat:Int)==q)=true:=by rw[Dp];omega
    rw[this];simp
   ·rename_i e
    have:((b:Int)==q)=false:=by rw[beq_eq_false_iff_ne];omega
    rw[this,Bool.false_or]
theorem GJ {g:List (List Int)} (ho:ordered g) {c:Nat} {bs:List Bool} (hc:c≤bs.length) (b:Nat):(Ia g c bs).getD b false=(bs.getD b false||(bs.getD c false&&(par g c).contains (b:Int))):=by
 rw[Ia];split
 ·rename_i h
  rw[I2 _ _ (fun q hq=>by have:=ho c q hq;omega),h,Bool.true_and]
 ·rename_i h
  have:bs.getD c false=false:=by simpa using h
  rw[this,Bool.false_and,Bool.or_false]
theorem FP {g:List (List Int)} (ho:ordered g) {n:Nat} {S:List Bool} (hl:S.length=n): ∀(k b:Nat),(Ch g n k S).getD b false=true→ ∃d,S.getD d false=true∧Ih g d b=true
 | 0,b,h=>⟨b,h,Gf ho b⟩
 | k + 1,b,h=>by
   rw[Ch,GJ ho (by rw[Eh];omega),Bool.or_eq_true,BO]at h;rcases h with h|⟨h1,h2⟩
   ·exact FP ho hl k b h
   ·obtain⟨d,h3,h4⟩:=FP ho hl k _ h1
    refine⟨d,h3,LR ho _ _ _ h4 ?_⟩;rw[EZ ho,Bool.or_eq_true,List.any_eq_true];rw[List.contains_iff_mem]at h2;exact .inr ⟨_,h2,by rw[Int.toNat_natCast];exact Gf ho b⟩
theorem T8 {g:List (List Int)} (ho:ordered g) {n:Nat} {S:List Bool} (hl:S.length=n) (k b:Nat) (h:(Ch g n k S).getD b false=true):(Ch g n (k+1) S).getD b false=true:=by
 rw[Ch,GJ ho (by rw[Eh];omega),h];rfl
theorem H4 {g:List (List Int)} (ho:ordered g) {n:Nat} {S:List Bool} (hl:S.length=n): ∀(k b:Nat),S.getD b false=true→(Ch g n k S).getD b false=true
 | 0,_,h=>h
 | k+1,b,h=>T8 ho hl k b (H4 ho hl k b h)
theorem GK {g:List (List Int)} (ho:ordered g) {n:Nat} {S:List Bool} (hl:S.length=n): ∀(k c:Nat),k≤n→n - k≤c→(Ch g n k S).getD c false=true→ ∀q∈par g c,(Ch g n k S).getD q.toNat false=true
 | 0,c,_,hc,h,q,hq=>by
   rw[Ch,FA,List.getElem?_eq_none (by omega)]at h;cases h
 | k + 1,c,hk,hc,h,q,hq=>by
   rw[Ch,GJ ho (by rw[Eh];omega)]at h ⊢;have hoc:=ho c q hq;rw[Bool.or_eq_true,BO]at h
   have hbase:(Ch g n k S).getD c false=true:=by
    rcases h with h|⟨-,h2⟩
    ·exact h
    ·rw[List.contains_iff_mem]at h2
     have:=ho _ _ h2;omega
   by_cases e:c=n - 1 - k
   ·subst e
    rw[hbase,Bool.true_and,Bool.or_eq_true,List.contains_iff_mem];exact .inr (by rw[show((q.toNat:Nat):Int)=q by omega];exact hq)
   ·rw[GK ho hl k c (by omega) (by omega) hbase q hq];rfl
theorem Vw {g:List (List Int)} (ho:ordered g) {S:List Bool} (hl:S.length=3+g.length) (b:Nat):(Ch g (3+g.length) g.length S).getD b false=true↔ ∃d,S.getD d false=true∧Ih g d b=true:=by
 refine⟨FP ho hl _ b,?_⟩
 have key: ∀d,(Ch g (3+g.length) g.length S).getD d false=true→Ih g d b=true→(Ch g (3+g.length) g.length S).getD b false=true:=by
  intro d
  induction d using Nat.strongRecOn with
  | _ d ih=>
    intro h1 h2;rw[EZ ho,Bool.or_eq_true,Dp,List.any_eq_true]at h2;rcases h2 with rfl|⟨p,hp,h2⟩
    ·exact h1
    ·have hop:=ho d p hp
     refine ih p.toNat (by omega) (GK ho hl g.length d (by omega) ?_ h1 p hp) h2;omega
 rintro⟨d,h1,h2⟩;exact key d (H4 ho hl _ d h1) h2
def RB (n:Nat) (t:BB) (u:Nat×Nat):Prop:=
 t.1.length=n∧t.2.length=n∧(∀b,t.1.getD b false=u.1.testBit b)∧(∀b,b≠1→b≠2→t.2.getD b false=u.2.testBit b)∧u.1.testBit 1=false∧u.1.testBit 2=false
theorem Ff (m c b:Nat):(m|||2 ^ c).testBit b=(m.testBit b||b==c):=by
 rw[Nat.testBit_or,Nat.testBit_two_pow];congr 1;rw[Bool.eq_iff_iff];simp only[DU,Dp];omega
theorem Mf {l:List Bool} {m c:Nat} (hc:c<l.length) {b:Nat} (h:l.getD b false=m.testBit b):(l.set c true).getD b false=(m|||2 ^ c).testBit b:=by
 rw[EN hc,Ff,←h];split
 ·rename_i e;subst e;simp
 ·rename_i e
  have:(b==c)=false:=by simpa using e
  rw[this,Bool.or_false]
def QW (x:Fact×Bool):Bool:= !x.2&&(!(x.1.op==2)||x.1.cls==1||x.1.cls==2)
theorem Xq {n:Nat} {x:Fact×Bool} {t:BB} {k:Kn} (h:RB n t (k.CK,k.Ft)) (hc:x.1.op=2→0≤x.1.cls∧x.1.cls<n) :
 (QW x=true→Lu x t=none)∧(QW x=false→ ∃t',Lu x t=some t'∧RB n t' ((Cd k x.1 x.2).CK,(Cd k x.1 x.2).Ft)):=by
 obtain⟨f,c⟩:=x;simp only at hc;obtain⟨h1,h2,h3,h4,h5,h6⟩:=h;unfold QW Lu Cd;simp only;by_cases ho:f.op=2
 ·have hc':=hc ho
  by_cases h12:f.cls=1∨f.cls=2
  ·rw[if_pos (.inr h12),if_pos ho]
   cases c with
   | true=>
     refine⟨fun h=>(by cases h),fun _=>⟨t,rfl,h1,h2,h3,fun b hb1 hb2=>?_,h5,h6⟩⟩;rw[if_pos rfl];show _=(k.Ft|||2 ^ f.cls.toNat).testBit b;rw[Ff,h4 b hb1 hb2];have:(b==f.cls.toNat)=false:=by rw[beq_eq_false_iff_ne];omega
     rw[this,Bool.or_false]
   | false=>
     refine⟨fun _=>rfl,fun h=>?_⟩;exfalso;rcases h12 with e|e<;>simp[e]at h
  ·have hn: ¬(f.op≠2∨f.cls=1∨f.cls=2):=by omega
   rw[if_neg hn,if_pos ho]
   have hb:(!c&&(!(f.op==2)||f.cls==1||f.cls==2))=false:=by
    have e1:(f.op==2)=true:=by simpa using ho
    have e2:(f.cls==1)=false:=by rw[beq_eq_false_iff_ne];omega
    have e3:(f.cls==2)=false:=by rw[beq_eq_false_iff_ne];omega
    rw[e1,e2,e3];simp
   rw[hb];refine⟨fun h=>(by cases h),fun _=>?_⟩;cases c with
   | true=>
     refine⟨_,rfl,h1,by simpa using h2,h3,fun b hb1 hb2=>?_,h5,h6⟩;exact Mf (by omega) (h4 b hb1 hb2)
   | false=>
     refine⟨_,rfl,by simpa using h1,h2,fun b=>?_,h4,?_,?_⟩
     ·exact Mf (by omega) (h3 b)
     ·show(k.CK|||2 ^ f.cls.toNat).testBit 1=false
      rw[Ff,h5];have:(1==f.cls.toNat)=false:=by rw[beq_eq_false_iff_ne];omega
      rw[this];rfl
     ·show(k.CK|||2 ^ f.cls.toNat).testBit 2=false
      rw[Ff,h6];have:(2==f.cls.toNat)=false:=by rw[beq_eq_false_iff_ne];omega
      rw[this];rfl
 ·rw[if_pos (.inl ho),if_neg ho]
  have e1:(f.op==2)=false:=by simpa using ho
  cases c with
  | true=>
    refine⟨fun h=>(by cases h),fun _=>⟨t,rfl,?_⟩⟩;split<;>exact⟨h1,h2,h3,h4,h5,h6⟩
  | false=>exact⟨fun _=>rfl,fun h=>by rw[e1]at h;cases h⟩
theorem Pt {n:Nat}: ∀(os:List Fact) {t:BB} {k:Kn},RB n t (k.CK,k.Ft)→Hk n os→
 (os.any (fun l=>QW (Ay l))=true→Iv os t=none)∧(os.any (fun l=>QW (Ay l))=false→ ∃t',Iv os t=some t'∧RB n t' ((ED os k).CK,(ED os k).Ft))
 | [],t,k,h,_=>⟨fun h=>(by cases h),fun _=>⟨t,rfl,h⟩⟩
 | l ::r,t,k,h,hc=>by
   obtain⟨s1,s2⟩:=Xq h (hc l (.head _));rw[List.any_cons,Iv];cases hb:QW (Ay l)with
   | true=>exact⟨fun _=>by rw[s1 hb];rfl,fun h=>(by cases h)⟩
   | false=>
     obtain⟨t',h1,h2⟩:=s2 hb;rw[h1,Bool.false_or,Option.bind_some];exact Pt r h2 fun x hx=>hc x (.tail _ hx)
theorem cb {os:List Fact} {n:Nat} (hc:Hk n os):(os.any fun l=>QW (Ay l))=((ED os k0).whole||(ED os k0).CK.testBit 1||(ED os k0).CK.testBit 2):=by
 rw[Bool.eq_iff_iff,Bool.or_eq_true,Bool.or_eq_true,KO,KO,Jd];simp only[List.any_eq_true,QW,BO,Bool.or_eq_true,Bool.not_eq_true',Dp,beq_eq_false_iff_ne,k0,Bool.false_or];constructor
 ·rintro⟨l,hl,hb,(h|h)|h⟩
  ·exact .inl (.inl ⟨l,hl,hb,h⟩)
  ·by_cases ho:(Ay l).1.op=2
   ·exact .inl (.inr ⟨l,hl,ho,hb,by rw[h];rfl⟩)
   ·exact .inl (.inl ⟨l,hl,hb,ho⟩)
  ·by_cases ho:(Ay l).1.op=2
   ·exact .inr ⟨l,hl,ho,hb,by rw[h];rfl⟩
   ·exact .inl (.inl ⟨l,hl,hb,ho⟩)
 ·rintro((⟨l,hl,hb,h⟩|⟨l,hl,ho,hb,h⟩)|⟨l,hl,ho,hb,h⟩)
  ·exact⟨l,hl,hb,.inl (.inl h)⟩
  ·have:=hc l hl ho
   exact⟨l,hl,hb,.inl (.inr (by omega))⟩
  ·have:=hc l hl ho
   exact⟨l,hl,hb,.inr (by omega)⟩
def WA (w:AM) (Au can:Int→Bool) (s:Int) (u:Nat×Nat):Option (Nat×Nat):=
 if Au s&& !can s then none else some (if Au s then u.1|||2 ^ (C0 w s).toNat else u.1,if can s then u.2 else u.2|||2 ^ (C0 w s).toNat)
def HU (w:AM) (Au can:Int→Bool):List Int→Nat×Nat→Option (Nat×Nat)
 | [],u=>some u
 | s::r,u=>(WA w Au can s u).bind (HU w Au can r)
theorem W7 {w:AM} {ls:List Fact} {a:Int} {p:List Int} {can Au:Int→Bool} (hn: ∀s,Au s= !Et ls a (p++[s])) {n:Nat} (how: ∀s:Int,0≤s→s<w.owner.length→3≤C0 w s∧C0 w s<n) :
 ∀(sl:List Int) {t:BB} {u:Nat×Nat},(∀s∈sl,0≤s∧s<w.owner.length)→RB n t u→
 (Iu w ls a p can sl t=none∧HU w Au can sl u=none)∨ ∃t' u',Iu w ls a p can sl t=some t'∧HU w Au can sl u=some u'∧RB n t' u'
 | [],t,u,_,h=> .inr ⟨t,u,rfl,rfl,h⟩
 | s ::r,t,u,hsl,h=>by
   have hs:=hsl s (.head _);have ho:=how s hs.1 hs.2;rw[Iu,HU,SJ,WA,hn];obtain⟨h1,h2,h3,h4,h5,h6⟩:=h;split
   ·exact .inl ⟨rfl,rfl⟩
   ·rw[Option.bind_some,Option.bind_some]
    refine W7 hn how r (fun x hx=>hsl x (.tail _ hx)) ?_;have hb: ∀i,i<3→(i==(C0 w s).toNat)=false:=fun i hi=>by rw[beq_eq_false_iff_ne];omega
    cases Et ls a (p++[s])<;>cases can s<;>refine⟨by simpa using h1,by simpa using h2,fun b=>?_,fun b hb1 hb2=>?_,?_,?_⟩
    all_goals simp only[Bool.not_false,Bool.not_true,Ls,if_true,if_false]
    all_goals first
     | exact h3 b
     | exact h4 b hb1 hb2
     | exact h5
     | exact h6
     | exact Mf (by omega) (h3 b)
     | exact Mf (by omega) (h4 b hb1 hb2)
     | (rw[Ff,h5,hb 1 (by omega)];rfl)
     | (rw[Ff,h6,hb 2 (by omega)];rfl)
def GQ (m:Nat):Nat:=m - m % 2
theorem TR (m b:Nat):(GQ m).testBit b=(m.testBit b&& !(b==0)):=by
 cases b with
 | zero=>
   simp[GQ,Nat.testBit_zero];omega
 | succ b=>
   rw[Nat.testBit_succ,Nat.testBit_succ,GQ,show(m - m % 2) / 2=m / 2 by omega];simp
theorem tk {w:AM} (ho:ordered w.parents) {t:BB} {u:Nat×Nat} (h:RB (3+w.parents.length) t u) :
 (ZW w t).isSome=(!u.2.testBit 0&&(GQ (DQ (EF w.parents) w.parents.length u.1)&&&u.2==0)):=by
 obtain⟨h1,h2,h3,h4,h5,h6⟩:=h;rw[ZW,h4 0 (by decide) (by decide)];cases h0:u.2.testBit 0 with
 | true=>rfl
 | false =>
   rw[if_neg (by decide),Bool.not_false,Bool.true_and];have hl:(t.1.set 0 false).length=3+w.parents.length:=by simpa using h1
   have G:=Vw ho hl;have F:=OU ho u.1 w.parents.length
   have hS: ∀d,(t.1.set 0 false).getD d false=true↔d≠0∧u.1.testBit d=true:=fun d=>by
    rw[EN (by omega)];split
    ·rename_i e;subst e;simp
    ·rename_i e;rw[h3];exact⟨fun h=>⟨e,h⟩,fun h=>h.2⟩
   have hlt: ∀b,u.1.testBit b=true→b<3+w.parents.length:=fun b hb=>by
    rw[←h3]at hb;rcases Nat.lt_or_ge b (3+w.parents.length)with h'|h'
    ·exact h'
    ·rw[FA,List.getElem?_eq_none (by omega)]at hb;cases hb
   have h3b: ∀d,d≠0→u.1.testBit d=true→3≤d:=fun d hd hb=>by
    rcases d with _|_|_|d
    ·exact absurd rfl hd
    ·rw[h5]at hb;cases hb
    ·rw[h6]at hb;cases hb
    ·omega
   have hM: ∀b,(GQ (DQ (EF w.parents) w.parents.length u.1)).testBit b=true↔(Ch w.parents (3+w.parents.length) w.parents.length (t.1.set 0 false)).getD b false=true:=fun b=>by
    rw[TR,BO,F b (Nat.le_refl _),G,Bool.not_eq_true',beq_eq_false_iff_ne];constructor
    ·rintro⟨h|⟨d,q1,q2,q3,q4⟩,hb⟩
     ·exact⟨b,(hS b).2 ⟨hb,h⟩,Gf ho b⟩
     ·rcases q4 with e|q4
      ·exact absurd e hb
      ·exact⟨d,(hS d).2 ⟨by omega,q3⟩,q4⟩
    ·rintro⟨d,hd,hu⟩
     obtain⟨hd0,hdu⟩:=(hS d).1 hd;have hd3:=h3b d hd0 hdu;have:=Ur ho d b hd3 hu;exact⟨.inr ⟨d,hd3,hlt d hdu,hdu,.inr hu⟩,by omega⟩
   have hany:((List.range (3+w.parents.length)).any fun c=>(Ch w.parents (3+w.parents.length) w.parents.length (t.1.set 0 false)).getD c false&&t.2.getD c false)= !(GQ (DQ (EF w.parents) w.parents.length u.1)&&&u.2==0):=by
    rw[Bool.eq_iff_iff,Bool.not_eq_true',←Bool.not_eq_true,Nu,List.any_eq_true];constructor
    ·rintro⟨c,hc,hx⟩ hall
     rw[BO]at hx;have hm:=(hM c).2 hx.1;obtain⟨d,hd,hu⟩:=(G c).1 hx.1;obtain⟨hd0,hdu⟩:=(hS d).1 hd;have:=Ur ho d c (h3b d hd0 hdu) hu;exact hall c hm (by rw[←h4 c (by omega) (by omega)];exact hx.2)
    ·intro hne
     rcases Classical.em (∃b,(GQ (DQ (EF w.parents) w.parents.length u.1)).testBit b=true∧u.2.testBit b=true)with⟨b,hb1,hb2⟩|hno
     ·have hm:=(hM b).1 hb1
      obtain⟨d,hd,hu⟩:=(G b).1 hm;obtain⟨hd0,hdu⟩:=(hS d).1 hd;have:=Ur ho d b (h3b d hd0 hdu) hu;have:=Zw ho d b hu;have:=hlt d hdu;exact⟨b,List.mem_range.2 (by omega),by rw[hm,h4 b (by omega) (by omega),hb2];rfl⟩
     ·exact absurd (fun b h1 h2=>hno ⟨b,h1,h2⟩) hne
   rw[hany];cases(GQ (DQ (EF w.parents) w.parents.length u.1)&&&u.2==0)<;>rfl
def MO (w:AM) (k:Kn) (Au can:Int→Bool):Nat×Bool:=
 if k.whole||k.CK.testBit 1||k.CK.testBit 2||k.Ft.testBit 0 then(0,false)else
 match HU w Au can k.AL (k.CK,k.Ft)with
 | none=>(0,false)
 | some u=>(GQ (DQ (EF w.parents) w.parents.length u.1),GQ (DQ (EF w.parents) w.parents.length u.1)&&&u.2==0)
theorem OP {w:AM} {Au can:Int→Bool} (how: ∀s:Int,0≤s→s<w.owner.length→3≤C0 w s): ∀(sl:List Int) {u u':Nat×Nat},(∀s∈sl,0≤s∧s<w.owner.length)→HU w Au can sl u=some u'→u'.2.testBit 0=u.2.testBit 0
 | [],u,u',_,h=>by cases h;rfl
 | s ::r,u,u',hsl,h=>by
   have hs:=hsl s (.head _);have ho:=how s hs.1 hs.2;rw[HU,WA]at h;split at h
   ·cases h
   ·rw[Option.bind_some]at h
    rw[OP how r (fun x hx=>hsl x (.tail _ hx)) h];simp only;split
    ·rfl
    ·rw[Ff]
     have:(0==(C0 w s).toNat)=false:=by rw[beq_eq_false_iff_ne];omega
     rw[this,Bool.or_false]
theorem ko {w:AM} {ls:List Fact} {a:Int} {p:List Int} {can Au:Int→Bool} (ho:ordered w.parents) (how: ∀s:Int,0≤s→s<w.owner.length→3≤C0 w s∧C0 w s<3+w.parents.length) (hc:Hk (3+w.parents.length) ls) (hp:HB w.owner.length ls) (hn: ∀s,Au s= !Et ls a (p++[s])) :
 (MO w (kn ls a p) Au can).2=(Rz w ls a p can).isSome:=by
 have hcore:=Mm ls a p;have hsl:=KU hp a p;generalize kn ls a p=k at *;have hc2:Hk (3+w.parents.length) (ls.filter (Lt a p)):=fun l hl=>hc l (Mt.1 hl).1
 simp only[EV,Prod.mk.injEq]at hcore;obtain⟨-,-,-,c4,c5,c6⟩:=hcore;rw[MO,Rz,c4,c5,c6,←cb hc2,hsl]
 have hR0:RB (3+w.parents.length) (tO w) (k0.CK,k0.Ft):=by
  refine⟨by simp[tO],by simp[tO],fun b=>?_,fun b _ _=>?_,rfl,rfl⟩<;>
  ·simp only[tO,k0,Nat.zero_testBit,FA,List.getElem?_replicate]
   split<;>rfl
 obtain⟨f1,f2⟩:=Pt _ hR0 hc2;cases hbad:(ls.filter (Lt a p)).any fun l=>QW (Ay l)with
 | true=>rw[f1 hbad];rfl
 | false=>
   obtain⟨t,ht,G⟩:=f2 hbad;rw[ht,Option.bind_some,Bool.false_or];have hin: ∀s∈DY w.owner.length ls a p,0≤s∧s<(w.owner.length:Int):=fun s hs=>LW hs
   rcases W7 (can:=can) hn (fun s h0 h1=>by have:=how s h0 h1;omega) (DY w.owner.length ls a p) hin G with⟨e1,e2⟩|⟨t',u',e1,e2,hR'⟩
   ·rw[e1,e2]
    split<;>rfl
   ·rw[e1,e2,Option.bind_some,tk ho hR']
    have:=OP (fun s h0 h1=>(how s h0 h1).1) _ hin e2;rw[this];simp only;cases((ED (ls.filter (Lt a p)) k0).Ft.testBit 0)<;>rfl
end Go.Gl
namespace Go.Gl
abbrev D3 (a:Int) (p:List Int):V:= .a [eI a,eI (p.length:Int),eI (p.getD 0 0),eI (p.getD 1 0)]
structure Cr where
 a:Int
 p:List Int
 b:Nat
 vn:V
 vs:V
 k:Kn
abbrev Cr.is (e:Cr) (a:Int) (p:List Int):Bool:=e.a==a&&e.p==p
abbrev entC (b:Nat) (vn vs:V) (k:Kn):At:= .box b [eI k.low,eI k.high,vn,eU k.CK,eU k.Ft,.b k.whole,.b k.Au,vs]
abbrev rP (b:Nat) (vn vs:V) (k:Kn):List At:=[entC b vn vs k,.own vn 1 (iL k.no),.own vs 1 (iL k.AL)]
abbrev SS (e:Cr):List At:=rP e.b e.vn e.vs e.k
def UG (es:List Cr):List (V×V):=es.map fun e=>(D3 e.a e.p,.p e.b 0)
def B3 (L:Nat) (es:List Cr):List At:= .map L (UG es)::es.flatMap SS
def GU (L:Nat) (es pre post:List Cr):List At:= .map L (UG es)::(pre++post).flatMap SS
theorem JI {e:Cr} {a:Int} {p:List Int}:e.is a p=true↔e.a=a∧e.p=p:=by simp[Cr.is]
theorem Mn {e:Cr} {a:Int} {p:List Int}:e.is a p=false↔ ¬(e.a=a∧e.p=p):=by rw[←JI,Bool.not_eq_true]
theorem Qf {a a':Int} {p p':List Int} (h:p.length≤2) (h':p'.length≤2):DX (D3 a p) (D3 a' p')=(a==a'&&p==p'):=by
 have e:DX (D3 a p) (D3 a' p')=(a==a'&&((p.length:Int)==p'.length&&(p.getD 0 0==p'.getD 0 0&&(p.getD 1 0==p'.getD 1 0)))):=by
  simp[DX,Bn,D3]
 rw[e];congr 1
 match p,h,p',h' with
 | [],_,[],_=>rfl
 | [],_,[_],_=>simp
 | [],_,[_,_],_=>simp<;>omega
 | [_],_,[],_=>simp
 | [x],_,[y],_=>simp
 | [_],_,[_,_],_=>simp<;>omega
 | [_,_],_,[],_=>simp<;>omega
 | [_,_],_,[_],_=>simp<;>omega
 | [x,y],_,[z,u],_=>simp
theorem Nj (es:List Cr): ∀kv∈UG es,BM (.a [.i64,.i64,.i64,.i64]) kv.1=true:=by
 intro kv h;obtain⟨e,_,rfl⟩:=Oe.1 h;rfl
theorem TA {a:Int} {p:List Int} (hp:p.length≤2): ∀ {es:List Cr},(∀e∈es,e.p.length≤2)→(∀e∈es,e.is a p=false)→CR (D3 a p) (UG es)=none
 | [],_,_=>rfl
 | e ::r,hl,h=>by
   have he:=h e (.head _);rw[UG,List.map_cons,CR,Qf hp (hl e (.head _))]
   have:(a==e.a&&p==e.p)=false:=by
    rw[←he,Cr.is,Bool.eq_iff_iff];simp only[BO,Dp];exact⟨fun⟨h1,h2⟩=>⟨h1.symm,h2.symm⟩,fun⟨h1,h2⟩=>⟨h1.symm,h2.symm⟩⟩
   rw[this,cond_false];exact TA hp (fun x hx=>hl x (.tail _ hx)) (fun x hx=>h x (.tail _ hx))
theorem aE {a:Int} {p:List Int} (hp:p.length≤2) (b:Nat) (vn vs:V) (k:Kn): ∀ {es:List Cr},(∀e∈es,e.p.length≤2)→(∀e∈es,e.is a p=false)→DW (D3 a p) (.p b 0) (UG es)=UG (es++[⟨a,p,b,vn,vs,k⟩])
 | [],_,_=>rfl
 | e ::r,hl,h=>by
   have he:=h e (.head _);have ih:=aE hp b vn vs k (fun x hx=>hl x (.tail _ hx)) (fun x hx=>h x (.tail _ hx));simp only[UG]at ih;rw[UG,List.map_cons,DW,Qf hp (hl e (.head _))]
   have:(a==e.a&&p==e.p)=false:=by
    rw[←he,Cr.is,Bool.eq_iff_iff];simp only[BO,Dp];exact⟨fun⟨h1,h2⟩=>⟨h1.symm,h2.symm⟩,fun⟨h1,h2⟩=>⟨h1.symm,h2.symm⟩⟩
   rw[this,cond_false,ih];rfl
theorem S9 {a:Int} {p:List Int} (hp:p.length≤2) {e:Cr} (he:e.is a p=true) {post:List Cr}: ∀ {pre:List Cr},(∀x∈pre++e::post,x.p.length≤2)→(∀x∈pre,x.is a p=false)→CR (D3 a p) (UG (pre++e::post))=some (.p e.b 0)
 | [],hl,_=>by
   rw[List.nil_append,UG,List.map_cons,CR,Qf hp (hl e (.head _))];obtain⟨h1,h2⟩:=JI.1 he;rw[h1,h2];simp
 | x ::r,hl,h=>by
   have hx:=h x (.head _);rw[List.cons_append,UG,List.map_cons,CR,Qf hp (hl x (.head _))]
   have:(a==x.a&&p==x.p)=false:=by
    rw[←hx,Cr.is,Bool.eq_iff_iff];simp only[BO,Dp];exact⟨fun⟨h1,h2⟩=>⟨h1.symm,h2.symm⟩,fun⟨h1,h2⟩=>⟨h1.symm,h2.symm⟩⟩
   rw[this,cond_false];exact S9 hp he (fun y hy=>hl y (.tail _ hy)) (fun y hy=>h y (.tail _ hy))
theorem kX (a:Int) (p:List Int): ∀(es:List Cr),(∀e∈es,e.is a p=false)∨ ∃pre e post,es=pre++e::post∧e.is a p=true∧ ∀x∈pre,x.is a p=false
 | []=> .inl fun _ h=>by cases h
 | e ::r=>by
   cases h:e.is a p with
   | true=>exact .inr ⟨[],e,r,rfl,h,fun _ h=>by cases h⟩
   | false=>
     rcases kX a p r with h1|⟨pre,x,post,rfl,h1,h2⟩
     ·exact .inl fun x hx=>by
       rcases G3.1 hx with rfl|hx
       ·exact h
       ·exact h1 x hx
     ·exact .inr ⟨e::pre,x,post,rfl,h1,fun y hy=>by
       rcases G3.1 hy with rfl|hy
       ·exact h
       ·exact h2 y hy⟩
theorem TD (L:Nat) (pre post:List Cr) (e:Cr):(B3 L (pre++e::post)).Perm (SS e++GU L (pre++e::post) pre post):=by
 unfold B3 GU;rw[List.flatMap_append,List.flatMap_cons,List.flatMap_append];refine List.Perm.trans ?_ (List.perm_middle.symm);refine List.Perm.cons _ ?_;rw[←UR,←UR];exact List.Perm.append_right _ List.perm_append_comm
theorem Va {pre post:List Cr} {e e':Cr} (h1:e'.a=e.a) (h2:e'.p=e.p) (h3:e'.b=e.b):UG (pre++e'::post)=UG (pre++e::post):=by
 simp only[UG,List.map_append,List.map_cons,h1,h2,h3]
theorem RZ {L:Nat} {pre post:List Cr} {e e':Cr} (h1:e'.a=e.a) (h2:e'.p=e.p) (h3:e'.b=e.b):GU L (pre++e'::post) pre post=GU L (pre++e::post) pre post:=by
 rw[GU,GU,Va h1 h2 h3]
structure Df (kf:Int→List Int→Kn) (es:List Cr):Prop where
 val: ∀e∈es,e.k=kf e.a e.p
 Y5: ∀a p,(∀e∈es,e.is a p=false)→kf a p=k0
 one:es.Pairwise fun e e'=>e.is e'.a e'.p=false
 len: ∀e∈es,e.p.length≤2
def PJ (es:List Cr):Prop:= ∀e∈es,∀s∈e.k.AL,∃e'∈es,e'.is e.a (e.p++[s])=true
theorem Df.congr {kf kf':Int→List Int→Kn} {es:List Cr} (h:Df kf es) (e: ∀a p,kf a p=kf' a p):Df kf' es:=
 ⟨fun x hx=>(h.val x hx).trans (e _ _),fun a p hp=>(e a p).symm.trans (h.Y5 a p hp),h.one,h.len⟩
theorem Df.add {kf:Int→List Int→Kn} {es:List Cr} (h:Df kf es) {a:Int} {p:List Int} (hp:p.length≤2) (hn: ∀e∈es,e.is a p=false) (b:Nat) (vn vs:V):Df kf (es++[⟨a,p,b,vn,vs,k0⟩]):=by
 refine⟨fun x hx=>?_,fun a' p' h'=>h.Y5 a' p' fun x hx=>h' x (Ru _ hx),?_,fun x hx=>?_⟩
 ·rcases FQ.1 hx with hx|hx
  ·exact h.val x hx
  ·rw[List.mem_singleton.1 hx];exact(h.Y5 a p hn).symm
 ·rw[List.pairwise_append]
  exact⟨h.one,List.pairwise_singleton _ _,fun x hx y hy=>by rw[List.mem_singleton.1 hy];exact hn x hx⟩
 ·rcases FQ.1 hx with hx|hx
  ·exact h.len x hx
  ·rw[List.mem_singleton.1 hx];exact hp
theorem PJ.add {es:List Cr} (h:PJ es) {a:Int} {p:List Int} (b:Nat) (vn vs:V):PJ (es++[⟨a,p,b,vn,vs,k0⟩]):=by
 intro e he s hs;rcases FQ.1 he with he|he
 ·obtain⟨e',h1,h2⟩:=h e he s hs
  exact⟨e',Ru _ h1,h2⟩
 ·rw[List.mem_singleton.1 he]at hs
  cases hs
def Ry (kf:Int→List Int→Kn) (a:Int) (p:List Int) (k:Kn):Int→List Int→Kn:=fun a' p'=>if a'=a∧p'=p then k else kf a' p'
theorem Df.change {kf:Int→List Int→Kn} {pre post:List Cr} {e:Cr} (h:Df kf (pre++e::post)) (b:Nat) (vn vs:V) (k:Kn):Df (Ry kf e.a e.p k) (pre++⟨e.a,e.p,b,vn,vs,k⟩::post):=by
 have h1:=h.one;rw[List.pairwise_append,List.pairwise_cons]at h1;obtain⟨o1,⟨o2,o3⟩,o4⟩:=h1;refine⟨fun x hx=>?_,fun a p hp=>?_,?_,fun x hx=>?_⟩
 ·rw [Ry]
  rcases FQ.1 hx with hx|hx
  ·rw[if_neg]
   ·exact h.val x (Ru _ hx)
   ·have:=o4 x hx e (.head _)
    rw[Mn]at this;exact this
  ·rcases G3.1 hx with rfl|hx
   ·rw[if_pos ⟨rfl,rfl⟩]
   ·rw[if_neg]
    ·exact h.val x (US _ (.tail _ hx))
    ·have:=o2 x hx
     rw[Mn]at this;exact fun⟨q1,q2⟩=>this ⟨q1.symm,q2.symm⟩
 ·have he:=Mn.1 (hp _ (US _ (.head _)))
  rw[Ry,if_neg (fun⟨q1,q2⟩=>he ⟨q1.symm,q2.symm⟩)];refine h.Y5 a p fun x hx=>?_
  rcases FQ.1 hx with hx|hx
  ·exact hp x (Ru _ hx)
  ·rcases G3.1 hx with rfl|hx
   ·exact Mn.2 he
   ·exact hp x (US _ (.tail _ hx))
 ·rw[List.pairwise_append,List.pairwise_cons]
  refine⟨o1,⟨o2,o3⟩,fun x hx y hy=>?_⟩;rcases G3.1 hy with rfl|hy
  ·exact o4 x hx e (.head _)
  ·exact o4 x hx y (.tail _ hy)
 ·rcases FQ.1 hx with hx|hx
  ·exact h.len x (Ru _ hx)
  ·rcases G3.1 hx with rfl|hx
   ·exact h.len e (US _ (.head _))
   ·exact h.len x (US _ (.tail _ hx))
theorem PJ.change {pre post:List Cr} {e:Cr} (h:PJ (pre++e::post)) (b:Nat) (vn vs:V) (k:Kn) (hs: ∀s∈k.AL,s∈e.k.AL∨ ∃e'∈pre++e::post,e'.is e.a (e.p++[s])=true):PJ (pre++⟨e.a,e.p,b,vn,vs,k⟩::post):=by
 have mov: ∀ {a p},(∃e'∈pre++e::post,e'.is a p=true)→ ∃e'∈pre++(⟨e.a,e.p,b,vn,vs,k⟩:Cr)::post,e'.is a p=true:=by
  rintro a p ⟨x,hx,h'⟩;rcases FQ.1 hx with hx|hx
  ·exact⟨x,Ru _ hx,h'⟩
  ·rcases G3.1 hx with rfl|hx
   ·exact⟨_,US _ (.head _),h'⟩
   ·exact⟨x,US _ (.tail _ hx),h'⟩
 intro x hx s hxs;rcases FQ.1 hx with hx|hx
 ·exact mov (h x (Ru _ hx) s hxs)
 ·rcases G3.1 hx with rfl|hx
  ·rcases hs s hxs with h'|h'
   ·exact mov (h e (US _ (.head _)) s h')
   ·exact mov h'
  ·exact mov (h x (US _ (.tail _ hx)) s hxs)
def DS (f:Fact) (c:Bool) (j:Nat) (a:Int) (p:List Int) (k:Kn):Kn:=
 if f.arg=a∧B2 f.path p=true then(if p.length<j then ct (DV k c) (f.path.getD p.length 0)else if p.length=j then DV k c else k)else k
theorem MH {path p:List Int}:B2 path p=true↔p.length≤path.length∧p=path.take p.length:=by
 rw[CJ];constructor
 ·rintro⟨t,rfl⟩
  exact⟨by simp,by simp⟩
 ·rintro⟨h1,h2⟩
  exact⟨path.drop p.length,by conv=>rhs;rw[h2,UD,Nat.min_eq_left h1,List.take_append_drop]⟩
theorem ew (f:Fact) (c:Bool) (a:Int) (p:List Int) (k:Kn):DS f c 0 a p k=if a=f.arg∧p= []then DV k c else k:=by
 unfold DS;by_cases h:f.arg=a∧B2 f.path p=true
 ·rw[if_pos h,if_neg (by omega)]
  by_cases hp:p.length=0
  ·rw[if_pos hp,if_pos ⟨h.1.symm,List.length_eq_zero_iff.1 hp⟩]
  ·rw[if_neg hp,if_neg (fun h'=>hp (by rw[h'.2];rfl))]
 ·rw[if_neg h,if_neg]
  rintro⟨rfl,rfl⟩;exact h ⟨rfl,CJ.2 ⟨f.path,by simp⟩⟩
theorem ez (f:Fact) (c:Bool) {j:Nat} (hj:j<f.path.length) (a:Int) (p:List Int) (k:Kn):DS f c (j+1) a p k=if a=f.arg∧p=f.path.take (j+1)then DV (DS f c j a p k) c else if a=f.arg∧p=f.path.take j then ct (DS f c j a p k) (f.path.getD j 0)else DS f c j a p k:=by
 unfold DS;by_cases h:f.arg=a∧B2 f.path p=true
 ·rw [if_pos h,if_pos h]
  obtain⟨h1,h2⟩:=h;rw[MH]at h2;obtain⟨h2,h3⟩:=h2;have l1:p=f.path.take (j+1)↔p.length=j+1:=⟨fun e=>by rw[e,UD];omega,fun e=>by rw[e]at h3;exact h3⟩
  have l2:p=f.path.take j↔p.length=j:=⟨fun e=>by rw[e,UD];omega,fun e=>by rw[e]at h3;exact h3⟩
  have n1:p.length≠j+1→ ¬(a=f.arg∧p=f.path.take (j+1)):=fun h h'=>h (l1.1 h'.2)
  have n2:p.length≠j→ ¬(a=f.arg∧p=f.path.take j):=fun h h'=>h (l2.1 h'.2)
  by_cases q1:p.length<j
  ·rw[if_pos (show p.length<j+1 by omega),if_neg (n1 (by omega)),if_neg (n2 (by omega)),if_pos q1]
  ·by_cases q2:p.length=j
   ·rw[if_pos (show p.length<j+1 by omega),if_neg (n1 (by omega)),if_pos (show a=f.arg∧p=f.path.take j from⟨h1.symm,l2.2 q2⟩),if_neg q1,if_pos q2,q2]
   ·by_cases q3:p.length=j+1
    ·rw[if_neg (show¬p.length<j+1 by omega),if_pos q3,if_pos (show a=f.arg∧p=f.path.take (j+1) from⟨h1.symm,l1.2 q3⟩),if_neg q1,if_neg q2]
    ·rw[if_neg (show¬p.length<j+1 by omega),if_neg q3,if_neg (n1 q3),if_neg (n2 q2),if_neg q1,if_neg q2]
 ·rw[if_neg h,if_neg h,if_neg,if_neg]
  ·rintro⟨rfl,rfl⟩
   exact h ⟨rfl,CJ.2 ⟨f.path.drop j,by rw[List.take_append_drop]⟩⟩
  ·rintro⟨rfl,rfl⟩
   exact h ⟨rfl,CJ.2 ⟨f.path.drop (j+1),by rw[List.take_append_drop]⟩⟩
theorem se (a:Int) (p:List Int) (k:Kn) (l:Fact):C1 a p k l=if a=(Ay l).1.arg∧p=(Ay l).1.path then Cd (DS (Ay l).1 (Ay l).2 (Ay l).1.path.length a p k) (Ay l).1 (Ay l).2 else DS (Ay l).1 (Ay l).2 (Ay l).1.path.length a p k:=by
 unfold C1 DS;by_cases h:(Ay l).1.arg=a∧B2 (Ay l).1.path p=true
 ·rw [if_pos h,if_pos h]
  obtain⟨h1,h2⟩:=h;rw[MH]at h2;obtain⟨h2,h3⟩:=h2;by_cases hp:(Ay l).1.path=p
  ·rw[if_pos hp,if_pos ⟨h1.symm,hp.symm⟩,if_neg (by rw[hp];omega),if_pos (by rw[hp])]
  ·have hne:p.length<(Ay l).1.path.length:=by
    rcases Nat.lt_or_ge p.length (Ay l).1.path.length with h'|h'
    ·exact h'
    ·rw[List.take_of_length_le h']at h3
     exact absurd h3.symm hp
   rw[if_neg hp,if_neg (fun h=>hp h.2.symm),if_pos hne]
 ·rw[if_neg h,if_neg h,if_neg]
  rintro⟨rfl,rfl⟩;exact h ⟨rfl,MI _⟩
theorem fB (ls:List Fact) (l:Fact) (a:Int) (p:List Int):kn (ls++[l]) a p=C1 a p (kn ls a p) l:=by
 rw[kn,List.foldl_append];rfl
theorem QA (l:List Int) (s:Int):(Hp l s).length≤l.length+1:=by
 unfold Hp;split
 ·omega
 ·rw[List.length_mergeSort];simp
theorem Vz (k:Kn) (f:Fact) (b:Bool):(Cd k f b).no.length≤k.no.length+1:=by
 unfold Cd
 repeat' split
 all_goals simp
theorem aG (a:Int) (p:List Int): ∀(ls:List Fact) (k:Kn),(ls.foldl (C1 a p) k).no.length≤k.no.length+ls.length∧(ls.foldl (C1 a p) k).AL.length≤k.AL.length+ls.length
 | [],k=>⟨Nat.le_refl _,Nat.le_refl _⟩
 | l ::r,k=>by
   obtain⟨h1,h2⟩:=aG a p r (C1 a p k l)
   have h3:(C1 a p k l).no.length≤k.no.length+1∧(C1 a p k l).AL.length≤k.AL.length+1:=by
    unfold C1
    repeat' split
    ·have:=Vz (DV k (Ay l).2) (Ay l).1 (Ay l).2
     rw[P5];simp only[DV]at this ⊢;omega
    ·have:=QA k.AL ((Ay l).1.path.getD p.length 0)
     simp only[ct,DV]at this ⊢;omega
    ·omega
   rw[List.foldl_cons,Mu];omega
theorem fC {n:Nat} {ls:List Fact} (h:Hk n ls) (a:Int) (p:List Int):(kn ls a p).CK<2 ^ n∧(kn ls a p).Ft<2 ^ n:=by
 have hc:=Mm ls a p;simp only[EV,Prod.mk.injEq]at hc;have hc2:Hk n (ls.filter (Lt a p)):=fun l hl=>h l (Mt.1 hl).1
 rw[hc.2.2.2.1,hc.2.2.2.2.1];exact⟨Q6 hc2,sA hc2⟩
end Go.Gl
namespace Go.Gl
def Hb (no:List Int):Nat→Int→Int
 | 0,n=>n
 | k+1,n=>if no.contains n then Hb no k (n+1)else n
def from_ (no:List Int) (n:Int):Nat:=(no.filter fun x=>decide (n≤x)).length
theorem RM {no:List Int} {n:Int} (h:n∈no):from_ no (n+1)<from_ no n:=by
 induction no with
 | nil=>cases h
 | cons x r ih=>
   simp only[from_,List.filter_cons]at ih ⊢;by_cases hx:x=n
   ·subst hx
    have hle:(r.filter fun y=>decide (x+1≤y)).length≤(r.filter fun y=>decide (x≤y)).length:=by
     refine List.Sublist.length_le ?_
     have e:(r.filter fun y=>decide (x+1≤y))=(r.filter fun y=>decide (x≤y)).filter fun y=>decide (x+1≤y):=by
      rw[List.filter_filter];refine List.filter_congr fun y _=>?_
      rw[Bool.eq_iff_iff,BO,DU,DU];omega
     rw[e];exact List.filter_sublist
    rw[if_neg (by simp<;>omega),if_pos (by simp),Mu];omega
   ·have h':n∈r:=by
     rcases G3.1 h with e|e
     ·exact absurd e.symm hx
     ·exact e
    have:=ih h';by_cases h1:n≤x
    ·rw[if_pos (by rw[DU];omega),if_pos (by rw[DU];omega),Mu,Mu]
     omega
    ·rw[if_neg (by rw[DU];omega),if_neg (by rw[DU];omega)]
     omega
theorem W0 (no:List Int) (n:Int):from_ no n≤no.length:=List.length_filter_le _ _
theorem Kf {no:List Int}: ∀(k:Nat) (n:Int),from_ no n≤k→n≤Hb no k n∧Hb no k n∉no∧ ∀j,n≤j→j<Hb no k n→j∈no
 | 0,n,h=>by
   refine⟨Int.le_refl _,fun hm=>?_,fun j h1 h2=>by simp only[Hb]at h2;omega⟩;have:=RM hm;simp only[Hb]at this;omega
 | k + 1,n,h=>by
   rw[Hb];split
   ·rename_i hc
    rw[List.contains_iff_mem]at hc;have hlt:=RM hc;obtain⟨h1,h2,h3⟩:=Kf (no:=no) k (n+1) (by omega);refine⟨by omega,h2,fun j hj1 hj2=>?_⟩;by_cases e:j=n
    ·subst e;exact hc
    ·exact h3 j (by omega) hj2
   ·rename_i hc
    exact⟨Int.le_refl _,fun hm=>hc (List.contains_iff_mem.2 hm),fun j h1 h2=>by omega⟩
theorem wA {no:List Int} {k:Nat} {n:Int} (h:n∈no):Hb no (k+1) n=Hb no k (n+1):=by rw[Hb,if_pos (List.contains_iff_mem.2 h)]
theorem kD {no:List Int} {k:Nat} {n:Int} (h:n∉no):Hb no k n=n:=by
 cases k with
 | zero=>rfl
 | succ k=>rw[Hb,if_neg (fun hc=>h (List.contains_iff_mem.1 hc))]
theorem XM {no:List Int} {k k':Nat} {n:Int} (h:from_ no n≤k) (h':from_ no n≤k'):Hb no k n=Hb no k' n:=by
 obtain⟨a1,a2,a3⟩:=Kf k n h;obtain⟨b1,b2,b3⟩:=Kf k' n h';rcases Int.lt_trichotomy (Hb no k n) (Hb no k' n)with hl|he|hg
 ·exact absurd (b3 _ a1 hl) a2
 ·exact he
 ·exact absurd (a3 _ b1 hg) b2
def JF (k:Kn):Int:=Hb k.no k.no.length k.low
def NM (kf:Int→List Int→Kn) (a:Int) (p:List Int):Bool:=(kf a p).AL.all fun s=> !(kf a (p++[s])).Au
def HA (kf:Int→List Int→Kn) (a:Int) (p:List Int) (c:Nat):Bool:=Oi (kf a p).CK (1|||2 ^ c)&&((kf a p).Ft&&&(1|||2 ^ c)==0&&NM kf a p)
def QS (kf:Int→List Int→Kn) (a:Int) (p:List Int):Bool:=decide (JF (kf a p)≤(kf a p).high)&&HA kf a p 1
def Jq (kf:Int→List Int→Kn) (a:Int) (p:List Int):Bool:= !(kf a p).whole&&HA kf a p 2
def MR (w:AM) (kf:Int→List Int→Kn) (a:Int):Nat→List Int→Bool
 | 0,p=>QS kf a p||(Jq kf a p||(MO w (kf a p) (fun s=>(kf a (p++[s])).Au) (fun _=>false)).2)
 | d+1,p=>QS kf a p||(Jq kf a p||(MO w (kf a p) (fun s=>(kf a (p++[s])).Au) (fun s=>MR w kf a d (p++[s]))).2)
def ZI (w:AM) (kf:Int→List Int→Kn):Bool:=(E8 3).all fun a=>MR w kf a 2 []
theorem XA {n:Nat} {ls:List Fact} (h:HB n ls) (a:Int) (p:List Int):NM (kn ls) a p=Ix n ls a p:=by
 rw[NM,Ix,KU h];congr 1;funext s;rw[Lg,Bool.not_not]
theorem aH {n m:Nat} {ls:List Fact} (hn:n≤64) (hc:Hk n ls) (h:HB m ls) (a:Int) (p:List Int):QS (kn ls) a p=((R5 ls a p).isSome&&Ix m ls a p):=by
 have hcore:=Mm ls a p;have hc2:Hk n (ls.filter (Lt a p)):=fun l hl=>hc l (Mt.1 hl).1
 simp only[EV,Prod.mk.injEq]at hcore;obtain⟨c1,c2,c3,c4,c5,-⟩:=hcore;rw[QS,HA,XA h,c4,c5,←Bool.and_assoc (Oi _ _),X6 hn hc2,←Bool.and_assoc];congr 1;have hf:=Pu (ls.filter (Lt a p)) k0;rw[R5,show t0=(k0.low,k0.high,k0.no) from rfl,hf,JF,c2,c3,c1];obtain⟨h1,h2,h3⟩:=Kf (no:=(ED (ls.filter (Lt a p)) k0).no) _ (ED (ls.filter (Lt a p)) k0).low (W0 _ _);have hs:=bP (high:=(ED (ls.filter (Lt a p)) k0).high) h1 h2 h3;cases(ls.filter (Lt a p)).all fun l=>qy (Ay l)with
 | false=>simp
 | true=>rw[if_pos rfl,Option.bind_some,hs,Bool.and_true]
theorem Wo {n m:Nat} {ls:List Fact} (hn:n≤64) (hc:Hk n ls) (h:HB m ls) (a:Int) (p:List Int):Jq (kn ls) a p=NA m ls a p:=by
 have hcore:=Mm ls a p;have hc2:Hk n (ls.filter (Lt a p)):=fun l hl=>hc l (Mt.1 hl).1
 simp only[EV,Prod.mk.injEq]at hcore;obtain⟨-,-,-,c4,c5,c6⟩:=hcore;rw[Jq,HA,XA h,c4,c5,c6,NA,←VU hn hc2];simp only[Bool.and_assoc]
theorem aZ {w:AM} {ls:List Fact} (ho:ordered w.parents) (how: ∀s:Int,0≤s→s<w.owner.length→3≤C0 w s∧C0 w s<3+w.parents.length) (hn:3+w.parents.length≤64) (hc:Hk (3+w.parents.length) ls) (hp:HB w.owner.length ls) (a:Int): ∀(d:Nat) (p:List Int),MR w (kn ls) a d p=QV w ls a d p
 | 0,p=>by
   rw[MR,QV,aH hn hc hp,Wo hn hc hp,ko ho how hc hp fun s=>Lg ls a (p++[s])]
 | d+1,p=>by
   rw[MR,QV,aH hn hc hp,Wo hn hc hp,ko ho how hc hp fun s=>Lg ls a (p++[s])];have e:(fun s=>MR w (kn ls) a d (p++[s]))=fun s=>QV w ls a d (p++[s]):=funext fun s=>aZ ho how hn hc hp a d (p++[s])
   rw[e]
theorem rZ {w:AM} {ls:List Fact} (ho:ordered w.parents) (how: ∀s:Int,0≤s→s<w.owner.length→3≤C0 w s∧C0 w s<3+w.parents.length) (hn:3+w.parents.length≤64) (hc:Hk (3+w.parents.length) ls) (hp:HB w.owner.length ls):ZI w (kn ls)=Ij w ls:=by
 rw[ZI,Ij];congr 1;funext a;exact aZ ho how hn hc hp a 2 []
end Go.Gl
