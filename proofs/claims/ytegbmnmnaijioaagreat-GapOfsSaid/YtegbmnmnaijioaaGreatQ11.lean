import Derived.Test.YtegbmnmnaijioaaGreatProg
import Derived.KernelRfl
import Derived.Test.YtegbmnmnaijioaaGreatQ6
import Derived.Test.YtegbmnmnaijioaaGreatQ10
set_option linter.all false
set_option linter.defProp false
set_option maxHeartbeats 8000000
noncomputable section
namespace Go.Gl
variable {P:Program} {Z:AE}
def fe {v:V} {Q Q':R->AE->Prop} (h:Am Z v Q) (hq: ∀r Z,Q r Z->Q' r Z):Am Z v Q':=by
 obtain⟨vf,s2,h1,h2,h3⟩:=h;exact⟨vf,s2,h1,h2,hq _ _ h3⟩
def DG.more {α S:Type} {g:FuncId} {fi ca:List V} {ea:α->V} {H:S->List At} {stp:α->S->Bool×S} {D:α->S->Prop} (h:DG P (.f (.func g) fi ca) ea H stp D) (pre:List At):DG P (.f (.func g) fi ca) ea (fun s=>pre++H s) stp D:=fun y s hd Z hs=>by
 have h1:BT P g (fi++[ea y]++ca) (H s) fun r post=>r= .ret (.b (stp y s).1)/\post=H (stp y s).2:=fun Z hs=>Au.mono (h y s hd Z hs) fun r Z' ⟨e,h2⟩=>⟨_,⟨e,rfl⟩,h2⟩
 refine BN (h1.use (rest:=pre) (hs.perm NV) ?_);rintro r post Z' ⟨rfl,rfl⟩ hs';exact⟨rfl,hs'.perm NV⟩
def Oq {α S:Type} (P:Program) (x:V) (ea:α->V) (H:S->List At) (f:α->Bool) (J:S->Prop) (D:α->Prop):Prop:=
 ∀y s,D y->J s-> ∀Z,Sat Z (H s)->Ao P x [ea y] Z fun r Z'=>r= .ret (.b (f y))/\ ∃s',J s'/\Sat Z' (H s')
def Oq.use {α S:Type} {x:V} {ea:α->V} {H:S->List At} {f:α->Bool} {J:S->Prop} {D:α->Prop} (h:Oq P x ea H f J D) {y:α} {s:S} (hd:D y) (hj:J s) (hs:Sat Z (H s)) {k kp:V->AE->Prop} (hk: ∀s' Z',J s'->Sat Z' (H s')->k (.b (f y)) Z'):Ao P x [ea y] Z (qk k kp):=
 (h y s hd hj Z hs).mono fun r Z' ⟨e,s',hj',h'⟩=>by rw[e];exact hk s' Z' hj' h'
def On {α:Type} (f:α->Bool):List α->Nat->Int
 | [],_=> -1
 | y::r,k=>if f y then(k:Int)else On f r (k+1)
def XJ {α:Type} (f:α->Bool): ∀(xs:List α) (k:Nat),decide (On f xs k≥0)=xs.any f
 | [],_=>rfl
 | y::r,k=>by
   rw[On,PV];cases f y
   .exact XJ f r (k+1)
   .simp
end Go.Gl
namespace Go.Gl
structure Kn where
 low:Int
 high:Int
 no:List Int
 BU:Nat
 Dt:Nat
 whole:Bool
 Ah:Bool
 AG:List Int
def k0:Kn:=⟨-1000000000,1000000000,[],0,0,false,false,[]⟩
def JR (l:List Int) (s:Int):List Int:=if l.contains s then l else(l++[s]).mergeSort Hn
def By (k:Kn) (f:Fact) (b:Bool):Kn:=
 if f.op=2 then(if b then {k with Dt:=k.Dt|||2 ^ f.cls.toNat}else {k with BU:=k.BU|||2 ^ f.cls.toNat})
 else if f.op=3 then(if b then {k with low:=if f.n > k.low then f.n else k.low}else {k with high:=if f.n - 1<k.high then f.n - 1 else k.high,whole:=true})
 else if b then {k with no:=k.no++[f.n]}else {k with low:=if f.n > k.low then f.n else k.low,high:=if f.n<k.high then f.n else k.high,whole:=true}
def Bz (k:Kn) (b:Bool):Kn:={k with Ah:=k.Ah|| !b}
def fv (k:Kn) (s:Int):Kn:={k with AG:=JR k.AG s}
def Cz (a:Int) (p:List Int) (k:Kn) (l:Fact):Kn:=
 if(Af l).1.arg=a/\Bc (Af l).1.path p=true then
  (if(Af l).1.path=p then By (Bz k (Af l).2) (Af l).1 (Af l).2 else fv (Bz k (Af l).2) ((Af l).1.path.getD p.length 0))
 else k
def kn (ls:List Fact) (a:Int) (p:List Int):Kn:=ls.foldl (Cz a p) k0
def Lv (k:Kn) (f:Fact) (b:Bool):(By k f b).Ah=k.Ah:=by
 unfold By
 (repeat' split)<;>rfl
def IV (k:Kn) (f:Fact) (b:Bool):(By k f b).AG=k.AG:=by
 unfold By
 (repeat' split)<;>rfl
def VY (a:Int) (p:List Int) (k:Kn) (l:Fact):(Cz a p k l).Ah=(k.Ah|| !((Af l).2|| !((Af l).1.arg==a&&Bc (Af l).1.path p))):=by
 unfold Cz;split
 .rename_i h
  have e:((Af l).1.arg==a)=true:=by simpa using h.1
  rw[e,h.2];split
  .rw[Lv];simp[Bz]
  .simp[fv,Bz]
 .rename_i h
  have:((Af l).1.arg==a&&Bc (Af l).1.path p)=false:=by
   cases hb:((Af l).1.arg==a&&Bc (Af l).1.path p)with
   | false=>rfl
   | true=>rw[A9]at hb;exact absurd ⟨by simpa using hb.1,hb.2⟩ h
  rw[this];simp
def NN (a:Int) (p:List Int): ∀(ls:List Fact) (k:Kn),(ls.foldl (Cz a p) k).Ah=(k.Ah|| !DF ls a p)
 | [],k=>by simp[DF]
 | l::r,k=>by
   rw[List.foldl_cons,NN a p r,VY];simp only[DF,KE];generalize (r.all _)=x;generalize ((Af l).2||_)=y;cases k.Ah<;>cases x<;>cases y<;>rfl
def Kl (ls:List Fact) (a:Int) (p:List Int):(kn ls a p).Ah= !DF ls a p:=by rw[kn,NN];rfl
def T7 (l:List Int) (s x:Int):x∈JR l s↔x∈l\/x=s:=by
 unfold JR;split
 .rename_i h
  rw[List.contains_iff_mem]at h;constructor
  .exact .inl
  .rintro(h'|rfl)
   .exact h'
   .exact h
 .rw[(List.mergeSort_perm _ Hn).mem_iff];simp
def Vh {l:List Int} (s:Int) (h:l.Pairwise (· < ·)):(JR l s).Pairwise (· < ·):=by
 unfold JR;split
 .exact h
 .rename_i hc
  have hc':s∉l:=by simpa using hc
  have hp:=List.mergeSort_perm (l++[s]) Hn;have h1:((l++[s]).mergeSort Hn).Pairwise (fun a b=>Hn a b=true):=List.pairwise_mergeSort (fun a b c=>by simp only[Hn,Cc];omega) (fun a b=>by simp only[Hn,Fm,Cc];omega) _
  have h2:((l++[s]).mergeSort Hn).Nodup:=hp.nodup_iff.2 (by
   rw[List.nodup_append];refine⟨h.imp fun hab=>by omega,by simp,fun a ha b hb=>?_⟩;simp only[KF]at hb;rintro rfl
   exact hc' (hb ▸ ha))
  exact(h1.and h2).imp fun⟨h3,h4⟩=>by
   simp only[Hn,Cc]at h3;omega
def Lh: ∀ {l m:List Int},l.Pairwise (· < ·)->m.Pairwise (· < ·)->(∀x,x∈l↔x∈m)->l=m
 | [],[],_,_,_=>rfl
 | [],y::m,_,_,h=>absurd ((h y).2 (.head _)) (by simp)
 | x::l,[],_,_,h=>absurd ((h x).1 (.head _)) (by simp)
 | x ::l,y::m,h1,h2,h=>by
   rw[List.pairwise_cons]at h1 h2
   have hxy:x=y:=by
    rcases GR.1 ((h x).1 (.head _))with e|hx
    .exact e
    .rcases GR.1 ((h y).2 (.head _))with e|hy
     .exact e.symm
     .have:=h1.1 y hy
      have:=h2.1 x hx;omega
   subst hxy;congr 1;refine Lh h1.2 h2.2 fun z=>?_
   constructor
   .intro hz
    rcases GR.1 ((h z).1 (.tail _ hz))with e|hz'
    .have:=h1.1 z hz;omega
    .exact hz'
   .intro hz
    rcases GR.1 ((h z).2 (.tail _ hz))with e|hz'
    .have:=h2.1 z hz;omega
    .exact hz'
def B1 {path pre:List Int}:Bc path pre=true↔ ∃t,path=pre++t:=by
 simp only[Bc,A9,Cc,DD];constructor
 .rintro⟨_,h⟩
  exact⟨path.drop pre.length,by conv=>lhs;rw[<-List.take_append_drop pre.length path,h]⟩
 .rintro⟨t,rfl⟩
  simp
def YB {path p:List Int} {s:Int}:Bc path (p++[s])=true↔Bc path p=true/\path≠p/\path.getD p.length 0=s:=by
 rw[B1,B1];constructor
 .rintro⟨t,rfl⟩
  refine⟨⟨s::t,by simp⟩,fun e=>?_,by simp⟩;have:=congrArg List.length e;simp at this
 .rintro⟨⟨t,rfl⟩,hne,hs⟩
  cases t with
  | nil=>simp at hne
  | cons y t=>simp at hs;subst hs;exact⟨t,by simp⟩
def bO {a:Int} {p:List Int} {s:Int} {l:Fact}:YM a p s l=true↔(Af l).1.arg=a/\Bc (Af l).1.path p=true/\(Af l).1.path≠p/\(Af l).1.path.getD p.length 0=s:=by
 rw[YM,A9,YB,DD]
def Xy (a:Int) (p:List Int) (k:Kn) (l:Fact):(Cz a p k l).AG=if(Af l).1.arg=a/\Bc (Af l).1.path p=true/\(Af l).1.path≠p then JR k.AG ((Af l).1.path.getD p.length 0)else k.AG:=by
 unfold Cz;by_cases h1:(Af l).1.arg=a/\Bc (Af l).1.path p=true
 .rw[if_pos h1]
  by_cases h2:(Af l).1.path=p
  .rw[if_pos h2,if_neg (fun h=>h.2.2 h2),IV];rfl
  .rw[if_neg h2,if_pos ⟨h1.1,h1.2,h2⟩];rfl
 .rw[if_neg h1,if_neg (fun h=>h1 ⟨h.1,h.2.1⟩)]
def R0 (a:Int) (p:List Int): ∀(ls:List Fact) (k:Kn),k.AG.Pairwise (· < ·)->(ls.foldl (Cz a p) k).AG.Pairwise (· < ·)/\ ∀s,s∈(ls.foldl (Cz a p) k).AG↔s∈k.AG\/ls.any (YM a p s)=true
 | [],k,h=>⟨h,fun s=>by simp⟩
 | l ::r,k,h=>by
   rw[List.foldl_cons];have e:=Xy a p k l
   have h1:(Cz a p k l).AG.Pairwise (· < ·):=by
    rw[e];split
    .exact Vh _ h
    .exact h
   obtain⟨i1,i2⟩:=R0 a p r _ h1;refine⟨i1,fun s=>?_⟩;rw[i2,e,PV,Fm,bO];split
   .rename_i hc
    rw[T7];constructor
    .rintro((h|rfl)|h)
     .exact .inl h
     .exact .inr (.inl ⟨hc.1,hc.2.1,hc.2.2,rfl⟩)
     .exact .inr (.inr h)
    .rintro(h|⟨-,-,-,h⟩|h)
     .exact .inl (.inl h)
     .exact .inl (.inr h.symm)
     .exact .inr h
   .rename_i hc
    constructor
    .rintro(h|h)
     .exact .inl h
     .exact .inr (.inr h)
    .rintro(h|⟨q1,q2,q3,-⟩|h)
     .exact .inl h
     .exact absurd ⟨q1,q2,q3⟩ hc
     .exact .inr h
def HY (n:Nat) (ls:List Fact):Prop:= ∀l∈ls,∀s∈(Af l).1.path,(0:Int)<=s/\s<n
def C7 {n:Nat} {s:Int}:s∈BV n↔0<=s/\s<n:=by
 simp only[BV,IX,List.mem_range];constructor
 .rintro⟨m,hm,rfl⟩
  exact⟨Int.natCast_nonneg m,by simpa using hm⟩
 .rintro⟨h0,h1⟩
  exact⟨s.toNat,by omega,by simp;omega⟩
def LC (n:Nat):(BV n).Pairwise (· < ·):=by
 rw[BV,List.pairwise_map];exact List.pairwise_lt_range.imp fun h=>by simpa using h
def ua {n:Nat} {ls:List Fact} (h:HY n ls) {a:Int} {p:List Int} {s:Int} {l:Fact} (hl:l∈ls) (hg:YM a p s l=true):0<=s/\s<n:=by
 rw[bO]at hg;obtain⟨-,h2,h3,h4⟩:=hg;obtain⟨t,ht⟩:=B1.1 h2;refine h l hl s ?_;rw[ht]at h3 h4 ⊢;cases t with
 | nil=>simp at h3
 | cons y t=>simp at h4;subst h4;simp
def J4 {n:Nat} {ls:List Fact} (h:HY n ls) (a:Int) (p:List Int):(kn ls a p).AG=BO n ls a p:=by
 obtain⟨h1,h2⟩:=R0 a p ls k0 .nil;refine Lh h1 ((LC n).filter _) fun s=>?_
 show s∈(ls.foldl (Cz a p) k0).AG↔_;rw[h2,BO,JX,C7];constructor
 .rintro(h|hs)
  .cases h
  .obtain⟨l,hl,hg⟩:=IY.1 hs
   exact⟨ua h hl hg,hs⟩
 .exact fun hs=> .inr hs.2
def EW (os:List Fact) (k:Kn):Kn:=os.foldl (fun k l=>By k (Af l).1 (Af l).2) k
abbrev DZ (k:Kn):Int×Int×List Int×Nat×Nat×Bool:=(k.low,k.high,k.no,k.BU,k.Dt,k.whole)
def RC {k k':Kn} (h:DZ k=DZ k') (f:Fact) (b:Bool):DZ (By k f b)=DZ (By k' f b):=by
 cases k;cases k';simp only[DZ,Prod.mk.injEq]at h;obtain⟨rfl,rfl,rfl,rfl,rfl,rfl⟩:=h;unfold By
 (repeat' split)<;>rfl
def KC (p:List Int):Bc p p=true:=B1.2 ⟨[],by simp⟩
def fI (a:Int) (p:List Int) (k:Kn) (l:Fact):DZ (Cz a p k l)=if Fo a p l then DZ (By k (Af l).1 (Af l).2)else DZ k:=by
 unfold Cz Fo;by_cases h1:(Af l).1.arg=a
 .by_cases h2:(Af l).1.path=p
  .have e:((Af l).1.arg==a&&(Af l).1.path==p)=true:=by simp[h1,h2]
   rw[if_pos ⟨h1,by rw[h2];exact KC p⟩,if_pos h2,e,if_pos rfl];exact RC (k:=Bz k (Af l).2) (k':=k) rfl _ _
  .have e:((Af l).1.arg==a&&(Af l).1.path==p)=false:=by simp[h2]
   rw[if_neg h2,e,if_neg Bool.false_ne_true];split<;>rfl
 .have e:((Af l).1.arg==a&&(Af l).1.path==p)=false:=by simp[h1]
  rw[if_neg (fun h=>h1 h.1),e,if_neg Bool.false_ne_true]
def OU (a:Int) (p:List Int): ∀(ls:List Fact) (k k':Kn),DZ k=DZ k'->DZ (ls.foldl (Cz a p) k)=DZ (EW (ls.filter (Fo a p)) k')
 | [],k,k',h=>h
 | l ::r,k,k',h=>by
   rw[List.foldl_cons,List.filter_cons];have e:=fI a p k l;split
   .rename_i ho
    rw[if_pos ho]at e;exact OU a p r _ _ (e.trans (RC h _ _))
   .rename_i ho
    rw[if_neg (by simpa using ho)]at e;exact OU a p r _ _ (e.trans h)
def MU (ls:List Fact) (a:Int) (p:List Int):DZ (kn ls a p)=DZ (EW (ls.filter (Fo a p)) k0):=OU a p ls k0 k0 rfl
def sT (x:Fact×Bool):Bool:= !(x.1.op==2)||(decide (x.1.cls > 1)==x.2)
def dM (x:Fact×Bool) (k:Kn):Hw x (k.low,k.high,k.no)=if sT x then some ((By k x.1 x.2).low,(By k x.1 x.2).high,(By k x.1 x.2).no)else none:=by
 unfold Hw sT By;by_cases h2:x.1.op=2
 .rw[if_pos h2,if_pos h2]
  cases x.2<;>cases decide (x.1.cls > 1)<;>simp[h2]
 .rw[if_neg h2,if_neg h2]
  by_cases h3:x.1.op=3
  .rw[if_pos h3,if_pos h3]
   cases x.2<;>simp[h2]
  .rw[if_neg h3,if_neg h3]
   cases x.2<;>simp[h2]
def Tn: ∀(os:List Fact) (k:Kn),foldI os (k.low,k.high,k.no)=if os.all (fun l=>sT (Af l))then some ((EW os k).low,(EW os k).high,(EW os k).no)else none
 | [],k=>rfl
 | l ::r,k=>by
   rw[foldI,dM,KE];cases hb:sT (Af l)with
   | false=>rfl
   | true=>
     rw[if_pos rfl,Option.bind_some,Tn r,EA];rfl
def ma (k:Kn) (f:Fact) (c:Bool) (b:Nat):(By k f c).BU.testBit b=(k.BU.testBit b||(f.op==2&& !c&&f.cls.toNat==b)):=by
 unfold By;by_cases h2:f.op=2
 .rw[if_pos h2]
  cases c<;>simp[h2,Nat.testBit_or,Nat.testBit_two_pow,Bool.beq_eq_decide_eq]
 .rw[if_neg h2]
  have:(f.op==2)=false:=by simpa using h2
  rw[this]
  repeat' split
  all_goals simp
def qm (k:Kn) (f:Fact) (c:Bool) (b:Nat):(By k f c).Dt.testBit b=(k.Dt.testBit b||(f.op==2&&c&&f.cls.toNat==b)):=by
 unfold By;by_cases h2:f.op=2
 .rw[if_pos h2]
  cases c<;>simp[h2,Nat.testBit_or,Nat.testBit_two_pow,Bool.beq_eq_decide_eq]
 .rw[if_neg h2]
  have:(f.op==2)=false:=by simpa using h2
  rw[this]
  repeat' split
  all_goals simp
def fU (k:Kn) (f:Fact) (c:Bool):(By k f c).whole=(k.whole||(!c&& !(f.op==2))):=by
 unfold By;by_cases h2:f.op=2
 .rw[if_pos h2]
  cases c<;>simp[h2]
 .rw[if_neg h2]
  have:(f.op==2)=false:=by simpa using h2
  rw[this];cases c<;>(repeat' split)<;>simp_all
def OX: ∀(os:List Fact) (k:Kn) (b:Nat),(EW os k).BU.testBit b=(k.BU.testBit b||os.any fun l=>(Af l).1.op==2&& !(Af l).2&&(Af l).1.cls.toNat==b)
 | [],k,b=>by simp[EW]
 | l::r,k,b=>by
   have:=OX r (By k (Af l).1 (Af l).2) b;rw[ma]at this;rw[PV,<-Bool.or_assoc,<-this];rfl
def RG: ∀(os:List Fact) (k:Kn) (b:Nat),(EW os k).Dt.testBit b=(k.Dt.testBit b||os.any fun l=>(Af l).1.op==2&&(Af l).2&&(Af l).1.cls.toNat==b)
 | [],k,b=>by simp[EW]
 | l::r,k,b=>by
   have:=RG r (By k (Af l).1 (Af l).2) b;rw[qm]at this;rw[PV,<-Bool.or_assoc,<-this];rfl
def Lw: ∀(os:List Fact) (k:Kn),(EW os k).whole=(k.whole||os.any fun l=> !(Af l).2&& !((Af l).1.op==2))
 | [],k=>by simp[EW]
 | l::r,k=>by
   have:=Lw r (By k (Af l).1 (Af l).2);rw[fU]at this;rw[PV,<-Bool.or_assoc,<-this];rfl
def Hp (m up:Nat):Bool:=(List.range 64).all fun b=> !m.testBit b||up.testBit b
def Mi {m up:Nat} (hm:m<2 ^ 64):Hp m up=true↔ ∀b,m.testBit b=true->up.testBit b=true:=by
 simp only[Hp,EB,List.mem_range,Fm,Bool.not_eq_true'];constructor
 .intro h b hb
  have hlt:b<64:=by
   rcases Nat.lt_or_ge b 64 with h'|h'
   .exact h'
   .rw[Nat.testBit_lt_two_pow (Nat.lt_of_lt_of_le hm (Nat.pow_le_pow_right (by decide) h'))]at hb;cases hb
  rcases h b hlt with h'|h'
  .rw[hb]at h';cases h'
  .exact h'
 .intro h b _
  cases hb:m.testBit b with
  | false=>exact .inl rfl
  | true=>exact .inr (h b hb)
def M5 {m n:Nat}:(m&&&n==0)=true↔ ∀b,m.testBit b=true->n.testBit b=true->False:=by
 rw[DD];constructor
 .intro h b h1 h2
  have:=congrArg (fun x=>x.testBit b) h;simp[Nat.testBit_and,h1,h2]at this
 .intro h
  refine Nat.eq_of_testBit_eq fun b=>?_
  rw[Nat.testBit_and,Nat.zero_testBit];cases h1:m.testBit b with
  | false=>rfl
  | true=>
    cases h2:n.testBit b with
    | false=>rfl
    | true=>exact(h b h1 h2).elim
def Uu (c b:Nat):(1|||2 ^ c).testBit b=(b==0||b==c):=by
 rw[Nat.testBit_or,Nat.testBit_two_pow,show(1:Nat)=2 ^ 0 from rfl,Nat.testBit_two_pow];rw[IZ];simp only[Fm,Cc,DD];omega
def G6 (n:Nat) (ls:List Fact):Prop:= ∀l∈ls,(Af l).1.op=2->0<=(Af l).1.cls/\(Af l).1.cls<n
def Rp {m n:Nat} (h: ∀b,m.testBit b=true->b<n):m<2 ^ n:=by
 refine Nat.lt_pow_two_of_testBit _ fun i hi=>?_
 cases hb:m.testBit i with
 | false=>rfl
 | true=>have:=h i hb;omega
def MT {os:List Fact} {n:Nat} (h:G6 n os):(EW os k0).BU<2 ^ n:=Rp fun b hb=>by
 rw[OX]at hb;simp only[k0,Nat.zero_testBit,Bool.false_or,IY,A9,DD]at hb;obtain⟨l,hl,⟨h2,-⟩,rfl⟩:=hb;have:=h l hl h2;omega
def ia {os:List Fact} {n:Nat} (h:G6 n os):(EW os k0).Dt<2 ^ n:=Rp fun b hb=>by
 rw[RG]at hb;simp only[k0,Nat.zero_testBit,Bool.false_or,IY,A9,DD]at hb;obtain⟨l,hl,⟨h2,-⟩,rfl⟩:=hb;have:=h l hl h2;omega
def J3 {os:List Fact} {b:Nat}:(EW os k0).BU.testBit b=true↔ ∃l∈os,(Af l).1.op=2/\(Af l).2=false/\(Af l).1.cls.toNat=b:=by
 rw[OX];simp only[k0,Nat.zero_testBit,Bool.false_or,IY,A9,DD,Bool.not_eq_true',and_assoc]
def U6 {os:List Fact} {b:Nat}:(EW os k0).Dt.testBit b=true↔ ∃l∈os,(Af l).1.op=2/\(Af l).2=true/\(Af l).1.cls.toNat=b:=by
 rw[RG];simp only[k0,Nat.zero_testBit,Bool.false_or,IY,A9,DD,and_assoc]
def dd {os:List Fact} {n:Nat} (hn:n<=64) (h:G6 n os):(Hp (EW os k0).BU (1|||2 ^ 1)&&((EW os k0).Dt&&&(1|||2 ^ 1)==0))=os.all fun l=>sT (Af l):=by
 rw[IZ,A9,Mi (Nat.lt_of_lt_of_le (MT h) (Nat.pow_le_pow_right (by decide) hn)),M5];simp only[J3,U6,Uu,EB,sT,Fm,Bool.not_eq_true',beq_eq_false_iff_ne,DD,ne_eq];constructor
 .rintro⟨h1,h2⟩ l hl
  by_cases ho:(Af l).1.op=2
  .right
   have hc:=h l hl ho;cases hb:(Af l).2 with
   | false=>
     have:=h1 _ ⟨l,hl,ho,hb,rfl⟩;rw[decide_eq_false_iff_not];omega
   | true=>
     rw[Cc];rcases Int.lt_or_le 1 (Af l).1.cls with hlt|hle
     .exact hlt
     .exact(h2 _ ⟨l,hl,ho,hb,rfl⟩ (by omega)).elim
  .exact .inl ho
 .intro h1
  constructor
  .rintro b ⟨l,hl,ho,hb,rfl⟩
   rcases h1 l hl with h'|h'
   .exact absurd ho h'
   .have hc:=h l hl ho
    rw[hb,decide_eq_false_iff_not]at h';omega
  .rintro b ⟨l,hl,ho,hb,rfl⟩ hu
   rcases h1 l hl with h'|h'
   .exact absurd ho h'
   .have hc:=h l hl ho
    rw[hb,Cc]at h';omega
def dK (x:Fact×Bool):(!JG x)=true↔(x.2=false->x.1.op=2/\(x.1.cls=0\/x.1.cls=2))/\(x.2=true-> ¬(x.1.op=2/\(x.1.cls=0\/x.1.cls=2))):=by
 have e:(x.1.op==2&&(x.1.cls==0||x.1.cls==2))=true↔x.1.op=2/\(x.1.cls=0\/x.1.cls=2):=by
  simp only[A9,Fm,DD]
 rw[<-e,JG];generalize (x.1.op==2&&(x.1.cls==0||x.1.cls==2))=y;cases x.2<;>cases y<;>simp
def S6 {os:List Fact}:(!(EW os k0).whole)=true↔ ∀l∈os,(Af l).2=false->(Af l).1.op=2:=by
 rw[Lw,Bool.not_eq_true',<-Bool.not_eq_true];simp only[k0,Bool.false_or,IY,A9,Bool.not_eq_true',beq_eq_false_iff_ne];constructor
 .intro h l hl hb
  rcases Classical.em ((Af l).1.op=2)with e|e
  .exact e
  .exact absurd ⟨l,hl,hb,e⟩ h
 .rintro h ⟨l,hl,hb,e⟩
  exact e (h l hl hb)
def ZH {os:List Fact} {n:Nat} (hn:n<=64) (h:G6 n os):(!(EW os k0).whole&&(Hp (EW os k0).BU (1|||2 ^ 2)&&((EW os k0).Dt&&&(1|||2 ^ 2)==0)))=os.all fun l=> !JG (Af l):=by
 rw[IZ,A9,A9,Mi (Nat.lt_of_lt_of_le (MT h) (Nat.pow_le_pow_right (by decide) hn)),M5,S6,EB];simp only[J3,U6,Uu,Fm,DD,dK];constructor
 .rintro⟨h0,h1,h2⟩ l hl
  refine⟨fun hb=>?_,fun hb ⟨ho,hc⟩=>h2 _ ⟨l,hl,ho,hb,rfl⟩ (by omega)⟩;have ho:=h0 l hl hb;have hc:=h l hl ho;have:=h1 _ ⟨l,hl,ho,hb,rfl⟩;exact⟨ho,by omega⟩
 .intro h1
  refine⟨fun l hl hb=>((h1 l hl).1 hb).1,?_,?_⟩
  .rintro b ⟨l,hl,ho,hb,rfl⟩
   have:=((h1 l hl).1 hb).2;omega
  .rintro b ⟨l,hl,ho,hb,rfl⟩ hu
   have hc:=h l hl ho;exact(h1 l hl).2 hb ⟨ho,by omega⟩
def N9 {no:List Int}: ∀(k:Nat) (m:Int),(UJ no k m).isSome=true↔ ∃j:Nat,j<k/\m+j∉no
 | 0,m=>by simp[UJ]
 | k + 1,m=>by
   rw[UJ];split
   .rename_i h
    simp only[Option.isSome_some,true_iff];refine⟨0,by omega,fun hm=>?_⟩;rw[EB]at h;have:=h _ hm;simp at this
   .rename_i h
    rw[N9 k]
    have hm:m∈no:=by
     rcases Classical.em (m∈no)with h'|h'
     .exact h'
     .refine absurd (EB.2 fun x hx=>?_) h
      rw[zrJ];rintro rfl;exact h' hx
    constructor
    .rintro⟨j,hj,h'⟩
     exact⟨j+1,by omega,by rw[show m+((j+1:Nat):Int)=m+1+j by omega];exact h'⟩
    .rintro⟨j,hj,h'⟩
     cases j with
     | zero=>simp at h';exact absurd hm h'
     | succ j=>exact⟨j,by omega,by rw[show m+1+(j:Int)=m+((j+1:Nat):Int) by omega];exact h'⟩
def kS {low high n:Int} {no:List Int} (h0:low<=n) (h1:n∉no) (h2: ∀m,low<=m->m<n->m∈no):(QG (low,high,no)).isSome=decide (n<=high):=by
 rw[IZ,QG,N9,Cc];constructor
 .rintro⟨j,hj,h⟩
  rcases Int.lt_or_le (low+j) n with hlt|hle
  .exact absurd (h2 _ (by omega) hlt) h
  .simp only at hj;omega
 .intro h
  refine⟨(n - low).toNat,by simp only;omega,?_⟩;rw[show low+((n - low).toNat:Int)=n by omega];exact h1
end Go.Gl
namespace Go.Gl
def We (g:List (List Int)) (k:Nat): ∀(m d:Nat),d<3+k->(Bp g (k+m)).getD d 0=(Bp g k).getD d 0
 | 0,d,_=>rfl
 | m+1,d,h=>by
   rw[show k+(m+1)=k+m+1 from rfl,Bp,<-We g k m d h];rw[C4,cQ (by rw[EG];omega),<-C4]
def Wg (us:List Nat) (b:Nat): ∀(l:List Int) (s:Nat),(UH us l s).testBit b=(s.testBit b||l.any fun c=>(us.getD c.toNat 0).testBit b)
 | [],s=>by simp[UH]
 | c::r,s=>by
   have:=Wg us b r (s|||us.getD c.toNat 0);rw[PV,<-Bool.or_assoc,<-Nat.testBit_or,<-this];rfl
def jd {α:Type} (f:α->Bool) (b:Bool): ∀(l:List α),(b||l.any fun x=>b||f x)=(b||l.any f)
 | []=>rfl
 | x::r=>by
   have:=jd f b r;simp only[PV];cases b
   .simpa using this
   .rfl
def any_congr {α:Type} {f g:α->Bool}: ∀ {l:List α},(∀x∈l,f x=g x)->l.any f=l.any g
 | [],_=>rfl
 | x::r,h=>by
   rw[PV,PV,h x (.head _),any_congr fun y hy=>h y (.tail _ hy)]
def Uy {g:List (List Int)} (ho:ordered g): ∀(k d b:Nat),k<=g.length->d<3+k->((Bp g k).getD d 0).testBit b=(b==0||G9 g d b)
 | 0,d,b,_,hd=>by
   have e:(Bp g 0).getD d 0=1|||2 ^ d:=by
    rcases d with _|_|_|d
    .rfl
    .rfl
    .rfl
    .omega
   rw[e,Uu,Fa ho,par,if_pos (by omega),List.any_nil,Bool.or_false];rw[IZ];simp only[Fm,DD];omega
 | k + 1,d,b,hk,hd=>by
   by_cases hlt:d<3+k
   .rw[We g k 1 d hlt]
    exact Uy ho k d b (by omega) hlt
   .obtain rfl:d=3+k:=by omega
    have e:(Bp g (k+1)).getD (3+k) 0=UH (Bp g k) (g.getD k []) (1|||2 ^ (3+k)):=by
     rw[Bp,C4,List.getElem?_append_right (by rw[EG];omega),EG,Nat.sub_self];rfl
    have hpar:par g (3+k)=g.getD k []:=by rw[par,if_neg (by omega),show 3+k - 3=k by omega]
    rw[e,Wg,Uu,Fa ho,hpar]
    have hc:((g.getD k []).any fun c=>((Bp g k).getD c.toNat 0).testBit b)=(g.getD k []).any fun p=>(b==0)||G9 g p.toNat b:=any_congr fun p hp=>by
     have:=ho (3+k) p (by rw[hpar];exact hp);exact Uy ho k p.toNat b (by omega) (by omega)
    rw[hc];have e2:(b==3+k)=(3+k==b):=by rw[IZ];simp only[DD];omega
    rw[e2,Bool.or_assoc,Bool.or_left_comm,jd,Bool.or_left_comm]
def Wf {g:List (List Int)} (ho:ordered g) {d b:Nat} (hd:d<3+g.length):((CJ g).getD d 0).testBit b=(b==0||G9 g d b):=Uy ho g.length d b (IW _) hd
def QX {g:List (List Int)} (ho:ordered g): ∀(d b:Nat),3<=d->G9 g d b=true->3<=b:=by
 intro d
 induction d using Nat.strongRecOn with
 | _ d ih=>
   intro b h3 h;rw[Fa ho]at h;simp only[Fm,DD,IY]at h;rcases h with rfl|⟨p,hp,h⟩
   .exact h3
   .have:=ho d p hp
    exact ih p.toNat (by omega) b (by omega) h
def Dm (us:List Nat):Nat->Nat->Nat
 | 0,m=>m
 | k+1,m=>if(Dm us k m).testBit (3+k)then Dm us k m|||us.getD (3+k) 0 else Dm us k m
def R8 {g : List (List Int)} (ho:ordered g) (m:Nat): ∀(k b:Nat),k<=g.length->((Dm (CJ g) k m).testBit b=true↔m.testBit b=true\/ ∃d,3<=d/\d<3+k/\m.testBit d=true/\(b=0\/G9 g d b=true))
 | 0,b,_=>by
   rw[Dm];exact⟨.inl,fun h=>h.elim id fun⟨d,h1,h2,_⟩=>by omega⟩
 | k + 1, b, hk=>by
   have ih:=R8 ho m k;rw[Dm];split
   .rename_i hc
    rw[Nat.testBit_or,Fm,ih b (by omega),Wf ho (by omega),Fm,DD];rw[ih _ (by omega)]at hc;constructor
    .rintro((h|⟨d,h1,h2,h3,h4⟩)|h)
     .exact .inl h
     .exact .inr ⟨d,h1,by omega,h3,h4⟩
     .rcases hc with hc|⟨d,h1,h2,h3,h4⟩
      .exact .inr ⟨3+k,by omega,by omega,hc,h⟩
      .refine .inr ⟨d,h1,by omega,h3,?_⟩
       rcases h with h|h
       .exact .inl h
       .rcases h4 with h4|h4
        .omega
        .exact .inr (N6 ho _ _ _ h4 h)
    .rintro(h|⟨d,h1,h2,h3,h4⟩)
     .exact .inl (.inl h)
     .by_cases e:d=3+k
      .subst e;exact .inr h4
      .exact .inl (.inr ⟨d,h1,by omega,h3,h4⟩)
   .rename_i hc
    rw[ih b (by omega)];constructor
    .rintro(h|⟨d,h1,h2,h3,h4⟩)
     .exact .inl h
     .exact .inr ⟨d,h1,by omega,h3,h4⟩
    .rintro(h|⟨d,h1,h2,h3,h4⟩)
     .exact .inl h
     .by_cases e:d=3+k
      .subst e;exact absurd ((ih _ (by omega)).2 (.inl h3)) hc
      .exact .inr ⟨d,h1,by omega,h3,h4⟩
def LH: ∀(l:List Int) (bs:List Bool),(∀q∈l,0<=q/\q.toNat<bs.length)-> ∀b:Nat,(l.foldl (fun b q=>b.set q.toNat true) bs).getD b false=(bs.getD b false||l.contains (b:Int))
 | [],bs,_,b=>by simp
 | q ::r,bs,h,b=>by
   have hq:=h q (.head _);rw[List.foldl_cons,LH r _ (fun x hx=>by rw[List.length_set];exact h x (.tail _ hx)),EZ hq.2,List.contains_cons];split
   .rename_i e
    subst e;have:((q.toNat:Int)==q)=true:=by rw[DD];omega
    rw[this];simp
   .rename_i e
    have:((b:Int)==q)=false:=by rw[beq_eq_false_iff_ne];omega
    rw[this,Bool.false_or]
def Hl {g:List (List Int)} (ho:ordered g) {c:Nat} {bs:List Bool} (hc:c<=bs.length) (b:Nat):(IS g c bs).getD b false=(bs.getD b false||(bs.getD c false&&(par g c).contains (b:Int))):=by
 rw[IS];split
 .rename_i h
  rw[LH _ _ (fun q hq=>by have:=ho c q hq;omega),h,EA]
 .rename_i h
  have:bs.getD c false=false:=by simpa using h
  rw[this,Bool.false_and,Bool.or_false]
def Ga {g:List (List Int)} (ho:ordered g) {n:Nat} {S:List Bool} (hl:S.length=n): ∀(k b:Nat),(CC g n k S).getD b false=true-> ∃d,S.getD d false=true/\G9 g d b=true
 | 0,b,h=>⟨b,h,F4 ho b⟩
 | k + 1,b,h=>by
   rw[CC,Hl ho (by rw[Er];omega),Fm,A9]at h;rcases h with h|⟨h1,h2⟩
   .exact Ga ho hl k b h
   .obtain⟨d,h3,h4⟩:=Ga ho hl k _ h1
    refine⟨d,h3,N6 ho _ _ _ h4 ?_⟩;rw[Fa ho,Fm,IY];rw[List.contains_iff_mem]at h2;exact .inr ⟨_,h2,by rw[GB];exact F4 ho b⟩
def YA {g:List (List Int)} (ho:ordered g) {n:Nat} {S:List Bool} (hl:S.length=n) (k b:Nat) (h:(CC g n k S).getD b false=true):(CC g n (k+1) S).getD b false=true:=by
 rw[CC,Hl ho (by rw[Er];omega),h];rfl
def KB {g:List (List Int)} (ho:ordered g) {n:Nat} {S:List Bool} (hl:S.length=n): ∀(k b:Nat),S.getD b false=true->(CC g n k S).getD b false=true
 | 0,_,h=>h
 | k+1,b,h=>YA ho hl k b (KB ho hl k b h)
def Hm {g:List (List Int)} (ho:ordered g) {n:Nat} {S:List Bool} (hl:S.length=n): ∀(k c:Nat),k<=n->n - k<=c->(CC g n k S).getD c false=true-> ∀q∈par g c,(CC g n k S).getD q.toNat false=true
 | 0,c,_,hc,h,q,hq=>by
   rw[CC,C4,List.getElem?_eq_none (by omega)]at h;cases h
 | k + 1,c,hk,hc,h,q,hq=>by
   rw[CC,Hl ho (by rw[Er];omega)]at h ⊢;have hoc:=ho c q hq;rw[Fm,A9]at h
   have hbase:(CC g n k S).getD c false=true:=by
    rcases h with h|⟨-,h2⟩
    .exact h
    .rw[List.contains_iff_mem]at h2
     have:=ho _ _ h2;omega
   by_cases e:c=n - 1 - k
   .subst e
    rw[hbase,EA,Fm,List.contains_iff_mem];exact .inr (by rw[show((q.toNat:Nat):Int)=q by omega];exact hq)
   .rw[Hm ho hl k c (by omega) (by omega) hbase q hq];rfl
def Zn {g:List (List Int)} (ho:ordered g) {S:List Bool} (hl:S.length=3+g.length) (b:Nat):(CC g (3+g.length) g.length S).getD b false=true↔ ∃d,S.getD d false=true/\G9 g d b=true:=by
 refine⟨Ga ho hl _ b,?_⟩
 have key: ∀d,(CC g (3+g.length) g.length S).getD d false=true->G9 g d b=true->(CC g (3+g.length) g.length S).getD b false=true:=by
  intro d
  induction d using Nat.strongRecOn with
  | _ d ih=>
    intro h1 h2;rw[Fa ho,Fm,DD,IY]at h2;rcases h2 with rfl|⟨p,hp,h2⟩
    .exact h1
    .have hop:=ho d p hp
     refine ih p.toNat (by omega) (Hm ho hl g.length d (by omega) ?_ h1 p hp) h2;omega
 rintro⟨d,h1,h2⟩;exact key d (KB ho hl _ d h1) h2
def RB (n:Nat) (t:BB) (u:Nat×Nat):Prop:=
 t.1.length=n/\t.2.length=n/\(∀b,t.1.getD b false=u.1.testBit b)/\(∀b,b≠1->b≠2->t.2.getD b false=u.2.testBit b)/\u.1.testBit 1=false/\u.1.testBit 2=false
def FK (m c b:Nat):(m|||2 ^ c).testBit b=(m.testBit b||b==c):=by
 rw[Nat.testBit_or,Nat.testBit_two_pow];congr 1;rw[IZ];simp only[Cc,DD];omega
def Pc {l:List Bool} {m c:Nat} (hc:c<l.length) {b:Nat} (h:l.getD b false=m.testBit b):(l.set c true).getD b false=(m|||2 ^ c).testBit b:=by
 rw[EZ hc,FK,<-h];split
 .rename_i e;subst e;simp
 .rename_i e
  have:(b==c)=false:=by simpa using e
  rw[this,Bool.or_false]
def US (x:Fact×Bool):Bool:= !x.2&&(!(x.1.op==2)||x.1.cls==1||x.1.cls==2)
def dJ {n : Nat} {x:Fact×Bool} {t:BB} {k:Kn} (h:RB n t (k.BU,k.Dt)) (hc:x.1.op=2->0<=x.1.cls/\x.1.cls<n) :
    (US x=true->Gh x t=none)/\(US x=false-> ∃t',Gh x t=some t'/\RB n t' ((By k x.1 x.2).BU,(By k x.1 x.2).Dt)):=by
 obtain⟨f,c⟩:=x;simp only at hc;obtain⟨h1,h2,h3,h4,h5,h6⟩:=h;unfold US Gh By;simp only;by_cases ho:f.op=2
 .have hc':=hc ho
  by_cases h12:f.cls=1\/f.cls=2
  .rw[if_pos (.inr h12),if_pos ho]
   cases c with
   | true=>
     refine⟨fun h=>(by cases h),fun _=>⟨t,rfl,h1,h2,h3,fun b hb1 hb2=>?_,h5,h6⟩⟩;rw[if_pos rfl];show _=(k.Dt|||2 ^ f.cls.toNat).testBit b;rw[FK,h4 b hb1 hb2];have:(b==f.cls.toNat)=false:=by rw[beq_eq_false_iff_ne];omega
     rw[this,Bool.or_false]
   | false=>
     refine⟨fun _=>rfl,fun h=>?_⟩;exfalso;rcases h12 with e|e<;>simp[e]at h
  .have hn: ¬(f.op≠2\/f.cls=1\/f.cls=2):=by omega
   rw[if_neg hn,if_pos ho]
   have hb:(!c&&(!(f.op==2)||f.cls==1||f.cls==2))=false:=by
    have e1:(f.op==2)=true:=by simpa using ho
    have e2:(f.cls==1)=false:=by rw[beq_eq_false_iff_ne];omega
    have e3:(f.cls==2)=false:=by rw[beq_eq_false_iff_ne];omega
    rw[e1,e2,e3];simp
   rw[hb];refine⟨fun h=>(by cases h),fun _=>?_⟩;cases c with
   | true=>
     refine⟨_,rfl,h1,by simpa using h2,h3,fun b hb1 hb2=>?_,h5,h6⟩;exact Pc (by omega) (h4 b hb1 hb2)
   | false=>
     refine⟨_,rfl,by simpa using h1,h2,fun b=>?_,h4,?_,?_⟩
     .exact Pc (by omega) (h3 b)
     .show(k.BU|||2 ^ f.cls.toNat).testBit 1=false
      rw[FK,h5];have:(1==f.cls.toNat)=false:=by rw[beq_eq_false_iff_ne];omega
      rw[this];rfl
     .show(k.BU|||2 ^ f.cls.toNat).testBit 2=false
      rw[FK,h6];have:(2==f.cls.toNat)=false:=by rw[beq_eq_false_iff_ne];omega
      rw[this];rfl
 .rw[if_pos (.inl ho),if_neg ho]
  have e1:(f.op==2)=false:=by simpa using ho
  cases c with
  | true=>
    refine⟨fun h=>(by cases h),fun _=>⟨t,rfl,?_⟩⟩;split<;>exact⟨h1,h2,h3,h4,h5,h6⟩
  | false=>exact⟨fun _=>rfl,fun h=>by rw[e1]at h;cases h⟩
def Tm {n:Nat}: ∀(os:List Fact) {t:BB} {k:Kn},RB n t (k.BU,k.Dt)->G6 n os->
    (os.any (fun l=>US (Af l))=true->EL os t=none)/\(os.any (fun l=>US (Af l))=false-> ∃t',EL os t=some t'/\RB n t' ((EW os k).BU,(EW os k).Dt))
 | [],t,k,h,_=>⟨fun h=>(by cases h),fun _=>⟨t,rfl,h⟩⟩
 | l ::r,t,k,h,hc=>by
   obtain⟨s1,s2⟩:=dJ h (hc l (.head _));rw[PV,EL];cases hb:US (Af l)with
   | true=>exact⟨fun _=>by rw[s1 hb];rfl,fun h=>(by cases h)⟩
   | false=>
     obtain⟨t',h1,h2⟩:=s2 hb;rw[h1,Bool.false_or,Option.bind_some];exact Tm r h2 fun x hx=>hc x (.tail _ hx)
def mZ {os:List Fact} {n:Nat} (hc:G6 n os):(os.any fun l=>US (Af l))=((EW os k0).whole||(EW os k0).BU.testBit 1||(EW os k0).BU.testBit 2):=by
 rw[IZ,Fm,Fm,J3,J3,Lw];simp only[IY,US,A9,Fm,Bool.not_eq_true',DD,beq_eq_false_iff_ne,k0,Bool.false_or];constructor
 .rintro⟨l,hl,hb,(h|h)|h⟩
  .exact .inl (.inl ⟨l,hl,hb,h⟩)
  .by_cases ho:(Af l).1.op=2
   .exact .inl (.inr ⟨l,hl,ho,hb,by rw[h];rfl⟩)
   .exact .inl (.inl ⟨l,hl,hb,ho⟩)
  .by_cases ho:(Af l).1.op=2
   .exact .inr ⟨l,hl,ho,hb,by rw[h];rfl⟩
   .exact .inl (.inl ⟨l,hl,hb,ho⟩)
 .rintro((⟨l,hl,hb,h⟩|⟨l,hl,ho,hb,h⟩)|⟨l,hl,ho,hb,h⟩)
  .exact⟨l,hl,hb,.inl (.inl h)⟩
  .have:=hc l hl ho
   exact⟨l,hl,hb,.inl (.inr (by omega))⟩
  .have:=hc l hl ho
   exact⟨l,hl,hb,.inr (by omega)⟩
def Z1 (w:AH) (Ah can:Int->Bool) (s:Int) (u:Nat×Nat):Option (Nat×Nat):=
 if Ah s&& !can s then none else some (if Ah s then u.1|||2 ^ (B4 w s).toNat else u.1,if can s then u.2 else u.2|||2 ^ (B4 w s).toNat)
def JN (w:AH) (Ah can:Int->Bool):List Int->Nat×Nat->Option (Nat×Nat)
 | [],u=>some u
 | s::r,u=>(Z1 w Ah can s u).bind (JN w Ah can r)
def bV {w:AH} {ls:List Fact} {a:Int} {p:List Int} {can Ah:Int->Bool} (hn: ∀s,Ah s= !DF ls a (p++[s])) {n:Nat} (how: ∀s:Int,0<=s->s<w.owner.length->3<=B4 w s/\B4 w s<n) :
    ∀(sl:List Int) {t:BB} {u:Nat×Nat},(∀s∈sl,0<=s/\s<w.owner.length)->RB n t u->
    (Dz w ls a p can sl t=none/\JN w Ah can sl u=none)\/ ∃t' u',Dz w ls a p can sl t=some t'/\JN w Ah can sl u=some u'/\RB n t' u'
 | [],t,u,_,h=> .inr ⟨t,u,rfl,rfl,h⟩
 | s ::r,t,u,hsl,h=>by
   have hs:=hsl s (.head _);have ho:=how s hs.1 hs.2;rw[Dz,JN,JF,Z1,hn];obtain⟨h1,h2,h3,h4,h5,h6⟩:=h;split
   .exact .inl ⟨rfl,rfl⟩
   .rw[Option.bind_some,Option.bind_some]
    refine bV hn how r (fun x hx=>hsl x (.tail _ hx)) ?_;have hb: ∀i,i<3->(i==(B4 w s).toNat)=false:=fun i hi=>by rw[beq_eq_false_iff_ne];omega
    cases DF ls a (p++[s])<;>cases can s<;>refine⟨by simpa using h1,by simpa using h2,fun b=>?_,fun b hb1 hb2=>?_,?_,?_⟩
    all_goals simp only[Bool.not_false,Bool.not_true,L2,if_true,if_false]
    all_goals first
     | exact h3 b
     | exact h4 b hb1 hb2
     | exact h5
     | exact h6
     | exact Pc (by omega) (h3 b)
     | exact Pc (by omega) (h4 b hb1 hb2)
     | (rw[FK,h5,hb 1 (by omega)];rfl)
     | (rw[FK,h6,hb 2 (by omega)];rfl)
def Ht (m:Nat):Nat:=m - m % 2
def XP (m b:Nat):(Ht m).testBit b=(m.testBit b&& !(b==0)):=by
 cases b with
 | zero=>
   simp[Ht,Nat.testBit_zero];omega
 | succ b=>
   rw[Nat.testBit_succ,Nat.testBit_succ,Ht,show(m - m % 2) / 2=m / 2 by omega];simp
def uj {w : AH} (ho:ordered w.parents) {t:BB} {u:Nat×Nat} (h:RB (3+w.parents.length) t u) :
    (V0 w t).isSome=(!u.2.testBit 0&&(Ht (Dm (CJ w.parents) w.parents.length u.1)&&&u.2==0)):=by
 obtain⟨h1,h2,h3,h4,h5,h6⟩:=h;rw[V0,h4 0 (by decide) (by decide)];cases h0:u.2.testBit 0 with
 | true=>rfl
 | false =>
   rw[if_neg (by decide),Bool.not_false,EA];have hl:(t.1.set 0 false).length=3+w.parents.length:=by simpa using h1
   have hR:=Zn ho hl;have hP:=R8 ho u.1 w.parents.length
   have hS: ∀d,(t.1.set 0 false).getD d false=true↔d≠0/\u.1.testBit d=true:=fun d=>by
    rw[EZ (by omega)];split
    .rename_i e;subst e;simp
    .rename_i e;rw[h3];exact⟨fun h=>⟨e,h⟩,fun h=>h.2⟩
   have hlt: ∀b,u.1.testBit b=true->b<3+w.parents.length:=fun b hb=>by
    rw[<-h3]at hb;rcases Nat.lt_or_ge b (3+w.parents.length)with h'|h'
    .exact h'
    .rw[C4,List.getElem?_eq_none (by omega)]at hb;cases hb
   have h3b: ∀d,d≠0->u.1.testBit d=true->3<=d:=fun d hd hb=>by
    rcases d with _|_|_|d
    .exact absurd rfl hd
    .rw[h5]at hb;cases hb
    .rw[h6]at hb;cases hb
    .omega
   have hM: ∀b,(Ht (Dm (CJ w.parents) w.parents.length u.1)).testBit b=true↔(CC w.parents (3+w.parents.length) w.parents.length (t.1.set 0 false)).getD b false=true:=fun b=>by
    rw[XP,A9,hP b (IW _),hR,Bool.not_eq_true',beq_eq_false_iff_ne];constructor
    .rintro⟨h|⟨d,q1,q2,q3,q4⟩,hb⟩
     .exact⟨b,(hS b).2 ⟨hb,h⟩,F4 ho b⟩
     .rcases q4 with e|q4
      .exact absurd e hb
      .exact⟨d,(hS d).2 ⟨by omega,q3⟩,q4⟩
    .rintro⟨d,hd,hu⟩
     obtain⟨hd0,hdu⟩:=(hS d).1 hd;have hd3:=h3b d hd0 hdu;have:=QX ho d b hd3 hu;exact⟨.inr ⟨d,hd3,hlt d hdu,hdu,.inr hu⟩,by omega⟩
   have hany:((List.range (3+w.parents.length)).any fun c=>(CC w.parents (3+w.parents.length) w.parents.length (t.1.set 0 false)).getD c false&&t.2.getD c false)= !(Ht (Dm (CJ w.parents) w.parents.length u.1)&&&u.2==0):=by
    rw[IZ,Bool.not_eq_true',<-Bool.not_eq_true,M5,IY];constructor
    .rintro⟨c,hc,hx⟩ hall
     rw[A9]at hx;have hm:=(hM c).2 hx.1;obtain⟨d,hd,hu⟩:=(hR c).1 hx.1;obtain⟨hd0,hdu⟩:=(hS d).1 hd;have:=QX ho d c (h3b d hd0 hdu) hu;exact hall c hm (by rw[<-h4 c (by omega) (by omega)];exact hx.2)
    .intro hne
     rcases Classical.em (∃b,(Ht (Dm (CJ w.parents) w.parents.length u.1)).testBit b=true/\u.2.testBit b=true)with⟨b,hb1,hb2⟩|hno
     .have hm:=(hM b).1 hb1
      obtain⟨d,hd,hu⟩:=(hR b).1 hm;obtain⟨hd0,hdu⟩:=(hS d).1 hd;have:=QX ho d b (h3b d hd0 hdu) hu;have:=iJ ho d b hu;have:=hlt d hdu;exact⟨b,List.mem_range.2 (by omega),by rw[hm,h4 b (by omega) (by omega),hb2];rfl⟩
     .exact absurd (fun b h1 h2=>hno ⟨b,h1,h2⟩) hne
   rw[hany];cases(Ht (Dm (CJ w.parents) w.parents.length u.1)&&&u.2==0)<;>rfl
def PG (w:AH) (k:Kn) (Ah can:Int->Bool):Nat×Bool:=
 if k.whole||k.BU.testBit 1||k.BU.testBit 2||k.Dt.testBit 0 then(0,false)else
 match JN w Ah can k.AG (k.BU,k.Dt)with
 | none=>(0,false)
 | some u=>(Ht (Dm (CJ w.parents) w.parents.length u.1),Ht (Dm (CJ w.parents) w.parents.length u.1)&&&u.2==0)
def R3 {w:AH} {Ah can:Int->Bool} (how: ∀s:Int,0<=s->s<w.owner.length->3<=B4 w s): ∀(sl:List Int) {u u':Nat×Nat},(∀s∈sl,0<=s/\s<w.owner.length)->JN w Ah can sl u=some u'->u'.2.testBit 0=u.2.testBit 0
 | [],u,u',_,h=>by cases h;rfl
 | s ::r,u,u',hsl,h=>by
   have hs:=hsl s (.head _);have ho:=how s hs.1 hs.2;rw[JN,Z1]at h;split at h
   .cases h
   .rw[Option.bind_some]at h
    rw[R3 how r (fun x hx=>hsl x (.tail _ hx)) h];simp only;split
    .rfl
    .rw[FK]
     have:(0==(B4 w s).toNat)=false:=by rw[beq_eq_false_iff_ne];omega
     rw[this,Bool.or_false]
def rY {w:AH} {ls:List Fact} {a:Int} {p:List Int} {can Ah:Int->Bool} (ho:ordered w.parents) (how: ∀s:Int,0<=s->s<w.owner.length->3<=B4 w s/\B4 w s<3+w.parents.length) (hc:G6 (3+w.parents.length) ls) (hp:HY w.owner.length ls) (hn: ∀s,Ah s= !DF ls a (p++[s])) :
    (PG w (kn ls a p) Ah can).2=(LO w ls a p can).isSome:=by
 have hcore:=MU ls a p;have hsl:=J4 hp a p;generalize kn ls a p=k at *;have hc2:G6 (3+w.parents.length) (ls.filter (Fo a p)):=fun l hl=>hc l (JX.1 hl).1
 simp only[DZ,Prod.mk.injEq]at hcore;obtain⟨-,-,-,c4,c5,c6⟩:=hcore;rw[PG,LO,c4,c5,c6,<-mZ hc2,hsl]
 have hR0:RB (3+w.parents.length) (tO w) (k0.BU,k0.Dt):=by
  refine⟨by simp[tO],by simp[tO],fun b=>?_,fun b _ _=>?_,rfl,rfl⟩<;>
  .simp only[tO,k0,Nat.zero_testBit,C4,List.getElem?_replicate]
   split<;>rfl
 obtain⟨f1,f2⟩:=Tm _ hR0 hc2;cases hbad:(ls.filter (Fo a p)).any fun l=>US (Af l)with
 | true=>rw[f1 hbad];rfl
 | false=>
   obtain⟨t,ht,hR⟩:=f2 hbad;rw[ht,Option.bind_some,Bool.false_or];have hin: ∀s∈BO w.owner.length ls a p,0<=s/\s<(w.owner.length:Int):=fun s hs=>Fc hs
   rcases bV (can:=can) hn (fun s h0 h1=>by have:=how s h0 h1;omega) (BO w.owner.length ls a p) hin hR with⟨e1,e2⟩|⟨t',u',e1,e2,hR'⟩
   .rw[e1,e2]
    split<;>rfl
   .rw[e1,e2,Option.bind_some,uj ho hR']
    have:=R3 (fun s h0 h1=>(how s h0 h1).1) _ hin e2;rw[this];simp only;cases((EW (ls.filter (Fo a p)) k0).Dt.testBit 0)<;>rfl
end Go.Gl
namespace Go.Gl
abbrev Cd (a:Int) (p:List Int):V:= .a [eI a,eI (p.length:Int),eI (p.getD 0 0),eI (p.getD 1 0)]
structure B5 where
 a:Int
 p:List Int
 b:Nat
 vn:V
 vs:V
 k:Kn
abbrev B5.is (e:B5) (a:Int) (p:List Int):Bool:=e.a==a&&e.p==p
abbrev entC (b:Nat) (vn vs:V) (k:Kn):At:= .box b [eI k.low,eI k.high,vn,eU k.BU,eU k.Dt,.b k.whole,.b k.Ah,vs]
abbrev tB (b:Nat) (vn vs:V) (k:Kn):List At:=[entC b vn vs k,.own vn 1 (iL k.no),.own vs 1 (iL k.AG)]
abbrev WO (e:B5):List At:=tB e.b e.vn e.vs e.k
def UE (es:List B5):List (V×V):=es.map fun e=>(Cd e.a e.p,.p e.b 0)
def CL (L:Nat) (es:List B5):List At:= .map L (UE es)::es.flatMap WO
def Hy (L:Nat) (es pre post:List B5):List At:= .map L (UE es)::(pre++post).flatMap WO
def Gn {e:B5} {a:Int} {p:List Int}:e.is a p=true↔e.a=a/\e.p=p:=by simp[B5.is]
def Pn {e:B5} {a:Int} {p:List Int}:e.is a p=false↔ ¬(e.a=a/\e.p=p):=by rw[<-Gn,Bool.not_eq_true]
def Ue {a a':Int} {p p':List Int} (h:p.length<=2) (h':p'.length<=2):D0 (Cd a p) (Cd a' p')=(a==a'&&p==p'):=by
 have e:D0 (Cd a p) (Cd a' p')=(a==a'&&((p.length:Int)==p'.length&&(p.getD 0 0==p'.getD 0 0&&(p.getD 1 0==p'.getD 1 0)))):=by
  simp[D0,Bv,Cd]
 rw[e];congr 1
 match p,h,p',h' with
 | [],_,[],_=>rfl
 | [],_,[_],_=>simp
 | [],_,[_,_],_=>simp<;>omega
 | [_],_,[],_=>simp
 | [x],_,[y],_=>simp
 | [_],_,[_,_],_=>simp<;>omega
 | [_,_],_,[],_=>simp<;>omega
 | [_,_],_,[_],_=>simp<;>omega
 | [x,y],_,[z,u],_=>simp
def ID (es:List B5): ∀kv∈UE es,BW (.a [.i64,.i64,.i64,.i64]) kv.1=true:=by
 intro kv h;obtain⟨e,_,rfl⟩:=IX.1 h;rfl
def Qx {a:Int} {p:List Int} (hp:p.length<=2): ∀ {es:List B5},(∀e∈es,e.p.length<=2)->(∀e∈es,e.is a p=false)->Cn (Cd a p) (UE es)=none
 | [],_,_=>rfl
 | e ::r,hl,h=>by
   have he:=h e (.head _);rw[UE,E3,Cn,Ue hp (hl e (.head _))]
   have:(a==e.a&&p==e.p)=false:=by
    rw[<-he,B5.is,IZ];simp only[A9,DD];exact⟨fun⟨h1,h2⟩=>⟨h1.symm,h2.symm⟩,fun⟨h1,h2⟩=>⟨h1.symm,h2.symm⟩⟩
   rw[this,cond_false];exact Qx hp (fun x hx=>hl x (.tail _ hx)) (fun x hx=>h x (.tail _ hx))
def Yf {a:Int} {p:List Int} (hp:p.length<=2) (b:Nat) (vn vs:V) (k:Kn): ∀ {es:List B5},(∀e∈es,e.p.length<=2)->(∀e∈es,e.is a p=false)->DX (Cd a p) (.p b 0) (UE es)=UE (es++[⟨a,p,b,vn,vs,k⟩])
 | [],_,_=>rfl
 | e ::r,hl,h=>by
   have he:=h e (.head _);have ih:=Yf hp b vn vs k (fun x hx=>hl x (.tail _ hx)) (fun x hx=>h x (.tail _ hx));simp only[UE]at ih;rw[UE,E3,DX,Ue hp (hl e (.head _))]
   have:(a==e.a&&p==e.p)=false:=by
    rw[<-he,B5.is,IZ];simp only[A9,DD];exact⟨fun⟨h1,h2⟩=>⟨h1.symm,h2.symm⟩,fun⟨h1,h2⟩=>⟨h1.symm,h2.symm⟩⟩
   rw[this,cond_false,ih];rfl
def Qw {a:Int} {p:List Int} (hp:p.length<=2) {e:B5} (he:e.is a p=true) {post:List B5}: ∀ {pre:List B5},(∀x∈pre++e::post,x.p.length<=2)->(∀x∈pre,x.is a p=false)->Cn (Cd a p) (UE (pre++e::post))=some (.p e.b 0)
 | [],hl,_=>by
   rw[List.nil_append,UE,E3,Cn,Ue hp (hl e (.head _))];obtain⟨h1,h2⟩:=Gn.1 he;rw[h1,h2];simp
 | x ::r,hl,h=>by
   have hx:=h x (.head _);rw[List.cons_append,UE,E3,Cn,Ue hp (hl x (.head _))]
   have:(a==x.a&&p==x.p)=false:=by
    rw[<-hx,B5.is,IZ];simp only[A9,DD];exact⟨fun⟨h1,h2⟩=>⟨h1.symm,h2.symm⟩,fun⟨h1,h2⟩=>⟨h1.symm,h2.symm⟩⟩
   rw[this,cond_false];exact Qw hp he (fun y hy=>hl y (.tail _ hy)) (fun y hy=>h y (.tail _ hy))
def gl (a : Int) (p:List Int): ∀(es:List B5),(∀e∈es,e.is a p=false)\/ ∃pre e post,es=pre++e::post/\e.is a p=true/\ ∀x∈pre,x.is a p=false
 | []=> .inl fun _ h=>by cases h
 | e ::r=>by
   cases h:e.is a p with
   | true=>exact .inr ⟨[],e,r,rfl,h,fun _ h=>by cases h⟩
   | false=>
     rcases gl a p r with h1|⟨pre,x,post,rfl,h1,h2⟩
     .exact .inl fun x hx=>by
       rcases GR.1 hx with rfl|hx
       .exact h
       .exact h1 x hx
     .exact .inr ⟨e::pre,x,post,rfl,h1,fun y hy=>by
       rcases GR.1 hy with rfl|hy
       .exact h
       .exact h2 y hy⟩
def XA (L:Nat) (pre post:List B5) (e:B5):(CL L (pre++e::post)).Perm (WO e++Hy L (pre++e::post) pre post):=by
 unfold CL Hy;rw[List.flatMap_append,List.flatMap_cons,List.flatMap_append];refine List.Perm.trans ?_ (List.perm_middle.symm);refine List.Perm.cons _ ?_;rw[<-PD,<-PD];exact List.Perm.append_right _ NV
def Rt {pre post:List B5} {e e':B5} (h1:e'.a=e.a) (h2:e'.p=e.p) (h3:e'.b=e.b):UE (pre++e'::post)=UE (pre++e::post):=by
 simp only[UE,SN,E3,h1,h2,h3]
def VU {L:Nat} {pre post:List B5} {e e':B5} (h1:e'.a=e.a) (h2:e'.p=e.p) (h3:e'.b=e.b):Hy L (pre++e'::post) pre post=Hy L (pre++e::post) pre post:=by
 rw[Hy,Hy,Rt h1 h2 h3]
structure B9 (kf:Int->List Int->Kn) (es:List B5):Prop where
 val: ∀e∈es,e.k=kf e.a e.p
 LK: ∀a p,(∀e∈es,e.is a p=false)->kf a p=k0
 one:es.Pairwise fun e e'=>e.is e'.a e'.p=false
 len: ∀e∈es,e.p.length<=2
def S5 (es:List B5):Prop:= ∀e∈es,∀s∈e.k.AG,∃e'∈es,e'.is e.a (e.p++[s])=true
def B9.congr {kf kf':Int->List Int->Kn} {es:List B5} (h:B9 kf es) (e: ∀a p,kf a p=kf' a p):B9 kf' es:=
 ⟨fun x hx=>(h.val x hx).trans (e _ _),fun a p hp=>(e a p).symm.trans (h.LK a p hp),h.one,h.len⟩
def B9.add {kf:Int->List Int->Kn} {es:List B5} (h:B9 kf es) {a:Int} {p:List Int} (hp:p.length<=2) (hn: ∀e∈es,e.is a p=false) (b:Nat) (vn vs:V):B9 kf (es++[⟨a,p,b,vn,vs,k0⟩]):=by
 refine⟨fun x hx=>?_,fun a' p' h'=>h.LK a' p' fun x hx=>h' x (PW _ hx),?_,fun x hx=>?_⟩
 .rcases Du.1 hx with hx|hx
  .exact h.val x hx
  .rw[KF.1 hx];exact(h.LK a p hn).symm
 .rw[List.pairwise_append]
  exact⟨h.one,List.pairwise_singleton _ _,fun x hx y hy=>by rw[KF.1 hy];exact hn x hx⟩
 .rcases Du.1 hx with hx|hx
  .exact h.len x hx
  .rw[KF.1 hx];exact hp
def S5.add {es:List B5} (h:S5 es) {a:Int} {p:List Int} (b:Nat) (vn vs:V):S5 (es++[⟨a,p,b,vn,vs,k0⟩]):=by
 intro e he s hs;rcases Du.1 he with he|he
 .obtain⟨e',h1,h2⟩:=h e he s hs
  exact⟨e',PW _ h1,h2⟩
 .rw[KF.1 he]at hs
  cases hs
def NY (kf:Int->List Int->Kn) (a:Int) (p:List Int) (k:Kn):Int->List Int->Kn:=fun a' p'=>if a'=a/\p'=p then k else kf a' p'
def B9.change {kf:Int->List Int->Kn} {pre post:List B5} {e:B5} (h:B9 kf (pre++e::post)) (b:Nat) (vn vs:V) (k:Kn):B9 (NY kf e.a e.p k) (pre++⟨e.a,e.p,b,vn,vs,k⟩::post):=by
 have h1:=h.one;rw[List.pairwise_append,List.pairwise_cons]at h1;obtain⟨o1,⟨o2,o3⟩,o4⟩:=h1;refine⟨fun x hx=>?_,fun a p hp=>?_,?_,fun x hx=>?_⟩
 .rw [NY]
  rcases Du.1 hx with hx|hx
  .rw[if_neg]
   .exact h.val x (PW _ hx)
   .have:=o4 x hx e (.head _)
    rw[Pn]at this;exact this
  .rcases GR.1 hx with rfl|hx
   .rw[if_pos ⟨rfl,rfl⟩]
   .rw[if_neg]
    .exact h.val x (Od _ (.tail _ hx))
    .have:=o2 x hx
     rw[Pn]at this;exact fun⟨q1,q2⟩=>this ⟨q1.symm,q2.symm⟩
 .have he:=Pn.1 (hp _ (Od _ (.head _)))
  rw[NY,if_neg (fun⟨q1,q2⟩=>he ⟨q1.symm,q2.symm⟩)];refine h.LK a p fun x hx=>?_
  rcases Du.1 hx with hx|hx
  .exact hp x (PW _ hx)
  .rcases GR.1 hx with rfl|hx
   .exact Pn.2 he
   .exact hp x (Od _ (.tail _ hx))
 .rw[List.pairwise_append,List.pairwise_cons]
  refine⟨o1,⟨o2,o3⟩,fun x hx y hy=>?_⟩;rcases GR.1 hy with rfl|hy
  .exact o4 x hx e (.head _)
  .exact o4 x hx y (.tail _ hy)
 .rcases Du.1 hx with hx|hx
  .exact h.len x (PW _ hx)
  .rcases GR.1 hx with rfl|hx
   .exact h.len e (Od _ (.head _))
   .exact h.len x (Od _ (.tail _ hx))
def S5.change {pre post:List B5} {e:B5} (h:S5 (pre++e::post)) (b:Nat) (vn vs:V) (k:Kn) (hs: ∀s∈k.AG,s∈e.k.AG\/ ∃e'∈pre++e::post,e'.is e.a (e.p++[s])=true):S5 (pre++⟨e.a,e.p,b,vn,vs,k⟩::post):=by
 have mov: ∀ {a p},(∃e'∈pre++e::post,e'.is a p=true)-> ∃e'∈pre++(⟨e.a,e.p,b,vn,vs,k⟩:B5)::post,e'.is a p=true:=by
  rintro a p ⟨x,hx,h'⟩;rcases Du.1 hx with hx|hx
  .exact⟨x,PW _ hx,h'⟩
  .rcases GR.1 hx with rfl|hx
   .exact⟨_,Od _ (.head _),h'⟩
   .exact⟨x,Od _ (.tail _ hx),h'⟩
 intro x hx s hxs;rcases Du.1 hx with hx|hx
 .exact mov (h x (PW _ hx) s hxs)
 .rcases GR.1 hx with rfl|hx
  .rcases hs s hxs with h'|h'
   .exact mov (h e (Od _ (.head _)) s h')
   .exact mov h'
  .exact mov (h x (Od _ (.tail _ hx)) s hxs)
def Dq (f:Fact) (c:Bool) (j:Nat) (a:Int) (p:List Int) (k:Kn):Kn:=
 if f.arg=a/\Bc f.path p=true then(if p.length<j then fv (Bz k c) (f.path.getD p.length 0)else if p.length=j then Bz k c else k)else k
def HQ {path p:List Int}:Bc path p=true↔p.length<=path.length/\p=path.take p.length:=by
 rw[B1];constructor
 .rintro⟨t,rfl⟩
  exact⟨by simp,by simp⟩
 .rintro⟨h1,h2⟩
  exact⟨path.drop p.length,by conv=>rhs;rw[h2,Jd,Nat.min_eq_left h1,List.take_append_drop]⟩
def pG (f:Fact) (c:Bool) (a:Int) (p:List Int) (k:Kn):Dq f c 0 a p k=if a=f.arg/\p= []then Bz k c else k:=by
 unfold Dq;by_cases h:f.arg=a/\Bc f.path p=true
 .rw[if_pos h,if_neg (by omega)]
  by_cases hp:p.length=0
  .rw[if_pos hp,if_pos ⟨h.1.symm,YE.1 hp⟩]
  .rw[if_neg hp,if_neg (fun h'=>hp (by rw[h'.2];rfl))]
 .rw[if_neg h,if_neg]
  rintro⟨rfl,rfl⟩;exact h ⟨rfl,B1.2 ⟨f.path,by simp⟩⟩
def pH (f:Fact) (c:Bool) {j:Nat} (hj:j<f.path.length) (a:Int) (p:List Int) (k:Kn):Dq f c (j+1) a p k=if a=f.arg/\p=f.path.take (j+1)then Bz (Dq f c j a p k) c else if a=f.arg/\p=f.path.take j then fv (Dq f c j a p k) (f.path.getD j 0)else Dq f c j a p k:=by
 unfold Dq;by_cases h:f.arg=a/\Bc f.path p=true
 .rw [if_pos h,if_pos h]
  obtain⟨h1,h2⟩:=h;rw[HQ]at h2;obtain⟨h2,h3⟩:=h2;have l1:p=f.path.take (j+1)↔p.length=j+1:=⟨fun e=>by rw[e,Jd];omega,fun e=>by rw[e]at h3;exact h3⟩
  have l2:p=f.path.take j↔p.length=j:=⟨fun e=>by rw[e,Jd];omega,fun e=>by rw[e]at h3;exact h3⟩
  have n1:p.length≠j+1-> ¬(a=f.arg/\p=f.path.take (j+1)):=fun h h'=>h (l1.1 h'.2)
  have n2:p.length≠j-> ¬(a=f.arg/\p=f.path.take j):=fun h h'=>h (l2.1 h'.2)
  by_cases q1:p.length<j
  .rw[if_pos (show p.length<j+1 by omega),if_neg (n1 (by omega)),if_neg (n2 (by omega)),if_pos q1]
  .by_cases q2:p.length=j
   .rw[if_pos (show p.length<j+1 by omega),if_neg (n1 (by omega)),if_pos (show a=f.arg/\p=f.path.take j from⟨h1.symm,l2.2 q2⟩),if_neg q1,if_pos q2,q2]
   .by_cases q3:p.length=j+1
    .rw[if_neg (show¬p.length<j+1 by omega),if_pos q3,if_pos (show a=f.arg/\p=f.path.take (j+1) from⟨h1.symm,l1.2 q3⟩),if_neg q1,if_neg q2]
    .rw[if_neg (show¬p.length<j+1 by omega),if_neg q3,if_neg (n1 q3),if_neg (n2 q2),if_neg q1,if_neg q2]
 .rw[if_neg h,if_neg h,if_neg,if_neg]
  .rintro⟨rfl,rfl⟩
   exact h ⟨rfl,B1.2 ⟨f.path.drop j,by rw[List.take_append_drop]⟩⟩
  .rintro⟨rfl,rfl⟩
   exact h ⟨rfl,B1.2 ⟨f.path.drop (j+1),by rw[List.take_append_drop]⟩⟩
def uP (a : Int) (p:List Int) (k:Kn) (l:Fact):Cz a p k l=if a=(Af l).1.arg/\p=(Af l).1.path then By (Dq (Af l).1 (Af l).2 (Af l).1.path.length a p k) (Af l).1 (Af l).2 else Dq (Af l).1 (Af l).2 (Af l).1.path.length a p k:=by
 unfold Cz Dq;by_cases h:(Af l).1.arg=a/\Bc (Af l).1.path p=true
 .rw [if_pos h,if_pos h]
  obtain⟨h1,h2⟩:=h;rw[HQ]at h2;obtain⟨h2,h3⟩:=h2;by_cases hp:(Af l).1.path=p
  .rw[if_pos hp,if_pos ⟨h1.symm,hp.symm⟩,if_neg (by rw[hp];omega),if_pos (by rw[hp])]
  .have hne:p.length<(Af l).1.path.length:=by
    rcases Nat.lt_or_ge p.length (Af l).1.path.length with h'|h'
    .exact h'
    .rw[List.take_of_length_le h']at h3
     exact absurd h3.symm hp
   rw[if_neg hp,if_neg (fun h=>hp h.2.symm),if_pos hne]
 .rw[if_neg h,if_neg h,if_neg]
  rintro⟨rfl,rfl⟩;exact h ⟨rfl,KC _⟩
def pK (ls:List Fact) (l:Fact) (a:Int) (p:List Int):kn (ls++[l]) a p=Cz a p (kn ls a p) l:=by
 rw[kn,List.foldl_append];rfl
def T8 (l:List Int) (s:Int):(JR l s).length<=l.length+1:=by
 unfold JR;split
 .omega
 .rw[List.length_mergeSort];simp
def SH (k:Kn) (f:Fact) (b:Bool):(By k f b).no.length<=k.no.length+1:=by
 unfold By
 repeat' split
 all_goals simp
def im (a:Int) (p:List Int): ∀(ls:List Fact) (k:Kn),(ls.foldl (Cz a p) k).no.length<=k.no.length+ls.length/\(ls.foldl (Cz a p) k).AG.length<=k.AG.length+ls.length
 | [],k=>⟨IW _,IW _⟩
 | l ::r,k=>by
   obtain⟨h1,h2⟩:=im a p r (Cz a p k l)
   have h3:(Cz a p k l).no.length<=k.no.length+1/\(Cz a p k l).AG.length<=k.AG.length+1:=by
    unfold Cz
    repeat' split
    .have:=SH (Bz k (Af l).2) (Af l).1 (Af l).2
     rw[IV];simp only[Bz]at this ⊢;omega
    .have:=T8 k.AG ((Af l).1.path.getD p.length 0)
     simp only[fv,Bz]at this ⊢;omega
    .omega
   rw[List.foldl_cons,Ky];omega
def pM {n:Nat} {ls:List Fact} (h:G6 n ls) (a:Int) (p:List Int):(kn ls a p).BU<2 ^ n/\(kn ls a p).Dt<2 ^ n:=by
 have hc:=MU ls a p;simp only[DZ,Prod.mk.injEq]at hc;have hc2:G6 n (ls.filter (Fo a p)):=fun l hl=>h l (JX.1 hl).1
 rw[hc.2.2.2.1,hc.2.2.2.2.1];exact⟨MT hc2,ia hc2⟩
end Go.Gl
namespace Go.Gl
def G4 (no:List Int):Nat->Int->Int
 | 0,n=>n
 | k+1,n=>if no.contains n then G4 no k (n+1)else n
def from_ (no:List Int) (n:Int):Nat:=(no.filter fun x=>decide (n<=x)).length
def Pt {no:List Int} {n:Int} (h:n∈no):from_ no (n+1)<from_ no n:=by
 induction no with
 | nil=>cases h
 | cons x r ih=>
   simp only[from_,List.filter_cons]at ih ⊢;by_cases hx:x=n
   .subst hx
    have hle:(r.filter fun y=>decide (x+1<=y)).length<=(r.filter fun y=>decide (x<=y)).length:=by
     refine List.Sublist.length_le ?_
     have e:(r.filter fun y=>decide (x+1<=y))=(r.filter fun y=>decide (x<=y)).filter fun y=>decide (x+1<=y):=by
      rw[List.filter_filter];refine List.filter_congr fun y _=>?_
      rw[IZ,A9,Cc,Cc];omega
     rw[e];exact List.filter_sublist
    rw[if_neg (by simp<;>omega),if_pos (by simp),Ky];omega
   .have h':n∈r:=by
     rcases GR.1 h with e|e
     .exact absurd e.symm hx
     .exact e
    have:=ih h';by_cases h1:n<=x
    .rw[if_pos (by rw[Cc];omega),if_pos (by rw[Cc];omega),Ky,Ky]
     omega
    .rw[if_neg (by rw[Cc];omega),if_neg (by rw[Cc];omega)]
     omega
def VJ (no:List Int) (n:Int):from_ no n<=no.length:=Oc _ _
def NC {no:List Int}: ∀(k:Nat) (n:Int),from_ no n<=k->n<=G4 no k n/\G4 no k n∉no/\ ∀j,n<=j->j<G4 no k n->j∈no
 | 0,n,h=>by
   refine⟨Int.le_refl _,fun hm=>?_,fun j h1 h2=>by simp only[G4]at h2;omega⟩;have:=Pt hm;simp only[G4]at this;omega
 | k + 1,n,h=>by
   rw[G4];split
   .rename_i hc
    rw[List.contains_iff_mem]at hc;have hlt:=Pt hc;obtain⟨h1,h2,h3⟩:=NC (no:=no) k (n+1) (by omega);refine⟨by omega,h2,fun j hj1 hj2=>?_⟩;by_cases e:j=n
    .subst e;exact hc
    .exact h3 j (by omega) hj2
   .rename_i hc
    exact⟨Int.le_refl _,fun hm=>hc (List.contains_iff_mem.2 hm),fun j h1 h2=>by omega⟩
def jk {no:List Int} {k:Nat} {n:Int} (h:n∈no):G4 no (k+1) n=G4 no k (n+1):=by rw[G4,if_pos (List.contains_iff_mem.2 h)]
def cE {no:List Int} {k:Nat} {n:Int} (h:n∉no):G4 no k n=n:=by
 cases k with
 | zero=>rfl
 | succ k=>rw[G4,if_neg (fun hc=>h (List.contains_iff_mem.1 hc))]
def Pz {no:List Int} {k k':Nat} {n:Int} (h:from_ no n<=k) (h':from_ no n<=k'):G4 no k n=G4 no k' n:=by
 obtain⟨a1,a2,a3⟩:=NC k n h;obtain⟨b1,b2,b3⟩:=NC k' n h';rcases Int.lt_trichotomy (G4 no k n) (G4 no k' n)with hl|he|hg
 .exact absurd (b3 _ a1 hl) a2
 .exact he
 .exact absurd (a3 _ b1 hg) b2
def Eh (k:Kn):Int:=G4 k.no k.no.length k.low
def H3 (kf:Int->List Int->Kn) (a:Int) (p:List Int):Bool:=(kf a p).AG.all fun s=> !(kf a (p++[s])).Ah
def Ed (kf:Int->List Int->Kn) (a:Int) (p:List Int) (c:Nat):Bool:=Hp (kf a p).BU (1|||2 ^ c)&&((kf a p).Dt&&&(1|||2 ^ c)==0&&H3 kf a p)
def Hs (kf:Int->List Int->Kn) (a:Int) (p:List Int):Bool:=decide (Eh (kf a p)<=(kf a p).high)&&Ed kf a p 1
def Et (kf:Int->List Int->Kn) (a:Int) (p:List Int):Bool:= !(kf a p).whole&&Ed kf a p 2
def PJ (w:AH) (kf:Int->List Int->Kn) (a:Int):Nat->List Int->Bool
 | 0,p=>Hs kf a p||(Et kf a p||(PG w (kf a p) (fun s=>(kf a (p++[s])).Ah) (fun _=>false)).2)
 | d+1,p=>Hs kf a p||(Et kf a p||(PG w (kf a p) (fun s=>(kf a (p++[s])).Ah) (fun s=>PJ w kf a d (p++[s]))).2)
def gA (w:AH) (kf:Int->List Int->Kn):Bool:=(BV 3).all fun a=>PJ w kf a 2 []
def bc {n:Nat} {ls:List Fact} (h:HY n ls) (a:Int) (p:List Int):H3 (kn ls) a p=DY n ls a p:=by
 rw[H3,DY,J4 h];congr 1;funext s;rw[Kl,Bool.not_not]
def Yj {n m:Nat} {ls:List Fact} (hn:n<=64) (hc:G6 n ls) (h:HY m ls) (a:Int) (p:List Int):Hs (kn ls) a p=((GF ls a p).isSome&&DY m ls a p):=by
 have hcore:=MU ls a p;have hc2:G6 n (ls.filter (Fo a p)):=fun l hl=>hc l (JX.1 hl).1
 simp only[DZ,Prod.mk.injEq]at hcore;obtain⟨c1,c2,c3,c4,c5,-⟩:=hcore;rw[Hs,Ed,bc h,c4,c5,<-Bool.and_assoc (Hp _ _),dd hn hc2,<-Bool.and_assoc];congr 1;have hf:=Tn (ls.filter (Fo a p)) k0;rw[GF,show t0=(k0.low,k0.high,k0.no) from rfl,hf,Eh,c2,c3,c1];obtain⟨h1,h2,h3⟩:=NC (no:=(EW (ls.filter (Fo a p)) k0).no) _ (EW (ls.filter (Fo a p)) k0).low (VJ _ _);have hs:=kS (high:=(EW (ls.filter (Fo a p)) k0).high) h1 h2 h3;cases(ls.filter (Fo a p)).all fun l=>sT (Af l)with
 | false=>simp
 | true=>rw[if_pos rfl,Option.bind_some,hs,Bool.and_true]
def U7 {n m:Nat} {ls:List Fact} (hn:n<=64) (hc:G6 n ls) (h:HY m ls) (a:Int) (p:List Int):Et (kn ls) a p=Eu m ls a p:=by
 have hcore:=MU ls a p;have hc2:G6 n (ls.filter (Fo a p)):=fun l hl=>hc l (JX.1 hl).1
 simp only[DZ,Prod.mk.injEq]at hcore;obtain⟨-,-,-,c4,c5,c6⟩:=hcore;rw[Et,Ed,bc h,c4,c5,c6,Eu,<-ZH hn hc2];simp only[Bool.and_assoc]
def jb {w:AH} {ls:List Fact} (ho:ordered w.parents) (how: ∀s:Int,0<=s->s<w.owner.length->3<=B4 w s/\B4 w s<3+w.parents.length) (hn:3+w.parents.length<=64) (hc:G6 (3+w.parents.length) ls) (hp:HY w.owner.length ls) (a:Int): ∀(d:Nat) (p:List Int),PJ w (kn ls) a d p=MD w ls a d p
 | 0,p=>by
   rw[PJ,MD,Yj hn hc hp,U7 hn hc hp,rY ho how hc hp fun s=>Kl ls a (p++[s])]
 | d+1,p=>by
   rw[PJ,MD,Yj hn hc hp,U7 hn hc hp,rY ho how hc hp fun s=>Kl ls a (p++[s])];have e:(fun s=>PJ w (kn ls) a d (p++[s]))=fun s=>MD w ls a d (p++[s]):=funext fun s=>jb ho how hn hc hp a d (p++[s])
   rw[e]
def tJ {w:AH} {ls:List Fact} (ho:ordered w.parents) (how: ∀s:Int,0<=s->s<w.owner.length->3<=B4 w s/\B4 w s<3+w.parents.length) (hn:3+w.parents.length<=64) (hc:G6 (3+w.parents.length) ls) (hp:HY w.owner.length ls):gA w (kn ls)=G5 w ls:=by
 rw[gA,G5];congr 1;funext a;exact jb ho how hn hc hp a 2 []
end Go.Gl
namespace Go.Gl
open Go.Proofs
attribute [local irreducible] Au Am Ab AR AK AY AQ AS AJ AX AN AP Ao Az Sat AU Ax Ad W
section
variable {S:Type} (g:FuncId) (fi ca:List V) (H:S->List At) (f:Int->Bool) (J:S->Prop) (D:Int->Prop)
def Sq {v:V} {xs:List Int} (hst:Oq zP (.f (.func g) fi ca) eI (fun s=> .own v 1 (iL xs)::H s) f J D) (hD: ∀x∈xs,D x) (hxl:xs.length<=AZ) (s0:S) (hj0:J s0) :
    BT zP 117 [v,.f (.func g) fi ca] (.own v 1 (iL xs)::H s0) fun r post=>r= .ret (eI (On f xs 0))/\ ∃s',J s'/\post= .own v 1 (iL xs)::H s':=by
 intro Z hs;have hM:=Mx;refine jY kZ ?_;refine zz ?_;(repeat clear U K);repeat intro K U
 refine Bw xs.length (fun k (_:S)=>[(8,eI (A6 k))]) (fun _ s=> .own v 1 (iL xs)::H s) (fun k s=>J s/\On f xs 0=On f (xs.drop k) k) s0 rfl ⟨hj0,rfl⟩ hs ?_;clear hs hj0;rintro k s Z hk ⟨hj,hn⟩ hs;have hck:A6 k=k:=Ae (by omega);rcases A7 xs hk with⟨y,hy,hlt⟩|hke
 .rw[drop_cons hy]at hn
  have hDy:=hD y (Bo hy);rw[On]at hn
  conv=>whnf
  repeat'((first|clear U K|apply st|(apply zk;intro K U)|refine zY ?_|refine ze fun x hx=>?_|fail)<;>conv=>whnf)
  obtain rfl:x=y:=by rw[hck,GB,hy]at hx;exact(Option.some.inj hx).symm
  refine hst.use hDy hj hs ?_;clear hs hj;intro s Z hj hs;cases hyes:f x
  .rw[hyes,if_neg (by decide)]at hn
   refine zz ?_;(repeat clear U K);repeat intro K U
   exact⟨hlt,_,rfl,⟨hj,hn⟩,hs⟩
  .rw[hyes,if_pos rfl]at hn
   refine zz ?_;(repeat clear U K);repeat intro K U
   rw[hn];exact AI ⟨_,⟨by rw[hck],s,hj,rfl⟩,hs⟩
 .rw[Ai hke,On]at hn
  refine zz ?_;(repeat clear U K);repeat intro K U
  rw[hn];exact AI ⟨_,⟨rfl,s,hj,rfl⟩,hs⟩
def PT {v:V} {xs:List Int} (hst:Oq zP (.f (.func g) fi ca) eI (fun s=> .own v 1 (iL xs)::H s) f J D) (hD: ∀x∈xs,D x) (hxl:xs.length<=AZ) (s0:S) (hj0:J s0) :
    BT zP 49 [v,.f (.func g) fi ca] (.own v 1 (iL xs)::H s0) fun r post=>r= .ret (.b (xs.any f))/\ ∃s',J s'/\post= .own v 1 (iL xs)::H s':=by
 intro Z hs;refine sA kZ ?_
 conv=>whnf
 repeat'((first|clear U K|apply st|(apply zk;intro K U)|fail)<;>conv=>whnf)
 refine(Sq g fi ca H f J D hst hD hxl s0 hj0).use (rest:=[]) (by simpa using hs) ?_;rintro r post Z ⟨rfl,s',hj,rfl⟩ hs;refine zz ?_;(repeat clear U K);repeat intro K U
 exact AI ⟨_,⟨by rw[<-XJ f xs 0],s',hj,rfl⟩,by simpa using hs⟩
def o6 {v:V} {xs:List Int} (hst:Oq zP (.f (.func g) fi ca) eI (fun s=> .own v 1 (iL xs)::H s) f J D):Oq zP (.f (.func 301) [] [.rp [.f (.func g) fi ca]]) eI (fun s=> .own v 1 (iL xs)::H s) (fun y=> !f y) J D:=by
 intro y s hd hj Z hs;refine BN ?_;show Au zP 301 ([]++[eI y]++[.rp [.f (.func g) fi ca]]) Z _;refine jK kZ ?_;refine zz ?_;(repeat clear U K);repeat intro K U
 refine hst.use hd hj hs ?_;clear hs;intro s' Z hj' hs;refine zz ?_;(repeat clear U K);repeat intro K U
 exact AI ⟨rfl,s',hj',hs⟩
def cD {v:V} {xs:List Int} (hst:Oq zP (.f (.func g) fi ca) eI (fun s=> .own v 1 (iL xs)::H s) f J D) (hD: ∀x∈xs,D x) (hxl:xs.length<=AZ) (s0:S) (hj0:J s0) :
    BT zP 246 [v,.f (.func g) fi ca] (.own v 1 (iL xs)::H s0) fun r post=>r= .ret (.b (xs.all f))/\ ∃s',J s'/\post= .own v 1 (iL xs)::H s':=by
 intro Z hs;refine jR kZ ?_
 conv=>whnf
 repeat'((first|clear U K|apply st|(apply zk;intro K U)|fail)<;>conv=>whnf)
 refine(PT 301 [] [.rp [.f (.func g) fi ca]] H _ J D (o6 g fi ca H f J D hst) hD hxl s0 hj0).use (rest:=[]) (by simpa using hs) ?_;rintro r post Z ⟨rfl,s',hj,rfl⟩ hs;refine zz ?_;(repeat clear U K);repeat intro K U
 refine AI ⟨_,⟨?_,s',hj,rfl⟩,by simpa using hs⟩;rw[List.all_eq_not_any_not]
end
abbrev Jb (l:Fact):List V:=xF (Af l).1++[.b (Af l).2]
abbrev Dx (ls:List Fact):List (List V):=ls.map Jb
def oK (xs ys:List Int) (f g:Bool):Pure zP 95 [.l (iL xs) f,.l (iL ys) g] (.b (xs==ys)):=by
 refine Pure.fit (by kernel_rfl) fun hf=>?_
 have hx:=MH hf.1;have hy:=MH hf.2.1;have hM:=Mx;refine AAy kZ ?_;have hs:=Sn
 conv=>whnf
 repeat'((first|clear U K|apply st|(apply zk;intro K U)|refine zY ?_|(refine zd (fun hc=>?_) (fun hc=>?_)<;>try exact⟨⟩)|fail)<;>conv=>whnf)
 .exact AF (by(have:(xs==ys)=false:=by(simp;intro e;subst e;simp at hc));rw[this])
 have hl:xs.length=ys.length:=by omega
 refine Bw xs.length (fun k (_:Unit)=>[(13,eI (A6 k))]) (fun _ _=>[]) (fun k _=>(xs==ys)=(xs.drop k==ys.drop k)) () rfl rfl Sat.nil ?_;clear hs;rintro k - Z hk hn hs;rcases A7 xs hk with⟨x,hxk,hlt⟩|hke
 .obtain⟨y,hyk⟩: ∃y,ys[k]? =some y:=⟨_,Cr (by omega)⟩
  rw[drop_cons hxk,drop_cons hyk]at hn
  conv=>whnf
  repeat'((first|clear U K|apply st|(apply zk;intro K U)|refine zY ?_|refine za (fun hc=>?_) fun hc=>?_|fail)<;>conv=>whnf)
  .exact AF (by rw[hn];simp[*])
  .exact⟨hlt,(),rfl,by rw[hn];simp[*],hs⟩
 .refine zz ?_;(repeat clear U K);repeat intro K U
  exact AF (by rw[hn,Ai hke,Ai (by omega)];rfl)
def pN (a b:Bool) (u:V):Pure zP 293 [.l [] a,.l [] b,u] (.b true):=by
 refine wU kZ ?_;have hs:=Sn;have hM:=Mx
 conv=>whnf
 repeat'((first|clear U K|apply st|(apply zk;intro K U)|refine zY ?_|(refine zb (fun hc=>?_) (fun hc=>?_)<;>try exact⟨⟩)|fail)<;>conv=>whnf)
 refine Bw 0 (fun k (_:Unit)=>[(17,eI (A6 k))]) (fun _ _=>[]) (fun _ _=>True) () rfl trivial Sat.nil ?_;clear hs;rintro k - Z hk - hs;obtain rfl:k=0:=by omega
 conv=>whnf
 repeat'((first|clear U K|apply st|(apply zk;intro K U)|refine zY ?_|(refine zd (fun hc=>?_) (fun hc=>?_)<;>try exact⟨⟩)|fail)<;>conv=>whnf)
 .exfalso
  simp at hc
 .exact AF rfl
def oL (f g:Fact) (hf:f.kids= []) (hg:g.kids= []):Pure zP 227 [.a (xF f),.a (xF g)] (.b (Fx f g)):=by
 have e:Fx f g=(f.op==g.op&&(f.arg==g.arg&&(f.cls==g.cls&&(f.n==g.n&&f.path==g.path)))):=by
  rw[Mm,hf,hg];simp[Si]
 obtain⟨o,a,p,c,n,k⟩:=f;obtain⟨o',a',p',c',n',k'⟩:=g;simp only[Fact.kids]at hf hg;subst hf;subst hg;refine xW kZ ?_;have hs:=Sn;rw[e]
 conv=>whnf
 repeat'((first|clear U K|apply st|(apply zk;intro K U)|refine zY ?_|refine Pure.use (oK _ _ _ _) ?_|refine Pure.use (pN _ _ _) ?_|refine za (fun hc=>?_) fun hc=>?_|fail)<;>conv=>whnf)
 all_goals simp only[Fact.op,Fact.arg,Fact.cls,Fact.n,Fact.path]at *
 all_goals exact AF (by simp[*])
def Ug:EX Jb 7:=fun l=>by
 refine⟨rfl,fun v hv=>?_⟩;rcases Du.1 hv with hv|hv
 .exact(Ii (Af l).1).2 v (by show v∈FY (Af l).1;rw[Bg];exact hv)
 .simp at hv;subst hv;rfl
def Sv (x y:Fact):Bool:=(Af x).2==(Af y).2&&Fx (Af x).1 (Af y).1
abbrev Z5 (l:Fact):Prop:=(Af l).1.kids= []
abbrev sc (f:Fact->Bool):Fact->Unit->Bool×Unit:=fun y _=>(f y,())
def oM (x:Fact) (hx1:Z5 x) (n:Nat):DG zP (.f (.func 266) [] [.p n 0]) (fun y=> .a (Jb y)) (fun _:Unit=>[.box n (Jb x)]) (sc (Sv x)) (fun y _=>Z5 y):=by
 intro y s hy1 Z hs;refine BN ?_;show Au zP 266 ([]++[.a (Jb y)]++[.p n 0]) Z _;refine w8 kZ ?_;unfold Sv
 conv=>whnf
 repeat'((first|clear U K|apply st|(apply zk;intro K U)|refine zY ?_|refine Pure.use (oL _ _ hx1 hy1) ?_|refine za (fun hc=>?_) fun hc=>?_|fail)<;>conv=>whnf)
 all_goals exact AI ⟨by simp[sc, *],hs⟩
section
variable {S:Type} (g:FuncId) (fi ca:List V) (H:S->List At)
def Sp (stp:Fact->S->Bool×S) (D:Fact->S->Prop) {v:V} {xs:List Fact} (hst:DG zP (.f (.func g) fi ca) (fun y=> .a (Jb y)) (fun s=> .own v 7 (Dx xs)::H s) stp D) (hxl:xs.length<=AZ) (s0:S) (hd:YI stp D xs s0) :
    BT zP 313 [v,.f (.func g) fi ca] (.own v 7 (Dx xs)::H s0) fun r post=>r= .ret (eI (Br stp xs 0 s0).1)/\post= .own v 7 (Dx xs)::H (Br stp xs 0 s0).2:=by
 intro Z hs;have hM:=Mx;refine wG kZ ?_;refine zz ?_;(repeat clear U K);repeat intro K U
 refine Bw xs.length (fun k (_:S)=>[(8,eI (A6 k))]) (fun _ s=> .own v 7 (Dx xs)::H s) (fun k s=>YI stp D (xs.drop k) s/\Br stp xs 0 s0=Br stp (xs.drop k) k s) s0 rfl ⟨hd,rfl⟩ hs ?_;clear hs;rintro k s Z hk ⟨hd,hn⟩ hs;have hck:A6 k=k:=Ae (by omega);rcases A7 xs hk with⟨y,hy,hlt⟩|hke
 .rw[drop_cons hy]at hn hd
  obtain⟨hd1,hd2⟩:=hd;rw[Br]at hn
  conv=>whnf
  repeat'((first|clear U K|apply st|(apply zk;intro K U)|refine zY ?_|refine ze fun x hx=>?_|fail)<;>conv=>whnf)
  obtain rfl:x=y:=by rw[hck,GB,hy]at hx;exact(Option.some.inj hx).symm
  refine hst.use hd1 hs ?_;clear hs;intro Z hs;cases hyes:(stp x s).1
  .rw[hyes,if_neg (by decide)]at hn
   refine zz ?_;(repeat clear U K);repeat intro K U
   exact⟨hlt,_,rfl,⟨hd2,hn⟩,hs⟩
  .rw[hyes,if_pos rfl]at hn
   refine zz ?_;(repeat clear U K);repeat intro K U
   rw[hn];exact AI ⟨_,⟨by rw[hck],rfl⟩,hs⟩
 .rw[Ai hke,Br]at hn
  refine zz ?_;(repeat clear U K);repeat intro K U
  rw[hn];exact AI ⟨_,⟨rfl,rfl⟩,hs⟩
def Oa (stp:Fact->S->Bool×S) (D:Fact->S->Prop) {v:V} {xs:List Fact} (hst:DG zP (.f (.func g) fi ca) (fun y=> .a (Jb y)) (fun s=> .own v 7 (Dx xs)::H s) stp D) (hxl:xs.length<=AZ) (s0:S) (hd:YI stp D xs s0) :
    BT zP 265 [v,.f (.func g) fi ca] (.own v 7 (Dx xs)::H s0) fun r post=>r= .ret (.b (decide ((Br stp xs 0 s0).1≥0)))/\post= .own v 7 (Dx xs)::H (Br stp xs 0 s0).2:=by
 intro Z hs;refine w9 kZ ?_
 conv=>whnf
 repeat'((first|clear U K|apply st|(apply zk;intro K U)|fail)<;>conv=>whnf)
 refine(Sp g fi ca H stp D hst hxl s0 hd).use (rest:=[]) (by simpa using hs) ?_;rintro r post Z ⟨rfl,rfl⟩ hs;refine zz ?_;(repeat clear U K);repeat intro K U
 exact AI ⟨_,⟨rfl,rfl⟩,by simpa using hs⟩
end
def mJ (a:List Fact) (f:Bool) (hl:a.length<=1000000):BT zP 264 [.l (Dx a) f] [] fun r post=> ∃v,r= .ret v/\post= [.own v 7 (Dx a)]:=by
 intro Z hs;have hM:=Mx;refine xA kZ ?_
 conv=>whnf
 repeat'((first|clear U K|apply st|(apply zk;intro K U)|fail)<;>conv=>whnf)
 refine⟨fun e t=>?_,fun _=>?_⟩
 .have hxe:a= []:=List.map_eq_nil_iff.1 e
  subst hxe
  conv=>whnf
  repeat'((first|clear U K|apply st|(apply zk;intro K U)|refine za (fun hc=>?_) fun hc=>?_|fail)<;>conv=>whnf)
  .exact AI ⟨_,⟨_,rfl,rfl⟩,Cp hs 7⟩
  .replace hs:=Cp hs 7
   refine FV hs 0 (xs:=[]) (ys:=[]) rfl (by simp) Ug fun v Z hs=>?_
   refine zz ?_;(repeat clear U K);repeat intro K U
   exact AI ⟨_,⟨_,rfl,rfl⟩,hs⟩
 .refine zz ?_;(repeat clear U K);repeat intro K U
  replace hs:=Cp hs 7;refine FV hs 0 (xs:=[]) (ys:=a) rfl (by simp;omega) Ug fun v Z hs=>?_
  refine zz ?_;(repeat clear U K);repeat intro K U
  exact AI ⟨_,⟨_,rfl,rfl⟩,hs⟩
def Wp {w:AH} {x:Fact} (h:Dj w x):x=if(Af x).2 then EV (Af x).1 else(Af x).1:=by
 obtain⟨g,hn,hl,rfl|rfl⟩:=h
 .have:=Ft hl
  have h5: ¬x.op=5:=by omega
  simp only[Af,if_neg h5];rfl
 .rfl
def aQ {w:AH} {x y:Fact} (hx1:Dj w x) (hy1:Dj w y):Sv x y=Fx x y:=by
 rw[IZ,OB];simp only[Sv,A9,DD,OB];constructor
 .rintro⟨h1,h2⟩
  rw[Wp hx1,Wp hy1,h1,h2]
 .rintro rfl
  exact⟨rfl,rfl⟩
def TX {w:AH} {x:Fact} (h:Dj w x):Z5 x:=by
 obtain⟨-,hn,hl⟩:=IB h;have hlo:=Ft hl;have har:=Bl _ hn;rw[M7,A9,DD]at har
 have h0:Ch (Af x).1.op=0:=by
  have h5: ¬(Af x).1.op=5:=by omega
  have h6: ¬((Af x).1.op=6\/(Af x).1.op=7):=by omega
  simp[Ch,h5,h6]
  try omega
 rw[h0]at har;exact YE.1 har.1
def eF {w:AH} (a b:List Fact) (f g:Bool) (hla: ∀x∈a,Dj w x) (hlb: ∀x∈b,Dj w x) (hl:a.length+b.length<1000000):Pure zP 190 [.l (Dx a) f,.l (Dx b) g] (.l (Dx (CY a b)) false):=by
 have hM:=Mx;refine Pure.of ?_;refine xz kZ ?_;have hs:=Sn
 conv=>whnf
 repeat'((first|clear U K|apply st|(apply zk;intro K U)|fail)<;>conv=>whnf)
 refine(mJ a f (by omega)).use (rest:=[]) (by simpa using hs) ?_;clear hs;rintro r post Z ⟨v,rfl,rfl⟩ hs;refine zz ?_;(repeat clear U K);repeat intro K U
 refine Bw b.length (fun k v=>[(5,v),(12,eI (A6 k))]) (fun k v=>[.own v 7 (Dx (CY a (b.take k)))]) (fun _ _=>True) v rfl trivial hs ?_;clear hs;rintro k v Z hk - hs;have hml:=OM a (b.take k);rw[Jd]at hml;rcases A7 b hk with⟨x,hxk,hlt⟩|hke
 .have hsn:=Ru a (b.take k) x
  rw[<-AO hxk]at hsn;have hxg:=hlb x (Bo hxk)
  have hmem: ∀y∈CY a (b.take k),Dj w y:=fun y hy=>by
   rcases Td _ _ _ hy with h|h
   .exact hla y h
   .exact hlb y (List.mem_of_mem_take h)
  generalize CY a (b.take k)=m at *
  have hany:m.any (Sv x)=m.any (Fx x):=by
   rw[IZ,IY,IY];exact⟨fun⟨y,hy,h⟩=>⟨y,hy,by rw[<-aQ hxg (hmem y hy)];exact h⟩,fun⟨y,hy,h⟩=>⟨y,hy,by rw[aQ hxg (hmem y hy)];exact h⟩⟩
  conv=>whnf
  repeat'((first|clear U K|apply st|(apply zk;intro K U)|refine zY ?_|refine zs fun Z hs=>?_|refine zo fun nn hnn Z hs=>?_|fail)<;>conv=>whnf)
  generalize nn=n7 at *;have hs2:Sat Z [.own v 7 (Dx m),.box n7 (Jb x)]:=hs.perm (.swap _ _ _);clear hs hnn;refine(Oa 266 [] [.p n7 0] (fun _:Unit=>[.box n7 (Jb x)]) (sc (Sv x)) (fun y _=>Z5 y) ((oM x (TX hxg) n7).more [_]) (by omega) () (HZ fun y hy _=>TX (hmem y hy))).use (rest:=[]) hs2 ?_;clear hs2;rintro r post Z ⟨rfl,rfl⟩ hs;rw[M4,hany];cases hy:m.any (Fx x)
  .rw[hy,if_neg Bool.false_ne_true]at hsn
   refine zz ?_;(repeat clear U K);repeat intro K U
   refine Gu (GN (x:=x) (xs:=m) (enc:=Jb) hs 0 rfl (by omega) Ug fun v Z hs hsl=>?_);refine zz ?_;(repeat clear U K);repeat intro K U
   exact⟨hlt,v,rfl,trivial,by rw[hsn];exact hs.less (.cons₂ _ (JW _))⟩
  .rw[hy,if_pos rfl]at hsn
   refine zz ?_;(repeat clear U K);repeat intro K U
   exact⟨hlt,v,rfl,trivial,by rw[hsn];exact hs.less (.cons₂ _ (JW _))⟩
 .refine zz ?_;(repeat clear U K);repeat intro K U
  exact fe (Ea hs 0 rfl (vf:= .l (Dx (CY a b)) false) (by rw[Aq hke])) fun r Z h=>h.1
end Go.Gl
namespace Go.Gl
open Go.Proofs
abbrev jt:AV:=(.seq [0,3] (.C9 [⟨(some 3),.PM (.t 1),none⟩,
 ⟨(some 4),.mv (.c .pn),none⟩])
 (.seq [0,3,5,6] (.HU [0,3,5,6] [⟨0,⟨(some 8),.mv (.t 0),none⟩,[],[]⟩,
  ⟨1,⟨(some 9),.JK (.t 8),none⟩,[],[]⟩,
  ⟨2,⟨(some 10),.GO 1 (.t 9),none⟩,[],[]⟩,
  ⟨3,⟨(some 11),.load none (.t 10),none⟩,[],[]⟩,
  ⟨4,⟨(some 12),.load (some 4) (.t 3),none⟩,[],[]⟩,
  ⟨5,⟨(some 13),.lookup (.a [.i64,.i64,.i64,.i64]) .pn true (.t 11) (.t 12),none⟩,[],[]⟩,
  ⟨6,⟨(some 7),.mv (.t 13),none⟩,[],[]⟩,
  ⟨7,⟨(some 14),.extract 0 (.t 7),none⟩,[],[]⟩,
  ⟨8,⟨(some 15),.extract 1 (.t 7),none⟩,[],[]⟩,
  ⟨9,⟨(some 5),.mv (.t 14),none⟩,[],[]⟩,
  ⟨10,⟨(some 6),.mv (.t 15),none⟩,[],[]⟩])
 (.seq [5] (.seq [0,3,5,17] (.C9 [⟨(some 16),.mv (.t 6),none⟩,
  ⟨(some 17),.not (.t 16),none⟩])
 (.cond (.t 17)
 (.seq [0,3,5] (.C9 [⟨(some 18),.build [(.i .i64 0),(.i .i64 0),(.l [] true)] [(0,1,(.c (.i .i64 (-1000000000)))),(1,1,(.c (.i .i64 1000000000)))],none⟩,
  ⟨(some 19),.build [(.i .i64 0),(.i .i64 0),(.l [] true),(.i .u64 0),(.i .u64 0),(.b false),(.b false),(.l [] true)] [(0,3,(.t 18))],none⟩,
  ⟨(some 20),.box (.t 19),none⟩,
  ⟨(some 5),.mv (.t 20),none⟩])
 (.HU [5] [⟨0,⟨(some 21),.mv (.t 0),none⟩,[],[]⟩,
  ⟨1,⟨(some 22),.JK (.t 21),none⟩,[],[]⟩,
  ⟨2,⟨(some 23),.GO 1 (.t 22),none⟩,[],[]⟩,
  ⟨3,⟨(some 24),.load none (.t 23),none⟩,[],[]⟩,
  ⟨4,⟨(some 25),.load (some 4) (.t 3),none⟩,[],[]⟩,
  ⟨5,⟨(some 26),.mv (.t 5),none⟩,[],[]⟩,
  ⟨6,⟨none,.Ef (.a [.i64,.i64,.i64,.i64]) (.t 24) (.t 25) (.t 26),none⟩,[],[]⟩]))
 .skip))
 (.seq [4] (.C9 [⟨(some 27),.mv (.t 5),none⟩,
  ⟨(some 4),.mv (.t 27),none⟩])
 .ret))))
def oT:Tryz.f198.body.bind (res Tryz.prog Tryz.f198.ntmps [] [3])=some (erase jt):=by kernel_rfl
def qa {args:List V} (hn:args.length<=28) {Z:AE} {Q:R->AE->Prop} (h:W Tryz.prog jt (gZ [4] Q) (BA 0 args) Z):Au Tryz.prog 198 args Z Q:=
 Lt Tryz.func198 (by kernel_rfl) oT rfl hn (nE h)
end Go.Gl
namespace Go.Gl
open Go.Proofs
attribute [local irreducible] Au Am Ab AR AK AY AQ AS AJ AX AN AP Ao Az Sat AU Ax Ad W
abbrev Vm (w:AH) (us:List Nat) (L:Nat):V:= .rp [.rp (wC w us),.m L]
def LR (es es':List B5):Prop:= ∃new:List B5,es'=es++new/\ ∀x∈new,x.k=k0
def LR.refl (es:List B5):LR es es:=⟨[],by simp,by simp⟩
def LR.trans {a b c:List B5} (h1:LR a b) (h2:LR b c):LR a c:=by
 obtain⟨x,rfl,hx⟩:=h1;obtain⟨y,rfl,hy⟩:=h2;refine⟨x++y,by simp,fun z hz=>?_⟩;rcases Du.1 hz with h|h
 .exact hx z h
 .exact hy z h
def LR.mem {a b:List B5} (h:LR a b) {e:B5} (he:e∈a):e∈b:=by
 obtain⟨x,rfl,_⟩:=h;exact PW _ he
structure nk (kf:Int->List Int->Kn) (es es':List B5) (a:Int) (p:List Int) (e:B5):Prop where
 inv:B9 kf es'
 ext:LR es es'
 mem:e∈es'
 is:e.is a p=true
def nk.k {kf:Int->List Int->Kn} {es es':List B5} {a:Int} {p:List Int} {e:B5} (h:nk kf es es' a p e):e.k=kf a p:=by
 have:=h.inv.val e h.mem;obtain⟨h1,h2⟩:=Gn.1 h.is;rw[this,h1,h2]
def Nr {Z:AE} {l:List At} (h:Sat Z l) (i:Nat) {n:Nat} {kvs:List (V×V)} {ks:KS} {z vk:V} {ok:Bool} {o:Option V} (hi:l[i]? =some (.map n kvs)) (hk:BW ks vk=true) (hks: ∀kv∈kvs,BW ks kv.1=true) (hf:Cn vk kvs=o) {K:V->Prop} (h':K (found z ok o)) :
    AN Z ks z ok (.m n) vk K:=KT h i hi hk hks (hf ▸ h')
def ML (w:AH) (us:List Nat) {kf:Int->List Int->Kn} {L:Nat} {es:List B5} (h:B9 kf es) {a:Int} {p:List Int} (hp:p.length<=2) :
    BT zP 198 [Vm w us L,Cd a p] (CL L es) fun r post=> ∃es' e,nk kf es es' a p e/\r= .ret (.p e.b 0)/\post=CL L es':=by
 intro Z hs;refine qa kZ ?_;unfold CL at hs;rcases gl a p es with hn|⟨pre,e,post,rfl,he,hpre⟩
 .have hf:=Qx hp h.len hn
  conv=>whnf
  repeat'((first|clear U K|apply st|(apply zk;intro K U)|refine zY ?_|refine Nr hs 0 rfl rfl (ID _) hf ?_|refine Iq hs 1 rfl rfl (ID _) fun Z hs=>?_|refine zo fun nn hnn Z hs=>?_|fail)<;>conv=>whnf)
  simp only[List.set_cons_succ,List.set_cons_zero]at hs;change Sat Z (_:: .map L (DX (Cd a p) (.p nn 0) (UE es))::_)at hs;rw[Yf hp nn (.l [] true) (.l [] true) k0 h.len hn]at hs;have hs2:=Cp (Cp hs 1) 1;refine AI ⟨_,⟨es++[⟨a,p,nn,.l [] true,.l [] true,k0⟩],⟨a,p,nn,.l [] true,.l [] true,k0⟩,⟨h.add hp hn _ _ _,⟨_,rfl,by simp⟩,by simp,by simp[B5.is]⟩,rfl,rfl⟩,?_⟩;unfold CL;rw[List.flatMap_append,List.flatMap_cons,List.flatMap_nil,GA];refine hs2.perm ((List.perm_middle (l₁:=[_,_,_])).trans (.cons _ (NV.trans (List.Perm.append_left _ (List.reverse_perm _).symm))))
 .have hf:=Qw hp he h.len hpre
  conv=>whnf
  repeat'((first|clear U K|apply st|(apply zk;intro K U)|refine zY ?_|refine Nr hs 0 rfl rfl (ID _) hf ?_|fail)<;>conv=>whnf)
  exact AI ⟨_,⟨_,e,⟨h,.refl _,by simp,he⟩,rfl,rfl⟩,hs⟩
def Pk (a:Int) (p:List Int) (s:Int) (hp:p.length<2):Pure zP 199 [Cd a p,eI s] (Cd a (p++[s])):=by
 refine xr kZ ?_;have hs:=Sn
 match p,hp with
 | [],_=>
   exact zW
 | [x],_=>
   exact zW
def yu {b:Nat} {vn vs:V} {k:Kn} (f:Fact) (c:Bool) (hl:f.op=2\/f.op=3\/f.op=4) (hc:f.op=2->0<=f.cls/\f.cls<64) (hm:k.BU<18446744073709551616) (hn:k.Dt<18446744073709551616) (hno:k.no.length<1000000) (hN: -1000000000<=f.n/\f.n<=1000000000) :
    BT zP 269 [.p b 0,.a (xF f++[.b c])] (tB b vn vs k) fun r post=>r= .ret (.t [])/\ ∃vn',post=tB b vn' vs (By k f c):=by
 intro Z hs;have hM:=Mx;refine wz kZ ?_;rw[show xF f++[V.b c]= [eI f.op,eI f.arg,.l (iL f.path) false,eI f.cls,eI f.n,.l (f.kids.map FY) false,.b c] from rfl];have hw:IntKind.i64.wrap (f.n - 1)=f.n - 1:=wrap64 (by omega) (by omega);cases c<;>rcases hl with h2|h3|h4
 .have hE:By k f false= {k with BU:=k.BU|||2 ^ f.cls.toNat}:=by rw[By,if_pos h2,if_neg Bool.false_ne_true]
  rw[hE]
  conv=>whnf
  repeat'((first|clear U K|apply st|(apply zk;intro K U)|refine zY ?_|refine zs fun Z hs=>?_|refine Pure.use (H5 _ _ hm (by omega) (by omega)) ?_|(refine zb (fun hc=>?_) (fun hc=>?_)<;>try exact⟨⟩)|fail)<;>conv=>whnf)
  exact AI ⟨_,⟨rfl,vn,rfl⟩,hs⟩
 .have hE:By k f false= {k with high:=if f.n - 1<k.high then f.n - 1 else k.high,whole:=true}:=by rw[By,if_neg (by omega),if_pos h3,if_neg Bool.false_ne_true]
  rw[hE]
  conv=>whnf
  repeat'((first|clear U K|apply st|(apply zk;intro K U)|refine zY ?_|refine zs fun Z hs=>?_|(refine zb (fun hc=>?_) (fun hc=>?_)<;>try exact⟨⟩)|fail)<;>conv=>whnf)
  rw[hw]at hs;exact AI ⟨_,⟨rfl,vn,rfl⟩,hs⟩
 .have hE:By k f false= {k with low:=if f.n > k.low then f.n else k.low,high:=if f.n<k.high then f.n else k.high,whole:=true}:=by rw[By,if_neg (by omega),if_neg (by omega),if_neg Bool.false_ne_true]
  rw[hE]
  conv=>whnf
  repeat'((first|clear U K|apply st|(apply zk;intro K U)|refine zY ?_|refine rk ?_ ?_|exact fun s e=>by cases e;rfl|refine zs fun Z hs=>?_|(refine zb (fun hc=>?_) (fun hc=>?_)<;>try exact⟨⟩)|fail)<;>conv=>whnf)
  exact AI ⟨_,⟨rfl,vn,rfl⟩,hs⟩
 .have hE:By k f true= {k with Dt:=k.Dt|||2 ^ f.cls.toNat}:=by rw[By,if_pos h2,if_pos rfl]
  rw[hE]
  conv=>whnf
  repeat'((first|clear U K|apply st|(apply zk;intro K U)|refine zY ?_|refine zs fun Z hs=>?_|refine Pure.use (H5 _ _ hn (by omega) (by omega)) ?_|(refine zb (fun hc=>?_) (fun hc=>?_)<;>try exact⟨⟩)|fail)<;>conv=>whnf)
  exact AI ⟨_,⟨rfl,vn,rfl⟩,hs⟩
 .have hE:By k f true= {k with low:=if f.n > k.low then f.n else k.low}:=by rw[By,if_neg (by omega),if_pos h3,if_pos rfl]
  rw[hE]
  conv=>whnf
  repeat'((first|clear U K|apply st|(apply zk;intro K U)|refine zY ?_|refine zs fun Z hs=>?_|(refine zb (fun hc=>?_) (fun hc=>?_)<;>try exact⟨⟩)|fail)<;>conv=>whnf)
  exact AI ⟨_,⟨rfl,vn,rfl⟩,hs⟩
 .have hE:By k f true= {k with no:=k.no++[f.n]}:=by rw[By,if_neg (by omega),if_neg (by omega),if_pos rfl]
  rw[hE]
  conv=>whnf
  repeat'((first|clear U K|apply st|(apply zk;intro K U)|refine zY ?_|refine zs fun Z hs=>?_|refine aq fun v Z hs hsl=>?_|(refine zb (fun hc=>?_) (fun hc=>?_)<;>try exact⟨⟩)|fail)<;>conv=>whnf)
  exact AI ⟨_,⟨rfl,_,rfl⟩,hs⟩
end Go.Gl
