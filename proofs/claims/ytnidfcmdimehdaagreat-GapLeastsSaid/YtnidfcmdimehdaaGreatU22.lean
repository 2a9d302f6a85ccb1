import Derived.Test.YtnidfcmdimehdaaGreatRows
import Derived.HandedShaped
import Derived.Test.YtnidfcmdimehdaaGreatU14
import Derived.Test.YtnidfcmdimehdaaGreatU15
import Derived.Test.YtnidfcmdimehdaaGreatU18
import Derived.Test.YtnidfcmdimehdaaGreatU20
import Derived.Test.YtnidfcmdimehdaaGreatU21
set_option linter.all false
set_option linter.defProp false
set_option maxHeartbeats 8000000
noncomputable section
namespace Go.Proofs.YtnidfcmdimehdaaGreat
open Go.Gl Go.ChangeShapes Go.WideShapes Go.ChangeAt Go.RowKit
theorem own:ownKnob Tryz.prog.godebug=none:=by kernel_rfl
def laidOut:laidOutB Tryz.prog=true:=by kernel_rfl
def FA {a b:Bool} (h1:a=true) (h2:b=true):(a&&b)=true:=by rw[h1,h2];rfl
abbrev HE (w:World):=Hh (fun _=>False) emp w
def vGiv {w:World} {cs:Array Value} {g:Giv} (hp:cs.toList.length=(Xu g).length/\BU (HE w) (fun i=>cs.toList[i]?) 0 (Xu g)):Ae (HE w) (.a (Xu g)) (.agg cs):=by
 simp only[Ae];exact⟨cs,rfl,by simpa using hp.1,by simpa using hp.2⟩
end Go.Proofs.YtnidfcmdimehdaaGreat
namespace Go.Gl
structure Kn where
 low:Int
 high:Int
 no:List Int
 BJ:Nat
 Dv:Nat
 whole:Bool
 Ab:Bool
 AL:List Int
def k0:Kn:=⟨-1000000000,1000000000,[],0,0,false,false,[]⟩
def JN (l:List Int) (s:Int):List Int:=if l.contains s then l else(l++[s]).mergeSort Hq
def Bs (k:Kn) (f:Fact) (b:Bool):Kn:=
 if f.op=2 then(if b then {k with Dv:=k.Dv|||2 ^ f.cls.toNat}else {k with BJ:=k.BJ|||2 ^ f.cls.toNat})
 else if f.op=3 then(if b then {k with low:=if f.n > k.low then f.n else k.low}else {k with high:=if f.n - 1<k.high then f.n - 1 else k.high,whole:=true})
 else if b then {k with no:=k.no++[f.n]}else {k with low:=if f.n > k.low then f.n else k.low,high:=if f.n<k.high then f.n else k.high,whole:=true}
def Bt (k:Kn) (b:Bool):Kn:={k with Ab:=k.Ab|| !b}
def eC (k:Kn) (s:Int):Kn:={k with AL:=JN k.AL s}
def Cw (a:Int) (p:List Int) (k:Kn) (l:Fact):Kn:=
 if(Ac l).1.arg=a/\BV (Ac l).1.path p=true then
  (if(Ac l).1.path=p then Bs (Bt k (Ac l).2) (Ac l).1 (Ac l).2 else eC (Bt k (Ac l).2) ((Ac l).1.path.getD p.length 0))
 else k
def kn (ls:List Fact) (a:Int) (p:List Int):Kn:=ls.foldl (Cw a p) k0
def Lo (k:Kn) (f:Fact) (b:Bool):(Bs k f b).Ab=k.Ab:=by
 unfold Bs
 (repeat' split)<;>rfl
def IZ (k:Kn) (f:Fact) (b:Bool):(Bs k f b).AL=k.AL:=by
 unfold Bs
 (repeat' split)<;>rfl
def Uz (a:Int) (p:List Int) (k:Kn) (l:Fact):(Cw a p k l).Ab=(k.Ab|| !((Ac l).2|| !((Ac l).1.arg==a&&BV (Ac l).1.path p))):=by
 unfold Cw;split
 .rename_i h
  have e:((Ac l).1.arg==a)=true:=by simpa using h.1
  rw[e,h.2];split
  .rw[Lo];simp[Bt]
  .simp[eC,Bt]
 .rename_i h
  have:((Ac l).1.arg==a&&BV (Ac l).1.path p)=false:=by
   cases hb:((Ac l).1.arg==a&&BV (Ac l).1.path p)with
   | false=>rfl
   | true=>rw[A7]at hb;exact absurd ⟨by simpa using hb.1,hb.2⟩ h
  rw[this];simp
def M7 (a:Int) (p:List Int): ∀(ls:List Fact) (k:Kn),(ls.foldl (Cw a p) k).Ab=(k.Ab|| !DB ls a p)
 | [],k=>by simp[DB]
 | l::r,k=>by
   rw[List.foldl_cons,M7 a p r,Uz];simp only[DB,Jd];generalize (r.all _)=x;generalize ((Ac l).2||_)=y;cases k.Ab<;>cases x<;>cases y<;>rfl
def Kj (ls:List Fact) (a:Int) (p:List Int):(kn ls a p).Ab= !DB ls a p:=by rw[kn,M7];rfl
def TV (l:List Int) (s x:Int):x∈JN l s↔x∈l\/x=s:=by
 unfold JN;split
 .rename_i h
  rw[List.contains_iff_mem]at h;constructor
  .exact .inl
  .rintro(h'|rfl)
   .exact h'
   .exact h
 .rw[(List.mergeSort_perm _ Hq).mem_iff];simp
def U9 {l:List Int} (s:Int) (h:l.Pairwise (· < ·)):(JN l s).Pairwise (· < ·):=by
 unfold JN;split
 .exact h
 .rename_i hc
  have hc':s∉l:=by simpa using hc
  have hp:=List.mergeSort_perm (l++[s]) Hq;have h1:((l++[s]).mergeSort Hq).Pairwise (fun a b=>Hq a b=true):=List.pairwise_mergeSort (fun a b c=>by simp only[Hq,CF];omega) (fun a b=>by simp only[Hq,Ew,CF];omega) _
  have h2:((l++[s]).mergeSort Hq).Nodup:=hp.nodup_iff.2 (by
   rw[List.nodup_append];refine⟨h.imp fun hab=>by omega,by simp,fun a ha b hb=>?_⟩;simp only[JT]at hb;rintro rfl
   exact hc' (hb ▸ ha))
  exact(h1.and h2).imp fun⟨h3,h4⟩=>by
   simp only[Hq,CF]at h3;omega
def La: ∀ {l m:List Int},l.Pairwise (· < ·)->m.Pairwise (· < ·)->(∀x,x∈l↔x∈m)->l=m
 | [],[],_,_,_=>rfl
 | [],y::m,_,_,h=>absurd ((h y).2 (.head _)) (by simp)
 | x::l,[],_,_,h=>absurd ((h x).1 (.head _)) (by simp)
 | x ::l,y::m,h1,h2,h=>by
   rw[List.pairwise_cons]at h1 h2
   have hxy:x=y:=by
    rcases Ff.1 ((h x).1 (.head _))with e|hx
    .exact e
    .rcases Ff.1 ((h y).2 (.head _))with e|hy
     .exact e.symm
     .have:=h1.1 y hy
      have:=h2.1 x hx;omega
   subst hxy;congr 1;refine La h1.2 h2.2 fun z=>?_
   constructor
   .intro hz
    rcases Ff.1 ((h z).1 (.tail _ hz))with e|hz'
    .have:=h1.1 z hz;omega
    .exact hz'
   .intro hz
    rcases Ff.1 ((h z).2 (.tail _ hz))with e|hz'
    .have:=h2.1 z hz;omega
    .exact hz'
def Bw {path pre:List Int}:BV path pre=true↔ ∃t,path=pre++t:=by
 simp only[BV,A7,CF,Cd];constructor
 .rintro⟨_,h⟩
  exact⟨path.drop pre.length,by conv=>lhs;rw[<-List.take_append_drop pre.length path,h]⟩
 .rintro⟨t,rfl⟩
  simp
def Xd {path p:List Int} {s:Int}:BV path (p++[s])=true↔BV path p=true/\path≠p/\path.getD p.length 0=s:=by
 rw[Bw,Bw];constructor
 .rintro⟨t,rfl⟩
  refine⟨⟨s::t,by simp⟩,fun e=>?_,by simp⟩;have:=congrArg List.length e;simp at this
 .rintro⟨⟨t,rfl⟩,hne,hs⟩
  cases t with
  | nil=>simp at hne
  | cons y t=>simp at hs;subst hs;exact⟨t,by simp⟩
def aT {a:Int} {p:List Int} {s:Int} {l:Fact}:Xo a p s l=true↔(Ac l).1.arg=a/\BV (Ac l).1.path p=true/\(Ac l).1.path≠p/\(Ac l).1.path.getD p.length 0=s:=by
 rw[Xo,A7,Xd,Cd]
def XP (a:Int) (p:List Int) (k:Kn) (l:Fact):(Cw a p k l).AL=if(Ac l).1.arg=a/\BV (Ac l).1.path p=true/\(Ac l).1.path≠p then JN k.AL ((Ac l).1.path.getD p.length 0)else k.AL:=by
 unfold Cw;by_cases h1:(Ac l).1.arg=a/\BV (Ac l).1.path p=true
 .rw[if_pos h1]
  by_cases h2:(Ac l).1.path=p
  .rw[if_pos h2,if_neg (fun h=>h.2.2 h2),IZ];rfl
  .rw[if_neg h2,if_pos ⟨h1.1,h1.2,h2⟩];rfl
 .rw[if_neg h1,if_neg (fun h=>h1 ⟨h.1,h.2.1⟩)]
def RO (a:Int) (p:List Int): ∀(ls:List Fact) (k:Kn),k.AL.Pairwise (· < ·)->(ls.foldl (Cw a p) k).AL.Pairwise (· < ·)/\ ∀s,s∈(ls.foldl (Cw a p) k).AL↔s∈k.AL\/ls.any (Xo a p s)=true
 | [],k,h=>⟨h,fun s=>by simp⟩
 | l ::r,k,h=>by
   rw[List.foldl_cons];have e:=XP a p k l
   have h1:(Cw a p k l).AL.Pairwise (· < ·):=by
    rw[e];split
    .exact U9 _ h
    .exact h
   obtain⟨i1,i2⟩:=RO a p r _ h1;refine⟨i1,fun s=>?_⟩;rw[i2,e,Oj,Ew,aT];split
   .rename_i hc
    rw[TV];constructor
    .rintro((h|rfl)|h)
     .exact .inl h
     .exact .inr (.inl ⟨hc.1,hc.2.1,hc.2.2,rfl⟩)
     .exact .inr (.inr h)
    .rintro(h|⟨-,-,-,h⟩|h)
     .exact .inl (.inl h)
     .exact .inl (.inr h.symm)
     .exact .inr h
   .rename_i hc
    constructor
    .rintro(h|h)
     .exact .inl h
     .exact .inr (.inr h)
    .rintro(h|⟨q1,q2,q3,-⟩|h)
     .exact .inl h
     .exact absurd ⟨q1,q2,q3⟩ hc
     .exact .inr h
def Hc (n:Nat) (ls:List Fact):Prop:= ∀l∈ls,∀s∈(Ac l).1.path,(0:Int)<=s/\s<n
def C4 {n:Nat} {s:Int}:s∈BE n↔0<=s/\s<n:=by
 simp only[BE,GL,List.mem_range];constructor
 .rintro⟨m,hm,rfl⟩
  exact⟨Int.natCast_nonneg m,by simpa using hm⟩
 .rintro⟨h0,h1⟩
  exact⟨s.toNat,by omega,by simp;omega⟩
def LC (n:Nat):(BE n).Pairwise (· < ·):=by
 rw[BE,List.pairwise_map];exact List.pairwise_lt_range.imp fun h=>by simpa using h
def sj {n:Nat} {ls:List Fact} (h:Hc n ls) {a:Int} {p:List Int} {s:Int} {l:Fact} (hl:l∈ls) (hg:Xo a p s l=true):0<=s/\s<n:=by
 rw[aT]at hg;obtain⟨-,h2,h3,h4⟩:=hg;obtain⟨t,ht⟩:=Bw.1 h2;refine h l hl s ?_;rw[ht]at h3 h4 ⊢;cases t with
 | nil=>simp at h3
 | cons y t=>simp at h4;subst h4;simp
def J3 {n:Nat} {ls:List Fact} (h:Hc n ls) (a:Int) (p:List Int):(kn ls a p).AL=BM n ls a p:=by
 obtain⟨h1,h2⟩:=RO a p ls k0 .nil;refine La h1 ((LC n).filter _) fun s=>?_
 show s∈(ls.foldl (Cw a p) k0).AL↔_;rw[h2,BM,Ia,C4];constructor
 .rintro(h|hs)
  .cases h
  .obtain⟨l,hl,hg⟩:=G1.1 hs
   exact⟨sj h hl hg,hs⟩
 .exact fun hs=> .inr hs.2
def EW (os:List Fact) (k:Kn):Kn:=os.foldl (fun k l=>Bs k (Ac l).1 (Ac l).2) k
abbrev DY (k:Kn):Int×Int×List Int×Nat×Nat×Bool:=(k.low,k.high,k.no,k.BJ,k.Dv,k.whole)
def Qf {k k':Kn} (h:DY k=DY k') (f:Fact) (b:Bool):DY (Bs k f b)=DY (Bs k' f b):=by
 cases k;cases k';simp only[DY,Prod.mk.injEq]at h;obtain⟨rfl,rfl,rfl,rfl,rfl,rfl⟩:=h;unfold Bs
 (repeat' split)<;>rfl
def KD (p:List Int):BV p p=true:=Bw.2 ⟨[],by simp⟩
def dX (a:Int) (p:List Int) (k:Kn) (l:Fact):DY (Cw a p k l)=if Fq a p l then DY (Bs k (Ac l).1 (Ac l).2)else DY k:=by
 unfold Cw Fq;by_cases h1:(Ac l).1.arg=a
 .by_cases h2:(Ac l).1.path=p
  .have e:((Ac l).1.arg==a&&(Ac l).1.path==p)=true:=by simp[h1,h2]
   rw[if_pos ⟨h1,by rw[h2];exact KD p⟩,if_pos h2,e,if_pos rfl];exact Qf (k:=Bt k (Ac l).2) (k':=k) rfl _ _
  .have e:((Ac l).1.arg==a&&(Ac l).1.path==p)=false:=by simp[h2]
   rw[if_neg h2,e,if_neg Bool.false_ne_true];split<;>rfl
 .have e:((Ac l).1.arg==a&&(Ac l).1.path==p)=false:=by simp[h1]
  rw[if_neg (fun h=>h1 h.1),e,if_neg Bool.false_ne_true]
def N7 (a:Int) (p:List Int): ∀(ls:List Fact) (k k':Kn),DY k=DY k'->DY (ls.foldl (Cw a p) k)=DY (EW (ls.filter (Fq a p)) k')
 | [],k,k',h=>h
 | l ::r,k,k',h=>by
   rw[List.foldl_cons,List.filter_cons];have e:=dX a p k l;split
   .rename_i ho
    rw[if_pos ho]at e;exact N7 a p r _ _ (e.trans (Qf h _ _))
   .rename_i ho
    rw[if_neg (by simpa using ho)]at e;exact N7 a p r _ _ (e.trans h)
def MN (ls:List Fact) (a:Int) (p:List Int):DY (kn ls a p)=DY (EW (ls.filter (Fq a p)) k0):=N7 a p ls k0 k0 rfl
def qO (x:Fact×Bool):Bool:= !(x.1.op==2)||(decide (x.1.cls > 1)==x.2)
def b6 (x:Fact×Bool) (k:Kn):H0 x (k.low,k.high,k.no)=if qO x then some ((Bs k x.1 x.2).low,(Bs k x.1 x.2).high,(Bs k x.1 x.2).no)else none:=by
 unfold H0 qO Bs;by_cases h2:x.1.op=2
 .rw[if_pos h2,if_pos h2]
  cases x.2<;>cases decide (x.1.cls > 1)<;>simp[h2]
 .rw[if_neg h2,if_neg h2]
  by_cases h3:x.1.op=3
  .rw[if_pos h3,if_pos h3]
   cases x.2<;>simp[h2]
  .rw[if_neg h3,if_neg h3]
   cases x.2<;>simp[h2]
def TB: ∀(os:List Fact) (k:Kn),foldI os (k.low,k.high,k.no)=if os.all (fun l=>qO (Ac l))then some ((EW os k).low,(EW os k).high,(EW os k).no)else none
 | [],k=>rfl
 | l ::r,k=>by
   rw[foldI,b6,Jd];cases hb:qO (Ac l)with
   | false=>rfl
   | true=>
     rw[if_pos rfl,Option.bind_some,TB r,Db];rfl
def kX (k:Kn) (f:Fact) (c:Bool) (b:Nat):(Bs k f c).BJ.testBit b=(k.BJ.testBit b||(f.op==2&& !c&&f.cls.toNat==b)):=by
 unfold Bs;by_cases h2:f.op=2
 .rw[if_pos h2]
  cases c<;>simp[h2,Nat.testBit_or,Nat.testBit_two_pow,Bool.beq_eq_decide_eq]
 .rw[if_neg h2]
  have:(f.op==2)=false:=by simpa using h2
  rw[this]
  repeat' split
  all_goals simp
def oY (k:Kn) (f:Fact) (c:Bool) (b:Nat):(Bs k f c).Dv.testBit b=(k.Dv.testBit b||(f.op==2&&c&&f.cls.toNat==b)):=by
 unfold Bs;by_cases h2:f.op=2
 .rw[if_pos h2]
  cases c<;>simp[h2,Nat.testBit_or,Nat.testBit_two_pow,Bool.beq_eq_decide_eq]
 .rw[if_neg h2]
  have:(f.op==2)=false:=by simpa using h2
  rw[this]
  repeat' split
  all_goals simp
def de (k:Kn) (f:Fact) (c:Bool):(Bs k f c).whole=(k.whole||(!c&& !(f.op==2))):=by
 unfold Bs;by_cases h2:f.op=2
 .rw[if_pos h2]
  cases c<;>simp[h2]
 .rw[if_neg h2]
  have:(f.op==2)=false:=by simpa using h2
  rw[this];cases c<;>(repeat' split)<;>simp_all
def OA: ∀(os:List Fact) (k:Kn) (b:Nat),(EW os k).BJ.testBit b=(k.BJ.testBit b||os.any fun l=>(Ac l).1.op==2&& !(Ac l).2&&(Ac l).1.cls.toNat==b)
 | [],k,b=>by simp[EW]
 | l::r,k,b=>by
   have:=OA r (Bs k (Ac l).1 (Ac l).2) b;rw[kX]at this;rw[Oj,<-Bool.or_assoc,<-this];rfl
def Qj: ∀(os:List Fact) (k:Kn) (b:Nat),(EW os k).Dv.testBit b=(k.Dv.testBit b||os.any fun l=>(Ac l).1.op==2&&(Ac l).2&&(Ac l).1.cls.toNat==b)
 | [],k,b=>by simp[EW]
 | l::r,k,b=>by
   have:=Qj r (Bs k (Ac l).1 (Ac l).2) b;rw[oY]at this;rw[Oj,<-Bool.or_assoc,<-this];rfl
def Lp: ∀(os:List Fact) (k:Kn),(EW os k).whole=(k.whole||os.any fun l=> !(Ac l).2&& !((Ac l).1.op==2))
 | [],k=>by simp[EW]
 | l::r,k=>by
   have:=Lp r (Bs k (Ac l).1 (Ac l).2);rw[de]at this;rw[Oj,<-Bool.or_assoc,<-this];rfl
def Hu (m up:Nat):Bool:=(List.range 64).all fun b=> !m.testBit b||up.testBit b
def Ma {m up:Nat} (hm:m<2 ^ 64):Hu m up=true↔ ∀b,m.testBit b=true->up.testBit b=true:=by
 simp only[Hu,DT,List.mem_range,Ew,Bool.not_eq_true'];constructor
 .intro h b hb
  have hlt:b<64:=by
   rcases Nat.lt_or_ge b 64 with h'|h'
   .exact h'
   .rw[Nat.testBit_lt_two_pow (Nat.lt_of_lt_of_le hm (Nat.pow_le_pow_right (by decide) h'))]at hb;cases hb
  rcases h b hlt with h'|h'
  .rw[hb]at h';cases h'
  .exact h'
 .intro h b _
  cases hb:m.testBit b with
  | false=>exact .inl rfl
  | true=>exact .inr (h b hb)
def Ms {m n:Nat}:(m&&&n==0)=true↔ ∀b,m.testBit b=true->n.testBit b=true->False:=by
 rw[Cd];constructor
 .intro h b h1 h2
  have:=congrArg (fun x=>x.testBit b) h;simp[Nat.testBit_and,h1,h2]at this
 .intro h
  refine Nat.eq_of_testBit_eq fun b=>?_
  rw[Nat.testBit_and,Nat.zero_testBit];cases h1:m.testBit b with
  | false=>rfl
  | true=>
    cases h2:n.testBit b with
    | false=>rfl
    | true=>exact(h b h1 h2).elim
def UC (c b:Nat):(1|||2 ^ c).testBit b=(b==0||b==c):=by
 rw[Nat.testBit_or,Nat.testBit_two_pow,show(1:Nat)=2 ^ 0 from rfl,Nat.testBit_two_pow];rw[KF];simp only[Ew,CF,Cd];omega
def G6 (n:Nat) (ls:List Fact):Prop:= ∀l∈ls,(Ac l).1.op=2->0<=(Ac l).1.cls/\(Ac l).1.cls<n
def RE {m n:Nat} (h: ∀b,m.testBit b=true->b<n):m<2 ^ n:=by
 refine Nat.lt_pow_two_of_testBit _ fun i hi=>?_
 cases hb:m.testBit i with
 | false=>rfl
 | true=>have:=h i hb;omega
def ML {os:List Fact} {n:Nat} (h:G6 n os):(EW os k0).BJ<2 ^ n:=RE fun b hb=>by
 rw[OA]at hb;simp only[k0,Nat.zero_testBit,Bool.false_or,G1,A7,Cd]at hb;obtain⟨l,hl,⟨h2,-⟩,rfl⟩:=hb;have:=h l hl h2;omega
def ft {os:List Fact} {n:Nat} (h:G6 n os):(EW os k0).Dv<2 ^ n:=RE fun b hb=>by
 rw[Qj]at hb;simp only[k0,Nat.zero_testBit,Bool.false_or,G1,A7,Cd]at hb;obtain⟨l,hl,⟨h2,-⟩,rfl⟩:=hb;have:=h l hl h2;omega
def IE {os:List Fact} {b:Nat}:(EW os k0).BJ.testBit b=true↔ ∃l∈os,(Ac l).1.op=2/\(Ac l).2=false/\(Ac l).1.cls.toNat=b:=by
 rw[OA];simp only[k0,Nat.zero_testBit,Bool.false_or,G1,A7,Cd,Bool.not_eq_true',and_assoc]
def UW {os:List Fact} {b:Nat}:(EW os k0).Dv.testBit b=true↔ ∃l∈os,(Ac l).1.op=2/\(Ac l).2=true/\(Ac l).1.cls.toNat=b:=by
 rw[Qj];simp only[k0,Nat.zero_testBit,Bool.false_or,G1,A7,Cd,and_assoc]
def cM {os:List Fact} {n:Nat} (hn:n<=64) (h:G6 n os):(Hu (EW os k0).BJ (1|||2 ^ 1)&&((EW os k0).Dv&&&(1|||2 ^ 1)==0))=os.all fun l=>qO (Ac l):=by
 rw[KF,A7,Ma (Nat.lt_of_lt_of_le (ML h) (Nat.pow_le_pow_right (by decide) hn)),Ms];simp only[IE,UW,UC,DT,qO,Ew,Bool.not_eq_true',beq_eq_false_iff_ne,Cd,ne_eq];constructor
 .rintro⟨h1,h2⟩ l hl
  by_cases ho:(Ac l).1.op=2
  .right
   have hc:=h l hl ho;cases hb:(Ac l).2 with
   | false=>
     have:=h1 _ ⟨l,hl,ho,hb,rfl⟩;rw[decide_eq_false_iff_not];omega
   | true=>
     rw[CF];rcases Int.lt_or_le 1 (Ac l).1.cls with hlt|hle
     .exact hlt
     .exact(h2 _ ⟨l,hl,ho,hb,rfl⟩ (by omega)).elim
  .exact .inl ho
 .intro h1
  constructor
  .rintro b ⟨l,hl,ho,hb,rfl⟩
   rcases h1 l hl with h'|h'
   .exact absurd ho h'
   .have hc:=h l hl ho
    rw[hb,decide_eq_false_iff_not]at h';omega
  .rintro b ⟨l,hl,ho,hb,rfl⟩ hu
   rcases h1 l hl with h'|h'
   .exact absurd ho h'
   .have hc:=h l hl ho
    rw[hb,CF]at h';omega
def bw (x:Fact×Bool):(!JD x)=true↔(x.2=false->x.1.op=2/\(x.1.cls=0\/x.1.cls=2))/\(x.2=true-> ¬(x.1.op=2/\(x.1.cls=0\/x.1.cls=2))):=by
 have e:(x.1.op==2&&(x.1.cls==0||x.1.cls==2))=true↔x.1.op=2/\(x.1.cls=0\/x.1.cls=2):=by
  simp only[A7,Ew,Cd]
 rw[<-e,JD];generalize (x.1.op==2&&(x.1.cls==0||x.1.cls==2))=y;cases x.2<;>cases y<;>simp
def SW {os:List Fact}:(!(EW os k0).whole)=true↔ ∀l∈os,(Ac l).2=false->(Ac l).1.op=2:=by
 rw[Lp,Bool.not_eq_true',<-Bool.not_eq_true];simp only[k0,Bool.false_or,G1,A7,Bool.not_eq_true',beq_eq_false_iff_ne];constructor
 .intro h l hl hb
  rcases Classical.em ((Ac l).1.op=2)with e|e
  .exact e
  .exact absurd ⟨l,hl,hb,e⟩ h
 .rintro h ⟨l,hl,hb,e⟩
  exact e (h l hl hb)
def Yi {os:List Fact} {n:Nat} (hn:n<=64) (h:G6 n os):(!(EW os k0).whole&&(Hu (EW os k0).BJ (1|||2 ^ 2)&&((EW os k0).Dv&&&(1|||2 ^ 2)==0)))=os.all fun l=> !JD (Ac l):=by
 rw[KF,A7,A7,Ma (Nat.lt_of_lt_of_le (ML h) (Nat.pow_le_pow_right (by decide) hn)),Ms,SW,DT];simp only[IE,UW,UC,Ew,Cd,bw];constructor
 .rintro⟨h0,h1,h2⟩ l hl
  refine⟨fun hb=>?_,fun hb ⟨ho,hc⟩=>h2 _ ⟨l,hl,ho,hb,rfl⟩ (by omega)⟩;have ho:=h0 l hl hb;have hc:=h l hl ho;have:=h1 _ ⟨l,hl,ho,hb,rfl⟩;exact⟨ho,by omega⟩
 .intro h1
  refine⟨fun l hl hb=>((h1 l hl).1 hb).1,?_,?_⟩
  .rintro b ⟨l,hl,ho,hb,rfl⟩
   have:=((h1 l hl).1 hb).2;omega
  .rintro b ⟨l,hl,ho,hb,rfl⟩ hu
   have hc:=h l hl ho;exact(h1 l hl).2 hb ⟨ho,by omega⟩
def Nq {no:List Int}: ∀(k:Nat) (m:Int),(Tk no k m).isSome=true↔ ∃j:Nat,j<k/\m+j∉no
 | 0,m=>by simp[Tk]
 | k + 1,m=>by
   rw[Tk];split
   .rename_i h
    simp only[Option.isSome_some,true_iff];refine⟨0,by omega,fun hm=>?_⟩;rw[DT]at h;have:=h _ hm;simp at this
   .rename_i h
    rw[Nq k]
    have hm:m∈no:=by
     rcases Classical.em (m∈no)with h'|h'
     .exact h'
     .refine absurd (DT.2 fun x hx=>?_) h
      rw[zrJ];rintro rfl;exact h' hx
    constructor
    .rintro⟨j,hj,h'⟩
     exact⟨j+1,by omega,by rw[show m+((j+1:Nat):Int)=m+1+j by omega];exact h'⟩
    .rintro⟨j,hj,h'⟩
     cases j with
     | zero=>simp at h';exact absurd hm h'
     | succ j=>exact⟨j,by omega,by rw[show m+1+(j:Int)=m+((j+1:Nat):Int) by omega];exact h'⟩
def iy {low high n:Int} {no:List Int} (h0:low<=n) (h1:n∉no) (h2: ∀m,low<=m->m<n->m∈no):(Pm (low,high,no)).isSome=decide (n<=high):=by
 rw[KF,Pm,Nq,CF];constructor
 .rintro⟨j,hj,h⟩
  rcases Int.lt_or_le (low+j) n with hlt|hle
  .exact absurd (h2 _ (by omega) hlt) h
  .simp only at hj;omega
 .intro h
  refine⟨(n - low).toNat,by simp only;omega,?_⟩;rw[show low+((n - low).toNat:Int)=n by omega];exact h1
end Go.Gl
namespace Go.Gl
abbrev CC (a:Int) (p:List Int):V:= .a [eI a,eI (p.length:Int),eI (p.getD 0 0),eI (p.getD 1 0)]
structure Bx where
 a:Int
 p:List Int
 b:Nat
 vn:V
 vs:V
 k:Kn
abbrev Bx.is (e:Bx) (a:Int) (p:List Int):Bool:=e.a==a&&e.p==p
abbrev entC (b:Nat) (vn vs:V) (k:Kn):At:= .box b [eI k.low,eI k.high,vn,eU k.BJ,eU k.Dv,.b k.whole,.b k.Ab,vs]
abbrev qs (b:Nat) (vn vs:V) (k:Kn):List At:=[entC b vn vs k,.own vn 1 (iL k.no),.own vs 1 (iL k.AL)]
abbrev Vk (e:Bx):List At:=qs e.b e.vn e.vs e.k
def Tf (es:List Bx):List (V×V):=es.map fun e=>(CC e.a e.p,.p e.b 0)
def CD (L:Nat) (es:List Bx):List At:= .map L (Tf es)::es.flatMap Vk
def H2 (L:Nat) (es pre post:List Bx):List At:= .map L (Tf es)::(pre++post).flatMap Vk
def Gg {e:Bx} {a:Int} {p:List Int}:e.is a p=true↔e.a=a/\e.p=p:=by simp[Bx.is]
def PG {e:Bx} {a:Int} {p:List Int}:e.is a p=false↔ ¬(e.a=a/\e.p=p):=by rw[<-Gg,Bool.not_eq_true]
def T6 {a a':Int} {p p':List Int} (h:p.length<=2) (h':p'.length<=2):D1 (CC a p) (CC a' p')=(a==a'&&p==p'):=by
 have e:D1 (CC a p) (CC a' p')=(a==a'&&((p.length:Int)==p'.length&&(p.getD 0 0==p'.getD 0 0&&(p.getD 1 0==p'.getD 1 0)))):=by
  simp[D1,CI,CC]
 rw[e];congr 1
 match p,h,p',h' with
 | [],_,[],_=>rfl
 | [],_,[_],_=>simp
 | [],_,[_,_],_=>simp<;>omega
 | [_],_,[],_=>simp
 | [x],_,[y],_=>simp
 | [_],_,[_,_],_=>simp<;>omega
 | [_,_],_,[],_=>simp<;>omega
 | [_,_],_,[_],_=>simp<;>omega
 | [x,y],_,[z,u],_=>simp
def II (es:List Bx): ∀kv∈Tf es,Bf (.a [.i64,.i64,.i64,.i64]) kv.1=true:=by
 intro kv h;obtain⟨e,_,rfl⟩:=GL.1 h;rfl
def QS {a:Int} {p:List Int} (hp:p.length<=2): ∀ {es:List Bx},(∀e∈es,e.p.length<=2)->(∀e∈es,e.is a p=false)->Cs (CC a p) (Tf es)=none
 | [],_,_=>rfl
 | e ::r,hl,h=>by
   have he:=h e (.head _);rw[Tf,Cn,Cs,T6 hp (hl e (.head _))]
   have:(a==e.a&&p==e.p)=false:=by
    rw[<-he,Bx.is,KF];simp only[A7,Cd];exact⟨fun⟨h1,h2⟩=>⟨h1.symm,h2.symm⟩,fun⟨h1,h2⟩=>⟨h1.symm,h2.symm⟩⟩
   rw[this,cond_false];exact QS hp (fun x hx=>hl x (.tail _ hx)) (fun x hx=>h x (.tail _ hx))
def YA {a:Int} {p:List Int} (hp:p.length<=2) (b:Nat) (vn vs:V) (k:Kn): ∀ {es:List Bx},(∀e∈es,e.p.length<=2)->(∀e∈es,e.is a p=false)->Dy (CC a p) (.p b 0) (Tf es)=Tf (es++[⟨a,p,b,vn,vs,k⟩])
 | [],_,_=>rfl
 | e ::r,hl,h=>by
   have he:=h e (.head _);have ih:=YA hp b vn vs k (fun x hx=>hl x (.tail _ hx)) (fun x hx=>h x (.tail _ hx));simp only[Tf]at ih;rw[Tf,Cn,Dy,T6 hp (hl e (.head _))]
   have:(a==e.a&&p==e.p)=false:=by
    rw[<-he,Bx.is,KF];simp only[A7,Cd];exact⟨fun⟨h1,h2⟩=>⟨h1.symm,h2.symm⟩,fun⟨h1,h2⟩=>⟨h1.symm,h2.symm⟩⟩
   rw[this,cond_false,ih];rfl
def QR {a:Int} {p:List Int} (hp:p.length<=2) {e:Bx} (he:e.is a p=true) {post:List Bx}: ∀ {pre:List Bx},(∀x∈pre++e::post,x.p.length<=2)->(∀x∈pre,x.is a p=false)->Cs (CC a p) (Tf (pre++e::post))=some (.p e.b 0)
 | [],hl,_=>by
   rw[List.nil_append,Tf,Cn,Cs,T6 hp (hl e (.head _))];obtain⟨h1,h2⟩:=Gg.1 he;rw[h1,h2];simp
 | x ::r,hl,h=>by
   have hx:=h x (.head _);rw[List.cons_append,Tf,Cn,Cs,T6 hp (hl x (.head _))]
   have:(a==x.a&&p==x.p)=false:=by
    rw[<-hx,Bx.is,KF];simp only[A7,Cd];exact⟨fun⟨h1,h2⟩=>⟨h1.symm,h2.symm⟩,fun⟨h1,h2⟩=>⟨h1.symm,h2.symm⟩⟩
   rw[this,cond_false];exact QR hp he (fun y hy=>hl y (.tail _ hy)) (fun y hy=>h y (.tail _ hy))
def fB (a : Int) (p:List Int): ∀(es:List Bx),(∀e∈es,e.is a p=false)\/ ∃pre e post,es=pre++e::post/\e.is a p=true/\ ∀x∈pre,x.is a p=false
 | []=> .inl fun _ h=>by cases h
 | e ::r=>by
   cases h:e.is a p with
   | true=>exact .inr ⟨[],e,r,rfl,h,fun _ h=>by cases h⟩
   | false=>
     rcases fB a p r with h1|⟨pre,x,post,rfl,h1,h2⟩
     .exact .inl fun x hx=>by
       rcases Ff.1 hx with rfl|hx
       .exact h
       .exact h1 x hx
     .exact .inr ⟨e::pre,x,post,rfl,h1,fun y hy=>by
       rcases Ff.1 hy with rfl|hy
       .exact h
       .exact h2 y hy⟩
def WY (L:Nat) (pre post:List Bx) (e:Bx):(CD L (pre++e::post)).Perm (Vk e++H2 L (pre++e::post) pre post):=by
 unfold CD H2;rw[List.flatMap_append,List.flatMap_cons,List.flatMap_append];refine List.Perm.trans ?_ (List.perm_middle.symm);refine List.Perm.cons _ ?_;rw[<-NJ,<-NJ];exact List.Perm.append_right _ NF
def RG {pre post:List Bx} {e e':Bx} (h1:e'.a=e.a) (h2:e'.p=e.p) (h3:e'.b=e.b):Tf (pre++e'::post)=Tf (pre++e::post):=by
 simp only[Tf,ND,Cn,h1,h2,h3]
def Uv {L:Nat} {pre post:List Bx} {e e':Bx} (h1:e'.a=e.a) (h2:e'.p=e.p) (h3:e'.b=e.b):H2 L (pre++e'::post) pre post=H2 L (pre++e::post) pre post:=by
 rw[H2,H2,RG h1 h2 h3]
structure Bp (kf:Int->List Int->Kn) (es:List Bx):Prop where
 val: ∀e∈es,e.k=kf e.a e.p
 Kv: ∀a p,(∀e∈es,e.is a p=false)->kf a p=k0
 one:es.Pairwise fun e e'=>e.is e'.a e'.p=false
 len: ∀e∈es,e.p.length<=2
def SV (es:List Bx):Prop:= ∀e∈es,∀s∈e.k.AL,∃e'∈es,e'.is e.a (e.p++[s])=true
def Bp.congr {kf kf':Int->List Int->Kn} {es:List Bx} (h:Bp kf es) (e: ∀a p,kf a p=kf' a p):Bp kf' es:=
 ⟨fun x hx=>(h.val x hx).trans (e _ _),fun a p hp=>(e a p).symm.trans (h.Kv a p hp),h.one,h.len⟩
def Bp.add {kf:Int->List Int->Kn} {es:List Bx} (h:Bp kf es) {a:Int} {p:List Int} (hp:p.length<=2) (hn: ∀e∈es,e.is a p=false) (b:Nat) (vn vs:V):Bp kf (es++[⟨a,p,b,vn,vs,k0⟩]):=by
 refine⟨fun x hx=>?_,fun a' p' h'=>h.Kv a' p' fun x hx=>h' x (NK _ hx),?_,fun x hx=>?_⟩
 .rcases Du.1 hx with hx|hx
  .exact h.val x hx
  .rw[JT.1 hx];exact(h.Kv a p hn).symm
 .rw[List.pairwise_append]
  exact⟨h.one,List.pairwise_singleton _ _,fun x hx y hy=>by rw[JT.1 hy];exact hn x hx⟩
 .rcases Du.1 hx with hx|hx
  .exact h.len x hx
  .rw[JT.1 hx];exact hp
def SV.add {es:List Bx} (h:SV es) {a:Int} {p:List Int} (b:Nat) (vn vs:V):SV (es++[⟨a,p,b,vn,vs,k0⟩]):=by
 intro e he s hs;rcases Du.1 he with he|he
 .obtain⟨e',h1,h2⟩:=h e he s hs
  exact⟨e',NK _ h1,h2⟩
 .rw[JT.1 he]at hs
  cases hs
def NL (kf:Int->List Int->Kn) (a:Int) (p:List Int) (k:Kn):Int->List Int->Kn:=fun a' p'=>if a'=a/\p'=p then k else kf a' p'
def Bp.change {kf:Int->List Int->Kn} {pre post:List Bx} {e:Bx} (h:Bp kf (pre++e::post)) (b:Nat) (vn vs:V) (k:Kn):Bp (NL kf e.a e.p k) (pre++⟨e.a,e.p,b,vn,vs,k⟩::post):=by
 have h1:=h.one;rw[List.pairwise_append,List.pairwise_cons]at h1;obtain⟨o1,⟨o2,o3⟩,o4⟩:=h1;refine⟨fun x hx=>?_,fun a p hp=>?_,?_,fun x hx=>?_⟩
 .rw [NL]
  rcases Du.1 hx with hx|hx
  .rw[if_neg]
   .exact h.val x (NK _ hx)
   .have:=o4 x hx e (.head _)
    rw[PG]at this;exact this
  .rcases Ff.1 hx with rfl|hx
   .rw[if_pos ⟨rfl,rfl⟩]
   .rw[if_neg]
    .exact h.val x (Lu _ (.tail _ hx))
    .have:=o2 x hx
     rw[PG]at this;exact fun⟨q1,q2⟩=>this ⟨q1.symm,q2.symm⟩
 .have he:=PG.1 (hp _ (Lu _ (.head _)))
  rw[NL,if_neg (fun⟨q1,q2⟩=>he ⟨q1.symm,q2.symm⟩)];refine h.Kv a p fun x hx=>?_
  rcases Du.1 hx with hx|hx
  .exact hp x (NK _ hx)
  .rcases Ff.1 hx with rfl|hx
   .exact PG.2 he
   .exact hp x (Lu _ (.tail _ hx))
 .rw[List.pairwise_append,List.pairwise_cons]
  refine⟨o1,⟨o2,o3⟩,fun x hx y hy=>?_⟩;rcases Ff.1 hy with rfl|hy
  .exact o4 x hx e (.head _)
  .exact o4 x hx y (.tail _ hy)
 .rcases Du.1 hx with hx|hx
  .exact h.len x (NK _ hx)
  .rcases Ff.1 hx with rfl|hx
   .exact h.len e (Lu _ (.head _))
   .exact h.len x (Lu _ (.tail _ hx))
def SV.change {pre post:List Bx} {e:Bx} (h:SV (pre++e::post)) (b:Nat) (vn vs:V) (k:Kn) (hs: ∀s∈k.AL,s∈e.k.AL\/ ∃e'∈pre++e::post,e'.is e.a (e.p++[s])=true):SV (pre++⟨e.a,e.p,b,vn,vs,k⟩::post):=by
 have mov: ∀ {a p},(∃e'∈pre++e::post,e'.is a p=true)-> ∃e'∈pre++(⟨e.a,e.p,b,vn,vs,k⟩:Bx)::post,e'.is a p=true:=by
  rintro a p ⟨x,hx,h'⟩;rcases Du.1 hx with hx|hx
  .exact⟨x,NK _ hx,h'⟩
  .rcases Ff.1 hx with rfl|hx
   .exact⟨_,Lu _ (.head _),h'⟩
   .exact⟨x,Lu _ (.tail _ hx),h'⟩
 intro x hx s hxs;rcases Du.1 hx with hx|hx
 .exact mov (h x (NK _ hx) s hxs)
 .rcases Ff.1 hx with rfl|hx
  .rcases hs s hxs with h'|h'
   .exact mov (h e (Lu _ (.head _)) s h')
   .exact mov h'
  .exact mov (h x (Lu _ (.tail _ hx)) s hxs)
def Dn (f:Fact) (c:Bool) (j:Nat) (a:Int) (p:List Int) (k:Kn):Kn:=
 if f.arg=a/\BV f.path p=true then(if p.length<j then eC (Bt k c) (f.path.getD p.length 0)else if p.length=j then Bt k c else k)else k
def HT {path p:List Int}:BV path p=true↔p.length<=path.length/\p=path.take p.length:=by
 rw[Bw];constructor
 .rintro⟨t,rfl⟩
  exact⟨by simp,by simp⟩
 .rintro⟨h1,h2⟩
  exact⟨path.drop p.length,by conv=>rhs;rw[h2,Ib,Nat.min_eq_left h1,List.take_append_drop]⟩
def nH (f:Fact) (c:Bool) (a:Int) (p:List Int) (k:Kn):Dn f c 0 a p k=if a=f.arg/\p= []then Bt k c else k:=by
 unfold Dn;by_cases h:f.arg=a/\BV f.path p=true
 .rw[if_pos h,if_neg (by omega)]
  by_cases hp:p.length=0
  .rw[if_pos hp,if_pos ⟨h.1.symm,VA.1 hp⟩]
  .rw[if_neg hp,if_neg (fun h'=>hp (by rw[h'.2];rfl))]
 .rw[if_neg h,if_neg]
  rintro⟨rfl,rfl⟩;exact h ⟨rfl,Bw.2 ⟨f.path,by simp⟩⟩
def nI (f:Fact) (c:Bool) {j:Nat} (hj:j<f.path.length) (a:Int) (p:List Int) (k:Kn):Dn f c (j+1) a p k=if a=f.arg/\p=f.path.take (j+1)then Bt (Dn f c j a p k) c else if a=f.arg/\p=f.path.take j then eC (Dn f c j a p k) (f.path.getD j 0)else Dn f c j a p k:=by
 unfold Dn;by_cases h:f.arg=a/\BV f.path p=true
 .rw [if_pos h,if_pos h]
  obtain⟨h1,h2⟩:=h;rw[HT]at h2;obtain⟨h2,h3⟩:=h2;have l1:p=f.path.take (j+1)↔p.length=j+1:=⟨fun e=>by rw[e,Ib];omega,fun e=>by rw[e]at h3;exact h3⟩
  have l2:p=f.path.take j↔p.length=j:=⟨fun e=>by rw[e,Ib];omega,fun e=>by rw[e]at h3;exact h3⟩
  have n1:p.length≠j+1-> ¬(a=f.arg/\p=f.path.take (j+1)):=fun h h'=>h (l1.1 h'.2)
  have n2:p.length≠j-> ¬(a=f.arg/\p=f.path.take j):=fun h h'=>h (l2.1 h'.2)
  by_cases q1:p.length<j
  .rw[if_pos (show p.length<j+1 by omega),if_neg (n1 (by omega)),if_neg (n2 (by omega)),if_pos q1]
  .by_cases q2:p.length=j
   .rw[if_pos (show p.length<j+1 by omega),if_neg (n1 (by omega)),if_pos (show a=f.arg/\p=f.path.take j from⟨h1.symm,l2.2 q2⟩),if_neg q1,if_pos q2,q2]
   .by_cases q3:p.length=j+1
    .rw[if_neg (show¬p.length<j+1 by omega),if_pos q3,if_pos (show a=f.arg/\p=f.path.take (j+1) from⟨h1.symm,l1.2 q3⟩),if_neg q1,if_neg q2]
    .rw[if_neg (show¬p.length<j+1 by omega),if_neg q3,if_neg (n1 q3),if_neg (n2 q2),if_neg q1,if_neg q2]
 .rw[if_neg h,if_neg h,if_neg,if_neg]
  .rintro⟨rfl,rfl⟩
   exact h ⟨rfl,Bw.2 ⟨f.path.drop j,by rw[List.take_append_drop]⟩⟩
  .rintro⟨rfl,rfl⟩
   exact h ⟨rfl,Bw.2 ⟨f.path.drop (j+1),by rw[List.take_append_drop]⟩⟩
def sX (a : Int) (p:List Int) (k:Kn) (l:Fact):Cw a p k l=if a=(Ac l).1.arg/\p=(Ac l).1.path then Bs (Dn (Ac l).1 (Ac l).2 (Ac l).1.path.length a p k) (Ac l).1 (Ac l).2 else Dn (Ac l).1 (Ac l).2 (Ac l).1.path.length a p k:=by
 unfold Cw Dn;by_cases h:(Ac l).1.arg=a/\BV (Ac l).1.path p=true
 .rw [if_pos h,if_pos h]
  obtain⟨h1,h2⟩:=h;rw[HT]at h2;obtain⟨h2,h3⟩:=h2;by_cases hp:(Ac l).1.path=p
  .rw[if_pos hp,if_pos ⟨h1.symm,hp.symm⟩,if_neg (by rw[hp];omega),if_pos (by rw[hp])]
  .have hne:p.length<(Ac l).1.path.length:=by
    rcases Nat.lt_or_ge p.length (Ac l).1.path.length with h'|h'
    .exact h'
    .rw[List.take_of_length_le h']at h3
     exact absurd h3.symm hp
   rw[if_neg hp,if_neg (fun h=>hp h.2.symm),if_pos hne]
 .rw[if_neg h,if_neg h,if_neg]
  rintro⟨rfl,rfl⟩;exact h ⟨rfl,KD _⟩
def nM (ls:List Fact) (l:Fact) (a:Int) (p:List Int):kn (ls++[l]) a p=Cw a p (kn ls a p) l:=by
 rw[kn,List.foldl_append];rfl
def TW (l:List Int) (s:Int):(JN l s).length<=l.length+1:=by
 unfold JN;split
 .omega
 .rw[List.length_mergeSort];simp
def Rc (k:Kn) (f:Fact) (b:Bool):(Bs k f b).no.length<=k.no.length+1:=by
 unfold Bs
 repeat' split
 all_goals simp
def gD (a:Int) (p:List Int): ∀(ls:List Fact) (k:Kn),(ls.foldl (Cw a p) k).no.length<=k.no.length+ls.length/\(ls.foldl (Cw a p) k).AL.length<=k.AL.length+ls.length
 | [],k=>⟨G0 _,G0 _⟩
 | l ::r,k=>by
   obtain⟨h1,h2⟩:=gD a p r (Cw a p k l)
   have h3:(Cw a p k l).no.length<=k.no.length+1/\(Cw a p k l).AL.length<=k.AL.length+1:=by
    unfold Cw
    repeat' split
    .have:=Rc (Bt k (Ac l).2) (Ac l).1 (Ac l).2
     rw[IZ];simp only[Bt]at this ⊢;omega
    .have:=TW k.AL ((Ac l).1.path.getD p.length 0)
     simp only[eC,Bt]at this ⊢;omega
    .omega
   rw[List.foldl_cons,JU];omega
def nP {n:Nat} {ls:List Fact} (h:G6 n ls) (a:Int) (p:List Int):(kn ls a p).BJ<2 ^ n/\(kn ls a p).Dv<2 ^ n:=by
 have hc:=MN ls a p;simp only[DY,Prod.mk.injEq]at hc;have hc2:G6 n (ls.filter (Fq a p)):=fun l hl=>h l (Ia.1 hl).1
 rw[hc.2.2.2.1,hc.2.2.2.2.1];exact⟨ML hc2,ft hc2⟩
end Go.Gl
