import Derived.Test.YtegbmnmnaijioaaGreatProg
import Derived.KernelRfl
import Derived.Test.YtegbmnmnaijioaaGreatH6
import Derived.Test.YtegbmnmnaijioaaGreatH10
set_option linter.all false
set_option linter.defProp false
noncomputable section
namespace Go.Gl
structure Kn where
 low:Int
 high:Int
 no:List Int
 Ch:Nat
 Gt:Nat
 whole:Bool
 A6:Bool
 AK:List Int
def k0:Kn:=⟨-1000000000,1000000000,[],0,0,false,false,[]⟩
def JB (l:List Int) (s:Int):List Int:=if l.contains s then l else(l++[s]).mergeSort OZ
def C2 (k:Kn) (f:Fact) (b:Bool):Kn:=
 if f.op=2 then(if b then {k with Gt:=k.Gt|||2 ^ f.cls.toNat}else {k with Ch:=k.Ch|||2 ^ f.cls.toNat})
 else if f.op=3 then(if b then {k with low:=if f.n > k.low then f.n else k.low}else {k with high:=if f.n - 1<k.high then f.n - 1 else k.high,whole:=true})
 else if b then {k with no:=k.no++[f.n]}else {k with low:=if f.n > k.low then f.n else k.low,high:=if f.n<k.high then f.n else k.high,whole:=true}
def Dx (k:Kn) (b:Bool):Kn:={k with A6:=k.A6|| !b}
def kO (k:Kn) (s:Int):Kn:={k with AK:=JB k.AK s}
def DS (a:Int) (p:List Int) (k:Kn) (l:Fact):Kn:=
 if(BA l).1.arg=a∧CH (BA l).1.path p=true then
  (if(BA l).1.path=p then C2 (Dx k (BA l).2) (BA l).1 (BA l).2 else kO (Dx k (BA l).2) ((BA l).1.path.getD p.length 0))
 else k
def kn (ls:List Fact) (a:Int) (p:List Int):Kn:=ls.foldl (DS a p) k0
def Yt (k:Kn) (f:Fact) (b:Bool):(C2 k f b).A6=k.A6:=by
 unfold C2
 (repeat' split)<;>rfl
def SM (k:Kn) (f:Fact) (b:Bool):(C2 k f b).AK=k.AK:=by
 unfold C2
 (repeat' split)<;>rfl
def T2 (a:Int) (p:List Int) (k:Kn) (l:Fact):(DS a p k l).A6=(k.A6|| !((BA l).2|| !((BA l).1.arg==a&&CH (BA l).1.path p))):=by
 unfold DS;split
 ·rename_i h
  have e:((BA l).1.arg==a)=true:=by simpa using h.1
  rw[e,h.2];split
  ·rw[Yt];simp[Dx]
  ·simp[kO,Dx]
 ·rename_i h
  have:((BA l).1.arg==a&&CH (BA l).1.path p)=false:=by
   cases hb:((BA l).1.arg==a&&CH (BA l).1.path p)with
   | false=>rfl
   | true=>rw[A9]at hb;exact absurd ⟨by simpa using hb.1,hb.2⟩ h
  rw[this];simp
def MB (a:Int) (p:List Int): ∀(ls:List Fact) (k:Kn),(ls.foldl (DS a p) k).A6=(k.A6|| !Fx ls a p)
 | [],k=>by simp[Fx]
 | l::r,k=>by
   rw[List.foldl_cons,MB a p r,T2];simp only[Fx,SZ];generalize (r.all _)=x;generalize ((BA l).2||_)=y;cases k.A6<;>cases x<;>cases y<;>rfl
def M9 (ls:List Fact) (a:Int) (p:List Int):(kn ls a p).A6= !Fx ls a p:=by rw[kn,MB];rfl
def dW (l:List Int) (s x:Int):x∈JB l s↔x∈l∨x=s:=by
 unfold JB;split
 ·rename_i h
  rw[List.contains_iff_mem]at h;constructor
  ·exact .inl
  ·rintro(h'|rfl)
   ·exact h'
   ·exact h
 ·rw[(List.mergeSort_perm _ OZ).mem_iff];simp
def UA {l:List Int} (s:Int) (h:l.Pairwise (· < ·)):(JB l s).Pairwise (· < ·):=by
 unfold JB;split
 ·exact h
 ·rename_i hc
  have hc':s∉l:=by simpa using hc
  have hp:=List.mergeSort_perm (l++[s]) OZ;have h1:((l++[s]).mergeSort OZ).Pairwise (fun a b=>OZ a b=true):=List.pairwise_mergeSort (fun a b c=>by simp only[OZ,Cf];omega) (fun a b=>by simp only[OZ,F6,Cf];omega) _
  have h2:((l++[s]).mergeSort OZ).Nodup:=hp.nodup_iff.2 (by
   rw[List.nodup_append];refine⟨h.imp fun hab=>by omega,by simp,fun a ha b hb=>?_⟩;simp only[Nx]at hb;rintro rfl
   exact hc' (hb ▸ ha))
  exact(h1.and h2).imp fun⟨h3,h4⟩=>by
   simp only[OZ,Cf]at h3;omega
def P4: ∀ {l m:List Int},l.Pairwise (· < ·)→m.Pairwise (· < ·)→(∀x,x∈l↔x∈m)→l=m
 | [],[],_,_,_=>rfl
 | [],y::m,_,_,h=>absurd ((h y).2 (.head _)) (by simp)
 | x::l,[],_,_,h=>absurd ((h x).1 (.head _)) (by simp)
 | x ::l,y::m,h1,h2,h=>by
   rw[List.pairwise_cons]at h1 h2
   have hxy:x=y:=by
    rcases F7.1 ((h x).1 (.head _))with e|hx
    ·exact e
    ·rcases F7.1 ((h y).2 (.head _))with e|hy
     ·exact e.symm
     ·have:=h1.1 y hy
      have:=h2.1 x hx;omega
   subst hxy;congr 1;refine P4 h1.2 h2.2 fun z=>?_
   constructor
   ·intro hz
    rcases F7.1 ((h z).1 (.tail _ hz))with e|hz'
    ·have:=h1.1 z hz;omega
    ·exact hz'
   ·intro hz
    rcases F7.1 ((h z).2 (.tail _ hz))with e|hz'
    ·have:=h2.1 z hz;omega
    ·exact hz'
def Cd {path pre:List Int}:CH path pre=true↔ ∃t,path=pre++t:=by
 simp only[CH,A9,Cf,DK];constructor
 ·rintro⟨_,h⟩
  exact⟨path.drop pre.length,by conv=>lhs;rw[←List.take_append_drop pre.length path,h]⟩
 ·rintro⟨t,rfl⟩
  simp
def Wy {path p:List Int} {s:Int}:CH path (p++[s])=true↔CH path p=true∧path≠p∧path.getD p.length 0=s:=by
 rw[Cd,Cd];constructor
 ·rintro⟨t,rfl⟩
  refine⟨⟨s::t,by simp⟩,fun e=>?_,by simp⟩;have:=congrArg List.length e;simp at this
 ·rintro⟨⟨t,rfl⟩,hne,hs⟩
  cases t with
  | nil=>simp at hne
  | cons y t=>simp at hs;subst hs;exact⟨t,by simp⟩
def Z1 {a:Int} {p:List Int} {s:Int} {l:Fact}:oR a p s l=true↔(BA l).1.arg=a∧CH (BA l).1.path p=true∧(BA l).1.path≠p∧(BA l).1.path.getD p.length 0=s:=by
 rw[oR,A9,Wy,DK]
def Wi (a:Int) (p:List Int) (k:Kn) (l:Fact):(DS a p k l).AK=if(BA l).1.arg=a∧CH (BA l).1.path p=true∧(BA l).1.path≠p then JB k.AK ((BA l).1.path.getD p.length 0)else k.AK:=by
 unfold DS;by_cases h1:(BA l).1.arg=a∧CH (BA l).1.path p=true
 ·rw[if_pos h1]
  by_cases h2:(BA l).1.path=p
  ·rw[if_pos h2,if_neg (fun h=>h.2.2 h2),SM];rfl
  ·rw[if_neg h2,if_pos ⟨h1.1,h1.2,h2⟩];rfl
 ·rw[if_neg h1,if_neg (fun h=>h1 ⟨h.1,h.2.1⟩)]
def QV (a:Int) (p:List Int): ∀(ls:List Fact) (k:Kn),k.AK.Pairwise (· < ·)→(ls.foldl (DS a p) k).AK.Pairwise (· < ·)∧ ∀s,s∈(ls.foldl (DS a p) k).AK↔s∈k.AK∨ls.any (oR a p s)=true
 | [],k,h=>⟨h,fun s=>by simp⟩
 | l ::r,k,h=>by
   rw[List.foldl_cons];have e:=Wi a p k l
   have h1:(DS a p k l).AK.Pairwise (· < ·):=by
    rw[e];split
    ·exact UA _ h
    ·exact h
   obtain⟨i1,i2⟩:=QV a p r _ h1;refine⟨i1,fun s=>?_⟩;rw[i2,e,SY,F6,Z1];split
   ·rename_i hc
    rw[dW];constructor
    ·rintro((h|rfl)|h)
     ·exact .inl h
     ·exact .inr (.inl ⟨hc.1,hc.2.1,hc.2.2,rfl⟩)
     ·exact .inr (.inr h)
    ·rintro(h|⟨-,-,-,h⟩|h)
     ·exact .inl (.inl h)
     ·exact .inl (.inr h.symm)
     ·exact .inr h
   ·rename_i hc
    constructor
    ·rintro(h|h)
     ·exact .inl h
     ·exact .inr (.inr h)
    ·rintro(h|⟨q1,q2,q3,-⟩|h)
     ·exact .inl h
     ·exact absurd ⟨q1,q2,q3⟩ hc
     ·exact .inr h
def H3 (n:Nat) (ls:List Fact):Prop:= ∀l∈ls,∀s∈(BA l).1.path,(0:Int)≤s∧s<n
def Eh {n:Nat} {s:Int}:s∈Bk n↔0≤s∧s<n:=by
 simp only[Bk,KE,List.mem_range];constructor
 ·rintro⟨m,hm,rfl⟩
  exact⟨Int.natCast_nonneg m,by simpa using hm⟩
 ·rintro⟨h0,h1⟩
  exact⟨s.toNat,by omega,by simp;omega⟩
def Q3 (n:Nat):(Bk n).Pairwise (· < ·):=by
 rw[Bk,List.pairwise_map];exact List.pairwise_lt_range.imp fun h=>by simpa using h
def sC {n:Nat} {ls:List Fact} (h:H3 n ls) {a:Int} {p:List Int} {s:Int} {l:Fact} (hl:l∈ls) (hg:oR a p s l=true):0≤s∧s<n:=by
 rw[Z1]at hg;obtain⟨-,h2,h3,h4⟩:=hg;obtain⟨t,ht⟩:=Cd.1 h2;refine h l hl s ?_;rw[ht]at h3 h4 ⊢;cases t with
 | nil=>simp at h3
 | cons y t=>simp at h4;subst h4;simp
def Lp {n:Nat} {ls:List Fact} (h:H3 n ls) (a:Int) (p:List Int):(kn ls a p).AK=Dz n ls a p:=by
 obtain⟨h1,h2⟩:=QV a p ls k0 .nil;refine P4 h1 ((Q3 n).filter _) fun s=>?_
 show s∈(ls.foldl (DS a p) k0).AK↔_;rw[h2,Dz,JS,Eh];constructor
 ·rintro(h|hs)
  ·cases h
  ·obtain⟨l,hl,hg⟩:=JR.1 hs
   exact⟨sC h hl hg,hs⟩
 ·exact fun hs=> .inr hs.2
def E0 (os:List Fact) (k:Kn):Kn:=os.foldl (fun k l=>C2 k (BA l).1 (BA l).2) k
abbrev FR (k:Kn):Int×Int×List Int×Nat×Nat×Bool:=(k.low,k.high,k.no,k.Ch,k.Gt,k.whole)
def V9 {k k':Kn} (h:FR k=FR k') (f:Fact) (b:Bool):FR (C2 k f b)=FR (C2 k' f b):=by
 cases k;cases k';simp only[FR,Prod.mk.injEq]at h;obtain⟨rfl,rfl,rfl,rfl,rfl,rfl⟩:=h;unfold C2
 (repeat' split)<;>rfl
def Nv (p:List Int):CH p p=true:=Cd.2 ⟨[],by simp⟩
def dI (a:Int) (p:List Int) (k:Kn) (l:Fact):FR (DS a p k l)=if NN a p l then FR (C2 k (BA l).1 (BA l).2)else FR k:=by
 unfold DS NN;by_cases h1:(BA l).1.arg=a
 ·by_cases h2:(BA l).1.path=p
  ·have e:((BA l).1.arg==a&&(BA l).1.path==p)=true:=by simp[h1,h2]
   rw[if_pos ⟨h1,by rw[h2];exact Nv p⟩,if_pos h2,e,if_pos rfl];exact V9 (k:=Dx k (BA l).2) (k':=k) rfl _ _
  ·have e:((BA l).1.arg==a&&(BA l).1.path==p)=false:=by simp[h2]
   rw[if_neg h2,e,if_neg Bool.false_ne_true];split<;>rfl
 ·have e:((BA l).1.arg==a&&(BA l).1.path==p)=false:=by simp[h1]
  rw[if_neg (fun h=>h1 h.1),e,if_neg Bool.false_ne_true]
def NF (a:Int) (p:List Int): ∀(ls:List Fact) (k k':Kn),FR k=FR k'→FR (ls.foldl (DS a p) k)=FR (E0 (ls.filter (NN a p)) k')
 | [],k,k',h=>h
 | l ::r,k,k',h=>by
   rw[List.foldl_cons,List.filter_cons];have e:=dI a p k l;split
   ·rename_i ho
    rw[if_pos ho]at e;exact NF a p r _ _ (e.trans (V9 h _ _))
   ·rename_i ho
    rw[if_neg (by simpa using ho)]at e;exact NF a p r _ _ (e.trans h)
def OQ (ls:List Fact) (a:Int) (p:List Int):FR (kn ls a p)=FR (E0 (ls.filter (NN a p)) k0):=NF a p ls k0 k0 rfl
def pj (x:Fact×Bool):Bool:= !(x.1.op==2)||(decide (x.1.cls > 1)==x.2)
def bZ (x:Fact×Bool) (k:Kn):Ur x (k.low,k.high,k.no)=if pj x then some ((C2 k x.1 x.2).low,(C2 k x.1 x.2).high,(C2 k x.1 x.2).no)else none:=by
 unfold Ur pj C2;by_cases h2:x.1.op=2
 ·rw[if_pos h2,if_pos h2]
  cases x.2<;>cases decide (x.1.cls > 1)<;>simp[h2]
 ·rw[if_neg h2,if_neg h2]
  by_cases h3:x.1.op=3
  ·rw[if_pos h3,if_pos h3]
   cases x.2<;>simp[h2]
  ·rw[if_neg h3,if_neg h3]
   cases x.2<;>simp[h2]
def SB: ∀(os:List Fact) (k:Kn),foldI os (k.low,k.high,k.no)=if os.all (fun l=>pj (BA l))then some ((E0 os k).low,(E0 os k).high,(E0 os k).no)else none
 | [],k=>rfl
 | l ::r,k=>by
   rw[foldI,bZ,SZ];cases hb:pj (BA l)with
   | false=>rfl
   | true=>
     rw[if_pos rfl,Option.bind_some,SB r,EW];rfl
def kE (k:Kn) (f:Fact) (c:Bool) (b:Nat):(C2 k f c).Ch.testBit b=(k.Ch.testBit b||(f.op==2&& !c&&f.cls.toNat==b)):=by
 unfold C2;by_cases h2:f.op=2
 ·rw[if_pos h2]
  cases c<;>simp[h2,Nat.testBit_or,Nat.testBit_two_pow,Bool.beq_eq_decide_eq]
 ·rw[if_neg h2]
  have:(f.op==2)=false:=by simpa using h2
  rw[this]
  repeat' split
  all_goals simp
def oB (k:Kn) (f:Fact) (c:Bool) (b:Nat):(C2 k f c).Gt.testBit b=(k.Gt.testBit b||(f.op==2&&c&&f.cls.toNat==b)):=by
 unfold C2;by_cases h2:f.op=2
 ·rw[if_pos h2]
  cases c<;>simp[h2,Nat.testBit_or,Nat.testBit_two_pow,Bool.beq_eq_decide_eq]
 ·rw[if_neg h2]
  have:(f.op==2)=false:=by simpa using h2
  rw[this]
  repeat' split
  all_goals simp
def dU (k:Kn) (f:Fact) (c:Bool):(C2 k f c).whole=(k.whole||(!c&& !(f.op==2))):=by
 unfold C2;by_cases h2:f.op=2
 ·rw[if_pos h2]
  cases c<;>simp[h2]
 ·rw[if_neg h2]
  have:(f.op==2)=false:=by simpa using h2
  rw[this];cases c<;>(repeat' split)<;>simp_all
def NJ: ∀(os:List Fact) (k:Kn) (b:Nat),(E0 os k).Ch.testBit b=(k.Ch.testBit b||os.any fun l=>(BA l).1.op==2&& !(BA l).2&&(BA l).1.cls.toNat==b)
 | [],k,b=>by simp[E0]
 | l::r,k,b=>by
   have:=NJ r (C2 k (BA l).1 (BA l).2) b;rw[kE]at this;rw[SY,←Bool.or_assoc,←this];rfl
def Pr: ∀(os:List Fact) (k:Kn) (b:Nat),(E0 os k).Gt.testBit b=(k.Gt.testBit b||os.any fun l=>(BA l).1.op==2&&(BA l).2&&(BA l).1.cls.toNat==b)
 | [],k,b=>by simp[E0]
 | l::r,k,b=>by
   have:=Pr r (C2 k (BA l).1 (BA l).2) b;rw[oB]at this;rw[SY,←Bool.or_assoc,←this];rfl
def Kw: ∀(os:List Fact) (k:Kn),(E0 os k).whole=(k.whole||os.any fun l=> !(BA l).2&& !((BA l).1.op==2))
 | [],k=>by simp[E0]
 | l::r,k=>by
   have:=Kw r (C2 k (BA l).1 (BA l).2);rw[dU]at this;rw[SY,←Bool.or_assoc,←this];rfl
def Qs (m up:Nat):Bool:=(List.range 64).all fun b=> !m.testBit b||up.testBit b
def PT {m up:Nat} (hm:m<2 ^ 64):Qs m up=true↔ ∀b,m.testBit b=true→up.testBit b=true:=by
 simp only[Qs,Ev,List.mem_range,F6,Bool.not_eq_true'];constructor
 ·intro h b hb
  have hlt:b<64:=by
   rcases Nat.lt_or_ge b 64 with h'|h'
   ·exact h'
   ·rw[Nat.testBit_lt_two_pow (Nat.lt_of_lt_of_le hm (Nat.pow_le_pow_right (by decide) h'))]at hb;cases hb
  rcases h b hlt with h'|h'
  ·rw[hb]at h';cases h'
  ·exact h'
 ·intro h b _
  cases hb:m.testBit b with
  | false=>exact .inl rfl
  | true=>exact .inr (h b hb)
def Pn {m n:Nat}:(m&&&n==0)=true↔ ∀b,m.testBit b=true→n.testBit b=true→False:=by
 rw[DK];constructor
 ·intro h b h1 h2
  have:=congrArg (fun x=>x.testBit b) h;simp[Nat.testBit_and,h1,h2]at this
 ·intro h
  refine Nat.eq_of_testBit_eq fun b=>?_
  rw[Nat.testBit_and,Nat.zero_testBit];cases h1:m.testBit b with
  | false=>rfl
  | true=>
    cases h2:n.testBit b with
    | false=>rfl
    | true=>exact(h b h1 h2).elim
def TH (c b:Nat):(1|||2 ^ c).testBit b=(b==0||b==c):=by
 rw[Nat.testBit_or,Nat.testBit_two_pow,show(1:Nat)=2 ^ 0 from rfl,Nat.testBit_two_pow];rw[Hu];simp only[F6,Cf,DK];omega
def I0 (n:Nat) (ls:List Fact):Prop:= ∀l∈ls,(BA l).1.op=2→0≤(BA l).1.cls∧(BA l).1.cls<n
def QO {m n:Nat} (h: ∀b,m.testBit b=true→b<n):m<2 ^ n:=by
 refine Nat.lt_pow_two_of_testBit _ fun i hi=>?_
 cases hb:m.testBit i with
 | false=>rfl
 | true=>have:=h i hb;omega
def TY {os:List Fact} {n:Nat} (h:I0 n os):(E0 os k0).Ch<2 ^ n:=QO fun b hb=>by
 rw[NJ]at hb;simp only[k0,Nat.zero_testBit,Bool.false_or,JR,A9,DK]at hb;obtain⟨l,hl,⟨h2,-⟩,rfl⟩:=hb;have:=h l hl h2;omega
def rK {os:List Fact} {n:Nat} (h:I0 n os):(E0 os k0).Gt<2 ^ n:=QO fun b hb=>by
 rw[Pr]at hb;simp only[k0,Nat.zero_testBit,Bool.false_or,JR,A9,DK]at hb;obtain⟨l,hl,⟨h2,-⟩,rfl⟩:=hb;have:=h l hl h2;omega
def Lm {os:List Fact} {b:Nat}:(E0 os k0).Ch.testBit b=true↔ ∃l∈os,(BA l).1.op=2∧(BA l).2=false∧(BA l).1.cls.toNat=b:=by
 rw[NJ];simp only[k0,Nat.zero_testBit,Bool.false_or,JR,A9,DK,Bool.not_eq_true',and_assoc]
def Zj {os:List Fact} {b:Nat}:(E0 os k0).Gt.testBit b=true↔ ∃l∈os,(BA l).1.op=2∧(BA l).2=true∧(BA l).1.cls.toNat=b:=by
 rw[Pr];simp only[k0,Nat.zero_testBit,Bool.false_or,JR,A9,DK,and_assoc]
def bu {os:List Fact} {n:Nat} (hn:n≤64) (h:I0 n os):(Qs (E0 os k0).Ch (1|||2 ^ 1)&&((E0 os k0).Gt&&&(1|||2 ^ 1)==0))=os.all fun l=>pj (BA l):=by
 rw[Hu,A9,PT (Nat.lt_of_lt_of_le (TY h) (Nat.pow_le_pow_right (by decide) hn)),Pn];simp only[Lm,Zj,TH,Ev,pj,F6,Bool.not_eq_true',beq_eq_false_iff_ne,DK,ne_eq];constructor
 ·rintro⟨h1,h2⟩ l hl
  by_cases ho:(BA l).1.op=2
  ·right
   have hc:=h l hl ho;cases hb:(BA l).2 with
   | false=>
     have:=h1 _ ⟨l,hl,ho,hb,rfl⟩;rw[decide_eq_false_iff_not];omega
   | true=>
     rw[Cf];rcases Int.lt_or_le 1 (BA l).1.cls with hlt|hle
     ·exact hlt
     ·exact(h2 _ ⟨l,hl,ho,hb,rfl⟩ (by omega)).elim
  ·exact .inl ho
 ·intro h1
  constructor
  ·rintro b ⟨l,hl,ho,hb,rfl⟩
   rcases h1 l hl with h'|h'
   ·exact absurd ho h'
   ·have hc:=h l hl ho
    rw[hb,decide_eq_false_iff_not]at h';omega
  ·rintro b ⟨l,hl,ho,hb,rfl⟩ hu
   rcases h1 l hl with h'|h'
   ·exact absurd ho h'
   ·have hc:=h l hl ho
    rw[hb,Cf]at h';omega
def bX (x:Fact×Bool):(!RC x)=true↔(x.2=false→x.1.op=2∧(x.1.cls=0∨x.1.cls=2))∧(x.2=true→ ¬(x.1.op=2∧(x.1.cls=0∨x.1.cls=2))):=by
 have e:(x.1.op==2&&(x.1.cls==0||x.1.cls==2))=true↔x.1.op=2∧(x.1.cls=0∨x.1.cls=2):=by
  simp only[A9,F6,DK]
 rw[←e,RC];generalize (x.1.op==2&&(x.1.cls==0||x.1.cls==2))=y;cases x.2<;>cases y<;>simp
def bR {os:List Fact}:(!(E0 os k0).whole)=true↔ ∀l∈os,(BA l).2=false→(BA l).1.op=2:=by
 rw[Kw,Bool.not_eq_true',←Bool.not_eq_true];simp only[k0,Bool.false_or,JR,A9,Bool.not_eq_true',beq_eq_false_iff_ne];constructor
 ·intro h l hl hb
  rcases Classical.em ((BA l).1.op=2)with e|e
  ·exact e
  ·exact absurd ⟨l,hl,hb,e⟩ h
 ·rintro h ⟨l,hl,hb,e⟩
  exact e (h l hl hb)
def YJ {os:List Fact} {n:Nat} (hn:n≤64) (h:I0 n os):(!(E0 os k0).whole&&(Qs (E0 os k0).Ch (1|||2 ^ 2)&&((E0 os k0).Gt&&&(1|||2 ^ 2)==0)))=os.all fun l=> !RC (BA l):=by
 rw[Hu,A9,A9,PT (Nat.lt_of_lt_of_le (TY h) (Nat.pow_le_pow_right (by decide) hn)),Pn,bR,Ev];simp only[Lm,Zj,TH,F6,DK,bX];constructor
 ·rintro⟨h0,h1,h2⟩ l hl
  refine⟨fun hb=>?_,fun hb ⟨ho,hc⟩=>h2 _ ⟨l,hl,ho,hb,rfl⟩ (by omega)⟩;have ho:=h0 l hl hb;have hc:=h l hl ho;have:=h1 _ ⟨l,hl,ho,hb,rfl⟩;exact⟨ho,by omega⟩
 ·intro h1
  refine⟨fun l hl hb=>((h1 l hl).1 hb).1,?_,?_⟩
  ·rintro b ⟨l,hl,ho,hb,rfl⟩
   have:=((h1 l hl).1 hb).2;omega
  ·rintro b ⟨l,hl,ho,hb,rfl⟩ hu
   have hc:=h l hl ho;exact(h1 l hl).2 hb ⟨ho,by omega⟩
def Mv {no:List Int}: ∀(k:Nat) (m:Int),(eE no k m).isSome=true↔ ∃j:Nat,j<k∧m+j∉no
 | 0,m=>by simp[eE]
 | k + 1,m=>by
   rw[eE];split
   ·rename_i h
    simp only[Option.isSome_some,true_iff];refine⟨0,by omega,fun hm=>?_⟩;rw[Ev]at h;have:=h _ hm;simp at this
   ·rename_i h
    rw[Mv k]
    have hm:m∈no:=by
     rcases Classical.em (m∈no)with h'|h'
     ·exact h'
     ·refine absurd (Ev.2 fun x hx=>?_) h
      rw[bne_iff_ne];rintro rfl;exact h' hx
    constructor
    ·rintro⟨j,hj,h'⟩
     exact⟨j+1,by omega,by rw[show m+((j+1:Nat):Int)=m+1+j by omega];exact h'⟩
    ·rintro⟨j,hj,h'⟩
     cases j with
     | zero=>simp at h';exact absurd hm h'
     | succ j=>exact⟨j,by omega,by rw[show m+1+(j:Int)=m+((j+1:Nat):Int) by omega];exact h'⟩
def iT {low high n:Int} {no:List Int} (h0:low≤n) (h1:n∉no) (h2: ∀m,low≤m→m<n→m∈no):(Us (low,high,no)).isSome=decide (n≤high):=by
 rw[Hu,Us,Mv,Cf];constructor
 ·rintro⟨j,hj,h⟩
  rcases Int.lt_or_le (low+j) n with hlt|hle
  ·exact absurd (h2 _ (by omega) hlt) h
  ·simp only at hj;omega
 ·intro h
  refine⟨(n - low).toNat,by simp only;omega,?_⟩;rw[show low+((n - low).toNat:Int)=n by omega];exact h1
end Go.Gl
namespace Go.Gl
def VI (g:List (List Int)) (k:Nat): ∀(m d:Nat),d<3+k→(Co g (k+m)).getD d 0=(Co g k).getD d 0
 | 0,d,_=>rfl
 | m+1,d,h=>by
   rw[show k+(m+1)=k+m+1 from rfl,Co,←VI g k m d h];rw[D9,oN (by rw[Eo];omega),←D9]
def VJ (us:List Nat) (b:Nat): ∀(l:List Int) (s:Nat),(XC us l s).testBit b=(s.testBit b||l.any fun c=>(us.getD c.toNat 0).testBit b)
 | [],s=>by simp[XC]
 | c::r,s=>by
   have:=VJ us b r (s|||us.getD c.toNat 0);rw[SY,←Bool.or_assoc,←Nat.testBit_or,←this];rfl
def gl {α:Type} (f:α→Bool) (b:Bool): ∀(l:List α),(b||l.any fun x=>b||f x)=(b||l.any f)
 | []=>rfl
 | x::r=>by
   have:=gl f b r;simp only[SY];cases b
   ·simpa using this
   ·rfl
def any_congr {α:Type} {f g:α→Bool}: ∀ {l:List α},(∀x∈l,f x=g x)→l.any f=l.any g
 | [],_=>rfl
 | x::r,h=>by
   rw[SY,SY,h x (.head _),any_congr fun y hy=>h y (.tail _ hy)]
def TN {g:List (List Int)} (ho:ordered g): ∀(k d b:Nat),k≤g.length→d<3+k→((Co g k).getD d 0).testBit b=(b==0||Im g d b)
 | 0,d,b,_,hd=>by
   have e:(Co g 0).getD d 0=1|||2 ^ d:=by
    rcases d with _|_|_|d
    ·rfl
    ·rfl
    ·rfl
    ·omega
   rw[e,TH,EZ ho,par,if_pos (by omega),List.any_nil,Bool.or_false];rw[Hu];simp only[F6,DK];omega
 | k + 1,d,b,hk,hd=>by
   by_cases hlt:d<3+k
   ·rw[VI g k 1 d hlt]
    exact TN ho k d b (by omega) hlt
   ·obtain rfl:d=3+k:=by omega
    have e:(Co g (k+1)).getD (3+k) 0=XC (Co g k) (g.getD k []) (1|||2 ^ (3+k)):=by
     rw[Co,D9,List.getElem?_append_right (by rw[Eo];omega),Eo,Nat.sub_self];rfl
    have hpar:par g (3+k)=g.getD k []:=by rw[par,if_neg (by omega),show 3+k - 3=k by omega]
    rw[e,VJ,TH,EZ ho,hpar]
    have hc:((g.getD k []).any fun c=>((Co g k).getD c.toNat 0).testBit b)=(g.getD k []).any fun p=>(b==0)||Im g p.toNat b:=any_congr fun p hp=>by
     have:=ho (3+k) p (by rw[hpar];exact hp);exact TN ho k p.toNat b (by omega) (by omega)
    rw[hc];have e2:(b==3+k)=(3+k==b):=by rw[Hu];simp only[DK];omega
    rw[e2,Bool.or_assoc,Bool.or_left_comm,gl,Bool.or_left_comm]
def PR {g:List (List Int)} (ho:ordered g) {d b:Nat} (hd:d<3+g.length):((B9 g).getD d 0).testBit b=(b==0||Im g d b):=TN ho g.length d b (Ht _) hd
def Sv {g:List (List Int)} (ho:ordered g): ∀(d b:Nat),3≤d→Im g d b=true→3≤b:=by
 intro d
 induction d using Nat.strongRecOn with
 | _ d ih=>
   intro b h3 h;rw[EZ ho]at h;simp only[F6,DK,JR]at h;rcases h with rfl|⟨p,hp,h⟩
   ·exact h3
   ·have:=ho d p hp
    exact ih p.toNat (by omega) b (by omega) h
def Dn (us:List Nat):Nat→Nat→Nat
 | 0,m=>m
 | k+1,m=>if(Dn us k m).testBit (3+k)then Dn us k m|||us.getD (3+k) 0 else Dn us k m
def Qb {g : List (List Int)} (ho:ordered g) (m:Nat): ∀(k b:Nat),k≤g.length→((Dn (B9 g) k m).testBit b=true↔m.testBit b=true∨ ∃d,3≤d∧d<3+k∧m.testBit d=true∧(b=0∨Im g d b=true))
 | 0,b,_=>by
   rw[Dn];exact⟨.inl,fun h=>h.elim id fun⟨d,h1,h2,_⟩=>by omega⟩
 | k + 1, b, hk=>by
   have ih:=Qb ho m k;rw[Dn];split
   ·rename_i hc
    rw[Nat.testBit_or,F6,ih b (by omega),PR ho (by omega),F6,DK];rw[ih _ (by omega)]at hc;constructor
    ·rintro((h|⟨d,h1,h2,h3,h4⟩)|h)
     ·exact .inl h
     ·exact .inr ⟨d,h1,by omega,h3,h4⟩
     ·rcases hc with hc|⟨d,h1,h2,h3,h4⟩
      ·exact .inr ⟨3+k,by omega,by omega,hc,h⟩
      ·refine .inr ⟨d,h1,by omega,h3,?_⟩
       rcases h with h|h
       ·exact .inl h
       ·rcases h4 with h4|h4
        ·omega
        ·exact .inr (Jg ho _ _ _ h4 h)
    ·rintro(h|⟨d,h1,h2,h3,h4⟩)
     ·exact .inl (.inl h)
     ·by_cases e:d=3+k
      ·subst e;exact .inr h4
      ·exact .inl (.inr ⟨d,h1,by omega,h3,h4⟩)
   ·rename_i hc
    rw[ih b (by omega)];constructor
    ·rintro(h|⟨d,h1,h2,h3,h4⟩)
     ·exact .inl h
     ·exact .inr ⟨d,h1,by omega,h3,h4⟩
    ·rintro(h|⟨d,h1,h2,h3,h4⟩)
     ·exact .inl h
     ·by_cases e:d=3+k
      ·subst e;exact absurd ((ih _ (by omega)).2 (.inl h3)) hc
      ·exact .inr ⟨d,h1,by omega,h3,h4⟩
def KB: ∀(l:List Int) (bs:List Bool),(∀q∈l,0≤q∧q.toNat<bs.length)→ ∀b:Nat,(l.foldl (fun b q=>b.set q.toNat true) bs).getD b false=(bs.getD b false||l.contains (b:Int))
 | [],bs,_,b=>by simp
 | q ::r,bs,h,b=>by
   have hq:=h q (.head _);rw[List.foldl_cons,KB r _ (fun x hx=>by rw[List.length_set];exact h x (.tail _ hx)),FE hq.2,List.contains_cons];split
   ·rename_i e
    subst e;have:((q.toNat:Int)==q)=true:=by rw[DK];omega
    rw[this];simp
   ·rename_i e
    have:((b:Int)==q)=false:=by rw[beq_eq_false_iff_ne];omega
    rw[this,Bool.false_or]
def HK {g:List (List Int)} (ho:ordered g) {c:Nat} {bs:List Bool} (hc:c≤bs.length) (b:Nat):(Jn g c bs).getD b false=(bs.getD b false||(bs.getD c false&&(par g c).contains (b:Int))):=by
 rw[Jn];split
 ·rename_i h
  rw[KB _ _ (fun q hq=>by have:=ho c q hq;omega),h,EW]
 ·rename_i h
  have:bs.getD c false=false:=by simpa using h
  rw[this,Bool.false_and,Bool.or_false]
def GN {g:List (List Int)} (ho:ordered g) {n:Nat} {S:List Bool} (hl:S.length=n): ∀(k b:Nat),(C7 g n k S).getD b false=true→ ∃d,S.getD d false=true∧Im g d b=true
 | 0,b,h=>⟨b,h,D2 ho b⟩
 | k + 1,b,h=>by
   rw[C7,HK ho (by rw[Fg];omega),F6,A9]at h;rcases h with h|⟨h1,h2⟩
   ·exact GN ho hl k b h
   ·obtain⟨d,h3,h4⟩:=GN ho hl k _ h1
    refine⟨d,h3,Jg ho _ _ _ h4 ?_⟩;rw[EZ ho,F6,JR];rw[List.contains_iff_mem]at h2;exact .inr ⟨_,h2,by rw[MH];exact D2 ho b⟩
def Wx {g:List (List Int)} (ho:ordered g) {n:Nat} {S:List Bool} (hl:S.length=n) (k b:Nat) (h:(C7 g n k S).getD b false=true):(C7 g n (k+1) S).getD b false=true:=by
 rw[C7,HK ho (by rw[Fg];omega),h];rfl
def JO {g:List (List Int)} (ho:ordered g) {n:Nat} {S:List Bool} (hl:S.length=n): ∀(k b:Nat),S.getD b false=true→(C7 g n k S).getD b false=true
 | 0,_,h=>h
 | k+1,b,h=>Wx ho hl k b (JO ho hl k b h)
def HL {g:List (List Int)} (ho:ordered g) {n:Nat} {S:List Bool} (hl:S.length=n): ∀(k c:Nat),k≤n→n - k≤c→(C7 g n k S).getD c false=true→ ∀q∈par g c,(C7 g n k S).getD q.toNat false=true
 | 0,c,_,hc,h,q,hq=>by
   rw[C7,D9,List.getElem?_eq_none (by omega)]at h;cases h
 | k + 1,c,hk,hc,h,q,hq=>by
   rw[C7,HK ho (by rw[Fg];omega)]at h ⊢;have hoc:=ho c q hq;rw[F6,A9]at h
   have hbase:(C7 g n k S).getD c false=true:=by
    rcases h with h|⟨-,h2⟩
    ·exact h
    ·rw[List.contains_iff_mem]at h2
     have:=ho _ _ h2;omega
   by_cases e:c=n - 1 - k
   ·subst e
    rw[hbase,EW,F6,List.contains_iff_mem];exact .inr (by rw[show((q.toNat:Nat):Int)=q by omega];exact hq)
   ·rw[HL ho hl k c (by omega) (by omega) hbase q hq];rfl
def Yo {g:List (List Int)} (ho:ordered g) {S:List Bool} (hl:S.length=3+g.length) (b:Nat):(C7 g (3+g.length) g.length S).getD b false=true↔ ∃d,S.getD d false=true∧Im g d b=true:=by
 refine⟨GN ho hl _ b,?_⟩
 have key: ∀d,(C7 g (3+g.length) g.length S).getD d false=true→Im g d b=true→(C7 g (3+g.length) g.length S).getD b false=true:=by
  intro d
  induction d using Nat.strongRecOn with
  | _ d ih=>
    intro h1 h2;rw[EZ ho,F6,DK,JR]at h2;rcases h2 with rfl|⟨p,hp,h2⟩
    ·exact h1
    ·have hop:=ho d p hp
     refine ih p.toNat (by omega) (HL ho hl g.length d (by omega) ?_ h1 p hp) h2;omega
 rintro⟨d,h1,h2⟩;exact key d (JO ho hl _ d h1) h2
def RB (n:Nat) (t:BB) (u:Nat×Nat):Prop:=
 t.1.length=n∧t.2.length=n∧(∀b,t.1.getD b false=u.1.testBit b)∧(∀b,b≠1→b≠2→t.2.getD b false=u.2.testBit b)∧u.1.testBit 1=false∧u.1.testBit 2=false
def Gd (m c b:Nat):(m|||2 ^ c).testBit b=(m.testBit b||b==c):=by
 rw[Nat.testBit_or,Nat.testBit_two_pow];congr 1;rw[Hu];simp only[Cf,DK];omega
def OG {l:List Bool} {m c:Nat} (hc:c<l.length) {b:Nat} (h:l.getD b false=m.testBit b):(l.set c true).getD b false=(m|||2 ^ c).testBit b:=by
 rw[FE hc,Gd,←h];split
 ·rename_i e;subst e;simp
 ·rename_i e
  have:(b==c)=false:=by simpa using e
  rw[this,Bool.or_false]
def Ss (x:Fact×Bool):Bool:= !x.2&&(!(x.1.op==2)||x.1.cls==1||x.1.cls==2)
def bW {n : Nat} {x:Fact×Bool} {t:BB} {k:Kn} (h:RB n t (k.Ch,k.Gt)) (hc:x.1.op=2→0≤x.1.cls∧x.1.cls<n) :
    (Ss x=true→NP x t=none)∧(Ss x=false→ ∃t',NP x t=some t'∧RB n t' ((C2 k x.1 x.2).Ch,(C2 k x.1 x.2).Gt)):=by
 obtain⟨f,c⟩:=x;simp only at hc;obtain⟨h1,h2,h3,h4,h5,h6⟩:=h;unfold Ss NP C2;simp only;by_cases ho:f.op=2
 ·have hc':=hc ho
  by_cases h12:f.cls=1∨f.cls=2
  ·rw[if_pos (.inr h12),if_pos ho]
   cases c with
   | true=>
     refine⟨fun h=>(by cases h),fun _=>⟨t,rfl,h1,h2,h3,fun b hb1 hb2=>?_,h5,h6⟩⟩;rw[if_pos rfl];show _=(k.Gt|||2 ^ f.cls.toNat).testBit b;rw[Gd,h4 b hb1 hb2];have:(b==f.cls.toNat)=false:=by rw[beq_eq_false_iff_ne];omega
     rw[this,Bool.or_false]
   | false=>
     refine⟨fun _=>rfl,fun h=>?_⟩;exfalso;rcases h12 with e|e<;>simp[e]at h
  ·have hn: ¬(f.op≠2∨f.cls=1∨f.cls=2):=by omega
   rw[if_neg hn,if_pos ho]
   have hb:(!c&&(!(f.op==2)||f.cls==1||f.cls==2))=false:=by
    have e1:(f.op==2)=true:=by simpa using ho
    have e2:(f.cls==1)=false:=by rw[beq_eq_false_iff_ne];omega
    have e3:(f.cls==2)=false:=by rw[beq_eq_false_iff_ne];omega
    rw[e1,e2,e3];simp
   rw[hb];refine⟨fun h=>(by cases h),fun _=>?_⟩;cases c with
   | true=>
     refine⟨_,rfl,h1,by simpa using h2,h3,fun b hb1 hb2=>?_,h5,h6⟩;exact OG (by omega) (h4 b hb1 hb2)
   | false=>
     refine⟨_,rfl,by simpa using h1,h2,fun b=>?_,h4,?_,?_⟩
     ·exact OG (by omega) (h3 b)
     ·show(k.Ch|||2 ^ f.cls.toNat).testBit 1=false
      rw[Gd,h5];have:(1==f.cls.toNat)=false:=by rw[beq_eq_false_iff_ne];omega
      rw[this];rfl
     ·show(k.Ch|||2 ^ f.cls.toNat).testBit 2=false
      rw[Gd,h6];have:(2==f.cls.toNat)=false:=by rw[beq_eq_false_iff_ne];omega
      rw[this];rfl
 ·rw[if_pos (.inl ho),if_neg ho]
  have e1:(f.op==2)=false:=by simpa using ho
  cases c with
  | true=>
    refine⟨fun h=>(by cases h),fun _=>⟨t,rfl,?_⟩⟩;split<;>exact⟨h1,h2,h3,h4,h5,h6⟩
  | false=>exact⟨fun _=>rfl,fun h=>by rw[e1]at h;cases h⟩
def SA {n:Nat}: ∀(os:List Fact) {t:BB} {k:Kn},RB n t (k.Ch,k.Gt)→I0 n os→
    (os.any (fun l=>Ss (BA l))=true→J4 os t=none)∧(os.any (fun l=>Ss (BA l))=false→ ∃t',J4 os t=some t'∧RB n t' ((E0 os k).Ch,(E0 os k).Gt))
 | [],t,k,h,_=>⟨fun h=>(by cases h),fun _=>⟨t,rfl,h⟩⟩
 | l ::r,t,k,h,hc=>by
   obtain⟨s1,s2⟩:=bW h (hc l (.head _));rw[SY,J4];cases hb:Ss (BA l)with
   | true=>exact⟨fun _=>by rw[s1 hb];rfl,fun h=>(by cases h)⟩
   | false=>
     obtain⟨t',h1,h2⟩:=s2 hb;rw[h1,Bool.false_or,Option.bind_some];exact SA r h2 fun x hx=>hc x (.tail _ hx)
def kD {os:List Fact} {n:Nat} (hc:I0 n os):(os.any fun l=>Ss (BA l))=((E0 os k0).whole||(E0 os k0).Ch.testBit 1||(E0 os k0).Ch.testBit 2):=by
 rw[Hu,F6,F6,Lm,Lm,Kw];simp only[JR,Ss,A9,F6,Bool.not_eq_true',DK,beq_eq_false_iff_ne,k0,Bool.false_or];constructor
 ·rintro⟨l,hl,hb,(h|h)|h⟩
  ·exact .inl (.inl ⟨l,hl,hb,h⟩)
  ·by_cases ho:(BA l).1.op=2
   ·exact .inl (.inr ⟨l,hl,ho,hb,by rw[h];rfl⟩)
   ·exact .inl (.inl ⟨l,hl,hb,ho⟩)
  ·by_cases ho:(BA l).1.op=2
   ·exact .inr ⟨l,hl,ho,hb,by rw[h];rfl⟩
   ·exact .inl (.inl ⟨l,hl,hb,ho⟩)
 ·rintro((⟨l,hl,hb,h⟩|⟨l,hl,ho,hb,h⟩)|⟨l,hl,ho,hb,h⟩)
  ·exact⟨l,hl,hb,.inl (.inl h)⟩
  ·have:=hc l hl ho
   exact⟨l,hl,hb,.inl (.inr (by omega))⟩
  ·have:=hc l hl ho
   exact⟨l,hl,hb,.inr (by omega)⟩
def Y1 (w:AJ) (A6 can:Int→Bool) (s:Int) (u:Nat×Nat):Option (Nat×Nat):=
 if A6 s&& !can s then none else some (if A6 s then u.1|||2 ^ (CZ w s).toNat else u.1,if can s then u.2 else u.2|||2 ^ (CZ w s).toNat)
def Ic (w:AJ) (A6 can:Int→Bool):List Int→Nat×Nat→Option (Nat×Nat)
 | [],u=>some u
 | s::r,u=>(Y1 w A6 can s u).bind (Ic w A6 can r)
def Z6 {w:AJ} {ls:List Fact} {a:Int} {p:List Int} {can A6:Int→Bool} (hn: ∀s,A6 s= !Fx ls a (p++[s])) {n:Nat} (how: ∀s:Int,0≤s→s<w.owner.length→3≤CZ w s∧CZ w s<n) :
    ∀(sl:List Int) {t:BB} {u:Nat×Nat},(∀s∈sl,0≤s∧s<w.owner.length)→RB n t u→
    (J3 w ls a p can sl t=none∧Ic w A6 can sl u=none)∨ ∃t' u',J3 w ls a p can sl t=some t'∧Ic w A6 can sl u=some u'∧RB n t' u'
 | [],t,u,_,h=> .inr ⟨t,u,rfl,rfl,h⟩
 | s ::r,t,u,hsl,h=>by
   have hs:=hsl s (.head _);have ho:=how s hs.1 hs.2;rw[J3,Ic,Uq,Y1,hn];obtain⟨h1,h2,h3,h4,h5,h6⟩:=h;split
   ·exact .inl ⟨rfl,rfl⟩
   ·rw[Option.bind_some,Option.bind_some]
    refine Z6 hn how r (fun x hx=>hsl x (.tail _ hx)) ?_;have hb: ∀i,i<3→(i==(CZ w s).toNat)=false:=fun i hi=>by rw[beq_eq_false_iff_ne];omega
    cases Fx ls a (p++[s])<;>cases can s<;>refine⟨by simpa using h1,by simpa using h2,fun b=>?_,fun b hb1 hb2=>?_,?_,?_⟩
    all_goals simp only[Bool.not_false,Bool.not_true,ML,if_true,if_false]
    all_goals first
     | exact h3 b
     | exact h4 b hb1 hb2
     | exact h5
     | exact h6
     | exact OG (by omega) (h3 b)
     | exact OG (by omega) (h4 b hb1 hb2)
     | (rw[Gd,h5,hb 1 (by omega)];rfl)
     | (rw[Gd,h6,hb 2 (by omega)];rfl)
def HR (m:Nat):Nat:=m - m % 2
def WA (m b:Nat):(HR m).testBit b=(m.testBit b&& !(b==0)):=by
 cases b with
 | zero=>
   simp[HR,Nat.testBit_zero];omega
 | succ b=>
   rw[Nat.testBit_succ,Nat.testBit_succ,HR,show(m - m % 2) / 2=m / 2 by omega];simp
def sK {w : AJ} (ho:ordered w.parents) {t:BB} {u:Nat×Nat} (h:RB (3+w.parents.length) t u) :
    (eR w t).isSome=(!u.2.testBit 0&&(HR (Dn (B9 w.parents) w.parents.length u.1)&&&u.2==0)):=by
 obtain⟨h1,h2,h3,h4,h5,h6⟩:=h;rw[eR,h4 0 (by decide) (by decide)];cases h0:u.2.testBit 0 with
 | true=>rfl
 | false =>
   rw[if_neg (by decide),Bool.not_false,EW];have hl:(t.1.set 0 false).length=3+w.parents.length:=by simpa using h1
   have G:=Yo ho hl;have F:=Qb ho u.1 w.parents.length
   have hS: ∀d,(t.1.set 0 false).getD d false=true↔d≠0∧u.1.testBit d=true:=fun d=>by
    rw[FE (by omega)];split
    ·rename_i e;subst e;simp
    ·rename_i e;rw[h3];exact⟨fun h=>⟨e,h⟩,fun h=>h.2⟩
   have hlt: ∀b,u.1.testBit b=true→b<3+w.parents.length:=fun b hb=>by
    rw[←h3]at hb;rcases Nat.lt_or_ge b (3+w.parents.length)with h'|h'
    ·exact h'
    ·rw[D9,List.getElem?_eq_none (by omega)]at hb;cases hb
   have h3b: ∀d,d≠0→u.1.testBit d=true→3≤d:=fun d hd hb=>by
    rcases d with _|_|_|d
    ·exact absurd rfl hd
    ·rw[h5]at hb;cases hb
    ·rw[h6]at hb;cases hb
    ·omega
   have hM: ∀b,(HR (Dn (B9 w.parents) w.parents.length u.1)).testBit b=true↔(C7 w.parents (3+w.parents.length) w.parents.length (t.1.set 0 false)).getD b false=true:=fun b=>by
    rw[WA,A9,F b (Ht _),G,Bool.not_eq_true',beq_eq_false_iff_ne];constructor
    ·rintro⟨h|⟨d,q1,q2,q3,q4⟩,hb⟩
     ·exact⟨b,(hS b).2 ⟨hb,h⟩,D2 ho b⟩
     ·rcases q4 with e|q4
      ·exact absurd e hb
      ·exact⟨d,(hS d).2 ⟨by omega,q3⟩,q4⟩
    ·rintro⟨d,hd,hu⟩
     obtain⟨hd0,hdu⟩:=(hS d).1 hd;have hd3:=h3b d hd0 hdu;have:=Sv ho d b hd3 hu;exact⟨.inr ⟨d,hd3,hlt d hdu,hdu,.inr hu⟩,by omega⟩
   have hany:((List.range (3+w.parents.length)).any fun c=>(C7 w.parents (3+w.parents.length) w.parents.length (t.1.set 0 false)).getD c false&&t.2.getD c false)= !(HR (Dn (B9 w.parents) w.parents.length u.1)&&&u.2==0):=by
    rw[Hu,Bool.not_eq_true',←Bool.not_eq_true,Pn,JR];constructor
    ·rintro⟨c,hc,hx⟩ hall
     rw[A9]at hx;have hm:=(hM c).2 hx.1;obtain⟨d,hd,hu⟩:=(G c).1 hx.1;obtain⟨hd0,hdu⟩:=(hS d).1 hd;have:=Sv ho d c (h3b d hd0 hdu) hu;exact hall c hm (by rw[←h4 c (by omega) (by omega)];exact hx.2)
    ·intro hne
     rcases Classical.em (∃b,(HR (Dn (B9 w.parents) w.parents.length u.1)).testBit b=true∧u.2.testBit b=true)with⟨b,hb1,hb2⟩|hno
     ·have hm:=(hM b).1 hb1
      obtain⟨d,hd,hu⟩:=(G b).1 hm;obtain⟨hd0,hdu⟩:=(hS d).1 hd;have:=Sv ho d b (h3b d hd0 hdu) hu;have:=fN ho d b hu;have:=hlt d hdu;exact⟨b,List.mem_range.2 (by omega),by rw[hm,h4 b (by omega) (by omega),hb2];rfl⟩
     ·exact absurd (fun b h1 h2=>hno ⟨b,h1,h2⟩) hne
   rw[hany];cases(HR (Dn (B9 w.parents) w.parents.length u.1)&&&u.2==0)<;>rfl
def N0 (w:AJ) (k:Kn) (A6 can:Int→Bool):Nat×Bool:=
 if k.whole||k.Ch.testBit 1||k.Ch.testBit 2||k.Gt.testBit 0 then(0,false)else
 match Ic w A6 can k.AK (k.Ch,k.Gt)with
 | none=>(0,false)
 | some u=>(HR (Dn (B9 w.parents) w.parents.length u.1),HR (Dn (B9 w.parents) w.parents.length u.1)&&&u.2==0)
def QW {w:AJ} {A6 can:Int→Bool} (how: ∀s:Int,0≤s→s<w.owner.length→3≤CZ w s): ∀(sl:List Int) {u u':Nat×Nat},(∀s∈sl,0≤s∧s<w.owner.length)→Ic w A6 can sl u=some u'→u'.2.testBit 0=u.2.testBit 0
 | [],u,u',_,h=>by cases h;rfl
 | s ::r,u,u',hsl,h=>by
   have hs:=hsl s (.head _);have ho:=how s hs.1 hs.2;rw[Ic,Y1]at h;split at h
   ·cases h
   ·rw[Option.bind_some]at h
    rw[QW how r (fun x hx=>hsl x (.tail _ hx)) h];simp only;split
    ·rfl
    ·rw[Gd]
     have:(0==(CZ w s).toNat)=false:=by rw[beq_eq_false_iff_ne];omega
     rw[this,Bool.or_false]
def oq {w:AJ} {ls:List Fact} {a:Int} {p:List Int} {can A6:Int→Bool} (ho:ordered w.parents) (how: ∀s:Int,0≤s→s<w.owner.length→3≤CZ w s∧CZ w s<3+w.parents.length) (hc:I0 (3+w.parents.length) ls) (hp:H3 w.owner.length ls) (hn: ∀s,A6 s= !Fx ls a (p++[s])) :
    (N0 w (kn ls a p) A6 can).2=(UX w ls a p can).isSome:=by
 have hcore:=OQ ls a p;have hsl:=Lp hp a p;generalize kn ls a p=k at *;have hc2:I0 (3+w.parents.length) (ls.filter (NN a p)):=fun l hl=>hc l (JS.1 hl).1
 simp only[FR,Prod.mk.injEq]at hcore;obtain⟨-,-,-,c4,c5,c6⟩:=hcore;rw[N0,UX,c4,c5,c6,←kD hc2,hsl]
 have hR0:RB (3+w.parents.length) (tO w) (k0.Ch,k0.Gt):=by
  refine⟨by simp[tO],by simp[tO],fun b=>?_,fun b _ _=>?_,rfl,rfl⟩<;>
  ·simp only[tO,k0,Nat.zero_testBit,D9,List.getElem?_replicate]
   split<;>rfl
 obtain⟨f1,f2⟩:=SA _ hR0 hc2;cases hbad:(ls.filter (NN a p)).any fun l=>Ss (BA l)with
 | true=>rw[f1 hbad];rfl
 | false=>
   obtain⟨t,ht,G⟩:=f2 hbad;rw[ht,Option.bind_some,Bool.false_or];have hin: ∀s∈Dz w.owner.length ls a p,0≤s∧s<(w.owner.length:Int):=fun s hs=>Mw hs
   rcases Z6 (can:=can) hn (fun s h0 h1=>by have:=how s h0 h1;omega) (Dz w.owner.length ls a p) hin G with⟨e1,e2⟩|⟨t',u',e1,e2,hR'⟩
   ·rw[e1,e2]
    split<;>rfl
   ·rw[e1,e2,Option.bind_some,sK ho hR']
    have:=QW (fun s h0 h1=>(how s h0 h1).1) _ hin e2;rw[this];simp only;cases((E0 (ls.filter (NN a p)) k0).Gt.testBit 0)<;>rfl
end Go.Gl
namespace Go.Gl
abbrev Ek (a:Int) (p:List Int):V:= .a [eI a,eI (p.length:Int),eI (p.getD 0 0),eI (p.getD 1 0)]
structure DJ where
 a:Int
 p:List Int
 b:Nat
 vn:V
 vs:V
 k:Kn
abbrev DJ.is (e:DJ) (a:Int) (p:List Int):Bool:=e.a==a&&e.p==p
abbrev y8 (b:Nat) (vn vs:V) (k:Kn):At:= .box b [eI k.low,eI k.high,vn,eU k.Ch,eU k.Gt,.b k.whole,.b k.A6,vs]
abbrev qP (b:Nat) (vn vs:V) (k:Kn):List At:=[y8 b vn vs k,.own vn 1 (iL k.no),.own vs 1 (iL k.AK)]
abbrev U2 (e:DJ):List At:=qP e.b e.vn e.vs e.k
def W7 (es:List DJ):List (V×V):=es.map fun e=>(Ek e.a e.p,.p e.b 0)
def CJ (L:Nat) (es:List DJ):List At:= .map L (W7 es)::es.flatMap U2
def HU (L:Nat) (es pre post:List DJ):List At:= .map L (W7 es)::(pre++post).flatMap U2
def KX {e:DJ} {a:Int} {p:List Int}:e.is a p=true↔e.a=a∧e.p=p:=by simp[DJ.is]
def OR {e:DJ} {a:Int} {p:List Int}:e.is a p=false↔ ¬(e.a=a∧e.p=p):=by rw[←KX,Bool.not_eq_true]
def S6 {a a':Int} {p p':List Int} (h:p.length≤2) (h':p'.length≤2):En (Ek a p) (Ek a' p')=(a==a'&&p==p'):=by
 have e:En (Ek a p) (Ek a' p')=(a==a'&&((p.length:Int)==p'.length&&(p.getD 0 0==p'.getD 0 0&&(p.getD 1 0==p'.getD 1 0)))):=by
  simp[En,B1,Ek]
 rw[e];congr 1
 match p,h,p',h' with
 | [],_,[],_=>rfl
 | [],_,[_],_=>simp
 | [],_,[_,_],_=>simp<;>omega
 | [_],_,[],_=>simp
 | [x],_,[y],_=>simp
 | [_],_,[_,_],_=>simp<;>omega
 | [_,_],_,[],_=>simp<;>omega
 | [_,_],_,[_],_=>simp<;>omega
 | [x,y],_,[z,u],_=>simp
def Pd (es:List DJ): ∀kv∈W7 es,BW (.a [.i64,.i64,.i64,.i64]) kv.1=true:=by
 intro kv h;obtain⟨e,_,rfl⟩:=KE.1 h;rfl
def Vr {a:Int} {p:List Int} (hp:p.length≤2): ∀ {es:List DJ},(∀e∈es,e.p.length≤2)→(∀e∈es,e.is a p=false)→C6 (Ek a p) (W7 es)=none
 | [],_,_=>rfl
 | e ::r,hl,h=>by
   have he:=h e (.head _);rw[W7,Ct,C6,S6 hp (hl e (.head _))]
   have:(a==e.a&&p==e.p)=false:=by
    rw[←he,DJ.is,Hu];simp only[A9,DK];exact⟨fun⟨h1,h2⟩=>⟨h1.symm,h2.symm⟩,fun⟨h1,h2⟩=>⟨h1.symm,h2.symm⟩⟩
   rw[this,cond_false];exact Vr hp (fun x hx=>hl x (.tail _ hx)) (fun x hx=>h x (.tail _ hx))
def fp {a:Int} {p:List Int} (hp:p.length≤2) (b:Nat) (vn vs:V) (k:Kn): ∀ {es:List DJ},(∀e∈es,e.p.length≤2)→(∀e∈es,e.is a p=false)→Em (Ek a p) (.p b 0) (W7 es)=W7 (es++[⟨a,p,b,vn,vs,k⟩])
 | [],_,_=>rfl
 | e ::r,hl,h=>by
   have he:=h e (.head _);have ih:=fp hp b vn vs k (fun x hx=>hl x (.tail _ hx)) (fun x hx=>h x (.tail _ hx));simp only[W7]at ih;rw[W7,Ct,Em,S6 hp (hl e (.head _))]
   have:(a==e.a&&p==e.p)=false:=by
    rw[←he,DJ.is,Hu];simp only[A9,DK];exact⟨fun⟨h1,h2⟩=>⟨h1.symm,h2.symm⟩,fun⟨h1,h2⟩=>⟨h1.symm,h2.symm⟩⟩
   rw[this,cond_false,ih];rfl
def Vq {a:Int} {p:List Int} (hp:p.length≤2) {e:DJ} (he:e.is a p=true) {post:List DJ}: ∀ {pre:List DJ},(∀x∈pre++e::post,x.p.length≤2)→(∀x∈pre,x.is a p=false)→C6 (Ek a p) (W7 (pre++e::post))=some (.p e.b 0)
 | [],hl,_=>by
   rw[List.nil_append,W7,Ct,C6,S6 hp (hl e (.head _))];obtain⟨h1,h2⟩:=KX.1 he;rw[h1,h2];simp
 | x ::r,hl,h=>by
   have hx:=h x (.head _);rw[List.cons_append,W7,Ct,C6,S6 hp (hl x (.head _))]
   have:(a==x.a&&p==x.p)=false:=by
    rw[←hx,DJ.is,Hu];simp only[A9,DK];exact⟨fun⟨h1,h2⟩=>⟨h1.symm,h2.symm⟩,fun⟨h1,h2⟩=>⟨h1.symm,h2.symm⟩⟩
   rw[this,cond_false];exact Vq hp he (fun y hy=>hl y (.tail _ hy)) (fun y hy=>h y (.tail _ hy))
def og (a : Int) (p:List Int): ∀(es:List DJ),(∀e∈es,e.is a p=false)∨ ∃pre e post,es=pre++e::post∧e.is a p=true∧ ∀x∈pre,x.is a p=false
 | []=> .inl fun _ h=>by cases h
 | e ::r=>by
   cases h:e.is a p with
   | true=>exact .inr ⟨[],e,r,rfl,h,fun _ h=>by cases h⟩
   | false=>
     rcases og a p r with h1|⟨pre,x,post,rfl,h1,h2⟩
     ·exact .inl fun x hx=>by
       rcases F7.1 hx with rfl|hx
       ·exact h
       ·exact h1 x hx
     ·exact .inr ⟨e::pre,x,post,rfl,h1,fun y hy=>by
       rcases F7.1 hy with rfl|hy
       ·exact h
       ·exact h2 y hy⟩
def Vw (L:Nat) (pre post:List DJ) (e:DJ):(CJ L (pre++e::post)).Perm (U2 e++HU L (pre++e::post) pre post):=by
 unfold CJ HU;rw[List.flatMap_append,List.flatMap_cons,List.flatMap_append];refine List.Perm.trans ?_ (List.perm_middle.symm);refine List.Perm.cons _ ?_;rw[←W5,←W5];exact List.Perm.append_right _ UB
def YN {pre post:List DJ} {e e':DJ} (h1:e'.a=e.a) (h2:e'.p=e.p) (h3:e'.b=e.b):W7 (pre++e'::post)=W7 (pre++e::post):=by
 simp only[W7,Qn,Ct,h1,h2,h3]
def Ty {L:Nat} {pre post:List DJ} {e e':DJ} (h1:e'.a=e.a) (h2:e'.p=e.p) (h3:e'.b=e.b):HU L (pre++e'::post) pre post=HU L (pre++e::post) pre post:=by
 rw[HU,HU,YN h1 h2 h3]
structure EB (kf:Int→List Int→Kn) (es:List DJ):Prop where
 val: ∀e∈es,e.k=kf e.a e.p
 UF: ∀a p,(∀e∈es,e.is a p=false)→kf a p=k0
 one:es.Pairwise fun e e'=>e.is e'.a e'.p=false
 len: ∀e∈es,e.p.length≤2
def RT (es:List DJ):Prop:= ∀e∈es,∀s∈e.k.AK,∃e'∈es,e'.is e.a (e.p++[s])=true
def EB.congr {kf kf':Int→List Int→Kn} {es:List DJ} (h:EB kf es) (e: ∀a p,kf a p=kf' a p):EB kf' es:=
 ⟨fun x hx=>(h.val x hx).trans (e _ _),fun a p hp=>(e a p).symm.trans (h.UF a p hp),h.one,h.len⟩
def EB.add {kf:Int→List Int→Kn} {es:List DJ} (h:EB kf es) {a:Int} {p:List Int} (hp:p.length≤2) (hn: ∀e∈es,e.is a p=false) (b:Nat) (vn vs:V):EB kf (es++[⟨a,p,b,vn,vs,k0⟩]):=by
 refine⟨fun x hx=>?_,fun a' p' h'=>h.UF a' p' fun x hx=>h' x (Sa _ hx),?_,fun x hx=>?_⟩
 ·rcases FK.1 hx with hx|hx
  ·exact h.val x hx
  ·rw[Nx.1 hx];exact(h.UF a p hn).symm
 ·rw[List.pairwise_append]
  exact⟨h.one,List.pairwise_singleton _ _,fun x hx y hy=>by rw[Nx.1 hy];exact hn x hx⟩
 ·rcases FK.1 hx with hx|hx
  ·exact h.len x hx
  ·rw[Nx.1 hx];exact hp
def RT.add {es:List DJ} (h:RT es) {a:Int} {p:List Int} (b:Nat) (vn vs:V):RT (es++[⟨a,p,b,vn,vs,k0⟩]):=by
 intro e he s hs;rcases FK.1 he with he|he
 ·obtain⟨e',h1,h2⟩:=h e he s hs
  exact⟨e',Sa _ h1,h2⟩
 ·rw[Nx.1 he]at hs
  cases hs
def UU (kf:Int→List Int→Kn) (a:Int) (p:List Int) (k:Kn):Int→List Int→Kn:=fun a' p'=>if a'=a∧p'=p then k else kf a' p'
def EB.change {kf:Int→List Int→Kn} {pre post:List DJ} {e:DJ} (h:EB kf (pre++e::post)) (b:Nat) (vn vs:V) (k:Kn):EB (UU kf e.a e.p k) (pre++⟨e.a,e.p,b,vn,vs,k⟩::post):=by
 have h1:=h.one;rw[List.pairwise_append,List.pairwise_cons]at h1;obtain⟨o1,⟨o2,o3⟩,o4⟩:=h1;refine⟨fun x hx=>?_,fun a p hp=>?_,?_,fun x hx=>?_⟩
 ·rw [UU]
  rcases FK.1 hx with hx|hx
  ·rw[if_neg]
   ·exact h.val x (Sa _ hx)
   ·have:=o4 x hx e (.head _)
    rw[OR]at this;exact this
  ·rcases F7.1 hx with rfl|hx
   ·rw[if_pos ⟨rfl,rfl⟩]
   ·rw[if_neg]
    ·exact h.val x (UO _ (.tail _ hx))
    ·have:=o2 x hx
     rw[OR]at this;exact fun⟨q1,q2⟩=>this ⟨q1.symm,q2.symm⟩
 ·have he:=OR.1 (hp _ (UO _ (.head _)))
  rw[UU,if_neg (fun⟨q1,q2⟩=>he ⟨q1.symm,q2.symm⟩)];refine h.UF a p fun x hx=>?_
  rcases FK.1 hx with hx|hx
  ·exact hp x (Sa _ hx)
  ·rcases F7.1 hx with rfl|hx
   ·exact OR.2 he
   ·exact hp x (UO _ (.tail _ hx))
 ·rw[List.pairwise_append,List.pairwise_cons]
  refine⟨o1,⟨o2,o3⟩,fun x hx y hy=>?_⟩;rcases F7.1 hy with rfl|hy
  ·exact o4 x hx e (.head _)
  ·exact o4 x hx y (.tail _ hy)
 ·rcases FK.1 hx with hx|hx
  ·exact h.len x (Sa _ hx)
  ·rcases F7.1 hx with rfl|hx
   ·exact h.len e (UO _ (.head _))
   ·exact h.len x (UO _ (.tail _ hx))
def RT.change {pre post:List DJ} {e:DJ} (h:RT (pre++e::post)) (b:Nat) (vn vs:V) (k:Kn) (hs: ∀s∈k.AK,s∈e.k.AK∨ ∃e'∈pre++e::post,e'.is e.a (e.p++[s])=true):RT (pre++⟨e.a,e.p,b,vn,vs,k⟩::post):=by
 have mov: ∀ {a p},(∃e'∈pre++e::post,e'.is a p=true)→ ∃e'∈pre++(⟨e.a,e.p,b,vn,vs,k⟩:DJ)::post,e'.is a p=true:=by
  rintro a p ⟨x,hx,h'⟩;rcases FK.1 hx with hx|hx
  ·exact⟨x,Sa _ hx,h'⟩
  ·rcases F7.1 hx with rfl|hx
   ·exact⟨_,UO _ (.head _),h'⟩
   ·exact⟨x,UO _ (.tail _ hx),h'⟩
 intro x hx s hxs;rcases FK.1 hx with hx|hx
 ·exact mov (h x (Sa _ hx) s hxs)
 ·rcases F7.1 hx with rfl|hx
  ·rcases hs s hxs with h'|h'
   ·exact mov (h e (UO _ (.head _)) s h')
   ·exact mov h'
  ·exact mov (h x (UO _ (.tail _ hx)) s hxs)
def Dr (f:Fact) (c:Bool) (j:Nat) (a:Int) (p:List Int) (k:Kn):Kn:=
 if f.arg=a∧CH f.path p=true then(if p.length<j then kO (Dx k c) (f.path.getD p.length 0)else if p.length=j then Dx k c else k)else k
def Nu {path p:List Int}:CH path p=true↔p.length≤path.length∧p=path.take p.length:=by
 rw[Cd];constructor
 ·rintro⟨t,rfl⟩
  exact⟨by simp,by simp⟩
 ·rintro⟨h1,h2⟩
  exact⟨path.drop p.length,by conv=>rhs;rw[h2,Ny,Nat.min_eq_left h1,List.take_append_drop]⟩
def mX (f:Fact) (c:Bool) (a:Int) (p:List Int) (k:Kn):Dr f c 0 a p k=if a=f.arg∧p= []then Dx k c else k:=by
 unfold Dr;by_cases h:f.arg=a∧CH f.path p=true
 ·rw[if_pos h,if_neg (by omega)]
  by_cases hp:p.length=0
  ·rw[if_pos hp,if_pos ⟨h.1.symm,W4.1 hp⟩]
  ·rw[if_neg hp,if_neg (fun h'=>hp (by rw[h'.2];rfl))]
 ·rw[if_neg h,if_neg]
  rintro⟨rfl,rfl⟩;exact h ⟨rfl,Cd.2 ⟨f.path,by simp⟩⟩
def mY (f:Fact) (c:Bool) {j:Nat} (hj:j<f.path.length) (a:Int) (p:List Int) (k:Kn):Dr f c (j+1) a p k=if a=f.arg∧p=f.path.take (j+1)then Dx (Dr f c j a p k) c else if a=f.arg∧p=f.path.take j then kO (Dr f c j a p k) (f.path.getD j 0)else Dr f c j a p k:=by
 unfold Dr;by_cases h:f.arg=a∧CH f.path p=true
 ·rw [if_pos h,if_pos h]
  obtain⟨h1,h2⟩:=h;rw[Nu]at h2;obtain⟨h2,h3⟩:=h2;have l1:p=f.path.take (j+1)↔p.length=j+1:=⟨fun e=>by rw[e,Ny];omega,fun e=>by rw[e]at h3;exact h3⟩
  have l2:p=f.path.take j↔p.length=j:=⟨fun e=>by rw[e,Ny];omega,fun e=>by rw[e]at h3;exact h3⟩
  have n1:p.length≠j+1→ ¬(a=f.arg∧p=f.path.take (j+1)):=fun h h'=>h (l1.1 h'.2)
  have n2:p.length≠j→ ¬(a=f.arg∧p=f.path.take j):=fun h h'=>h (l2.1 h'.2)
  by_cases q1:p.length<j
  ·rw[if_pos (show p.length<j+1 by omega),if_neg (n1 (by omega)),if_neg (n2 (by omega)),if_pos q1]
  ·by_cases q2:p.length=j
   ·rw[if_pos (show p.length<j+1 by omega),if_neg (n1 (by omega)),if_pos (show a=f.arg∧p=f.path.take j from⟨h1.symm,l2.2 q2⟩),if_neg q1,if_pos q2,q2]
   ·by_cases q3:p.length=j+1
    ·rw[if_neg (show¬p.length<j+1 by omega),if_pos q3,if_pos (show a=f.arg∧p=f.path.take (j+1) from⟨h1.symm,l1.2 q3⟩),if_neg q1,if_neg q2]
    ·rw[if_neg (show¬p.length<j+1 by omega),if_neg q3,if_neg (n1 q3),if_neg (n2 q2),if_neg q1,if_neg q2]
 ·rw[if_neg h,if_neg h,if_neg,if_neg]
  ·rintro⟨rfl,rfl⟩
   exact h ⟨rfl,Cd.2 ⟨f.path.drop j,by rw[List.take_append_drop]⟩⟩
  ·rintro⟨rfl,rfl⟩
   exact h ⟨rfl,Cd.2 ⟨f.path.drop (j+1),by rw[List.take_append_drop]⟩⟩
def rz (a : Int) (p:List Int) (k:Kn) (l:Fact):DS a p k l=if a=(BA l).1.arg∧p=(BA l).1.path then C2 (Dr (BA l).1 (BA l).2 (BA l).1.path.length a p k) (BA l).1 (BA l).2 else Dr (BA l).1 (BA l).2 (BA l).1.path.length a p k:=by
 unfold DS Dr;by_cases h:(BA l).1.arg=a∧CH (BA l).1.path p=true
 ·rw [if_pos h,if_pos h]
  obtain⟨h1,h2⟩:=h;rw[Nu]at h2;obtain⟨h2,h3⟩:=h2;by_cases hp:(BA l).1.path=p
  ·rw[if_pos hp,if_pos ⟨h1.symm,hp.symm⟩,if_neg (by rw[hp];omega),if_pos (by rw[hp])]
  ·have hne:p.length<(BA l).1.path.length:=by
    rcases Nat.lt_or_ge p.length (BA l).1.path.length with h'|h'
    ·exact h'
    ·rw[List.take_of_length_le h']at h3
     exact absurd h3.symm hp
   rw[if_neg hp,if_neg (fun h=>hp h.2.symm),if_pos hne]
 ·rw[if_neg h,if_neg h,if_neg]
  rintro⟨rfl,rfl⟩;exact h ⟨rfl,Nv _⟩
def ma (ls:List Fact) (l:Fact) (a:Int) (p:List Int):kn (ls++[l]) a p=DS a p (kn ls a p) l:=by
 rw[kn,List.foldl_append];rfl
def SU (l:List Int) (s:Int):(JB l s).length≤l.length+1:=by
 unfold JB;split
 ·omega
 ·rw[List.length_mergeSort];simp
def Ys (k:Kn) (f:Fact) (b:Bool):(C2 k f b).no.length≤k.no.length+1:=by
 unfold C2
 repeat' split
 all_goals simp
def ft (a:Int) (p:List Int): ∀(ls:List Fact) (k:Kn),(ls.foldl (DS a p) k).no.length≤k.no.length+ls.length∧(ls.foldl (DS a p) k).AK.length≤k.AK.length+ls.length
 | [],k=>⟨Ht _,Ht _⟩
 | l ::r,k=>by
   obtain⟨h1,h2⟩:=ft a p r (DS a p k l)
   have h3:(DS a p k l).no.length≤k.no.length+1∧(DS a p k l).AK.length≤k.AK.length+1:=by
    unfold DS
    repeat' split
    ·have:=Ys (Dx k (BA l).2) (BA l).1 (BA l).2
     rw[SM];simp only[Dx]at this ⊢;omega
    ·have:=SU k.AK ((BA l).1.path.getD p.length 0)
     simp only[kO,Dx]at this ⊢;omega
    ·omega
   rw[List.foldl_cons,K1];omega
def mb {n:Nat} {ls:List Fact} (h:I0 n ls) (a:Int) (p:List Int):(kn ls a p).Ch<2 ^ n∧(kn ls a p).Gt<2 ^ n:=by
 have hc:=OQ ls a p;simp only[FR,Prod.mk.injEq]at hc;have hc2:I0 n (ls.filter (NN a p)):=fun l hl=>h l (JS.1 hl).1
 rw[hc.2.2.2.1,hc.2.2.2.2.1];exact⟨TY hc2,rK hc2⟩
end Go.Gl
namespace Go.Gl
def HM (no:List Int):Nat→Int→Int
 | 0,n=>n
 | k+1,n=>if no.contains n then HM no k (n+1)else n
def from_ (no:List Int) (n:Int):Nat:=(no.filter fun x=>decide (n≤x)).length
def Tj {no:List Int} {n:Int} (h:n∈no):from_ no (n+1)<from_ no n:=by
 induction no with
 | nil=>cases h
 | cons x r ih=>
   simp only[from_,List.filter_cons]at ih ⊢;by_cases hx:x=n
   ·subst hx
    have hle:(r.filter fun y=>decide (x+1≤y)).length≤(r.filter fun y=>decide (x≤y)).length:=by
     refine List.Sublist.length_le ?_
     have e:(r.filter fun y=>decide (x+1≤y))=(r.filter fun y=>decide (x≤y)).filter fun y=>decide (x+1≤y):=by
      rw[List.filter_filter];refine List.filter_congr fun y _=>?_
      rw[Hu,A9,Cf,Cf];omega
     rw[e];exact List.filter_sublist
    rw[if_neg (by simp<;>omega),if_pos (by simp),K1];omega
   ·have h':n∈r:=by
     rcases F7.1 h with e|e
     ·exact absurd e.symm hx
     ·exact e
    have:=ih h';by_cases h1:n≤x
    ·rw[if_pos (by rw[Cf];omega),if_pos (by rw[Cf];omega),K1,K1]
     omega
    ·rw[if_neg (by rw[Cf];omega),if_neg (by rw[Cf];omega)]
     omega
def Z3 (no:List Int) (n:Int):from_ no n≤no.length:=Q7 _ _
def L0 {no:List Int}: ∀(k:Nat) (n:Int),from_ no n≤k→n≤HM no k n∧HM no k n∉no∧ ∀j,n≤j→j<HM no k n→j∈no
 | 0,n,h=>by
   refine⟨Int.le_refl _,fun hm=>?_,fun j h1 h2=>by simp only[HM]at h2;omega⟩;have:=Tj hm;simp only[HM]at this;omega
 | k + 1,n,h=>by
   rw[HM];split
   ·rename_i hc
    rw[List.contains_iff_mem]at hc;have hlt:=Tj hc;obtain⟨h1,h2,h3⟩:=L0 (no:=no) k (n+1) (by omega);refine⟨by omega,h2,fun j hj1 hj2=>?_⟩;by_cases e:j=n
    ·subst e;exact hc
    ·exact h3 j (by omega) hj2
   ·rename_i hc
    exact⟨Int.le_refl _,fun hm=>hc (List.contains_iff_mem.2 hm),fun j h1 h2=>by omega⟩
def vd {no:List Int} {k:Nat} {n:Int} (h:n∈no):HM no (k+1) n=HM no k (n+1):=by rw[HM,if_pos (List.contains_iff_mem.2 h)]
def oH {no:List Int} {k:Nat} {n:Int} (h:n∉no):HM no k n=n:=by
 cases k with
 | zero=>rfl
 | succ k=>rw[HM,if_neg (fun hc=>h (List.contains_iff_mem.1 hc))]
def aZ {no:List Int} {k k':Nat} {n:Int} (h:from_ no n≤k) (h':from_ no n≤k'):HM no k n=HM no k' n:=by
 obtain⟨a1,a2,a3⟩:=L0 k n h;obtain⟨b1,b2,b3⟩:=L0 k' n h';rcases Int.lt_trichotomy (HM no k n) (HM no k' n)with hl|he|hg
 ·exact absurd (b3 _ a1 hl) a2
 ·exact he
 ·exact absurd (a3 _ b1 hg) b2
def KU (k:Kn):Int:=HM k.no k.no.length k.low
def Oy (kf:Int→List Int→Kn) (a:Int) (p:List Int):Bool:=(kf a p).AK.all fun s=> !(kf a (p++[s])).A6
def H2 (kf:Int→List Int→Kn) (a:Int) (p:List Int) (c:Nat):Bool:=Qs (kf a p).Ch (1|||2 ^ c)&&((kf a p).Gt&&&(1|||2 ^ c)==0&&Oy kf a p)
def Sl (kf:Int→List Int→Kn) (a:Int) (p:List Int):Bool:=decide (KU (kf a p)≤(kf a p).high)&&H2 kf a p 1
def LD (kf:Int→List Int→Kn) (a:Int) (p:List Int):Bool:= !(kf a p).whole&&H2 kf a p 2
def N4 (w:AJ) (kf:Int→List Int→Kn) (a:Int):Nat→List Int→Bool
 | 0,p=>Sl kf a p||(LD kf a p||(N0 w (kf a p) (fun s=>(kf a (p++[s])).A6) (fun _=>false)).2)
 | d+1,p=>Sl kf a p||(LD kf a p||(N0 w (kf a p) (fun s=>(kf a (p++[s])).A6) (fun s=>N4 w kf a d (p++[s]))).2)
def dy (w:AJ) (kf:Int→List Int→Kn):Bool:=(Bk 3).all fun a=>N4 w kf a 2 []
def aD {n:Nat} {ls:List Fact} (h:H3 n ls) (a:Int) (p:List Int):Oy (kn ls) a p=J7 n ls a p:=by
 rw[Oy,J7,Lp h];congr 1;funext s;rw[M9,Bool.not_not]
def fu {n m:Nat} {ls:List Fact} (hn:n≤64) (hc:I0 n ls) (h:H3 m ls) (a:Int) (p:List Int):Sl (kn ls) a p=((Ud ls a p).isSome&&J7 m ls a p):=by
 have hcore:=OQ ls a p;have hc2:I0 n (ls.filter (NN a p)):=fun l hl=>hc l (JS.1 hl).1
 simp only[FR,Prod.mk.injEq]at hcore;obtain⟨c1,c2,c3,c4,c5,-⟩:=hcore;rw[Sl,H2,aD h,c4,c5,←Bool.and_assoc (Qs _ _),bu hn hc2,←Bool.and_assoc];congr 1;have hf:=SB (ls.filter (NN a p)) k0;rw[Ud,show t0=(k0.low,k0.high,k0.no) from rfl,hf,KU,c2,c3,c1];obtain⟨h1,h2,h3⟩:=L0 (no:=(E0 (ls.filter (NN a p)) k0).no) _ (E0 (ls.filter (NN a p)) k0).low (Z3 _ _);have hs:=iT (high:=(E0 (ls.filter (NN a p)) k0).high) h1 h2 h3;cases(ls.filter (NN a p)).all fun l=>pj (BA l)with
 | false=>simp
 | true=>rw[if_pos rfl,Option.bind_some,hs,Bool.and_true]
def Zk {n m:Nat} {ls:List Fact} (hn:n≤64) (hc:I0 n ls) (h:H3 m ls) (a:Int) (p:List Int):LD (kn ls) a p=Oq m ls a p:=by
 have hcore:=OQ ls a p;have hc2:I0 n (ls.filter (NN a p)):=fun l hl=>hc l (JS.1 hl).1
 simp only[FR,Prod.mk.injEq]at hcore;obtain⟨-,-,-,c4,c5,c6⟩:=hcore;rw[LD,H2,aD h,c4,c5,c6,Oq,←YJ hn hc2];simp only[Bool.and_assoc]
def gj {w:AJ} {ls:List Fact} (ho:ordered w.parents) (how: ∀s:Int,0≤s→s<w.owner.length→3≤CZ w s∧CZ w s<3+w.parents.length) (hn:3+w.parents.length≤64) (hc:I0 (3+w.parents.length) ls) (hp:H3 w.owner.length ls) (a:Int): ∀(d:Nat) (p:List Int),N4 w (kn ls) a d p=Sq w ls a d p
 | 0,p=>by
   rw[N4,Sq,fu hn hc hp,Zk hn hc hp,oq ho how hc hp fun s=>M9 ls a (p++[s])]
 | d+1,p=>by
   rw[N4,Sq,fu hn hc hp,Zk hn hc hp,oq ho how hc hp fun s=>M9 ls a (p++[s])];have e:(fun s=>N4 w (kn ls) a d (p++[s]))=fun s=>Sq w ls a d (p++[s]):=funext fun s=>gj ho how hn hc hp a d (p++[s])
   rw[e]
def qd {w:AJ} {ls:List Fact} (ho:ordered w.parents) (how: ∀s:Int,0≤s→s<w.owner.length→3≤CZ w s∧CZ w s<3+w.parents.length) (hn:3+w.parents.length≤64) (hc:I0 (3+w.parents.length) ls) (hp:H3 w.owner.length ls):dy w (kn ls)=Jt w ls:=by
 rw[dy,Jt];congr 1;funext a;exact gj ho how hn hc hp a 2 []
end Go.Gl
namespace Go.Gl
open Go.Proofs
attribute [local irreducible] A7 Ap Af AT AM Ae AS AU AL Ad AO AP Aw A1 Sat AX Az Ah W
section
variable {S:Type} (g:FuncId) (fi ca:List V) (H:S→List At) (f:Int→Bool) (J:S→Prop) (D:Int→Prop)
def Q5 {v:V} {xs:List Int} (hst:Na Tryz.prog (.f (.func g) fi ca) eI (fun s=> .own v 1 (iL xs)::H s) f J D) (hD: ∀x∈xs,D x) (hxl:xs.length≤Aj) (s0:S) (hj0:J s0) :
    B3 Tryz.prog 117 [v,.f (.func g) fi ca] (.own v 1 (iL xs)::H s0) fun r post=>r= .ret (eI (NY f xs 0))∧ ∃s',J s'∧post= .own v 1 (iL xs)::H s':=by
 intro σ hs;have hM:=Mx;refine gb kZ ?_
 conv=>whnf
 repeat'((first|apply st|(apply sq;intro K U)|(apply si;intro A B Y Z)|(apply Y;clear Z B Y A)|(apply U;clear U K)|refine lo ?_|fail)<;>conv=>whnf)
 refine C3 xs.length (fun k (_:S)=>[(8,eI (Bc k))]) (fun _ s=> .own v 1 (iL xs)::H s) (fun k s=>J s∧NY f xs 0=NY f (xs.drop k) k) s0 rfl ⟨hj0,rfl⟩ hs ?_;clear hs hj0;rintro k s σ hk ⟨hj,hn⟩ hs;have hck:Bc k=k:=AN (by omega);rcases BU xs hk with⟨y,hy,hlt⟩|hke
 ·rw[drop_cons hy]at hn
  have hDy:=hD y (DL hy);rw[NY]at hn
  conv=>whnf
  repeat'((first|apply st|(apply sq;intro K U)|(apply si;intro A B Y Z)|(apply Y;clear Z B Y A)|(apply U;clear U K)|refine⟨rfl,?_⟩|refine oi ?_|refine ol fun x hx=>?_|(refine DR (fun hc=>?_)<;>(try rw[hc])<;>clear hc)|fail)<;>conv=>whnf)
  obtain rfl:x=y:=by rw[hck,MH,hy]at hx;exact(Option.some.inj hx).symm
  refine hst.use hDy hj hs ?_;clear hs hj;intro s σ hj hs;cases hyes:f x
  ·rw[hyes,if_neg (by decide)]at hn
   conv=>whnf
   repeat'((first|apply st|(apply si;intro A B Y Z)|(apply Y;clear Z B Y A)|(apply U;clear U K)|refine⟨rfl,?_⟩|clear U K)<;>conv=>whnf)
   exact⟨hlt,_,rfl,⟨hj,hn⟩,hs⟩
  ·rw[hyes,if_pos rfl]at hn
   conv=>whnf
   repeat'((first|apply st|(apply sq;intro K U)|(apply si;intro A B Y Z)|(apply Y;clear Z B Y A)|(apply U;clear U K)|clear U K)<;>conv=>whnf)
   rw[hn];exact AW ⟨_,⟨by rw[hck],s,hj,rfl⟩,hs⟩
 ·rw[Au hke,NY]at hn
  conv=>whnf
  repeat'((first|apply st|(apply sq;intro K U)|(apply si;intro A B Y Z)|(apply Y;clear Z B Y A)|(apply U;clear U K)|refine⟨rfl,?_⟩|(refine Ew (fun hc=>?_)<;>(try rw[hc])<;>clear hc)|clear U K)<;>conv=>whnf)
  rw[hn];exact AW ⟨_,⟨rfl,s,hj,rfl⟩,hs⟩
def OA {v:V} {xs:List Int} (hst:Na Tryz.prog (.f (.func g) fi ca) eI (fun s=> .own v 1 (iL xs)::H s) f J D) (hD: ∀x∈xs,D x) (hxl:xs.length≤Aj) (s0:S) (hj0:J s0) :
    B3 Tryz.prog 49 [v,.f (.func g) fi ca] (.own v 1 (iL xs)::H s0) fun r post=>r= .ret (.b (xs.any f))∧ ∃s',J s'∧post= .own v 1 (iL xs)::H s':=by
 intro σ hs;refine pM kZ ?_
 conv=>whnf
 repeat'((first|(apply sq;intro K U)|(apply si;intro A B Y Z)|(apply Y;clear Z B Y A)|(apply U;clear U K)|fail)<;>conv=>whnf)
 refine(Q5 g fi ca H f J D hst hD hxl s0 hj0).use (rest:=[]) (by simpa using hs) ?_;rintro r post σ ⟨rfl,s',hj,rfl⟩ hs
 conv=>whnf
 repeat'((first|apply st|(apply Y;clear Z B Y A)|(apply U;clear U K)|refine⟨rfl,?_⟩|fail)<;>conv=>whnf)
 exact AW ⟨_,⟨by rw[←V4 f xs 0],s',hj,rfl⟩,by simpa using hs⟩
def mQ {v:V} {xs:List Int} (hst:Na Tryz.prog (.f (.func g) fi ca) eI (fun s=> .own v 1 (iL xs)::H s) f J D):Na Tryz.prog (.f (.func 301) [] [.rp [.f (.func g) fi ca]]) eI (fun s=> .own v 1 (iL xs)::H s) (fun y=> !f y) J D:=by
 intro y s hd hj σ hs;refine Bg ?_;show A7 Tryz.prog 301 ([]++[eI y]++[.rp [.f (.func g) fi ca]]) σ _;refine gO kZ ?_
 conv=>whnf
 repeat'((first|apply st|(apply sq;intro K U)|(apply si;intro A B Y Z)|(apply Y;clear Z B Y A)|(apply U;clear U K)|fail)<;>conv=>whnf)
 refine hst.use hd hj hs ?_;clear hs;intro s' σ hj' hs
 conv=>whnf
 repeat'((first|apply st|(apply Y;clear Z B Y A)|(apply U;clear U K)|fail)<;>conv=>whnf)
 exact AW ⟨rfl,s',hj',hs⟩
def aY {v:V} {xs:List Int} (hst:Na Tryz.prog (.f (.func g) fi ca) eI (fun s=> .own v 1 (iL xs)::H s) f J D) (hD: ∀x∈xs,D x) (hxl:xs.length≤Aj) (s0:S) (hj0:J s0) :
    B3 Tryz.prog 246 [v,.f (.func g) fi ca] (.own v 1 (iL xs)::H s0) fun r post=>r= .ret (.b (xs.all f))∧ ∃s',J s'∧post= .own v 1 (iL xs)::H s':=by
 intro σ hs;refine gT kZ ?_
 conv=>whnf
 repeat'((first|(apply sq;intro K U)|(apply si;intro A B Y Z)|(apply Y;clear Z B Y A)|(apply U;clear U K)|fail)<;>conv=>whnf)
 refine(OA 301 [] [.rp [.f (.func g) fi ca]] H _ J D (mQ g fi ca H f J D hst) hD hxl s0 hj0).use (rest:=[]) (by simpa using hs) ?_;rintro r post σ ⟨rfl,s',hj,rfl⟩ hs
 conv=>whnf
 repeat'((first|apply st|(apply Y;clear Z B Y A)|(apply U;clear U K)|fail)<;>conv=>whnf)
 refine AW ⟨_,⟨?_,s',hj,rfl⟩,by simpa using hs⟩;rw[List.all_eq_not_any_not]
end
abbrev KG (l:Fact):List V:=xF (BA l).1++[.b (BA l).2]
abbrev FN (ls:List Fact):List (List V):=ls.map KG
def ZR (xs ys:List Int) (f g:Bool):Pure Tryz.prog 95 [.l (iL xs) f,.l (iL ys) g] (.b (xs==ys)):=by
 refine Pure.fit (by kernel_rfl) fun hf=>?_
 have hx:=RJ hf.1;have hy:=RJ hf.2.1;have hM:=Mx;refine xq kZ ?_;have hs:=Sn
 conv=>whnf
 repeat'((first|apply st|(apply sq;intro K U)|(apply si;intro A B Y Z)|(apply Y;clear Z B Y A)|(apply U;clear U K)|refine⟨rfl,?_⟩|(constructor<;>intro hc<;>(try rw[hc])<;>(replace hc:=bp hc)<;>(try simp(disch:=omega) only[BT,wrap64,AN]at hc))|clear U K)<;>conv=>whnf)
 ·exact AI (by(have:(xs==ys)=false:=by(simp;intro e;subst e;simp at hc));rw[this])
 have hl:xs.length=ys.length:=by omega
 refine C3 xs.length (fun k (_:Unit)=>[(13,eI (Bc k))]) (fun _ _=>[]) (fun k _=>(xs==ys)=(xs.drop k==ys.drop k)) () rfl rfl Sat.nil ?_;clear hs;rintro k - σ hk hn hs;rcases BU xs hk with⟨x,hxk,hlt⟩|hke
 ·obtain⟨y,hyk⟩: ∃y,ys[k]? =some y:=⟨_,EN (by omega)⟩
  rw[drop_cons hxk,drop_cons hyk]at hn
  conv=>whnf
  repeat'((first|apply st|(apply sq;intro K U)|(apply si;intro A B Y Z)|(apply Y;clear Z B Y A)|(apply U;clear U K)|apply dr|refine⟨rfl,?_⟩|refine ix ?_|(refine DR (fun hc=>?_)<;>(try rw[hc])<;>clear hc)|(constructor<;>intro hc<;>(try rw[hc])<;>(replace hc:=bp hc))|clear U K)<;>conv=>whnf)
  ·exact AI (by rw[hn];simp[*])
  ·exact⟨hlt,(),rfl,by rw[hn];simp[*],hs⟩
 ·conv=>whnf
  repeat'((first|apply st|(apply sq;intro K U)|(apply si;intro A B Y Z)|(apply Y;clear Z B Y A)|(apply U;clear U K)|refine⟨rfl,?_⟩|(refine Ew (fun hc=>?_)<;>(try rw[hc])<;>clear hc)|clear U K)<;>conv=>whnf)
  exact AI (by rw[hn,Au hke,Au (by omega)];rfl)
def mc (a b:Bool) (u:V):Pure Tryz.prog 293 [.l [] a,.l [] b,u] (.b true):=by
 refine gP kZ ?_;have hs:=Sn;have hM:=Mx
 conv=>whnf
 repeat'((first|apply st|(apply sq;intro K U)|(apply si;intro A B Y Z)|(apply Y;clear Z B Y A)|(apply U;clear U K)|refine⟨rfl,?_⟩|(constructor<;>intro hc<;>(try rw[hc])<;>(replace hc:=bp hc)<;>(try simp(disch:=omega) only[BT,wrap64,AN]at hc)<;>try(exfalso;omega))|fail)<;>conv=>whnf)
 refine C3 0 (fun k (_:Unit)=>[(17,eI (Bc k))]) (fun _ _=>[]) (fun _ _=>True) () rfl trivial Sat.nil ?_;clear hs;rintro k - σ hk - hs;obtain rfl:k=0:=by omega
 conv=>whnf
 repeat'((first|apply st|(apply sq;intro K U)|(apply si;intro A B Y Z)|(apply Y;clear Z B Y A)|(apply U;clear U K)|refine⟨rfl,?_⟩|(constructor<;>intro hc<;>(try rw[hc])<;>(replace hc:=bp hc)<;>(try simp(disch:=omega) only[BT,wrap64,AN]at hc))|clear U K)<;>conv=>whnf)
 ·exfalso
  simp at hc
 ·exact AI rfl
set_option maxHeartbeats 1000000 in
def la (f g:Fact) (hf:f.kids= []) (hg:g.kids= []):Pure Tryz.prog 227 [.a (xF f),.a (xF g)] (.b (Cp f g)):=by
 have e:Cp f g=(f.op==g.op&&(f.arg==g.arg&&(f.cls==g.cls&&(f.n==g.n&&f.path==g.path)))):=by
  rw[PW,hf,hg];simp[K9]
 obtain⟨o,a,p,c,n,k⟩:=f;obtain⟨o',a',p',c',n',k'⟩:=g;simp only[Fact.kids]at hf hg;subst hf;subst hg;refine gV kZ ?_;have hs:=Sn;rw[e]
 conv=>whnf
 repeat'((first|apply st|(apply sq;intro K U)|(apply si;intro A B Y Z)|(apply Y;clear Z B Y A)|(apply U;clear U K)|refine⟨rfl,?_⟩|refine Pure.use (ZR _ _ _ _) ?_|refine Pure.use (mc _ _ _) ?_|(constructor<;>intro hc<;>(try rw[hc])<;>(replace hc:=bp hc))|fail)<;>conv=>whnf)
 all_goals simp only[Fact.op,Fact.arg,Fact.cls,Fact.n,Fact.path]at *
 all_goals exact AI (by simp[*])
def Xh:GX KG 7:=fun l=>by
 refine⟨rfl,fun v hv=>?_⟩;rcases FK.1 hv with hv|hv
 ·exact(KY (BA l).1).2 v (by show v∈Fw (BA l).1;rw[Ba];exact hv)
 ·simp at hv;subst hv;rfl
def RD (x y:Fact):Bool:=(BA x).2==(BA y).2&&Cp (BA x).1 (BA y).1
abbrev Y6 (l:Fact):Prop:=(BA l).1.kids= []
abbrev py (f:Fact→Bool):Fact→Unit→Bool×Unit:=fun y _=>(f y,())
def lg (x:Fact) (hx1:Y6 x) (n:Nat):DI Tryz.prog (.f (.func 266) [] [.p n 0]) (fun y=> .a (KG y)) (fun _:Unit=>[.box n (KG x)]) (py (RD x)) (fun y _=>Y6 y):=by
 intro y s hy1 σ hs;refine Bg ?_;show A7 Tryz.prog 266 ([]++[.a (KG y)]++[.p n 0]) σ _;refine tc kZ ?_;unfold RD
 conv=>whnf
 repeat'((first|apply st|(apply sq;intro K U)|(apply si;intro A B Y Z)|(apply Y;clear Z B Y A)|(apply U;clear U K)|refine⟨kZ,?_⟩|refine ld ?_|refine Pure.use (la _ _ hx1 hy1) ?_|(constructor<;>intro hc<;>(try rw[hc])<;>(replace hc:=bp hc))|fail)<;>conv=>whnf)
 all_goals exact AW ⟨by simp[py, *],hs⟩
section
variable {S:Type} (g:FuncId) (fi ca:List V) (H:S→List At)
def Q4 (stp:Fact→S→Bool×S) (D:Fact→S→Prop) {v:V} {xs:List Fact} (hst:DI Tryz.prog (.f (.func g) fi ca) (fun y=> .a (KG y)) (fun s=> .own v 7 (FN xs)::H s) stp D) (hxl:xs.length≤Aj) (s0:S) (hd:Sb stp D xs s0) :
    B3 Tryz.prog 313 [v,.f (.func g) fi ca] (.own v 7 (FN xs)::H s0) fun r post=>r= .ret (eI (B7 stp xs 0 s0).1)∧post= .own v 7 (FN xs)::H (B7 stp xs 0 s0).2:=by
 intro σ hs;have hM:=Mx;refine s8 kZ ?_
 conv=>whnf
 repeat'((first|apply st|(apply sq;intro K U)|(apply si;intro A B Y Z)|(apply Y;clear Z B Y A)|(apply U;clear U K)|refine lo ?_|fail)<;>conv=>whnf)
 refine C3 xs.length (fun k (_:S)=>[(8,eI (Bc k))]) (fun _ s=> .own v 7 (FN xs)::H s) (fun k s=>Sb stp D (xs.drop k) s∧B7 stp xs 0 s0=B7 stp (xs.drop k) k s) s0 rfl ⟨hd,rfl⟩ hs ?_;clear hs;rintro k s σ hk ⟨hd,hn⟩ hs;have hck:Bc k=k:=AN (by omega);rcases BU xs hk with⟨y,hy,hlt⟩|hke
 ·rw[drop_cons hy]at hn hd
  obtain⟨hd1,hd2⟩:=hd;rw[B7]at hn
  conv=>whnf
  repeat'((first|apply st|(apply sq;intro K U)|(apply si;intro A B Y Z)|(apply Y;clear Z B Y A)|(apply U;clear U K)|refine⟨rfl,?_⟩|refine⟨kZ,?_⟩|refine oi ?_|refine ol fun x hx=>?_|(refine DR (fun hc=>?_)<;>(try rw[hc])<;>clear hc)|fail)<;>conv=>whnf)
  obtain rfl:x=y:=by rw[hck,MH,hy]at hx;exact(Option.some.inj hx).symm
  refine hst.use hd1 hs ?_;clear hs;intro σ hs;cases hyes:(stp x s).1
  ·rw[hyes,if_neg (by decide)]at hn
   conv=>whnf
   repeat'((first|apply st|(apply si;intro A B Y Z)|(apply Y;clear Z B Y A)|(apply U;clear U K)|refine⟨rfl,?_⟩|clear U K)<;>conv=>whnf)
   exact⟨hlt,_,rfl,⟨hd2,hn⟩,hs⟩
  ·rw[hyes,if_pos rfl]at hn
   conv=>whnf
   repeat'((first|apply st|(apply sq;intro K U)|(apply si;intro A B Y Z)|(apply Y;clear Z B Y A)|(apply U;clear U K)|clear U K)<;>conv=>whnf)
   rw[hn];exact AW ⟨_,⟨by rw[hck],rfl⟩,hs⟩
 ·rw[Au hke,B7]at hn
  conv=>whnf
  repeat'((first|apply st|(apply sq;intro K U)|(apply si;intro A B Y Z)|(apply Y;clear Z B Y A)|(apply U;clear U K)|refine⟨rfl,?_⟩|(refine Ew (fun hc=>?_)<;>(try rw[hc])<;>clear hc)|clear U K)<;>conv=>whnf)
  rw[hn];exact AW ⟨_,⟨rfl,rfl⟩,hs⟩
def NM (stp:Fact→S→Bool×S) (D:Fact→S→Prop) {v:V} {xs:List Fact} (hst:DI Tryz.prog (.f (.func g) fi ca) (fun y=> .a (KG y)) (fun s=> .own v 7 (FN xs)::H s) stp D) (hxl:xs.length≤Aj) (s0:S) (hd:Sb stp D xs s0) :
    B3 Tryz.prog 265 [v,.f (.func g) fi ca] (.own v 7 (FN xs)::H s0) fun r post=>r= .ret (.b (decide ((B7 stp xs 0 s0).1≥0)))∧post= .own v 7 (FN xs)::H (B7 stp xs 0 s0).2:=by
 intro σ hs;refine td kZ ?_
 conv=>whnf
 repeat'((first|(apply sq;intro K U)|(apply si;intro A B Y Z)|(apply Y;clear Z B Y A)|(apply U;clear U K)|fail)<;>conv=>whnf)
 refine(Q4 g fi ca H stp D hst hxl s0 hd).use (rest:=[]) (by simpa using hs) ?_;rintro r post σ ⟨rfl,rfl⟩ hs
 conv=>whnf
 repeat'((first|apply st|(apply Y;clear Z B Y A)|(apply U;clear U K)|refine⟨rfl,?_⟩|fail)<;>conv=>whnf)
 exact AW ⟨_,⟨rfl,rfl⟩,by simpa using hs⟩
end
def jo (a:List Fact) (f:Bool) (hl:a.length≤1000000):B3 Tryz.prog 264 [.l (FN a) f] [] fun r post=> ∃v,r= .ret v∧post= [.own v 7 (FN a)]:=by
 intro σ hs;have hM:=Mx;refine te kZ ?_
 conv=>whnf
 repeat'((first|(apply sq;intro K U)|(apply si;intro A B Y Z)|(apply Y;clear Z B Y A)|(apply U;clear U K)|fail)<;>conv=>whnf)
 refine⟨fun e t=>?_,fun _=>?_⟩
 ·have hxe:a= []:=List.map_eq_nil_iff.1 e
  subst hxe
  conv=>whnf
  repeat'((first|apply st|(apply sq;intro K U)|(apply si;intro A B Y Z)|(apply Y;clear Z B Y A)|(apply U;clear U K)|(constructor<;>intro hc<;>(try rw[hc])<;>(replace hc:=bp hc))|clear U K)<;>conv=>whnf)
  ·exact AW ⟨_,⟨_,rfl,rfl⟩,FP hs 7⟩
  ·replace hs:=FP hs 7
   refine J2 hs 0 (xs:=[]) (ys:=[]) rfl (by simp) Xh fun v σ hs=>?_
   conv=>whnf
   repeat'((first|apply st|(apply Y;clear Z B Y A)|(apply U;clear U K)|fail)<;>conv=>whnf)
   exact AW ⟨_,⟨_,rfl,rfl⟩,hs⟩
 ·conv=>whnf
  repeat'((first|apply st|(apply sq;intro K U)|(apply si;intro A B Y Z)|(apply Y;clear Z B Y A)|(apply U;clear U K)|fail)<;>conv=>whnf)
  replace hs:=FP hs 7;refine J2 hs 0 (xs:=[]) (ys:=a) rfl (by simp;omega) Xh fun v σ hs=>?_
  conv=>whnf
  repeat'((first|apply st|(apply Y;clear Z B Y A)|(apply U;clear U K)|fail)<;>conv=>whnf)
  exact AW ⟨_,⟨_,rfl,rfl⟩,hs⟩
def VV {w:AJ} {x:Fact} (h:Ir w x):x=if(BA x).2 then C9 (BA x).1 else(BA x).1:=by
 obtain⟨g,hn,hl,rfl|rfl⟩:=h
 ·have:=GK hl
  have h5: ¬x.op=5:=by omega
  simp only[BA,if_neg h5];rfl
 ·rfl
def ZQ {w:AJ} {x y:Fact} (hx1:Ir w x) (hy1:Ir w y):RD x y=Cp x y:=by
 rw[Hu,Dh];simp only[RD,A9,DK,Dh];constructor
 ·rintro⟨h1,h2⟩
  rw[VV hx1,VV hy1,h1,h2]
 ·rintro rfl
  exact⟨rfl,rfl⟩
def Ru {w:AJ} {x:Fact} (h:Ir w x):Y6 x:=by
 obtain⟨-,hn,hl⟩:=Hg h;have hlo:=GK hl;have har:=Ao _ hn;rw[ET,A9,DK]at har
 have h0:Bp (BA x).1.op=0:=by
  have h5: ¬(BA x).1.op=5:=by omega
  have h6: ¬((BA x).1.op=6∨(BA x).1.op=7):=by omega
  simp[Bp,h5,h6]
  try omega
 rw[h0]at har;exact W4.1 har.1
def cP {w:AJ} (a b:List Fact) (f g:Bool) (hla: ∀x∈a,Ir w x) (hlb: ∀x∈b,Ir w x) (hl:a.length+b.length<1000000):Pure Tryz.prog 190 [.l (FN a) f,.l (FN b) g] (.l (FN (DA a b)) false):=by
 have hM:=Mx;refine Pure.of ?_;refine uS kZ ?_;have hs:=Sn
 conv=>whnf
 repeat'((first|(apply sq;intro K U)|(apply si;intro A B Y Z)|(apply Y;clear Z B Y A)|(apply U;clear U K)|fail)<;>conv=>whnf)
 refine(jo a f (by omega)).use (rest:=[]) (by simpa using hs) ?_;clear hs;rintro r post σ ⟨v,rfl,rfl⟩ hs
 conv=>whnf
 repeat'((first|apply st|(apply sq;intro K U)|(apply si;intro A B Y Z)|(apply Y;clear Z B Y A)|(apply U;clear U K)|fail)<;>conv=>whnf)
 refine C3 b.length (fun k v=>[(5,v),(12,eI (Bc k))]) (fun k v=>[.own v 7 (FN (DA a (b.take k)))]) (fun _ _=>True) v rfl trivial hs ?_;clear hs;rintro k v σ hk - hs;have hml:=R1 a (b.take k);rw[Ny]at hml;rcases BU b hk with⟨x,hxk,hlt⟩|hke
 ·have hsn:=YP a (b.take k) x
  rw[←Aa hxk]at hsn;have hxg:=hlb x (DL hxk)
  have hmem: ∀y∈DA a (b.take k),Ir w y:=fun y hy=>by
   rcases R0 _ _ _ hy with h|h
   ·exact hla y h
   ·exact hlb y (List.mem_of_mem_take h)
  generalize DA a (b.take k)=m at *
  have hany:m.any (RD x)=m.any (Cp x):=by
   rw[Hu,JR,JR];exact⟨fun⟨y,hy,h⟩=>⟨y,hy,by rw[←ZQ hxg (hmem y hy)];exact h⟩,fun⟨y,hy,h⟩=>⟨y,hy,by rw[ZQ hxg (hmem y hy)];exact h⟩⟩
  conv=>whnf
  repeat'((first|apply st|(apply sq;intro K U)|(apply si;intro A B Y Z)|(apply Y;clear Z B Y A)|(apply U;clear U K)|refine⟨rfl,?_⟩|refine⟨kZ,?_⟩|refine ix ?_|refine Cg fun σ hs=>?_|(refine DR (fun hc=>?_)<;>(try rw[hc])<;>clear hc)|(intro nn hnn;generalize hg:A5 _ nn _=σ;refine CN hg fun hs=>?_;clear hg)|fail)<;>conv=>whnf)
  generalize nn=n7 at *;have hs2:Sat σ [.own v 7 (FN m),.box n7 (KG x)]:=hs.perm (.swap _ _ _);clear hs hnn;refine(NM 266 [] [.p n7 0] (fun _:Unit=>[.box n7 (KG x)]) (py (RD x)) (fun y _=>Y6 y) ((lg x (Ru hxg) n7).more [_]) (by omega) () (KT fun y hy _=>Ru (hmem y hy))).use (rest:=[]) hs2 ?_;clear hs2;rintro r post σ ⟨rfl,rfl⟩ hs;rw[Lt,hany];cases hy:m.any (Cp x)
  ·rw[hy,if_neg Bool.false_ne_true]at hsn
   conv=>whnf
   repeat'((first|apply st|(apply si;intro A B Y Z)|(apply Y;clear Z B Y A)|(apply U;clear U K)|refine⟨kZ,?_⟩|refine ld ?_|refine Iw ?_|fail)<;>conv=>whnf)
   refine Gh (GC (x:=x) (xs:=m) (enc:=KG) hs 0 rfl (by omega) Xh fun v σ hs hsl=>?_)
   conv=>whnf
   repeat'((first|(apply si;intro A B Y Z)|(apply Y;clear Z B Y A)|(apply U;clear U K)|refine⟨rfl,?_⟩|clear U K)<;>conv=>whnf)
   exact⟨hlt,v,rfl,trivial,by rw[hsn];exact hs.less (.cons₂ _ (MJ _))⟩
  ·rw[hy,if_pos rfl]at hsn
   conv=>whnf
   repeat'((first|apply st|(apply si;intro A B Y Z)|(apply Y;clear Z B Y A)|(apply U;clear U K)|refine⟨rfl,?_⟩|refine GS ?_|clear U K)<;>conv=>whnf)
   exact⟨hlt,v,rfl,trivial,by rw[hsn];exact hs.less (.cons₂ _ (MJ _))⟩
 ·conv=>whnf
  repeat'((first|apply st|(apply sq;intro K U)|(apply si;intro A B Y Z)|(apply Y;clear Z B Y A)|(apply U;clear U K)|refine⟨rfl,?_⟩|(refine Ew (fun hc=>?_)<;>(try rw[hc])<;>clear hc)|clear U K)<;>conv=>whnf)
  exact da (Ge hs 0 rfl (vf:= .l (FN (DA a b)) false) (by rw[BI hke])) fun r σ h=>h.1
end Go.Gl
namespace Go.Gl
open Go.Proofs
abbrev gz:AY:=(.seq [0,3] (.DT [⟨(some 3),.Qv (.t 1),none⟩,
 ⟨(some 4),.mv (.c .pn),none⟩])
 (.seq [0,3,5,6] (.HQ [0,3,5,6] [⟨0,⟨(some 8),.mv (.t 0),none⟩,[],[]⟩,
  ⟨1,⟨(some 9),.IY (.t 8),none⟩,[],[]⟩,
  ⟨2,⟨(some 10),.Gw 1 (.t 9),none⟩,[],[]⟩,
  ⟨3,⟨(some 11),.load none (.t 10),none⟩,[],[]⟩,
  ⟨4,⟨(some 12),.load (some 4) (.t 3),none⟩,[],[]⟩,
  ⟨5,⟨(some 13),.lookup (.a [.i64,.i64,.i64,.i64]) .pn true (.t 11) (.t 12),none⟩,[],[]⟩,
  ⟨6,⟨(some 7),.mv (.t 13),none⟩,[],[]⟩,
  ⟨7,⟨(some 14),.extract 0 (.t 7),none⟩,[],[]⟩,
  ⟨8,⟨(some 15),.extract 1 (.t 7),none⟩,[],[]⟩,
  ⟨9,⟨(some 5),.mv (.t 14),none⟩,[],[]⟩,
  ⟨10,⟨(some 6),.mv (.t 15),none⟩,[],[]⟩])
 (.seq [5] (.seq [0,3,5,17] (.DT [⟨(some 16),.mv (.t 6),none⟩,
  ⟨(some 17),.not (.t 16),none⟩])
 (.cond (.t 17)
 (.seq [0,3,5] (.DT [⟨(some 18),.build [(.i .i64 0),(.i .i64 0),(.l [] true)] [(0,1,(.c (.i .i64 (-1000000000)))),(1,1,(.c (.i .i64 1000000000)))],none⟩,
  ⟨(some 19),.build [(.i .i64 0),(.i .i64 0),(.l [] true),(.i .u64 0),(.i .u64 0),(.b false),(.b false),(.l [] true)] [(0,3,(.t 18))],none⟩,
  ⟨(some 20),.box (.t 19),none⟩,
  ⟨(some 5),.mv (.t 20),none⟩])
 (.HQ [5] [⟨0,⟨(some 21),.mv (.t 0),none⟩,[],[]⟩,
  ⟨1,⟨(some 22),.IY (.t 21),none⟩,[],[]⟩,
  ⟨2,⟨(some 23),.Gw 1 (.t 22),none⟩,[],[]⟩,
  ⟨3,⟨(some 24),.load none (.t 23),none⟩,[],[]⟩,
  ⟨4,⟨(some 25),.load (some 4) (.t 3),none⟩,[],[]⟩,
  ⟨5,⟨(some 26),.mv (.t 5),none⟩,[],[]⟩,
  ⟨6,⟨none,.E6 (.a [.i64,.i64,.i64,.i64]) (.t 24) (.t 25) (.t 26),none⟩,[],[]⟩]))
 .skip))
 (.seq [4] (.DT [⟨(some 27),.mv (.t 5),none⟩,
  ⟨(some 4),.mv (.t 27),none⟩])
 .ret))))
def lq:Tryz.f198.body.bind (res Tryz.prog Tryz.f198.ntmps [] [3])=some (erase gz):=by kernel_rfl
def nj {args:List V} (hn:args.length≤28) {σ:AH} {Q:R→AH→Prop} (h:W Tryz.prog gz (lI [4] Q) (BD 0 args) σ):A7 Tryz.prog 198 args σ Q:=
 QY Tryz.func198 (by kernel_rfl) lq rfl hn (oU h)
end Go.Gl
namespace Go.Gl
open Go.Proofs
attribute [local irreducible] A7 Ap Af AT AM Ae AS AU AL Ad AO AP Aw A1 Sat AX Az Ah W
abbrev UP (w:AJ) (us:List Nat) (L:Nat):V:= .rp [.rp (wC w us),.m L]
def Qu (es es':List DJ):Prop:= ∃new:List DJ,es'=es++new∧ ∀x∈new,x.k=k0
def Qu.refl (es:List DJ):Qu es es:=⟨[],by simp,by simp⟩
def Qu.trans {a b c:List DJ} (h1:Qu a b) (h2:Qu b c):Qu a c:=by
 obtain⟨x,rfl,hx⟩:=h1;obtain⟨y,rfl,hy⟩:=h2;refine⟨x++y,by simp,fun z hz=>?_⟩;rcases FK.1 hz with h|h
 ·exact hx z h
 ·exact hy z h
def Qu.mem {a b:List DJ} (h:Qu a b) {e:DJ} (he:e∈a):e∈b:=by
 obtain⟨x,rfl,_⟩:=h;exact Sa _ he
structure qX (kf:Int→List Int→Kn) (es es':List DJ) (a:Int) (p:List Int) (e:DJ):Prop where
 inv:EB kf es'
 ext:Qu es es'
 mem:e∈es'
 is:e.is a p=true
def qX.k {kf:Int→List Int→Kn} {es es':List DJ} {a:Int} {p:List Int} {e:DJ} (h:qX kf es es' a p e):e.k=kf a p:=by
 have:=h.inv.val e h.mem;obtain⟨h1,h2⟩:=KX.1 h.is;rw[this,h1,h2]
def gC {σ:AH} {l:List At} (h:Sat σ l) (i:Nat) {n:Nat} {kvs:List (V×V)} {ks:KS} {z vk:V} {ok:Bool} {o:Option V} (hi:l[i]? =some (.map n kvs)) (hk:BW ks vk=true) (hks: ∀kv∈kvs,BW ks kv.1=true) (hf:C6 vk kvs=o) {K:V→Prop} (h':K (found z ok o)) :
    AO σ ks z ok (.m n) vk K:=Th h i hi hk hks (hf ▸ h')
def LJ (w:AJ) (us:List Nat) {kf:Int→List Int→Kn} {L:Nat} {es:List DJ} (h:EB kf es) {a:Int} {p:List Int} (hp:p.length≤2) :
    B3 Tryz.prog 198 [UP w us L,Ek a p] (CJ L es) fun r post=> ∃es' e,qX kf es es' a p e∧r= .ret (.p e.b 0)∧post=CJ L es':=by
 intro σ hs;refine nj kZ ?_;unfold CJ at hs;rcases og a p es with hn|⟨pre,e,post,rfl,he,hpre⟩
 ·have hf:=Vr hp h.len hn
  conv=>whnf
  repeat'((first|apply st|(apply sq;intro K U)|(apply si;intro A B Y Z)|(apply Y;clear Z B Y A)|(apply U;clear U K)|apply dr|refine⟨kZ,?_⟩|refine Iw ?_|refine gC hs 0 rfl rfl (Pd _) hf ?_|refine OS hs 1 rfl rfl (Pd _) fun σ hs=>?_|(intro nn hnn;generalize hg:A5 _ nn _=σ;refine CN hg fun hs=>?_;clear hg)|fail)<;>conv=>whnf)
  simp only[List.set_cons_succ,List.set_cons_zero]at hs;change Sat σ (_:: .map L (Em (Ek a p) (.p nn 0) (W7 es))::_)at hs;rw[fp hp nn (.l [] true) (.l [] true) k0 h.len hn]at hs;have hs2:=FP (FP hs 1) 1;refine AW ⟨_,⟨es++[⟨a,p,nn,.l [] true,.l [] true,k0⟩],⟨a,p,nn,.l [] true,.l [] true,k0⟩,⟨h.add hp hn _ _ _,⟨_,rfl,by simp⟩,by simp,by simp[DJ.is]⟩,rfl,rfl⟩,?_⟩;unfold CJ;rw[List.flatMap_append,List.flatMap_cons,List.flatMap_nil,KD];refine hs2.perm ((List.perm_middle (l₁:=[_,_,_])).trans (.cons _ (UB.trans (List.Perm.append_left _ (List.reverse_perm _).symm))))
 ·have hf:=Vq hp he h.len hpre
  conv=>whnf
  repeat'((first|apply st|(apply sq;intro K U)|(apply si;intro A B Y Z)|(apply Y;clear Z B Y A)|(apply U;clear U K)|apply dr|refine⟨kZ,?_⟩|refine GS ?_|refine gC hs 0 rfl rfl (Pd _) hf ?_|fail)<;>conv=>whnf)
  exact AW ⟨_,⟨_,e,⟨h,.refl _,by simp,he⟩,rfl,rfl⟩,hs⟩
def ON (a:Int) (p:List Int) (s:Int) (hp:p.length<2):Pure Tryz.prog 199 [Ek a p,eI s] (Ek a (p++[s])):=by
 refine uM kZ ?_;have hs:=Sn
 match p,hp with
 | [],_=>
   conv=>whnf
   repeat'((first|apply st|(apply sq;intro K U)|(apply si;intro A B Y Z)|(apply Y;clear Z B Y A)|(apply U;clear U K)|refine⟨rfl,?_⟩|refine⟨kZ,?_⟩|refine pq ?_|refine ld ?_|refine Io fun σ hs=>?_|refine Cg fun σ hs=>?_|(intro nn hnn;generalize hg:A5 _ nn _=σ;refine CN hg fun hs=>?_;clear hg)|fail)<;>conv=>whnf)
   all_goals exact AI rfl
 | [x],_=>
   conv=>whnf
   repeat'((first|apply st|(apply sq;intro K U)|(apply si;intro A B Y Z)|(apply Y;clear Z B Y A)|(apply U;clear U K)|refine⟨rfl,?_⟩|refine⟨kZ,?_⟩|refine pq ?_|refine ld ?_|refine Io fun σ hs=>?_|refine Cg fun σ hs=>?_|(intro nn hnn;generalize hg:A5 _ nn _=σ;refine CN hg fun hs=>?_;clear hg)|fail)<;>conv=>whnf)
   all_goals exact AI rfl
set_option maxHeartbeats 1000000 in
def vX {b:Nat} {vn vs:V} {k:Kn} (f:Fact) (c:Bool) (hl:f.op=2∨f.op=3∨f.op=4) (hc:f.op=2→0≤f.cls∧f.cls<64) (hm:k.Ch<18446744073709551616) (hn:k.Gt<18446744073709551616) (hno:k.no.length<1000000) (hN: -1000000000≤f.n∧f.n≤1000000000) :
    B3 Tryz.prog 269 [.p b 0,.a (xF f++[.b c])] (qP b vn vs k) fun r post=>r= .ret (.t [])∧ ∃vn',post=qP b vn' vs (C2 k f c):=by
 intro σ hs;have hM:=Mx;refine ta kZ ?_;rw[show xF f++[V.b c]= [eI f.op,eI f.arg,.l (iL f.path) false,eI f.cls,eI f.n,.l (f.kids.map Fw) false,.b c] from rfl];have hw:IntKind.i64.wrap (f.n - 1)=f.n - 1:=wrap64 (by omega) (by omega);cases c<;>rcases hl with h2|h3|h4
 ·have hE:C2 k f false= {k with Ch:=k.Ch|||2 ^ f.cls.toNat}:=by rw[C2,if_pos h2,if_neg Bool.false_ne_true]
  rw[hE]
  conv=>whnf
  repeat'((first|apply st|(apply sq;intro K U)|(apply si;intro A B Y Z)|(apply Y;clear Z B Y A)|(apply U;clear U K)|apply dr|refine⟨rfl,?_⟩|refine ld ?_|refine Io fun σ hs=>?_|refine GS ?_|refine Pure.use (Ha _ _ hm (by omega) (by omega)) ?_|(constructor<;>intro hc<;>(try rw[hc])<;>(replace hc:=bp hc)<;>try(exfalso;omega))|fail)<;>conv=>whnf)
  exact AW ⟨_,⟨rfl,vn,rfl⟩,hs⟩
 ·have hE:C2 k f false= {k with high:=if f.n - 1<k.high then f.n - 1 else k.high,whole:=true}:=by rw[C2,if_neg (by omega),if_pos h3,if_neg Bool.false_ne_true]
  rw[hE]
  conv=>whnf
  repeat'((first|apply st|(apply sq;intro K U)|(apply si;intro A B Y Z)|(apply Y;clear Z B Y A)|(apply U;clear U K)|apply dr|refine⟨rfl,?_⟩|refine ld ?_|refine Io fun σ hs=>?_|refine GS ?_|(constructor<;>intro hc<;>(try rw[hc])<;>(replace hc:=bp hc)<;>try(exfalso;omega))|fail)<;>conv=>whnf)
  rw[hw]at hs;exact AW ⟨_,⟨rfl,vn,rfl⟩,hs⟩
 ·have hE:C2 k f false= {k with low:=if f.n > k.low then f.n else k.low,high:=if f.n<k.high then f.n else k.high,whole:=true}:=by rw[C2,if_neg (by omega),if_neg (by omega),if_neg Bool.false_ne_true]
  rw[hE]
  conv=>whnf
  repeat'((first|apply st|(apply sq;intro K U)|(apply si;intro A B Y Z)|(apply Y;clear Z B Y A)|(apply U;clear U K)|apply dr|refine rk ?_ ?_|exact fun s e=>by cases e;rfl|refine⟨rfl,?_⟩|refine ld ?_|refine Io fun σ hs=>?_|(constructor<;>intro hc<;>(try rw[hc])<;>(replace hc:=bp hc)<;>try(exfalso;omega))|fail)<;>conv=>whnf)
  exact AW ⟨_,⟨rfl,vn,rfl⟩,hs⟩
 ·have hE:C2 k f true= {k with Gt:=k.Gt|||2 ^ f.cls.toNat}:=by rw[C2,if_pos h2,if_pos rfl]
  rw[hE]
  conv=>whnf
  repeat'((first|apply st|(apply sq;intro K U)|(apply si;intro A B Y Z)|(apply Y;clear Z B Y A)|(apply U;clear U K)|apply dr|refine⟨rfl,?_⟩|refine ld ?_|refine Io fun σ hs=>?_|refine Iw ?_|refine Pure.use (Ha _ _ hn (by omega) (by omega)) ?_|(constructor<;>intro hc<;>(try rw[hc])<;>(replace hc:=bp hc)<;>try(exfalso;omega))|fail)<;>conv=>whnf)
  exact AW ⟨_,⟨rfl,vn,rfl⟩,hs⟩
 ·have hE:C2 k f true= {k with low:=if f.n > k.low then f.n else k.low}:=by rw[C2,if_neg (by omega),if_pos h3,if_pos rfl]
  rw[hE]
  conv=>whnf
  repeat'((first|apply st|(apply sq;intro K U)|(apply si;intro A B Y Z)|(apply Y;clear Z B Y A)|(apply U;clear U K)|apply dr|refine⟨rfl,?_⟩|refine ld ?_|refine Io fun σ hs=>?_|refine Iw ?_|(constructor<;>intro hc<;>(try rw[hc])<;>(replace hc:=bp hc)<;>try(exfalso;omega))|fail)<;>conv=>whnf)
  exact AW ⟨_,⟨rfl,vn,rfl⟩,hs⟩
 ·have hE:C2 k f true= {k with no:=k.no++[f.n]}:=by rw[C2,if_neg (by omega),if_neg (by omega),if_pos rfl]
  rw[hE]
  conv=>whnf
  repeat'((first|apply st|(apply sq;intro K U)|(apply si;intro A B Y Z)|(apply Y;clear Z B Y A)|(apply U;clear U K)|apply dr|refine⟨rfl,?_⟩|refine ld ?_|refine Io fun σ hs=>?_|refine aq fun v σ hs hsl=>?_|(constructor<;>intro hc<;>(try rw[hc])<;>(replace hc:=bp hc)<;>try(exfalso;omega))|fail)<;>conv=>whnf)
  exact AW ⟨_,⟨rfl,_,rfl⟩,hs⟩
end Go.Gl
