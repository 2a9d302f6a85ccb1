import Derived.Test.YtijbpgdmpejgoaaGreatQ18
set_option linter.all false
set_option linter.unusedVariables false
set_option linter.unusedSimpArgs false
namespace Go.Gl
structure Kn where
 low:Int
 high:Int
 no:List Int
 CO:Nat
 GX:Nat
 whole:Bool
 A8:Bool
 AN:List Int
def k0:Kn:=⟨-1000000000,1000000000,[],0,0,false,false,[]⟩
def Iv (l:List Int) (s:Int):List Int:=if l.contains s then l else(l++[s]).mergeSort Nx
def C6 (k:Kn) (f:Fact) (b:Bool):Kn:=
 if f.op=2 then(if b then {k with GX:=k.GX|||2 ^ f.cls.toNat}else {k with CO:=k.CO|||2 ^ f.cls.toNat})
 else if f.op=3 then(if b then {k with low:=if f.n > k.low then f.n else k.low}else {k with high:=if f.n - 1<k.high then f.n - 1 else k.high,whole:=true})
 else if b then {k with no:=k.no++[f.n]}else {k with low:=if f.n > k.low then f.n else k.low,high:=if f.n<k.high then f.n else k.high,whole:=true}
def Dw (k:Kn) (b:Bool):Kn:={k with A8:=k.A8|| !b}
def dM (k:Kn) (s:Int):Kn:={k with AN:=Iv k.AN s}
def DR (a:Int) (p:List Int) (k:Kn) (l:Fact):Kn:=
 if(BV l).1.arg=a∧CI (BV l).1.path p=true then
  (if(BV l).1.path=p then C6 (Dw k (BV l).2) (BV l).1 (BV l).2 else dM (Dw k (BV l).2) ((BV l).1.path.getD p.length 0))
 else k
def kn (ls:List Fact) (a:Int) (p:List Int):Kn:=ls.foldl (DR a p) k0
theorem WS (k:Kn) (f:Fact) (b:Bool):(C6 k f b).A8=k.A8:=by
 unfold C6
 (repeat' split)<;>rfl
theorem Qr (k:Kn) (f:Fact) (b:Bool):(C6 k f b).AN=k.AN:=by
 unfold C6
 (repeat' split)<;>rfl
theorem SY (a:Int) (p:List Int) (k:Kn) (l:Fact):(DR a p k l).A8=(k.A8|| !((BV l).2|| !((BV l).1.arg==a&&CI (BV l).1.path p))):=by
 unfold DR;split
 ·rename_i h
  have e:((BV l).1.arg==a)=true:=by simpa using h.1
  rw[e,h.2];split
  ·rw[WS];simp[Dw]
  ·simp[dM,Dw]
 ·rename_i h
  have:((BV l).1.arg==a&&CI (BV l).1.path p)=false:=by
   cases hb:((BV l).1.arg==a&&CI (BV l).1.path p)with
   | false=>rfl
   | true=>rw[Bn]at hb;exact absurd ⟨by simpa using hb.1,hb.2⟩ h
  rw[this];simp
theorem Lk (a:Int) (p:List Int): ∀(ls:List Fact) (k:Kn),(ls.foldl (DR a p) k).A8=(k.A8|| !Gf ls a p)
 | [],k=>by simp[Gf]
 | l::r,k=>by
   rw[List.foldl_cons,Lk a p r,SY];simp only[Gf,List.all_cons];generalize (r.all _)=x;generalize ((BV l).2||_)=y;cases k.A8<;>cases x<;>cases y<;>rfl
theorem MU (ls:List Fact) (a:Int) (p:List Int):(kn ls a p).A8= !Gf ls a p:=by rw[kn,Lk];rfl
theorem ZI (l:List Int) (s x:Int):x∈Iv l s↔x∈l∨x=s:=by
 unfold Iv;split
 ·rename_i h
  rw[List.contains_iff_mem]at h;constructor
  ·exact .inl
  ·rintro(h'|rfl)
   ·exact h'
   ·exact h
 ·rw[(List.mergeSort_perm _ Nx).mem_iff];simp
theorem Sg {l:List Int} (s:Int) (h:l.Pairwise (· < ·)):(Iv l s).Pairwise (· < ·):=by
 unfold Iv;split
 ·exact h
 ·rename_i hc
  have hc':s∉l:=by simpa using hc
  have hp:=List.mergeSort_perm (l++[s]) Nx;have h1:((l++[s]).mergeSort Nx).Pairwise (fun a b=>Nx a b=true):=List.pairwise_mergeSort (fun a b c=>by simp only[Nx,D8];omega) (fun a b=>by simp only[Nx,Bool.or_eq_true,D8];omega) _
  have h2:((l++[s]).mergeSort Nx).Nodup:=hp.nodup_iff.2 (by
   rw[List.nodup_append];refine⟨h.imp fun hab=>by omega,by simp,fun a ha b hb=>?_⟩;simp only[List.mem_singleton]at hb;rintro rfl
   exact hc' (hb ▸ ha))
  exact(h1.and h2).imp fun⟨h3,h4⟩=>by
   simp only[Nx,D8]at h3;omega
theorem O0: ∀ {l m:List Int},l.Pairwise (· < ·)→m.Pairwise (· < ·)→(∀x,x∈l↔x∈m)→l=m
 | [],[],_,_,_=>rfl
 | [],y::m,_,_,h=>absurd ((h y).2 (.head _)) (by simp)
 | x::l,[],_,_,h=>absurd ((h x).1 (.head _)) (by simp)
 | x ::l,y::m,h1,h2,h=>by
   rw[List.pairwise_cons]at h1 h2
   have hxy:x=y:=by
    rcases IF.1 ((h x).1 (.head _))with e|hx
    ·exact e
    ·rcases IF.1 ((h y).2 (.head _))with e|hy
     ·exact e.symm
     ·have:=h1.1 y hy
      have:=h2.1 x hx;omega
   subst hxy;congr 1;refine O0 h1.2 h2.2 fun z=>?_
   constructor
   ·intro hz
    rcases IF.1 ((h z).1 (.tail _ hz))with e|hz'
    ·have:=h1.1 z hz;omega
    ·exact hz'
   ·intro hz
    rcases IF.1 ((h z).2 (.tail _ hz))with e|hz'
    ·have:=h2.1 z hz;omega
    ·exact hz'
theorem D5 {path pre:List Int}:CI path pre=true↔ ∃t,path=pre++t:=by
 simp only[CI,Bn,D8,FQ];constructor
 ·rintro⟨_,h⟩
  exact⟨path.drop pre.length,by conv=>lhs;rw[←List.take_append_drop pre.length path,h]⟩
 ·rintro⟨t,rfl⟩
  simp
theorem Us {path p:List Int} {s:Int}:CI path (p++[s])=true↔CI path p=true∧path≠p∧path.getD p.length 0=s:=by
 rw[D5,D5];constructor
 ·rintro⟨t,rfl⟩
  refine⟨⟨s::t,by simp⟩,fun e=>?_,by simp⟩;have:=congrArg List.length e;simp at this
 ·rintro⟨⟨t,rfl⟩,hne,hs⟩
  cases t with
  | nil=>simp at hne
  | cons y t=>simp at hs;subst hs;exact⟨t,by simp⟩
theorem XM {a:Int} {p:List Int} {s:Int} {l:Fact}:ZT a p s l=true↔(BV l).1.arg=a∧CI (BV l).1.path p=true∧(BV l).1.path≠p∧(BV l).1.path.getD p.length 0=s:=by
 rw[ZT,Bn,Us,FQ]
theorem Uf (a:Int) (p:List Int) (k:Kn) (l:Fact):(DR a p k l).AN=if(BV l).1.arg=a∧CI (BV l).1.path p=true∧(BV l).1.path≠p then Iv k.AN ((BV l).1.path.getD p.length 0)else k.AN:=by
 unfold DR;by_cases h1:(BV l).1.arg=a∧CI (BV l).1.path p=true
 ·rw[if_pos h1]
  by_cases h2:(BV l).1.path=p
  ·rw[if_pos h2,if_neg (fun h=>h.2.2 h2),Qr];rfl
  ·rw[if_neg h2,if_pos ⟨h1.1,h1.2,h2⟩];rfl
 ·rw[if_neg h1,if_neg (fun h=>h1 ⟨h.1,h.2.1⟩)]
theorem PM (a:Int) (p:List Int): ∀(ls:List Fact) (k:Kn),k.AN.Pairwise (· < ·)→(ls.foldl (DR a p) k).AN.Pairwise (· < ·)∧ ∀s,s∈(ls.foldl (DR a p) k).AN↔s∈k.AN∨ls.any (ZT a p s)=true
 | [],k,h=>⟨h,fun s=>by simp⟩
 | l ::r,k,h=>by
   rw[List.foldl_cons];have e:=Uf a p k l
   have h1:(DR a p k l).AN.Pairwise (· < ·):=by
    rw[e];split
    ·exact Sg _ h
    ·exact h
   obtain⟨i1,i2⟩:=PM a p r _ h1;refine⟨i1,fun s=>?_⟩;rw[i2,e,List.any_cons,Bool.or_eq_true,XM];split
   ·rename_i hc
    rw[ZI];constructor
    ·rintro((h|rfl)|h)
     ·exact .inl h
     ·exact .inr (.inl ⟨hc.1,hc.2.1,hc.2.2,rfl⟩)
     ·exact .inr (.inr h)
    ·rintro(h|⟨-,-,-,h⟩|h)
     ·exact .inl (.inl h)
     ·exact .inl (.inr h.symm)
     ·exact .inr h
   ·rename_i hc
    constructor
    ·rintro(h|h)
     ·exact .inl h
     ·exact .inr (.inr h)
    ·rintro(h|⟨q1,q2,q3,-⟩|h)
     ·exact .inl h
     ·exact absurd ⟨q1,q2,q3⟩ hc
     ·exact .inr h
def Hp (n:Nat) (ls:List Fact):Prop:= ∀l∈ls,∀s∈(BV l).1.path,(0:Int)≤s∧s<n
theorem Vl {n:Nat} {s:Int}:s∈C9 n↔0≤s∧s<n:=by
 simp only[C9,Nv,List.mem_range];constructor
 ·rintro⟨m,hm,rfl⟩
  exact⟨Int.natCast_nonneg m,by simpa using hm⟩
 ·rintro⟨h0,h1⟩
  exact⟨s.toNat,by omega,by simp;omega⟩
theorem Pq (n:Nat):(C9 n).Pairwise (· < ·):=by
 rw[C9,List.pairwise_map];exact List.pairwise_lt_range.imp fun h=>by simpa using h
theorem tY {n:Nat} {ls:List Fact} (h:Hp n ls) {a:Int} {p:List Int} {s:Int} {l:Fact} (hl:l∈ls) (hg:ZT a p s l=true):0≤s∧s<n:=by
 rw[XM]at hg;obtain⟨-,h2,h3,h4⟩:=hg;obtain⟨t,ht⟩:=D5.1 h2;refine h l hl s ?_;rw[ht]at h3 h4 ⊢;cases t with
 | nil=>simp at h3
 | cons y t=>simp at h4;subst h4;simp
theorem LQ {n:Nat} {ls:List Fact} (h:Hp n ls) (a:Int) (p:List Int):(kn ls a p).AN=Ci n ls a p:=by
 obtain⟨h1,h2⟩:=PM a p ls k0 .nil;refine O0 h1 ((Pq n).filter _) fun s=>?_
 show s∈(ls.foldl (DR a p) k0).AN↔_;rw[h2,Ci,Qz,Vl];constructor
 ·rintro(h|hs)
  ·cases h
  ·obtain⟨l,hl,hg⟩:=List.any_eq_true.1 hs
   exact⟨tY h hl hg,hs⟩
 ·exact fun hs=> .inr hs.2
def Er (os:List Fact) (k:Kn):Kn:=os.foldl (fun k l=>C6 k (BV l).1 (BV l).2) k
abbrev E8 (k:Kn):Int×Int×List Int×Nat×Nat×Bool:=(k.low,k.high,k.no,k.CO,k.GX,k.whole)
theorem UA {k k':Kn} (h:E8 k=E8 k') (f:Fact) (b:Bool):E8 (C6 k f b)=E8 (C6 k' f b):=by
 cases k;cases k';simp only[E8,Prod.mk.injEq]at h;obtain⟨rfl,rfl,rfl,rfl,rfl,rfl⟩:=h;unfold C6
 (repeat' split)<;>rfl
theorem NF (p:List Int):CI p p=true:=D5.2 ⟨[],by simp⟩
theorem ZA (a:Int) (p:List Int) (k:Kn) (l:Fact):E8 (DR a p k l)=if Ia a p l then E8 (C6 k (BV l).1 (BV l).2)else E8 k:=by
 unfold DR Ia;by_cases h1:(BV l).1.arg=a
 ·by_cases h2:(BV l).1.path=p
  ·have e:((BV l).1.arg==a&&(BV l).1.path==p)=true:=by simp[h1,h2]
   rw[if_pos ⟨h1,by rw[h2];exact NF p⟩,if_pos h2,e,if_pos rfl];exact UA (k:=Dw k (BV l).2) (k':=k) rfl _ _
  ·have e:((BV l).1.arg==a&&(BV l).1.path==p)=false:=by simp[h2]
   rw[if_neg h2,e,if_neg Bool.false_ne_true];split<;>rfl
 ·have e:((BV l).1.arg==a&&(BV l).1.path==p)=false:=by simp[h1]
  rw[if_neg (fun h=>h1 h.1),e,if_neg Bool.false_ne_true]
theorem Md (a:Int) (p:List Int): ∀(ls:List Fact) (k k':Kn),E8 k=E8 k'→E8 (ls.foldl (DR a p) k)=E8 (Er (ls.filter (Ia a p)) k')
 | [],k,k',h=>h
 | l ::r,k,k',h=>by
   rw[List.foldl_cons,List.filter_cons];have e:=ZA a p k l;split
   ·rename_i ho
    rw[if_pos ho]at e;exact Md a p r _ _ (e.trans (UA h _ _))
   ·rename_i ho
    rw[if_neg (by simpa using ho)]at e;exact Md a p r _ _ (e.trans h)
theorem Nl (ls:List Fact) (a:Int) (p:List Int):E8 (kn ls a p)=E8 (Er (ls.filter (Ia a p)) k0):=Md a p ls k0 k0 rfl
def rh (x:Fact×Bool):Bool:= !(x.1.op==2)||(decide (x.1.cls > 1)==x.2)
theorem YG (x:Fact×Bool) (k:Kn):Ip x (k.low,k.high,k.no)=if rh x then some ((C6 k x.1 x.2).low,(C6 k x.1 x.2).high,(C6 k x.1 x.2).no)else none:=by
 unfold Ip rh C6;by_cases h2:x.1.op=2
 ·rw[if_pos h2,if_pos h2]
  cases x.2<;>cases decide (x.1.cls > 1)<;>simp[h2]
 ·rw[if_neg h2,if_neg h2]
  by_cases h3:x.1.op=3
  ·rw[if_pos h3,if_pos h3]
   cases x.2<;>simp[h2]
  ·rw[if_neg h3,if_neg h3]
   cases x.2<;>simp[h2]
theorem Qh: ∀(os:List Fact) (k:Kn),foldI os (k.low,k.high,k.no)=if os.all (fun l=>rh (BV l))then some ((Er os k).low,(Er os k).high,(Er os k).no)else none
 | [],k=>rfl
 | l ::r,k=>by
   rw[foldI,YG,List.all_cons];cases hb:rh (BV l)with
   | false=>rfl
   | true=>
     rw[if_pos rfl,Option.bind_some,Qh r,Bool.true_and];rfl
theorem dH (k:Kn) (f:Fact) (c:Bool) (b:Nat):(C6 k f c).CO.testBit b=(k.CO.testBit b||(f.op==2&& !c&&f.cls.toNat==b)):=by
 unfold C6;by_cases h2:f.op=2
 ·rw[if_pos h2]
  cases c<;>simp[h2,Nat.testBit_or,Nat.testBit_two_pow,Bool.beq_eq_decide_eq]
 ·rw[if_neg h2]
  have:(f.op==2)=false:=by simpa using h2
  rw[this]
  repeat' split
  all_goals simp
theorem kY (k:Kn) (f:Fact) (c:Bool) (b:Nat):(C6 k f c).GX.testBit b=(k.GX.testBit b||(f.op==2&&c&&f.cls.toNat==b)):=by
 unfold C6;by_cases h2:f.op=2
 ·rw[if_pos h2]
  cases c<;>simp[h2,Nat.testBit_or,Nat.testBit_two_pow,Bool.beq_eq_decide_eq]
 ·rw[if_neg h2]
  have:(f.op==2)=false:=by simpa using h2
  rw[this]
  repeat' split
  all_goals simp
theorem ZH (k:Kn) (f:Fact) (c:Bool):(C6 k f c).whole=(k.whole||(!c&& !(f.op==2))):=by
 unfold C6;by_cases h2:f.op=2
 ·rw[if_pos h2]
  cases c<;>simp[h2]
 ·rw[if_neg h2]
  have:(f.op==2)=false:=by simpa using h2
  rw[this];cases c<;>(repeat' split)<;>simp_all
theorem Mg: ∀(os:List Fact) (k:Kn) (b:Nat),(Er os k).CO.testBit b=(k.CO.testBit b||os.any fun l=>(BV l).1.op==2&& !(BV l).2&&(BV l).1.cls.toNat==b)
 | [],k,b=>by simp[Er]
 | l::r,k,b=>by
   have:=Mg r (C6 k (BV l).1 (BV l).2) b;rw[dH]at this;rw[List.any_cons,←Bool.or_assoc,←this];rfl
theorem Om: ∀(os:List Fact) (k:Kn) (b:Nat),(Er os k).GX.testBit b=(k.GX.testBit b||os.any fun l=>(BV l).1.op==2&&(BV l).2&&(BV l).1.cls.toNat==b)
 | [],k,b=>by simp[Er]
 | l::r,k,b=>by
   have:=Om r (C6 k (BV l).1 (BV l).2) b;rw[kY]at this;rw[List.any_cons,←Bool.or_assoc,←this];rfl
theorem Kb: ∀(os:List Fact) (k:Kn),(Er os k).whole=(k.whole||os.any fun l=> !(BV l).2&& !((BV l).1.op==2))
 | [],k=>by simp[Er]
 | l::r,k=>by
   have:=Kb r (C6 k (BV l).1 (BV l).2);rw[ZH]at this;rw[List.any_cons,←Bool.or_assoc,←this];rfl
def Pd (m up:Nat):Bool:=(List.range 64).all fun b=> !m.testBit b||up.testBit b
theorem OX {m up:Nat} (hm:m<2 ^ 64):Pd m up=true↔ ∀b,m.testBit b=true→up.testBit b=true:=by
 simp only[Pd,IU,List.mem_range,Bool.or_eq_true,Bool.not_eq_true'];constructor
 ·intro h b hb
  have hlt:b<64:=by
   rcases Nat.lt_or_ge b 64 with h'|h'
   ·exact h'
   ·rw[Nat.testBit_lt_two_pow (Nat.lt_of_lt_of_le hm (Nat.pow_le_pow_right (by decide) h'))]at hb;cases hb
  rcases h b hlt with h'|h'
  ·rw[hb]at h';cases h'
  ·exact h'
 ·intro h b _
  cases hb:m.testBit b with
  | false=>exact .inl rfl
  | true=>exact .inr (h b hb)
theorem Ol {m n:Nat}:(m&&&n==0)=true↔ ∀b,m.testBit b=true→n.testBit b=true→False:=by
 rw[FQ];constructor
 ·intro h b h1 h2
  have:=congrArg (fun x=>x.testBit b) h;simp[Nat.testBit_and,h1,h2]at this
 ·intro h
  refine Nat.eq_of_testBit_eq fun b=>?_
  rw[Nat.testBit_and,Nat.zero_testBit];cases h1:m.testBit b with
  | false=>rfl
  | true=>
    cases h2:n.testBit b with
    | false=>rfl
    | true=>exact(h b h1 h2).elim
theorem Ru (c b:Nat):(1|||2 ^ c).testBit b=(b==0||b==c):=by
 rw[Nat.testBit_or,Nat.testBit_two_pow,show(1:Nat)=2 ^ 0 from rfl,Nat.testBit_two_pow];rw[Bool.eq_iff_iff];simp only[Bool.or_eq_true,D8,FQ];omega
def Ik (n:Nat) (ls:List Fact):Prop:= ∀l∈ls,(BV l).1.op=2→0≤(BV l).1.cls∧(BV l).1.cls<n
theorem PG {m n:Nat} (h: ∀b,m.testBit b=true→b<n):m<2 ^ n:=by
 refine Nat.lt_pow_two_of_testBit _ fun i hi=>?_
 cases hb:m.testBit i with
 | false=>rfl
 | true=>have:=h i hb;omega
theorem R6 {os:List Fact} {n:Nat} (h:Ik n os):(Er os k0).CO<2 ^ n:=PG fun b hb=>by
 rw[Mg]at hb;simp only[k0,Nat.zero_testBit,Bool.false_or,List.any_eq_true,Bn,FQ]at hb;obtain⟨l,hl,⟨h2,-⟩,rfl⟩:=hb;have:=h l hl h2;omega
theorem sf {os:List Fact} {n:Nat} (h:Ik n os):(Er os k0).GX<2 ^ n:=PG fun b hb=>by
 rw[Om]at hb;simp only[k0,Nat.zero_testBit,Bool.false_or,List.any_eq_true,Bn,FQ]at hb;obtain⟨l,hl,⟨h2,-⟩,rfl⟩:=hb;have:=h l hl h2;omega
theorem LO {os:List Fact} {b:Nat}:(Er os k0).CO.testBit b=true↔ ∃l∈os,(BV l).1.op=2∧(BV l).2=false∧(BV l).1.cls.toNat=b:=by
 rw[Mg];simp only[k0,Nat.zero_testBit,Bool.false_or,List.any_eq_true,Bn,FQ,Bool.not_eq_true',and_assoc]
theorem XB {os:List Fact} {b:Nat}:(Er os k0).GX.testBit b=true↔ ∃l∈os,(BV l).1.op=2∧(BV l).2=true∧(BV l).1.cls.toNat=b:=by
 rw[Om];simp only[k0,Nat.zero_testBit,Bool.false_or,List.any_eq_true,Bn,FQ,and_assoc]
theorem YR {os:List Fact} {n:Nat} (hn:n≤64) (h:Ik n os):(Pd (Er os k0).CO (1|||2 ^ 1)&&((Er os k0).GX&&&(1|||2 ^ 1)==0))=os.all fun l=>rh (BV l):=by
 rw[Bool.eq_iff_iff,Bn,OX (Nat.lt_of_lt_of_le (R6 h) (Nat.pow_le_pow_right (by decide) hn)),Ol];simp only[LO,XB,Ru,IU,rh,Bool.or_eq_true,Bool.not_eq_true',beq_eq_false_iff_ne,FQ,ne_eq];constructor
 ·rintro⟨h1,h2⟩ l hl
  by_cases ho:(BV l).1.op=2
  ·right
   have hc:=h l hl ho;cases hb:(BV l).2 with
   | false=>
     have:=h1 _ ⟨l,hl,ho,hb,rfl⟩;rw[decide_eq_false_iff_not];omega
   | true=>
     rw[D8];rcases Int.lt_or_le 1 (BV l).1.cls with hlt|hle
     ·exact hlt
     ·exact(h2 _ ⟨l,hl,ho,hb,rfl⟩ (by omega)).elim
  ·exact .inl ho
 ·intro h1
  constructor
  ·rintro b ⟨l,hl,ho,hb,rfl⟩
   rcases h1 l hl with h'|h'
   ·exact absurd ho h'
   ·have hc:=h l hl ho
    rw[hb,decide_eq_false_iff_not]at h';omega
  ·rintro b ⟨l,hl,ho,hb,rfl⟩ hu
   rcases h1 l hl with h'|h'
   ·exact absurd ho h'
   ·have hc:=h l hl ho
    rw[hb,D8]at h';omega
theorem YF (x:Fact×Bool):(!Jh x)=true↔(x.2=false→x.1.op=2∧(x.1.cls=0∨x.1.cls=2))∧(x.2=true→ ¬(x.1.op=2∧(x.1.cls=0∨x.1.cls=2))):=by
 have e:(x.1.op==2&&(x.1.cls==0||x.1.cls==2))=true↔x.1.op=2∧(x.1.cls=0∨x.1.cls=2):=by
  simp only[Bn,Bool.or_eq_true,FQ]
 rw[←e,Jh];generalize (x.1.op==2&&(x.1.cls==0||x.1.cls==2))=y;cases x.2<;>cases y<;>simp
theorem YB {os:List Fact}:(!(Er os k0).whole)=true↔ ∀l∈os,(BV l).2=false→(BV l).1.op=2:=by
 rw[Kb,Bool.not_eq_true',←Bool.not_eq_true];simp only[k0,Bool.false_or,List.any_eq_true,Bn,Bool.not_eq_true',beq_eq_false_iff_ne];constructor
 ·intro h l hl hb
  rcases Classical.em ((BV l).1.op=2)with e|e
  ·exact e
  ·exact absurd ⟨l,hl,hb,e⟩ h
 ·rintro h ⟨l,hl,hb,e⟩
  exact e (h l hl hb)
theorem Vq {os:List Fact} {n:Nat} (hn:n≤64) (h:Ik n os):(!(Er os k0).whole&&(Pd (Er os k0).CO (1|||2 ^ 2)&&((Er os k0).GX&&&(1|||2 ^ 2)==0)))=os.all fun l=> !Jh (BV l):=by
 rw[Bool.eq_iff_iff,Bn,Bn,OX (Nat.lt_of_lt_of_le (R6 h) (Nat.pow_le_pow_right (by decide) hn)),Ol,YB,IU];simp only[LO,XB,Ru,Bool.or_eq_true,FQ,YF];constructor
 ·rintro⟨h0,h1,h2⟩ l hl
  refine⟨fun hb=>?_,fun hb ⟨ho,hc⟩=>h2 _ ⟨l,hl,ho,hb,rfl⟩ (by omega)⟩;have ho:=h0 l hl hb;have hc:=h l hl ho;have:=h1 _ ⟨l,hl,ho,hb,rfl⟩;exact⟨ho,by omega⟩
 ·intro h1
  refine⟨fun l hl hb=>((h1 l hl).1 hb).1,?_,?_⟩
  ·rintro b ⟨l,hl,ho,hb,rfl⟩
   have:=((h1 l hl).1 hb).2;omega
  ·rintro b ⟨l,hl,ho,hb,rfl⟩ hu
   have hc:=h l hl ho;exact(h1 l hl).2 hb ⟨ho,by omega⟩
theorem QB {no:List Int}: ∀(k:Nat) (m:Int),(Q9 no k m).isSome=true↔ ∃j:Nat,j<k∧m+j∉no
 | 0,m=>by simp[Q9]
 | k + 1,m=>by
   rw[Q9];split
   ·rename_i h
    simp only[Option.isSome_some,true_iff];refine⟨0,by omega,fun hm=>?_⟩;rw[IU]at h;have:=h _ hm;simp at this
   ·rename_i h
    rw[QB k]
    have hm:m∈no:=by
     rcases Classical.em (m∈no)with h'|h'
     ·exact h'
     ·refine absurd (IU.2 fun x hx=>?_) h
      rw[bne_iff_ne];rintro rfl;exact h' hx
    constructor
    ·rintro⟨j,hj,h'⟩
     exact⟨j+1,by omega,by rw[show m+((j+1:Nat):Int)=m+1+j by omega];exact h'⟩
    ·rintro⟨j,hj,h'⟩
     cases j with
     | zero=>simp at h';exact absurd hm h'
     | succ j=>exact⟨j,by omega,by rw[show m+1+(j:Int)=m+((j+1:Nat):Int) by omega];exact h'⟩
theorem bg {low high n:Int} {no:List Int} (h0:low≤n) (h1:n∉no) (h2: ∀m,low≤m→m<n→m∈no):(TB (low,high,no)).isSome=decide (n≤high):=by
 rw[Bool.eq_iff_iff,TB,QB,D8];constructor
 ·rintro⟨j,hj,h⟩
  rcases Int.lt_or_le (low+j) n with hlt|hle
  ·exact absurd (h2 _ (by omega) hlt) h
  ·simp only at hj;omega
 ·intro h
  refine⟨(n - low).toNat,by simp only;omega,?_⟩;rw[show low+((n - low).toNat:Int)=n by omega];exact h1
end Go.Gl
namespace Go.Gl
theorem TW (g:List (List Int)) (k:Nat): ∀(m d:Nat),d<3+k→(Cv g (k+m)).getD d 0=(Cv g k).getD d 0
 | 0,d,_=>rfl
 | m+1,d,h=>by
   rw[show k+(m+1)=k+m+1 from rfl,Cv,←TW g k m d h];rw[E9,rZ (by rw[Fz];omega),←E9]
theorem TX (us:List Nat) (b:Nat): ∀(l:List Int) (s:Nat),(U5 us l s).testBit b=(s.testBit b||l.any fun c=>(us.getD c.toNat 0).testBit b)
 | [],s=>by simp[U5]
 | c::r,s=>by
   have:=TX us b r (s|||us.getD c.toNat 0);rw[List.any_cons,←Bool.or_assoc,←Nat.testBit_or,←this];rfl
theorem bC {α:Type} (f:α→Bool) (b:Bool): ∀(l:List α),(b||l.any fun x=>b||f x)=(b||l.any f)
 | []=>rfl
 | x::r=>by
   have:=bC f b r;simp only[List.any_cons];cases b
   ·simpa using this
   ·rfl
theorem any_congr {α:Type} {f g:α→Bool}: ∀ {l:List α},(∀x∈l,f x=g x)→l.any f=l.any g
 | [],_=>rfl
 | x::r,h=>by
   rw[List.any_cons,List.any_cons,h x (.head _),any_congr fun y hy=>h y (.tail _ hy)]
theorem Rz {g:List (List Int)} (ho:ordered g): ∀(k d b:Nat),k≤g.length→d<3+k→((Cv g k).getD d 0).testBit b=(b==0||Je g d b)
 | 0,d,b,_,hd=>by
   have e:(Cv g 0).getD d 0=1|||2 ^ d:=by
    rcases d with _|_|_|d
    ·rfl
    ·rfl
    ·rfl
    ·omega
   rw[e,Ru,GC ho,par,if_pos (by omega),List.any_nil,Bool.or_false];rw[Bool.eq_iff_iff];simp only[Bool.or_eq_true,FQ];omega
 | k + 1,d,b,hk,hd=>by
   by_cases hlt:d<3+k
   ·rw[TW g k 1 d hlt]
    exact Rz ho k d b (by omega) hlt
   ·obtain rfl:d=3+k:=by omega
    have e:(Cv g (k+1)).getD (3+k) 0=U5 (Cv g k) (g.getD k []) (1|||2 ^ (3+k)):=by
     rw[Cv,E9,List.getElem?_append_right (by rw[Fz];omega),Fz,Nat.sub_self];rfl
    have hpar:par g (3+k)=g.getD k []:=by rw[par,if_neg (by omega),show 3+k - 3=k by omega]
    rw[e,TX,Ru,GC ho,hpar]
    have hc:((g.getD k []).any fun c=>((Cv g k).getD c.toNat 0).testBit b)=(g.getD k []).any fun p=>(b==0)||Je g p.toNat b:=any_congr fun p hp=>by
     have:=ho (3+k) p (by rw[hpar];exact hp);exact Rz ho k p.toNat b (by omega) (by omega)
    rw[hc];have e2:(b==3+k)=(3+k==b):=by rw[Bool.eq_iff_iff];simp only[FQ];omega
    rw[e2,Bool.or_assoc,Bool.or_left_comm,bC,Bool.or_left_comm]
theorem ba {g:List (List Int)} (ho:ordered g) {d b:Nat} (hd:d<3+g.length):((Eu g).getD d 0).testBit b=(b==0||Je g d b):=Rz ho g.length d b (Nat.le_refl _) hd
theorem VI {g:List (List Int)} (ho:ordered g): ∀(d b:Nat),3≤d→Je g d b=true→3≤b:=by
 intro d
 induction d using Nat.strongRecOn with
 | _ d ih=>
   intro b h3 h;rw[GC ho]at h;simp only[Bool.or_eq_true,FQ,List.any_eq_true]at h;rcases h with rfl|⟨p,hp,h⟩
   ·exact h3
   ·have:=ho d p hp
    exact ih p.toNat (by omega) b (by omega) h
def Ds (us:List Nat):Nat→Nat→Nat
 | 0,m=>m
 | k+1,m=>if(Ds us k m).testBit (3+k)then Ds us k m|||us.getD (3+k) 0 else Ds us k m
theorem PS {g : List (List Int)} (ho:ordered g) (m:Nat): ∀(k b:Nat),k≤g.length→((Ds (Eu g) k m).testBit b=true↔m.testBit b=true∨ ∃d,3≤d∧d<3+k∧m.testBit d=true∧(b=0∨Je g d b=true))
 | 0,b,_=>by
   rw[Ds];exact⟨.inl,fun h=>h.elim id fun⟨d,h1,h2,_⟩=>by omega⟩
 | k + 1, b, hk=>by
   have ih:=PS ho m k;rw[Ds];split
   ·rename_i hc
    rw[Nat.testBit_or,Bool.or_eq_true,ih b (by omega),ba ho (by omega),Bool.or_eq_true,FQ];rw[ih _ (by omega)]at hc;constructor
    ·rintro((h|⟨d,h1,h2,h3,h4⟩)|h)
     ·exact .inl h
     ·exact .inr ⟨d,h1,by omega,h3,h4⟩
     ·rcases hc with hc|⟨d,h1,h2,h3,h4⟩
      ·exact .inr ⟨3+k,by omega,by omega,hc,h⟩
      ·refine .inr ⟨d,h1,by omega,h3,?_⟩
       rcases h with h|h
       ·exact .inl h
       ·rcases h4 with h4|h4
        ·omega
        ·exact .inr (MI ho _ _ _ h4 h)
    ·rintro(h|⟨d,h1,h2,h3,h4⟩)
     ·exact .inl (.inl h)
     ·by_cases e:d=3+k
      ·subst e;exact .inr h4
      ·exact .inl (.inr ⟨d,h1,by omega,h3,h4⟩)
   ·rename_i hc
    rw[ih b (by omega)];constructor
    ·rintro(h|⟨d,h1,h2,h3,h4⟩)
     ·exact .inl h
     ·exact .inr ⟨d,h1,by omega,h3,h4⟩
    ·rintro(h|⟨d,h1,h2,h3,h4⟩)
     ·exact .inl h
     ·by_cases e:d=3+k
      ·subst e;exact absurd ((ih _ (by omega)).2 (.inl h3)) hc
      ·exact .inr ⟨d,h1,by omega,h3,h4⟩
theorem Jv: ∀(l:List Int) (bs:List Bool),(∀q∈l,0≤q∧q.toNat<bs.length)→ ∀b:Nat,(l.foldl (fun b q=>b.set q.toNat true) bs).getD b false=(bs.getD b false||l.contains (b:Int))
 | [],bs,_,b=>by simp
 | q ::r,bs,h,b=>by
   have hq:=h q (.head _);rw[List.foldl_cons,Jv r _ (fun x hx=>by rw[List.length_set];exact h x (.tail _ hx)),GH hq.2,List.contains_cons];split
   ·rename_i e
    subst e;have:((q.toNat:Int)==q)=true:=by rw[FQ];omega
    rw[this];simp
   ·rename_i e
    have:((b:Int)==q)=false:=by rw[beq_eq_false_iff_ne];omega
    rw[this,Bool.false_or]
theorem G7 {g:List (List Int)} (ho:ordered g) {c:Nat} {bs:List Bool} (hc:c≤bs.length) (b:Nat):(He g c bs).getD b false=(bs.getD b false||(bs.getD c false&&(par g c).contains (b:Int))):=by
 rw[He];split
 ·rename_i h
  rw[Jv _ _ (fun q hq=>by have:=ho c q hq;omega),h,Bool.true_and]
 ·rename_i h
  have:bs.getD c false=false:=by simpa using h
  rw[this,Bool.false_and,Bool.or_false]
theorem IE {g:List (List Int)} (ho:ordered g) {n:Nat} {S:List Bool} (hl:S.length=n): ∀(k b:Nat),(CR g n k S).getD b false=true→ ∃d,S.getD d false=true∧Je g d b=true
 | 0,b,h=>⟨b,h,HM ho b⟩
 | k + 1,b,h=>by
   rw[CR,G7 ho (by rw[FK];omega),Bool.or_eq_true,Bn]at h;rcases h with h|⟨h1,h2⟩
   ·exact IE ho hl k b h
   ·obtain⟨d,h3,h4⟩:=IE ho hl k _ h1
    refine⟨d,h3,MI ho _ _ _ h4 ?_⟩;rw[GC ho,Bool.or_eq_true,List.any_eq_true];rw[List.contains_iff_mem]at h2;exact .inr ⟨_,h2,by rw[Int.toNat_natCast];exact HM ho b⟩
theorem Ur {g:List (List Int)} (ho:ordered g) {n:Nat} {S:List Bool} (hl:S.length=n) (k b:Nat) (h:(CR g n k S).getD b false=true):(CR g n (k+1) S).getD b false=true:=by
 rw[CR,G7 ho (by rw[FK];omega),h];rfl
theorem NB {g:List (List Int)} (ho:ordered g) {n:Nat} {S:List Bool} (hl:S.length=n): ∀(k b:Nat),S.getD b false=true→(CR g n k S).getD b false=true
 | 0,_,h=>h
 | k+1,b,h=>Ur ho hl k b (NB ho hl k b h)
theorem Jx {g:List (List Int)} (ho:ordered g) {n:Nat} {S:List Bool} (hl:S.length=n): ∀(k c:Nat),k≤n→n - k≤c→(CR g n k S).getD c false=true→ ∀q∈par g c,(CR g n k S).getD q.toNat false=true
 | 0,c,_,hc,h,q,hq=>by
   rw[CR,E9,List.getElem?_eq_none (by omega)]at h;cases h
 | k + 1,c,hk,hc,h,q,hq=>by
   rw[CR,G7 ho (by rw[FK];omega)]at h ⊢;have hoc:=ho c q hq;rw[Bool.or_eq_true,Bn]at h
   have hbase:(CR g n k S).getD c false=true:=by
    rcases h with h|⟨-,h2⟩
    ·exact h
    ·rw[List.contains_iff_mem]at h2
     have:=ho _ _ h2;omega
   by_cases e:c=n - 1 - k
   ·subst e
    rw[hbase,Bool.true_and,Bool.or_eq_true,List.contains_iff_mem];exact .inr (by rw[show((q.toNat:Nat):Int)=q by omega];exact hq)
   ·rw[Jx ho hl k c (by omega) (by omega) hbase q hq];rfl
theorem WN {g:List (List Int)} (ho:ordered g) {S:List Bool} (hl:S.length=3+g.length) (b:Nat):(CR g (3+g.length) g.length S).getD b false=true↔ ∃d,S.getD d false=true∧Je g d b=true:=by
 refine⟨IE ho hl _ b,?_⟩
 have key: ∀d,(CR g (3+g.length) g.length S).getD d false=true→Je g d b=true→(CR g (3+g.length) g.length S).getD b false=true:=by
  intro d
  induction d using Nat.strongRecOn with
  | _ d ih=>
    intro h1 h2;rw[GC ho,Bool.or_eq_true,FQ,List.any_eq_true]at h2;rcases h2 with rfl|⟨p,hp,h2⟩
    ·exact h1
    ·have hop:=ho d p hp
     refine ih p.toNat (by omega) (Jx ho hl g.length d (by omega) ?_ h1 p hp) h2;omega
 rintro⟨d,h1,h2⟩;exact key d (NB ho hl _ d h1) h2
def RB (n:Nat) (t:BB) (u:Nat×Nat):Prop:=
 t.1.length=n∧t.2.length=n∧(∀b,t.1.getD b false=u.1.testBit b)∧(∀b,b≠1→b≠2→t.2.getD b false=u.2.testBit b)∧u.1.testBit 1=false∧u.1.testBit 2=false
theorem GJ (m c b:Nat):(m|||2 ^ c).testBit b=(m.testBit b||b==c):=by
 rw[Nat.testBit_or,Nat.testBit_two_pow];congr 1;rw[Bool.eq_iff_iff];simp only[D8,FQ];omega
theorem Nd {l:List Bool} {m c:Nat} (hc:c<l.length) {b:Nat} (h:l.getD b false=m.testBit b):(l.set c true).getD b false=(m|||2 ^ c).testBit b:=by
 rw[GH hc,GJ,←h];split
 ·rename_i e;subst e;simp
 ·rename_i e
  have:(b==c)=false:=by simpa using e
  rw[this,Bool.or_false]
def RQ (x:Fact×Bool):Bool:= !x.2&&(!(x.1.op==2)||x.1.cls==1||x.1.cls==2)
theorem YE {n:Nat} {x:Fact×Bool} {t:BB} {k:Kn} (h:RB n t (k.CO,k.GX)) (hc:x.1.op=2→0≤x.1.cls∧x.1.cls<n) :
 (RQ x=true→Io x t=none)∧(RQ x=false→ ∃t',Io x t=some t'∧RB n t' ((C6 k x.1 x.2).CO,(C6 k x.1 x.2).GX)):=by
 obtain⟨f,c⟩:=x;simp only at hc;obtain⟨h1,h2,h3,h4,h5,h6⟩:=h;unfold RQ Io C6;simp only;by_cases ho:f.op=2
 ·have hc':=hc ho
  by_cases h12:f.cls=1∨f.cls=2
  ·rw[if_pos (.inr h12),if_pos ho]
   cases c with
   | true=>
     refine⟨fun h=>(by cases h),fun _=>⟨t,rfl,h1,h2,h3,fun b hb1 hb2=>?_,h5,h6⟩⟩;rw[if_pos rfl];show _=(k.GX|||2 ^ f.cls.toNat).testBit b;rw[GJ,h4 b hb1 hb2];have:(b==f.cls.toNat)=false:=by rw[beq_eq_false_iff_ne];omega
     rw[this,Bool.or_false]
   | false=>
     refine⟨fun _=>rfl,fun h=>?_⟩;exfalso;rcases h12 with e|e<;>simp[e]at h
  ·have hn: ¬(f.op≠2∨f.cls=1∨f.cls=2):=by omega
   rw[if_neg hn,if_pos ho]
   have hb:(!c&&(!(f.op==2)||f.cls==1||f.cls==2))=false:=by
    have e1:(f.op==2)=true:=by simpa using ho
    have e2:(f.cls==1)=false:=by rw[beq_eq_false_iff_ne];omega
    have e3:(f.cls==2)=false:=by rw[beq_eq_false_iff_ne];omega
    rw[e1,e2,e3];simp
   rw[hb];refine⟨fun h=>(by cases h),fun _=>?_⟩;cases c with
   | true=>
     refine⟨_,rfl,h1,by simpa using h2,h3,fun b hb1 hb2=>?_,h5,h6⟩;exact Nd (by omega) (h4 b hb1 hb2)
   | false=>
     refine⟨_,rfl,by simpa using h1,h2,fun b=>?_,h4,?_,?_⟩
     ·exact Nd (by omega) (h3 b)
     ·show(k.CO|||2 ^ f.cls.toNat).testBit 1=false
      rw[GJ,h5];have:(1==f.cls.toNat)=false:=by rw[beq_eq_false_iff_ne];omega
      rw[this];rfl
     ·show(k.CO|||2 ^ f.cls.toNat).testBit 2=false
      rw[GJ,h6];have:(2==f.cls.toNat)=false:=by rw[beq_eq_false_iff_ne];omega
      rw[this];rfl
 ·rw[if_pos (.inl ho),if_neg ho]
  have e1:(f.op==2)=false:=by simpa using ho
  cases c with
  | true=>
    refine⟨fun h=>(by cases h),fun _=>⟨t,rfl,?_⟩⟩;split<;>exact⟨h1,h2,h3,h4,h5,h6⟩
  | false=>exact⟨fun _=>rfl,fun h=>by rw[e1]at h;cases h⟩
theorem Qg {n:Nat}: ∀(os:List Fact) {t:BB} {k:Kn},RB n t (k.CO,k.GX)→Ik n os→
 (os.any (fun l=>RQ (BV l))=true→Fa os t=none)∧(os.any (fun l=>RQ (BV l))=false→ ∃t',Fa os t=some t'∧RB n t' ((Er os k).CO,(Er os k).GX))
 | [],t,k,h,_=>⟨fun h=>(by cases h),fun _=>⟨t,rfl,h⟩⟩
 | l ::r,t,k,h,hc=>by
   obtain⟨s1,s2⟩:=YE h (hc l (.head _));rw[List.any_cons,Fa];cases hb:RQ (BV l)with
   | true=>exact⟨fun _=>by rw[s1 hb];rfl,fun h=>(by cases h)⟩
   | false=>
     obtain⟨t',h1,h2⟩:=s2 hb;rw[h1,Bool.false_or,Option.bind_some];exact Qg r h2 fun x hx=>hc x (.tail _ hx)
theorem dG {os:List Fact} {n:Nat} (hc:Ik n os):(os.any fun l=>RQ (BV l))=((Er os k0).whole||(Er os k0).CO.testBit 1||(Er os k0).CO.testBit 2):=by
 rw[Bool.eq_iff_iff,Bool.or_eq_true,Bool.or_eq_true,LO,LO,Kb];simp only[List.any_eq_true,RQ,Bn,Bool.or_eq_true,Bool.not_eq_true',FQ,beq_eq_false_iff_ne,k0,Bool.false_or];constructor
 ·rintro⟨l,hl,hb,(h|h)|h⟩
  ·exact .inl (.inl ⟨l,hl,hb,h⟩)
  ·by_cases ho:(BV l).1.op=2
   ·exact .inl (.inr ⟨l,hl,ho,hb,by rw[h];rfl⟩)
   ·exact .inl (.inl ⟨l,hl,hb,ho⟩)
  ·by_cases ho:(BV l).1.op=2
   ·exact .inr ⟨l,hl,ho,hb,by rw[h];rfl⟩
   ·exact .inl (.inl ⟨l,hl,hb,ho⟩)
 ·rintro((⟨l,hl,hb,h⟩|⟨l,hl,ho,hb,h⟩)|⟨l,hl,ho,hb,h⟩)
  ·exact⟨l,hl,hb,.inl (.inl h)⟩
  ·have:=hc l hl ho
   exact⟨l,hl,hb,.inl (.inr (by omega))⟩
  ·have:=hc l hl ho
   exact⟨l,hl,hb,.inr (by omega)⟩
def Wb (w:AP) (A8 can:Int→Bool) (s:Int) (u:Nat×Nat):Option (Nat×Nat):=
 if A8 s&& !can s then none else some (if A8 s then u.1|||2 ^ (D9 w s).toNat else u.1,if can s then u.2 else u.2|||2 ^ (D9 w s).toNat)
def IL (w:AP) (A8 can:Int→Bool):List Int→Nat×Nat→Option (Nat×Nat)
 | [],u=>some u
 | s::r,u=>(Wb w A8 can s u).bind (IL w A8 can r)
theorem XS {w:AP} {ls:List Fact} {a:Int} {p:List Int} {can A8:Int→Bool} (hn: ∀s,A8 s= !Gf ls a (p++[s])) {n:Nat} (how: ∀s:Int,0≤s→s<w.owner.length→3≤D9 w s∧D9 w s<n) :
 ∀(sl:List Int) {t:BB} {u:Nat×Nat},(∀s∈sl,0≤s∧s<w.owner.length)→RB n t u→
 (E7 w ls a p can sl t=none∧IL w A8 can sl u=none)∨ ∃t' u',E7 w ls a p can sl t=some t'∧IL w A8 can sl u=some u'∧RB n t' u'
 | [],t,u,_,h=> .inr ⟨t,u,rfl,rfl,h⟩
 | s ::r,t,u,hsl,h=>by
   have hs:=hsl s (.head _);have ho:=how s hs.1 hs.2;rw[E7,IL,Km,Wb,hn];obtain⟨h1,h2,h3,h4,h5,h6⟩:=h;split
   ·exact .inl ⟨rfl,rfl⟩
   ·rw[Option.bind_some,Option.bind_some]
    refine XS hn how r (fun x hx=>hsl x (.tail _ hx)) ?_;have hb: ∀i,i<3→(i==(D9 w s).toNat)=false:=fun i hi=>by rw[beq_eq_false_iff_ne];omega
    cases Gf ls a (p++[s])<;>cases can s<;>refine⟨by simpa using h1,by simpa using h2,fun b=>?_,fun b hb1 hb2=>?_,?_,?_⟩
    all_goals simp only[Bool.not_false,Bool.not_true,Mk,if_true,if_false]
    all_goals first
     | exact h3 b
     | exact h4 b hb1 hb2
     | exact h5
     | exact h6
     | exact Nd (by omega) (h3 b)
     | exact Nd (by omega) (h4 b hb1 hb2)
     | (rw[GJ,h5,hb 1 (by omega)];rfl)
     | (rw[GJ,h6,hb 2 (by omega)];rfl)
def HC (m:Nat):Nat:=m - m % 2
theorem UB (m b:Nat):(HC m).testBit b=(m.testBit b&& !(b==0)):=by
 cases b with
 | zero=>
   simp[HC,Nat.testBit_zero];omega
 | succ b=>
   rw[Nat.testBit_succ,Nat.testBit_succ,HC,show(m - m % 2) / 2=m / 2 by omega];simp
theorem uV {w:AP} (ho:ordered w.parents) {t:BB} {u:Nat×Nat} (h:RB (3+w.parents.length) t u) :
 (X4 w t).isSome=(!u.2.testBit 0&&(HC (Ds (Eu w.parents) w.parents.length u.1)&&&u.2==0)):=by
 obtain⟨h1,h2,h3,h4,h5,h6⟩:=h;rw[X4,h4 0 (by decide) (by decide)];cases h0:u.2.testBit 0 with
 | true=>rfl
 | false =>
   rw[if_neg (by decide),Bool.not_false,Bool.true_and];have hl:(t.1.set 0 false).length=3+w.parents.length:=by simpa using h1
   have G:=WN ho hl;have F:=PS ho u.1 w.parents.length
   have hS: ∀d,(t.1.set 0 false).getD d false=true↔d≠0∧u.1.testBit d=true:=fun d=>by
    rw[GH (by omega)];split
    ·rename_i e;subst e;simp
    ·rename_i e;rw[h3];exact⟨fun h=>⟨e,h⟩,fun h=>h.2⟩
   have hlt: ∀b,u.1.testBit b=true→b<3+w.parents.length:=fun b hb=>by
    rw[←h3]at hb;rcases Nat.lt_or_ge b (3+w.parents.length)with h'|h'
    ·exact h'
    ·rw[E9,List.getElem?_eq_none (by omega)]at hb;cases hb
   have h3b: ∀d,d≠0→u.1.testBit d=true→3≤d:=fun d hd hb=>by
    rcases d with _|_|_|d
    ·exact absurd rfl hd
    ·rw[h5]at hb;cases hb
    ·rw[h6]at hb;cases hb
    ·omega
   have hM: ∀b,(HC (Ds (Eu w.parents) w.parents.length u.1)).testBit b=true↔(CR w.parents (3+w.parents.length) w.parents.length (t.1.set 0 false)).getD b false=true:=fun b=>by
    rw[UB,Bn,F b (Nat.le_refl _),G,Bool.not_eq_true',beq_eq_false_iff_ne];constructor
    ·rintro⟨h|⟨d,q1,q2,q3,q4⟩,hb⟩
     ·exact⟨b,(hS b).2 ⟨hb,h⟩,HM ho b⟩
     ·rcases q4 with e|q4
      ·exact absurd e hb
      ·exact⟨d,(hS d).2 ⟨by omega,q3⟩,q4⟩
    ·rintro⟨d,hd,hu⟩
     obtain⟨hd0,hdu⟩:=(hS d).1 hd;have hd3:=h3b d hd0 hdu;have:=VI ho d b hd3 hu;exact⟨.inr ⟨d,hd3,hlt d hdu,hdu,.inr hu⟩,by omega⟩
   have hany:((List.range (3+w.parents.length)).any fun c=>(CR w.parents (3+w.parents.length) w.parents.length (t.1.set 0 false)).getD c false&&t.2.getD c false)= !(HC (Ds (Eu w.parents) w.parents.length u.1)&&&u.2==0):=by
    rw[Bool.eq_iff_iff,Bool.not_eq_true',←Bool.not_eq_true,Ol,List.any_eq_true];constructor
    ·rintro⟨c,hc,hx⟩ hall
     rw[Bn]at hx;have hm:=(hM c).2 hx.1;obtain⟨d,hd,hu⟩:=(G c).1 hx.1;obtain⟨hd0,hdu⟩:=(hS d).1 hd;have:=VI ho d c (h3b d hd0 hdu) hu;exact hall c hm (by rw[←h4 c (by omega) (by omega)];exact hx.2)
    ·intro hne
     rcases Classical.em (∃b,(HC (Ds (Eu w.parents) w.parents.length u.1)).testBit b=true∧u.2.testBit b=true)with⟨b,hb1,hb2⟩|hno
     ·have hm:=(hM b).1 hb1
      obtain⟨d,hd,hu⟩:=(G b).1 hm;obtain⟨hd0,hdu⟩:=(hS d).1 hd;have:=VI ho d b (h3b d hd0 hdu) hu;have:=aB ho d b hu;have:=hlt d hdu;exact⟨b,List.mem_range.2 (by omega),by rw[hm,h4 b (by omega) (by omega),hb2];rfl⟩
     ·exact absurd (fun b h1 h2=>hno ⟨b,h1,h2⟩) hne
   rw[hany];cases(HC (Ds (Eu w.parents) w.parents.length u.1)&&&u.2==0)<;>rfl
def NL (w:AP) (k:Kn) (A8 can:Int→Bool):Nat×Bool:=
 if k.whole||k.CO.testBit 1||k.CO.testBit 2||k.GX.testBit 0 then(0,false)else
 match IL w A8 can k.AN (k.CO,k.GX)with
 | none=>(0,false)
 | some u=>(HC (Ds (Eu w.parents) w.parents.length u.1),HC (Ds (Eu w.parents) w.parents.length u.1)&&&u.2==0)
theorem PN {w:AP} {A8 can:Int→Bool} (how: ∀s:Int,0≤s→s<w.owner.length→3≤D9 w s): ∀(sl:List Int) {u u':Nat×Nat},(∀s∈sl,0≤s∧s<w.owner.length)→IL w A8 can sl u=some u'→u'.2.testBit 0=u.2.testBit 0
 | [],u,u',_,h=>by cases h;rfl
 | s ::r,u,u',hsl,h=>by
   have hs:=hsl s (.head _);have ho:=how s hs.1 hs.2;rw[IL,Wb]at h;split at h
   ·cases h
   ·rw[Option.bind_some]at h
    rw[PN how r (fun x hx=>hsl x (.tail _ hx)) h];simp only;split
    ·rfl
    ·rw[GJ]
     have:(0==(D9 w s).toNat)=false:=by rw[beq_eq_false_iff_ne];omega
     rw[this,Bool.or_false]
theorem lV {w:AP} {ls:List Fact} {a:Int} {p:List Int} {can A8:Int→Bool} (ho:ordered w.parents) (how: ∀s:Int,0≤s→s<w.owner.length→3≤D9 w s∧D9 w s<3+w.parents.length) (hc:Ik (3+w.parents.length) ls) (hp:Hp w.owner.length ls) (hn: ∀s,A8 s= !Gf ls a (p++[s])) :
 (NL w (kn ls a p) A8 can).2=(N1 w ls a p can).isSome:=by
 have hcore:=Nl ls a p;have hsl:=LQ hp a p;generalize kn ls a p=k at *;have hc2:Ik (3+w.parents.length) (ls.filter (Ia a p)):=fun l hl=>hc l (Qz.1 hl).1
 simp only[E8,Prod.mk.injEq]at hcore;obtain⟨-,-,-,c4,c5,c6⟩:=hcore;rw[NL,N1,c4,c5,c6,←dG hc2,hsl]
 have hR0:RB (3+w.parents.length) (tO w) (k0.CO,k0.GX):=by
  refine⟨by simp[tO],by simp[tO],fun b=>?_,fun b _ _=>?_,rfl,rfl⟩<;>
  ·simp only[tO,k0,Nat.zero_testBit,E9,List.getElem?_replicate]
   split<;>rfl
 obtain⟨f1,f2⟩:=Qg _ hR0 hc2;cases hbad:(ls.filter (Ia a p)).any fun l=>RQ (BV l)with
 | true=>rw[f1 hbad];rfl
 | false=>
   obtain⟨t,ht,G⟩:=f2 hbad;rw[ht,Option.bind_some,Bool.false_or];have hin: ∀s∈Ci w.owner.length ls a p,0≤s∧s<(w.owner.length:Int):=fun s hs=>ML hs
   rcases XS (can:=can) hn (fun s h0 h1=>by have:=how s h0 h1;omega) (Ci w.owner.length ls a p) hin G with⟨e1,e2⟩|⟨t',u',e1,e2,hR'⟩
   ·rw[e1,e2]
    split<;>rfl
   ·rw[e1,e2,Option.bind_some,uV ho hR']
    have:=PN (fun s h0 h1=>(how s h0 h1).1) _ hin e2;rw[this];simp only;cases((Er (ls.filter (Ia a p)) k0).GX.testBit 0)<;>rfl
end Go.Gl
namespace Go.Gl
abbrev Eg (a:Int) (p:List Int):V:= .a [eI a,eI (p.length:Int),eI (p.getD 0 0),eI (p.getD 1 0)]
structure DM where
 a:Int
 p:List Int
 b:Nat
 vn:V
 vs:V
 k:Kn
abbrev DM.is (e:DM) (a:Int) (p:List Int):Bool:=e.a==a&&e.p==p
abbrev entC (b:Nat) (vn vs:V) (k:Kn):At:= .box b [eI k.low,eI k.high,vn,eU k.CO,eU k.GX,.b k.whole,.b k.A8,vs]
abbrev sF (b:Nat) (vn vs:V) (k:Kn):List At:=[entC b vn vs k,.own vn 1 (iL k.no),.own vs 1 (iL k.AN)]
abbrev TI (e:DM):List At:=sF e.b e.vn e.vs e.k
def Uz (es:List DM):List (V×V):=es.map fun e=>(Eg e.a e.p,.p e.b 0)
def CW (L:Nat) (es:List DM):List At:= .map L (Uz es)::es.flatMap TI
def HE (L:Nat) (es pre post:List DM):List At:= .map L (Uz es)::(pre++post).flatMap TI
theorem KD {e:DM} {a:Int} {p:List Int}:e.is a p=true↔e.a=a∧e.p=p:=by simp[DM.is]
theorem Nn {e:DM} {a:Int} {p:List Int}:e.is a p=false↔ ¬(e.a=a∧e.p=p):=by rw[←KD,Bool.not_eq_true]
theorem Rf {a a':Int} {p p':List Int} (h:p.length≤2) (h':p'.length≤2):D0 (Eg a p) (Eg a' p')=(a==a'&&p==p'):=by
 have e:D0 (Eg a p) (Eg a' p')=(a==a'&&((p.length:Int)==p'.length&&(p.getD 0 0==p'.getD 0 0&&(p.getD 1 0==p'.getD 1 0)))):=by
  simp[D0,B7,Eg]
 rw[e];congr 1
 match p,h,p',h' with
 | [],_,[],_=>rfl
 | [],_,[_],_=>simp
 | [],_,[_,_],_=>simp<;>omega
 | [_],_,[],_=>simp
 | [x],_,[y],_=>simp
 | [_],_,[_,_],_=>simp<;>omega
 | [_,_],_,[],_=>simp<;>omega
 | [_,_],_,[_],_=>simp<;>omega
 | [x,y],_,[z,u],_=>simp
theorem Od (es:List DM): ∀kv∈Uz es,Bb (.a [.i64,.i64,.i64,.i64]) kv.1=true:=by
 intro kv h;obtain⟨e,_,rfl⟩:=Nv.1 h;rfl
theorem Tx {a:Int} {p:List Int} (hp:p.length≤2): ∀ {es:List DM},(∀e∈es,e.p.length≤2)→(∀e∈es,e.is a p=false)→Cr (Eg a p) (Uz es)=none
 | [],_,_=>rfl
 | e ::r,hl,h=>by
   have he:=h e (.head _);rw[Uz,List.map_cons,Cr,Rf hp (hl e (.head _))]
   have:(a==e.a&&p==e.p)=false:=by
    rw[←he,DM.is,Bool.eq_iff_iff];simp only[Bn,FQ];exact⟨fun⟨h1,h2⟩=>⟨h1.symm,h2.symm⟩,fun⟨h1,h2⟩=>⟨h1.symm,h2.symm⟩⟩
   rw[this,cond_false];exact Tx hp (fun x hx=>hl x (.tail _ hx)) (fun x hx=>h x (.tail _ hx))
theorem aV {a:Int} {p:List Int} (hp:p.length≤2) (b:Nat) (vn vs:V) (k:Kn): ∀ {es:List DM},(∀e∈es,e.p.length≤2)→(∀e∈es,e.is a p=false)→Dy (Eg a p) (.p b 0) (Uz es)=Uz (es++[⟨a,p,b,vn,vs,k⟩])
 | [],_,_=>rfl
 | e ::r,hl,h=>by
   have he:=h e (.head _);have ih:=aV hp b vn vs k (fun x hx=>hl x (.tail _ hx)) (fun x hx=>h x (.tail _ hx));simp only[Uz]at ih;rw[Uz,List.map_cons,Dy,Rf hp (hl e (.head _))]
   have:(a==e.a&&p==e.p)=false:=by
    rw[←he,DM.is,Bool.eq_iff_iff];simp only[Bn,FQ];exact⟨fun⟨h1,h2⟩=>⟨h1.symm,h2.symm⟩,fun⟨h1,h2⟩=>⟨h1.symm,h2.symm⟩⟩
   rw[this,cond_false,ih];rfl
theorem Tw {a:Int} {p:List Int} (hp:p.length≤2) {e:DM} (he:e.is a p=true) {post:List DM}: ∀ {pre:List DM},(∀x∈pre++e::post,x.p.length≤2)→(∀x∈pre,x.is a p=false)→Cr (Eg a p) (Uz (pre++e::post))=some (.p e.b 0)
 | [],hl,_=>by
   rw[List.nil_append,Uz,List.map_cons,Cr,Rf hp (hl e (.head _))];obtain⟨h1,h2⟩:=KD.1 he;rw[h1,h2];simp
 | x ::r,hl,h=>by
   have hx:=h x (.head _);rw[List.cons_append,Uz,List.map_cons,Cr,Rf hp (hl x (.head _))]
   have:(a==x.a&&p==x.p)=false:=by
    rw[←hx,DM.is,Bool.eq_iff_iff];simp only[Bn,FQ];exact⟨fun⟨h1,h2⟩=>⟨h1.symm,h2.symm⟩,fun⟨h1,h2⟩=>⟨h1.symm,h2.symm⟩⟩
   rw[this,cond_false];exact Tw hp he (fun y hy=>hl y (.tail _ hy)) (fun y hy=>h y (.tail _ hy))
theorem lQ (a:Int) (p:List Int): ∀(es:List DM),(∀e∈es,e.is a p=false)∨ ∃pre e post,es=pre++e::post∧e.is a p=true∧ ∀x∈pre,x.is a p=false
 | []=> .inl fun _ h=>by cases h
 | e ::r=>by
   cases h:e.is a p with
   | true=>exact .inr ⟨[],e,r,rfl,h,fun _ h=>by cases h⟩
   | false=>
     rcases lQ a p r with h1|⟨pre,x,post,rfl,h1,h2⟩
     ·exact .inl fun x hx=>by
       rcases IF.1 hx with rfl|hx
       ·exact h
       ·exact h1 x hx
     ·exact .inr ⟨e::pre,x,post,rfl,h1,fun y hy=>by
       rcases IF.1 hy with rfl|hy
       ·exact h
       ·exact h2 y hy⟩
theorem Tz (L:Nat) (pre post:List DM) (e:DM):(CW L (pre++e::post)).Perm (TI e++HE L (pre++e::post) pre post):=by
 unfold CW HE;rw[List.flatMap_append,List.flatMap_cons,List.flatMap_append];refine List.Perm.trans ?_ (List.perm_middle.symm);refine List.Perm.cons _ ?_;rw[←WU,←WU];exact List.Perm.append_right _ List.perm_append_comm
theorem Vu {pre post:List DM} {e e':DM} (h1:e'.a=e.a) (h2:e'.p=e.p) (h3:e'.b=e.b):Uz (pre++e'::post)=Uz (pre++e::post):=by
 simp only[Uz,List.map_append,List.map_cons,h1,h2,h3]
theorem SU {L:Nat} {pre post:List DM} {e e':DM} (h1:e'.a=e.a) (h2:e'.p=e.p) (h3:e'.b=e.b):HE L (pre++e'::post) pre post=HE L (pre++e::post) pre post:=by
 rw[HE,HE,Vu h1 h2 h3]
structure EC (kf:Int→List Int→Kn) (es:List DM):Prop where
 val: ∀e∈es,e.k=kf e.a e.p
 non: ∀a p,(∀e∈es,e.is a p=false)→kf a p=k0
 one:es.Pairwise fun e e'=>e.is e'.a e'.p=false
 len: ∀e∈es,e.p.length≤2
def P6 (es:List DM):Prop:= ∀e∈es,∀s∈e.k.AN,∃e'∈es,e'.is e.a (e.p++[s])=true
theorem EC.congr {kf kf':Int→List Int→Kn} {es:List DM} (h:EC kf es) (e: ∀a p,kf a p=kf' a p):EC kf' es:=
 ⟨fun x hx=>(h.val x hx).trans (e _ _),fun a p hp=>(e a p).symm.trans (h.non a p hp),h.one,h.len⟩
theorem EC.add {kf:Int→List Int→Kn} {es:List DM} (h:EC kf es) {a:Int} {p:List Int} (hp:p.length≤2) (hn: ∀e∈es,e.is a p=false) (b:Nat) (vn vs:V):EC kf (es++[⟨a,p,b,vn,vs,k0⟩]):=by
 refine⟨fun x hx=>?_,fun a' p' h'=>h.non a' p' fun x hx=>h' x (Uv _ hx),?_,fun x hx=>?_⟩
 ·rcases Fo.1 hx with hx|hx
  ·exact h.val x hx
  ·rw[List.mem_singleton.1 hx];exact(h.non a p hn).symm
 ·rw[List.pairwise_append]
  exact⟨h.one,List.pairwise_singleton _ _,fun x hx y hy=>by rw[List.mem_singleton.1 hy];exact hn x hx⟩
 ·rcases Fo.1 hx with hx|hx
  ·exact h.len x hx
  ·rw[List.mem_singleton.1 hx];exact hp
theorem P6.add {es:List DM} (h:P6 es) {a:Int} {p:List Int} (b:Nat) (vn vs:V):P6 (es++[⟨a,p,b,vn,vs,k0⟩]):=by
 intro e he s hs;rcases Fo.1 he with he|he
 ·obtain⟨e',h1,h2⟩:=h e he s hs
  exact⟨e',Uv _ h1,h2⟩
 ·rw[List.mem_singleton.1 he]at hs
  cases hs
def Sr (kf:Int→List Int→Kn) (a:Int) (p:List Int) (k:Kn):Int→List Int→Kn:=fun a' p'=>if a'=a∧p'=p then k else kf a' p'
theorem EC.change {kf:Int→List Int→Kn} {pre post:List DM} {e:DM} (h:EC kf (pre++e::post)) (b:Nat) (vn vs:V) (k:Kn):EC (Sr kf e.a e.p k) (pre++⟨e.a,e.p,b,vn,vs,k⟩::post):=by
 have h1:=h.one;rw[List.pairwise_append,List.pairwise_cons]at h1;obtain⟨o1,⟨o2,o3⟩,o4⟩:=h1;refine⟨fun x hx=>?_,fun a p hp=>?_,?_,fun x hx=>?_⟩
 ·rw [Sr]
  rcases Fo.1 hx with hx|hx
  ·rw[if_neg]
   ·exact h.val x (Uv _ hx)
   ·have:=o4 x hx e (.head _)
    rw[Nn]at this;exact this
  ·rcases IF.1 hx with rfl|hx
   ·rw[if_pos ⟨rfl,rfl⟩]
   ·rw[if_neg]
    ·exact h.val x (WV _ (.tail _ hx))
    ·have:=o2 x hx
     rw[Nn]at this;exact fun⟨q1,q2⟩=>this ⟨q1.symm,q2.symm⟩
 ·have he:=Nn.1 (hp _ (WV _ (.head _)))
  rw[Sr,if_neg (fun⟨q1,q2⟩=>he ⟨q1.symm,q2.symm⟩)];refine h.non a p fun x hx=>?_
  rcases Fo.1 hx with hx|hx
  ·exact hp x (Uv _ hx)
  ·rcases IF.1 hx with rfl|hx
   ·exact Nn.2 he
   ·exact hp x (WV _ (.tail _ hx))
 ·rw[List.pairwise_append,List.pairwise_cons]
  refine⟨o1,⟨o2,o3⟩,fun x hx y hy=>?_⟩;rcases IF.1 hy with rfl|hy
  ·exact o4 x hx e (.head _)
  ·exact o4 x hx y (.tail _ hy)
 ·rcases Fo.1 hx with hx|hx
  ·exact h.len x (Uv _ hx)
  ·rcases IF.1 hx with rfl|hx
   ·exact h.len e (WV _ (.head _))
   ·exact h.len x (WV _ (.tail _ hx))
theorem P6.change {pre post:List DM} {e:DM} (h:P6 (pre++e::post)) (b:Nat) (vn vs:V) (k:Kn) (hs: ∀s∈k.AN,s∈e.k.AN∨ ∃e'∈pre++e::post,e'.is e.a (e.p++[s])=true):P6 (pre++⟨e.a,e.p,b,vn,vs,k⟩::post):=by
 have mov: ∀ {a p},(∃e'∈pre++e::post,e'.is a p=true)→ ∃e'∈pre++(⟨e.a,e.p,b,vn,vs,k⟩:DM)::post,e'.is a p=true:=by
  rintro a p ⟨x,hx,h'⟩;rcases Fo.1 hx with hx|hx
  ·exact⟨x,Uv _ hx,h'⟩
  ·rcases IF.1 hx with rfl|hx
   ·exact⟨_,WV _ (.head _),h'⟩
   ·exact⟨x,WV _ (.tail _ hx),h'⟩
 intro x hx s hxs;rcases Fo.1 hx with hx|hx
 ·exact mov (h x (Uv _ hx) s hxs)
 ·rcases IF.1 hx with rfl|hx
  ·rcases hs s hxs with h'|h'
   ·exact mov (h e (WV _ (.head _)) s h')
   ·exact mov h'
  ·exact mov (h x (WV _ (.tail _ hx)) s hxs)
def Du (f:Fact) (c:Bool) (j:Nat) (a:Int) (p:List Int) (k:Kn):Kn:=
 if f.arg=a∧CI f.path p=true then(if p.length<j then dM (Dw k c) (f.path.getD p.length 0)else if p.length=j then Dw k c else k)else k
theorem ND {path p:List Int}:CI path p=true↔p.length≤path.length∧p=path.take p.length:=by
 rw[D5];constructor
 ·rintro⟨t,rfl⟩
  exact⟨by simp,by simp⟩
 ·rintro⟨h1,h2⟩
  exact⟨path.drop p.length,by conv=>rhs;rw[h2,PZ,Nat.min_eq_left h1,List.take_append_drop]⟩
theorem fT (f:Fact) (c:Bool) (a:Int) (p:List Int) (k:Kn):Du f c 0 a p k=if a=f.arg∧p= []then Dw k c else k:=by
 unfold Du;by_cases h:f.arg=a∧CI f.path p=true
 ·rw[if_pos h,if_neg (by omega)]
  by_cases hp:p.length=0
  ·rw[if_pos hp,if_pos ⟨h.1.symm,List.length_eq_zero_iff.1 hp⟩]
  ·rw[if_neg hp,if_neg (fun h'=>hp (by rw[h'.2];rfl))]
 ·rw[if_neg h,if_neg]
  rintro⟨rfl,rfl⟩;exact h ⟨rfl,D5.2 ⟨f.path,by simp⟩⟩
theorem fU (f:Fact) (c:Bool) {j:Nat} (hj:j<f.path.length) (a:Int) (p:List Int) (k:Kn):Du f c (j+1) a p k=if a=f.arg∧p=f.path.take (j+1)then Dw (Du f c j a p k) c else if a=f.arg∧p=f.path.take j then dM (Du f c j a p k) (f.path.getD j 0)else Du f c j a p k:=by
 unfold Du;by_cases h:f.arg=a∧CI f.path p=true
 ·rw [if_pos h,if_pos h]
  obtain⟨h1,h2⟩:=h;rw[ND]at h2;obtain⟨h2,h3⟩:=h2;have l1:p=f.path.take (j+1)↔p.length=j+1:=⟨fun e=>by rw[e,PZ];omega,fun e=>by rw[e]at h3;exact h3⟩
  have l2:p=f.path.take j↔p.length=j:=⟨fun e=>by rw[e,PZ];omega,fun e=>by rw[e]at h3;exact h3⟩
  have n1:p.length≠j+1→ ¬(a=f.arg∧p=f.path.take (j+1)):=fun h h'=>h (l1.1 h'.2)
  have n2:p.length≠j→ ¬(a=f.arg∧p=f.path.take j):=fun h h'=>h (l2.1 h'.2)
  by_cases q1:p.length<j
  ·rw[if_pos (show p.length<j+1 by omega),if_neg (n1 (by omega)),if_neg (n2 (by omega)),if_pos q1]
  ·by_cases q2:p.length=j
   ·rw[if_pos (show p.length<j+1 by omega),if_neg (n1 (by omega)),if_pos (show a=f.arg∧p=f.path.take j from⟨h1.symm,l2.2 q2⟩),if_neg q1,if_pos q2,q2]
   ·by_cases q3:p.length=j+1
    ·rw[if_neg (show¬p.length<j+1 by omega),if_pos q3,if_pos (show a=f.arg∧p=f.path.take (j+1) from⟨h1.symm,l1.2 q3⟩),if_neg q1,if_neg q2]
    ·rw[if_neg (show¬p.length<j+1 by omega),if_neg q3,if_neg (n1 q3),if_neg (n2 q2),if_neg q1,if_neg q2]
 ·rw[if_neg h,if_neg h,if_neg,if_neg]
  ·rintro⟨rfl,rfl⟩
   exact h ⟨rfl,D5.2 ⟨f.path.drop j,by rw[List.take_append_drop]⟩⟩
  ·rintro⟨rfl,rfl⟩
   exact h ⟨rfl,D5.2 ⟨f.path.drop (j+1),by rw[List.take_append_drop]⟩⟩
theorem tP (a:Int) (p:List Int) (k:Kn) (l:Fact):DR a p k l=if a=(BV l).1.arg∧p=(BV l).1.path then C6 (Du (BV l).1 (BV l).2 (BV l).1.path.length a p k) (BV l).1 (BV l).2 else Du (BV l).1 (BV l).2 (BV l).1.path.length a p k:=by
 unfold DR Du;by_cases h:(BV l).1.arg=a∧CI (BV l).1.path p=true
 ·rw [if_pos h,if_pos h]
  obtain⟨h1,h2⟩:=h;rw[ND]at h2;obtain⟨h2,h3⟩:=h2;by_cases hp:(BV l).1.path=p
  ·rw[if_pos hp,if_pos ⟨h1.symm,hp.symm⟩,if_neg (by rw[hp];omega),if_pos (by rw[hp])]
  ·have hne:p.length<(BV l).1.path.length:=by
    rcases Nat.lt_or_ge p.length (BV l).1.path.length with h'|h'
    ·exact h'
    ·rw[List.take_of_length_le h']at h3
     exact absurd h3.symm hp
   rw[if_neg hp,if_neg (fun h=>hp h.2.symm),if_pos hne]
 ·rw[if_neg h,if_neg h,if_neg]
  rintro⟨rfl,rfl⟩;exact h ⟨rfl,NF _⟩
theorem fW (ls:List Fact) (l:Fact) (a:Int) (p:List Int):kn (ls++[l]) a p=DR a p (kn ls a p) l:=by
 rw[kn,List.foldl_append];rfl
theorem Qv (l:List Int) (s:Int):(Iv l s).length≤l.length+1:=by
 unfold Iv;split
 ·omega
 ·rw[List.length_mergeSort];simp
theorem WR (k:Kn) (f:Fact) (b:Bool):(C6 k f b).no.length≤k.no.length+1:=by
 unfold C6
 repeat' split
 all_goals simp
theorem aX (a:Int) (p:List Int): ∀(ls:List Fact) (k:Kn),(ls.foldl (DR a p) k).no.length≤k.no.length+ls.length∧(ls.foldl (DR a p) k).AN.length≤k.AN.length+ls.length
 | [],k=>⟨Nat.le_refl _,Nat.le_refl _⟩
 | l ::r,k=>by
   obtain⟨h1,h2⟩:=aX a p r (DR a p k l)
   have h3:(DR a p k l).no.length≤k.no.length+1∧(DR a p k l).AN.length≤k.AN.length+1:=by
    unfold DR
    repeat' split
    ·have:=WR (Dw k (BV l).2) (BV l).1 (BV l).2
     rw[Qr];simp only[Dw]at this ⊢;omega
    ·have:=Qv k.AN ((BV l).1.path.getD p.length 0)
     simp only[dM,Dw]at this ⊢;omega
    ·omega
   rw[List.foldl_cons,NW];omega
theorem fX {n:Nat} {ls:List Fact} (h:Ik n ls) (a:Int) (p:List Int):(kn ls a p).CO<2 ^ n∧(kn ls a p).GX<2 ^ n:=by
 have hc:=Nl ls a p;simp only[E8,Prod.mk.injEq]at hc;have hc2:Ik n (ls.filter (Ia a p)):=fun l hl=>h l (Qz.1 hl).1
 rw[hc.2.2.2.1,hc.2.2.2.2.1];exact⟨R6 hc2,sf hc2⟩
end Go.Gl
namespace Go.Gl
def IW (no:List Int):Nat→Int→Int
 | 0,n=>n
 | k+1,n=>if no.contains n then IW no k (n+1)else n
def from_ (no:List Int) (n:Int):Nat:=(no.filter fun x=>decide (n≤x)).length
theorem SJ {no:List Int} {n:Int} (h:n∈no):from_ no (n+1)<from_ no n:=by
 induction no with
 | nil=>cases h
 | cons x r ih=>
   simp only[from_,List.filter_cons]at ih ⊢;by_cases hx:x=n
   ·subst hx
    have hle:(r.filter fun y=>decide (x+1≤y)).length≤(r.filter fun y=>decide (x≤y)).length:=by
     refine List.Sublist.length_le ?_
     have e:(r.filter fun y=>decide (x+1≤y))=(r.filter fun y=>decide (x≤y)).filter fun y=>decide (x+1≤y):=by
      rw[List.filter_filter];refine List.filter_congr fun y _=>?_
      rw[Bool.eq_iff_iff,Bn,D8,D8];omega
     rw[e];exact List.filter_sublist
    rw[if_neg (by simp<;>omega),if_pos (by simp),NW];omega
   ·have h':n∈r:=by
     rcases IF.1 h with e|e
     ·exact absurd e.symm hx
     ·exact e
    have:=ih h';by_cases h1:n≤x
    ·rw[if_pos (by rw[D8];omega),if_pos (by rw[D8];omega),NW,NW]
     omega
    ·rw[if_neg (by rw[D8];omega),if_neg (by rw[D8];omega)]
     omega
theorem XO (no:List Int) (n:Int):from_ no n≤no.length:=List.length_filter_le _ _
theorem La {no:List Int}: ∀(k:Nat) (n:Int),from_ no n≤k→n≤IW no k n∧IW no k n∉no∧ ∀j,n≤j→j<IW no k n→j∈no
 | 0,n,h=>by
   refine⟨Int.le_refl _,fun hm=>?_,fun j h1 h2=>by simp only[IW]at h2;omega⟩;have:=SJ hm;simp only[IW]at this;omega
 | k + 1,n,h=>by
   rw[IW];split
   ·rename_i hc
    rw[List.contains_iff_mem]at hc;have hlt:=SJ hc;obtain⟨h1,h2,h3⟩:=La (no:=no) k (n+1) (by omega);refine⟨by omega,h2,fun j hj1 hj2=>?_⟩;by_cases e:j=n
    ·subst e;exact hc
    ·exact h3 j (by omega) hj2
   ·rename_i hc
    exact⟨Int.le_refl _,fun hm=>hc (List.contains_iff_mem.2 hm),fun j h1 h2=>by omega⟩
theorem xi {no:List Int} {k:Nat} {n:Int} (h:n∈no):IW no (k+1) n=IW no k (n+1):=by rw[IW,if_pos (List.contains_iff_mem.2 h)]
theorem k7 {no:List Int} {k:Nat} {n:Int} (h:n∉no):IW no k n=n:=by
 cases k with
 | zero=>rfl
 | succ k=>rw[IW,if_neg (fun hc=>h (List.contains_iff_mem.1 hc))]
theorem Xk {no:List Int} {k k':Nat} {n:Int} (h:from_ no n≤k) (h':from_ no n≤k'):IW no k n=IW no k' n:=by
 obtain⟨a1,a2,a3⟩:=La k n h;obtain⟨b1,b2,b3⟩:=La k' n h';rcases Int.lt_trichotomy (IW no k n) (IW no k' n)with hl|he|hg
 ·exact absurd (b3 _ a1 hl) a2
 ·exact he
 ·exact absurd (a3 _ b1 hg) b2
def KA (k:Kn):Int:=IW k.no k.no.length k.low
def OD (kf:Int→List Int→Kn) (a:Int) (p:List Int):Bool:=(kf a p).AN.all fun s=> !(kf a (p++[s])).A8
def Ho (kf:Int→List Int→Kn) (a:Int) (p:List Int) (c:Nat):Bool:=Pd (kf a p).CO (1|||2 ^ c)&&((kf a p).GX&&&(1|||2 ^ c)==0&&OD kf a p)
def RJ (kf:Int→List Int→Kn) (a:Int) (p:List Int):Bool:=decide (KA (kf a p)≤(kf a p).high)&&Ho kf a p 1
def Kp (kf:Int→List Int→Kn) (a:Int) (p:List Int):Bool:= !(kf a p).whole&&Ho kf a p 2
def NP (w:AP) (kf:Int→List Int→Kn) (a:Int):Nat→List Int→Bool
 | 0,p=>RJ kf a p||(Kp kf a p||(NL w (kf a p) (fun s=>(kf a (p++[s])).A8) (fun _=>false)).2)
 | d+1,p=>RJ kf a p||(Kp kf a p||(NL w (kf a p) (fun s=>(kf a (p++[s])).A8) (fun s=>NP w kf a d (p++[s]))).2)
def Zb (w:AP) (kf:Int→List Int→Kn):Bool:=(C9 3).all fun a=>NP w kf a 2 []
theorem XV {n:Nat} {ls:List Fact} (h:Hp n ls) (a:Int) (p:List Int):OD (kn ls) a p=Gc n ls a p:=by
 rw[OD,Gc,LQ h];congr 1;funext s;rw[MU,Bool.not_not]
theorem aY {n m:Nat} {ls:List Fact} (hn:n≤64) (hc:Ik n ls) (h:Hp m ls) (a:Int) (p:List Int):RJ (kn ls) a p=((Kj ls a p).isSome&&Gc m ls a p):=by
 have hcore:=Nl ls a p;have hc2:Ik n (ls.filter (Ia a p)):=fun l hl=>hc l (Qz.1 hl).1
 simp only[E8,Prod.mk.injEq]at hcore;obtain⟨c1,c2,c3,c4,c5,-⟩:=hcore;rw[RJ,Ho,XV h,c4,c5,←Bool.and_assoc (Pd _ _),YR hn hc2,←Bool.and_assoc];congr 1;have hf:=Qh (ls.filter (Ia a p)) k0;rw[Kj,show t0=(k0.low,k0.high,k0.no) from rfl,hf,KA,c2,c3,c1];obtain⟨h1,h2,h3⟩:=La (no:=(Er (ls.filter (Ia a p)) k0).no) _ (Er (ls.filter (Ia a p)) k0).low (XO _ _);have hs:=bg (high:=(Er (ls.filter (Ia a p)) k0).high) h1 h2 h3;cases(ls.filter (Ia a p)).all fun l=>rh (BV l)with
 | false=>simp
 | true=>rw[if_pos rfl,Option.bind_some,hs,Bool.and_true]
theorem XC {n m:Nat} {ls:List Fact} (hn:n≤64) (hc:Ik n ls) (h:Hp m ls) (a:Int) (p:List Int):Kp (kn ls) a p=Jk m ls a p:=by
 have hcore:=Nl ls a p;have hc2:Ik n (ls.filter (Ia a p)):=fun l hl=>hc l (Qz.1 hl).1
 simp only[E8,Prod.mk.injEq]at hcore;obtain⟨-,-,-,c4,c5,c6⟩:=hcore;rw[Kp,Ho,XV h,c4,c5,c6,Jk,←Vq hn hc2];simp only[Bool.and_assoc]
theorem bA {w:AP} {ls:List Fact} (ho:ordered w.parents) (how: ∀s:Int,0≤s→s<w.owner.length→3≤D9 w s∧D9 w s<3+w.parents.length) (hn:3+w.parents.length≤64) (hc:Ik (3+w.parents.length) ls) (hp:Hp w.owner.length ls) (a:Int): ∀(d:Nat) (p:List Int),NP w (kn ls) a d p=N5 w ls a d p
 | 0,p=>by
   rw[NP,N5,aY hn hc hp,XC hn hc hp,lV ho how hc hp fun s=>MU ls a (p++[s])]
 | d+1,p=>by
   rw[NP,N5,aY hn hc hp,XC hn hc hp,lV ho how hc hp fun s=>MU ls a (p++[s])];have e:(fun s=>NP w (kn ls) a d (p++[s]))=fun s=>N5 w ls a d (p++[s]):=funext fun s=>bA ho how hn hc hp a d (p++[s])
   rw[e]
theorem sL {w:AP} {ls:List Fact} (ho:ordered w.parents) (how: ∀s:Int,0≤s→s<w.owner.length→3≤D9 w s∧D9 w s<3+w.parents.length) (hn:3+w.parents.length≤64) (hc:Ik (3+w.parents.length) ls) (hp:Hp w.owner.length ls):Zb w (kn ls)=Hk w ls:=by
 rw[Zb,Hk];congr 1;funext a;exact bA ho how hn hc hp a 2 []
end Go.Gl
