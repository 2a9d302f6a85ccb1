import Derived.Test.YtinppljblkpedaaGreatRows
import Derived.HandedShaped
import Derived.Test.YtinppljblkpedaaGreatU14
import Derived.Test.YtinppljblkpedaaGreatU15
import Derived.Test.YtinppljblkpedaaGreatU18
import Derived.Test.YtinppljblkpedaaGreatU19
import Derived.Test.YtinppljblkpedaaGreatU20
set_option linter.all false
set_option linter.defProp false
set_option maxHeartbeats 8000000
noncomputable section
namespace Go.Proofs.YtinppljblkpedaaGreat
open Go.Gl Go.ChangeShapes Go.WideShapes Go.ChangeAt Go.RowKit
theorem own:ownKnob Tryz.prog.godebug=none:=by kernel_rfl
def laidOut:laidOutB Tryz.prog=true:=by kernel_rfl
def E2 {a b:Bool} (h1:a=true) (h2:b=true):(a&&b)=true:=by rw[h1,h2];rfl
abbrev HE (w:World):=Hh (fun _=>False) emp w
def vInt {w:World} {n:Int} (h:(Lit.int .i64 n).wf=true):Ac (HE w) (eI n) (.int .i64 n):=by
 simp only[Lit.wf,A4,B7]at h;simp only[Ac];exact⟨trivial,h⟩
def vU8 {w:World} {n:Int} (h:(Lit.int .u8 n).wf=true):Ac (HE w) (.i .u8 n) (.int .u8 n):=by
 simp only[Lit.wf,A4,B7]at h;simp only[Ac];exact⟨trivial,h⟩
def y8 {w:World} {cs:Array Value} {p:Prog} (hp:cs.toList.length=(BF p).length/\BX (HE w) (fun i=>cs.toList[i]?) 0 (BF p)):Ac (HE w) (.a (BF p)) (.agg cs):=by
 simp only[Ac];exact⟨cs,rfl,by simpa using hp.1,by simpa using hp.2⟩
end Go.Proofs.YtinppljblkpedaaGreat
namespace Go.Gl
structure Kn where
 low:Int
 high:Int
 no:List Int
 BO:Nat
 Dm:Nat
 whole:Bool
 AV:Bool
 AI:List Int
def k0:Kn:=⟨-1000000000,1000000000,[],0,0,false,false,[]⟩
def JR (l:List Int) (s:Int):List Int:=if l.contains s then l else(l++[s]).mergeSort H0
def Bx (k:Kn) (f:Fact) (b:Bool):Kn:=
 if f.op=2 then(if b then {k with Dm:=k.Dm|||2 ^ f.cls.toNat}else {k with BO:=k.BO|||2 ^ f.cls.toNat})
 else if f.op=3 then(if b then {k with low:=if f.n > k.low then f.n else k.low}else {k with high:=if f.n - 1<k.high then f.n - 1 else k.high,whole:=true})
 else if b then {k with no:=k.no++[f.n]}else {k with low:=if f.n > k.low then f.n else k.low,high:=if f.n<k.high then f.n else k.high,whole:=true}
def Bz (k:Kn) (b:Bool):Kn:={k with AV:=k.AV|| !b}
def fO (k:Kn) (s:Int):Kn:={k with AI:=JR k.AI s}
def C7 (a:Int) (p:List Int) (k:Kn) (l:Fact):Kn:=
 if(Ad l).1.arg=a/\Bn (Ad l).1.path p=true then
  (if(Ad l).1.path=p then Bx (Bz k (Ad l).2) (Ad l).1 (Ad l).2 else fO (Bz k (Ad l).2) ((Ad l).1.path.getD p.length 0))
 else k
def kn (ls:List Fact) (a:Int) (p:List Int):Kn:=ls.foldl (C7 a p) k0
def L5 (k:Kn) (f:Fact) (b:Bool):(Bx k f b).AV=k.AV:=by
 unfold Bx
 (repeat' split)<;>rfl
def Io (k:Kn) (f:Fact) (b:Bool):(Bx k f b).AI=k.AI:=by
 unfold Bx
 (repeat' split)<;>rfl
def U0 (a:Int) (p:List Int) (k:Kn) (l:Fact):(C7 a p k l).AV=(k.AV|| !((Ad l).2|| !((Ad l).1.arg==a&&Bn (Ad l).1.path p))):=by
 unfold C7;split
 .rename_i h
  have e:((Ad l).1.arg==a)=true:=by simpa using h.1
  rw[e,h.2];split
  .rw[L5];simp[Bz]
  .simp[fO,Bz]
 .rename_i h
  have:((Ad l).1.arg==a&&Bn (Ad l).1.path p)=false:=by
   cases hb:((Ad l).1.arg==a&&Bn (Ad l).1.path p)with
   | false=>rfl
   | true=>rw[A4]at hb;exact absurd ⟨by simpa using hb.1,hb.2⟩ h
  rw[this];simp
def NM (a:Int) (p:List Int): ∀(ls:List Fact) (k:Kn),(ls.foldl (C7 a p) k).AV=(k.AV|| !Eu ls a p)
 | [],k=>by simp[Eu]
 | l::r,k=>by
   rw[List.foldl_cons,NM a p r,U0];simp only[Eu,Ri];generalize (r.all _)=x;generalize ((Ad l).2||_)=y;cases k.AV<;>cases x<;>cases y<;>rfl
def Ih (ls:List Fact) (a:Int) (p:List Int):(kn ls a p).AV= !Eu ls a p:=by rw[kn,NM];rfl
def TU (l:List Int) (s x:Int):x∈JR l s↔x∈l\/x=s:=by
 unfold JR;split
 .rename_i h
  rw[List.contains_iff_mem]at h;constructor
  .exact .inl
  .rintro(h'|rfl)
   .exact h'
   .exact h
 .rw[(List.mergeSort_perm _ H0).mem_iff];simp
def U9 {l:List Int} (s:Int) (h:l.Pairwise (· < ·)):(JR l s).Pairwise (· < ·):=by
 unfold JR;split
 .exact h
 .rename_i hc
  have hc':s∉l:=by simpa using hc
  have hp:=List.mergeSort_perm (l++[s]) H0;have h1:((l++[s]).mergeSort H0).Pairwise (fun a b=>H0 a b=true):=List.pairwise_mergeSort (fun a b c=>by simp only[H0,B7];omega) (fun a b=>by simp only[H0,EW,B7];omega) _
  have h2:((l++[s]).mergeSort H0).Nodup:=hp.nodup_iff.2 (by
   rw[List.nodup_append];refine⟨h.imp fun hab=>by omega,by simp,fun a ha b hb=>?_⟩;simp only[Jf]at hb;rintro rfl
   exact hc' (hb ▸ ha))
  exact(h1.and h2).imp fun⟨h3,h4⟩=>by
   simp only[H0,B7]at h3;omega
def Ll: ∀ {l m:List Int},l.Pairwise (· < ·)->m.Pairwise (· < ·)->(∀x,x∈l↔x∈m)->l=m
 | [],[],_,_,_=>rfl
 | [],y::m,_,_,h=>absurd ((h y).2 (.head _)) (by simp)
 | x::l,[],_,_,h=>absurd ((h x).1 (.head _)) (by simp)
 | x ::l,y::m,h1,h2,h=>by
   rw[List.pairwise_cons]at h1 h2
   have hxy:x=y:=by
    rcases Ep.1 ((h x).1 (.head _))with e|hx
    .exact e
    .rcases Ep.1 ((h y).2 (.head _))with e|hy
     .exact e.symm
     .have:=h1.1 y hy
      have:=h2.1 x hx;omega
   subst hxy;congr 1;refine Ll h1.2 h2.2 fun z=>?_
   constructor
   .intro hz
    rcases Ep.1 ((h z).1 (.tail _ hz))with e|hz'
    .have:=h1.1 z hz;omega
    .exact hz'
   .intro hz
    rcases Ep.1 ((h z).2 (.tail _ hz))with e|hz'
    .have:=h2.1 z hz;omega
    .exact hz'
def B1 {path pre:List Int}:Bn path pre=true↔ ∃t,path=pre++t:=by
 simp only[Bn,A4,B7,CF];constructor
 .rintro⟨_,h⟩
  exact⟨path.drop pre.length,by conv=>lhs;rw[<-List.take_append_drop pre.length path,h]⟩
 .rintro⟨t,rfl⟩
  simp
def Xs {path p:List Int} {s:Int}:Bn path (p++[s])=true↔Bn path p=true/\path≠p/\path.getD p.length 0=s:=by
 rw[B1,B1];constructor
 .rintro⟨t,rfl⟩
  refine⟨⟨s::t,by simp⟩,fun e=>?_,by simp⟩;have:=congrArg List.length e;simp at this
 .rintro⟨⟨t,rfl⟩,hne,hs⟩
  cases t with
  | nil=>simp at hne
  | cons y t=>simp at hs;subst hs;exact⟨t,by simp⟩
def bG {a:Int} {p:List Int} {s:Int} {l:Fact}:qb a p s l=true↔(Ad l).1.arg=a/\Bn (Ad l).1.path p=true/\(Ad l).1.path≠p/\(Ad l).1.path.getD p.length 0=s:=by
 rw[qb,A4,Xs,CF]
def Xc (a:Int) (p:List Int) (k:Kn) (l:Fact):(C7 a p k l).AI=if(Ad l).1.arg=a/\Bn (Ad l).1.path p=true/\(Ad l).1.path≠p then JR k.AI ((Ad l).1.path.getD p.length 0)else k.AI:=by
 unfold C7;by_cases h1:(Ad l).1.arg=a/\Bn (Ad l).1.path p=true
 .rw[if_pos h1]
  by_cases h2:(Ad l).1.path=p
  .rw[if_pos h2,if_neg (fun h=>h.2.2 h2),Io];rfl
  .rw[if_neg h2,if_pos ⟨h1.1,h1.2,h2⟩];rfl
 .rw[if_neg h1,if_neg (fun h=>h1 ⟨h.1,h.2.1⟩)]
def RQ (a:Int) (p:List Int): ∀(ls:List Fact) (k:Kn),k.AI.Pairwise (· < ·)->(ls.foldl (C7 a p) k).AI.Pairwise (· < ·)/\ ∀s,s∈(ls.foldl (C7 a p) k).AI↔s∈k.AI\/ls.any (qb a p s)=true
 | [],k,h=>⟨h,fun s=>by simp⟩
 | l ::r,k,h=>by
   rw[List.foldl_cons];have e:=Xc a p k l
   have h1:(C7 a p k l).AI.Pairwise (· < ·):=by
    rw[e];split
    .exact U9 _ h
    .exact h
   obtain⟨i1,i2⟩:=RQ a p r _ h1;refine⟨i1,fun s=>?_⟩;rw[i2,e,Rq,EW,bG];split
   .rename_i hc
    rw[TU];constructor
    .rintro((h|rfl)|h)
     .exact .inl h
     .exact .inr (.inl ⟨hc.1,hc.2.1,hc.2.2,rfl⟩)
     .exact .inr (.inr h)
    .rintro(h|⟨-,-,-,h⟩|h)
     .exact .inl (.inl h)
     .exact .inl (.inr h.symm)
     .exact .inr h
   .rename_i hc
    constructor
    .rintro(h|h)
     .exact .inl h
     .exact .inr (.inr h)
    .rintro(h|⟨q1,q2,q3,-⟩|h)
     .exact .inl h
     .exact absurd ⟨q1,q2,q3⟩ hc
     .exact .inr h
def Gs (n:Nat) (ls:List Fact):Prop:= ∀l∈ls,∀s∈(Ad l).1.path,(0:Int)<=s/\s<n
def BW {n:Nat} {s:Int}:s∈Aw n↔0<=s/\s<n:=by
 simp only[Aw,GK,List.mem_range];constructor
 .rintro⟨m,hm,rfl⟩
  exact⟨Int.natCast_nonneg m,by simpa using hm⟩
 .rintro⟨h0,h1⟩
  exact⟨s.toNat,by omega,by simp;omega⟩
def Fy (n:Nat):(Aw n).Pairwise (· < ·):=by
 rw[Aw,List.pairwise_map];exact List.pairwise_lt_range.imp fun h=>by simpa using h
def uI {n:Nat} {ls:List Fact} (h:Gs n ls) {a:Int} {p:List Int} {s:Int} {l:Fact} (hl:l∈ls) (hg:qb a p s l=true):0<=s/\s<n:=by
 rw[bG]at hg;obtain⟨-,h2,h3,h4⟩:=hg;obtain⟨t,ht⟩:=B1.1 h2;refine h l hl s ?_;rw[ht]at h3 h4 ⊢;cases t with
 | nil=>simp at h3
 | cons y t=>simp at h4;subst h4;simp
def FJ {n:Nat} {ls:List Fact} (h:Gs n ls) (a:Int) (p:List Int):(kn ls a p).AI=CN n ls a p:=by
 obtain⟨h1,h2⟩:=RQ a p ls k0 .nil;refine Ll h1 ((Fy n).filter _) fun s=>?_
 show s∈(ls.foldl (C7 a p) k0).AI↔_;rw[h2,CN,HD,BW];constructor
 .rintro(h|hs)
  .cases h
  .obtain⟨l,hl,hg⟩:=GY.1 hs
   exact⟨uI h hl hg,hs⟩
 .exact fun hs=> .inr hs.2
def Dr (os:List Fact) (k:Kn):Kn:=os.foldl (fun k l=>Bx k (Ad l).1 (Ad l).2) k
abbrev DJ (k:Kn):Int×Int×List Int×Nat×Nat×Bool:=(k.low,k.high,k.no,k.BO,k.Dm,k.whole)
def Ql {k k':Kn} (h:DJ k=DJ k') (f:Fact) (b:Bool):DJ (Bx k f b)=DJ (Bx k' f b):=by
 cases k;cases k';simp only[DJ,Prod.mk.injEq]at h;obtain⟨rfl,rfl,rfl,rfl,rfl,rfl⟩:=h;unfold Bx
 (repeat' split)<;>rfl
def KQ (p:List Int):Bn p p=true:=B1.2 ⟨[],by simp⟩
def eY (a:Int) (p:List Int) (k:Kn) (l:Fact):DJ (C7 a p k l)=if Iq a p l then DJ (Bx k (Ad l).1 (Ad l).2)else DJ k:=by
 unfold C7 Iq;by_cases h1:(Ad l).1.arg=a
 .by_cases h2:(Ad l).1.path=p
  .have e:((Ad l).1.arg==a&&(Ad l).1.path==p)=true:=by simp[h1,h2]
   rw[if_pos ⟨h1,by rw[h2];exact KQ p⟩,if_pos h2,e,if_pos rfl];exact Ql (k:=Bz k (Ad l).2) (k':=k) rfl _ _
  .have e:((Ad l).1.arg==a&&(Ad l).1.path==p)=false:=by simp[h2]
   rw[if_neg h2,e,if_neg Bool.false_ne_true];split<;>rfl
 .have e:((Ad l).1.arg==a&&(Ad l).1.path==p)=false:=by simp[h1]
  rw[if_neg (fun h=>h1 h.1),e,if_neg Bool.false_ne_true]
def N9 (a:Int) (p:List Int): ∀(ls:List Fact) (k k':Kn),DJ k=DJ k'->DJ (ls.foldl (C7 a p) k)=DJ (Dr (ls.filter (Iq a p)) k')
 | [],k,k',h=>h
 | l ::r,k,k',h=>by
   rw[List.foldl_cons,List.filter_cons];have e:=eY a p k l;split
   .rename_i ho
    rw[if_pos ho]at e;exact N9 a p r _ _ (e.trans (Ql h _ _))
   .rename_i ho
    rw[if_neg (by simpa using ho)]at e;exact N9 a p r _ _ (e.trans h)
def Iy (ls:List Fact) (a:Int) (p:List Int):DJ (kn ls a p)=DJ (Dr (ls.filter (Iq a p)) k0):=N9 a p ls k0 k0 rfl
def qZ (x:Fact×Bool):Bool:= !(x.1.op==2)||(decide (x.1.cls > 1)==x.2)
def cz (x:Fact×Bool) (k:Kn):VX x (k.low,k.high,k.no)=if qZ x then some ((Bx k x.1 x.2).low,(Bx k x.1 x.2).high,(Bx k x.1 x.2).no)else none:=by
 unfold VX qZ Bx;by_cases h2:x.1.op=2
 .rw[if_pos h2,if_pos h2]
  cases x.2<;>cases decide (x.1.cls > 1)<;>simp[h2]
 .rw[if_neg h2,if_neg h2]
  by_cases h3:x.1.op=3
  .rw[if_pos h3,if_pos h3]
   cases x.2<;>simp[h2]
  .rw[if_neg h3,if_neg h3]
   cases x.2<;>simp[h2]
def N6: ∀(os:List Fact) (k:Kn),foldI os (k.low,k.high,k.no)=if os.all (fun l=>qZ (Ad l))then some ((Dr os k).low,(Dr os k).high,(Dr os k).no)else none
 | [],k=>rfl
 | l ::r,k=>by
   rw[foldI,cz,Ri];cases hb:qZ (Ad l)with
   | false=>rfl
   | true=>
     rw[if_pos rfl,Option.bind_some,N6 r,Cc];rfl
def mO (k:Kn) (f:Fact) (c:Bool) (b:Nat):(Bx k f c).BO.testBit b=(k.BO.testBit b||(f.op==2&& !c&&f.cls.toNat==b)):=by
 unfold Bx;by_cases h2:f.op=2
 .rw[if_pos h2]
  cases c<;>simp[h2,Nat.testBit_or,Nat.testBit_two_pow,Bool.beq_eq_decide_eq]
 .rw[if_neg h2]
  have:(f.op==2)=false:=by simpa using h2
  rw[this]
  repeat' split
  all_goals simp
def qL (k:Kn) (f:Fact) (c:Bool) (b:Nat):(Bx k f c).Dm.testBit b=(k.Dm.testBit b||(f.op==2&&c&&f.cls.toNat==b)):=by
 unfold Bx;by_cases h2:f.op=2
 .rw[if_pos h2]
  cases c<;>simp[h2,Nat.testBit_or,Nat.testBit_two_pow,Bool.beq_eq_decide_eq]
 .rw[if_neg h2]
  have:(f.op==2)=false:=by simpa using h2
  rw[this]
  repeat' split
  all_goals simp
def er (k:Kn) (f:Fact) (c:Bool):(Bx k f c).whole=(k.whole||(!c&& !(f.op==2))):=by
 unfold Bx;by_cases h2:f.op=2
 .rw[if_pos h2]
  cases c<;>simp[h2]
 .rw[if_neg h2]
  have:(f.op==2)=false:=by simpa using h2
  rw[this];cases c<;>(repeat' split)<;>simp_all
def OE: ∀(os:List Fact) (k:Kn) (b:Nat),(Dr os k).BO.testBit b=(k.BO.testBit b||os.any fun l=>(Ad l).1.op==2&& !(Ad l).2&&(Ad l).1.cls.toNat==b)
 | [],k,b=>by simp[Dr]
 | l::r,k,b=>by
   have:=OE r (Bx k (Ad l).1 (Ad l).2) b;rw[mO]at this;rw[Rq,<-Bool.or_assoc,<-this];rfl
def Qo: ∀(os:List Fact) (k:Kn) (b:Nat),(Dr os k).Dm.testBit b=(k.Dm.testBit b||os.any fun l=>(Ad l).1.op==2&&(Ad l).2&&(Ad l).1.cls.toNat==b)
 | [],k,b=>by simp[Dr]
 | l::r,k,b=>by
   have:=Qo r (Bx k (Ad l).1 (Ad l).2) b;rw[qL]at this;rw[Rq,<-Bool.or_assoc,<-this];rfl
def L6: ∀(os:List Fact) (k:Kn),(Dr os k).whole=(k.whole||os.any fun l=> !(Ad l).2&& !((Ad l).1.op==2))
 | [],k=>by simp[Dr]
 | l::r,k=>by
   have:=L6 r (Bx k (Ad l).1 (Ad l).2);rw[er]at this;rw[Rq,<-Bool.or_assoc,<-this];rfl
def H5 (m up:Nat):Bool:=(List.range 64).all fun b=> !m.testBit b||up.testBit b
def Mm {m up:Nat} (hm:m<2 ^ 64):H5 m up=true↔ ∀b,m.testBit b=true->up.testBit b=true:=by
 simp only[H5,Cu,List.mem_range,EW,Bool.not_eq_true'];constructor
 .intro h b hb
  have hlt:b<64:=by
   rcases Nat.lt_or_ge b 64 with h'|h'
   .exact h'
   .rw[Nat.testBit_lt_two_pow (Nat.lt_of_lt_of_le hm (Nat.pow_le_pow_right (by decide) h'))]at hb;cases hb
  rcases h b hlt with h'|h'
  .rw[hb]at h';cases h'
  .exact h'
 .intro h b _
  cases hb:m.testBit b with
  | false=>exact .inl rfl
  | true=>exact .inr (h b hb)
def IS {m n:Nat}:(m&&&n==0)=true↔ ∀b,m.testBit b=true->n.testBit b=true->False:=by
 rw[CF];constructor
 .intro h b h1 h2
  have:=congrArg (fun x=>x.testBit b) h;simp[Nat.testBit_and,h1,h2]at this
 .intro h
  refine Nat.eq_of_testBit_eq fun b=>?_
  rw[Nat.testBit_and,Nat.zero_testBit];cases h1:m.testBit b with
  | false=>rfl
  | true=>
    cases h2:n.testBit b with
    | false=>rfl
    | true=>exact(h b h1 h2).elim
def UD (c b:Nat):(1|||2 ^ c).testBit b=(b==0||b==c):=by
 rw[Nat.testBit_or,Nat.testBit_two_pow,show(1:Nat)=2 ^ 0 from rfl,Nat.testBit_two_pow];rw[Hl];simp only[EW,B7,CF];omega
def Gm (n:Nat) (ls:List Fact):Prop:= ∀l∈ls,(Ad l).1.op=2->0<=(Ad l).1.cls/\(Ad l).1.cls<n
def RJ {m n:Nat} (h: ∀b,m.testBit b=true->b<n):m<2 ^ n:=by
 refine Nat.lt_pow_two_of_testBit _ fun i hi=>?_
 cases hb:m.testBit i with
 | false=>rfl
 | true=>have:=h i hb;omega
def Ma {os:List Fact} {n:Nat} (h:Gm n os):(Dr os k0).BO<2 ^ n:=RJ fun b hb=>by
 rw[OE]at hb;simp only[k0,Nat.zero_testBit,Bool.false_or,GY,A4,CF]at hb;obtain⟨l,hl,⟨h2,-⟩,rfl⟩:=hb;have:=h l hl h2;omega
def gz {os:List Fact} {n:Nat} (h:Gm n os):(Dr os k0).Dm<2 ^ n:=RJ fun b hb=>by
 rw[Qo]at hb;simp only[k0,Nat.zero_testBit,Bool.false_or,GY,A4,CF]at hb;obtain⟨l,hl,⟨h2,-⟩,rfl⟩:=hb;have:=h l hl h2;omega
def Gz {os:List Fact} {b:Nat}:(Dr os k0).BO.testBit b=true↔ ∃l∈os,(Ad l).1.op=2/\(Ad l).2=false/\(Ad l).1.cls.toNat=b:=by
 rw[OE];simp only[k0,Nat.zero_testBit,Bool.false_or,GY,A4,CF,Bool.not_eq_true',and_assoc]
def PF {os:List Fact} {b:Nat}:(Dr os k0).Dm.testBit b=true↔ ∃l∈os,(Ad l).1.op=2/\(Ad l).2=true/\(Ad l).1.cls.toNat=b:=by
 rw[Qo];simp only[k0,Nat.zero_testBit,Bool.false_or,GY,A4,CF,and_assoc]
def dU {os:List Fact} {n:Nat} (hn:n<=64) (h:Gm n os):(H5 (Dr os k0).BO (1|||2 ^ 1)&&((Dr os k0).Dm&&&(1|||2 ^ 1)==0))=os.all fun l=>qZ (Ad l):=by
 rw[Hl,A4,Mm (Nat.lt_of_lt_of_le (Ma h) (Nat.pow_le_pow_right (by decide) hn)),IS];simp only[Gz,PF,UD,Cu,qZ,EW,Bool.not_eq_true',beq_eq_false_iff_ne,CF,ne_eq];constructor
 .rintro⟨h1,h2⟩ l hl
  by_cases ho:(Ad l).1.op=2
  .right
   have hc:=h l hl ho;cases hb:(Ad l).2 with
   | false=>
     have:=h1 _ ⟨l,hl,ho,hb,rfl⟩;rw[decide_eq_false_iff_not];omega
   | true=>
     rw[B7];rcases Int.lt_or_le 1 (Ad l).1.cls with hlt|hle
     .exact hlt
     .exact(h2 _ ⟨l,hl,ho,hb,rfl⟩ (by omega)).elim
  .exact .inl ho
 .intro h1
  constructor
  .rintro b ⟨l,hl,ho,hb,rfl⟩
   rcases h1 l hl with h'|h'
   .exact absurd ho h'
   .have hc:=h l hl ho
    rw[hb,decide_eq_false_iff_not]at h';omega
  .rintro b ⟨l,hl,ho,hb,rfl⟩ hu
   rcases h1 l hl with h'|h'
   .exact absurd ho h'
   .have hc:=h l hl ho
    rw[hb,B7]at h';omega
def cu (x:Fact×Bool):(!SI x)=true↔(x.2=false->x.1.op=2/\(x.1.cls=0\/x.1.cls=2))/\(x.2=true-> ¬(x.1.op=2/\(x.1.cls=0\/x.1.cls=2))):=by
 have e:(x.1.op==2&&(x.1.cls==0||x.1.cls==2))=true↔x.1.op=2/\(x.1.cls=0\/x.1.cls=2):=by
  simp only[A4,EW,CF]
 rw[<-e,SI];generalize (x.1.op==2&&(x.1.cls==0||x.1.cls==2))=y;cases x.2<;>cases y<;>simp
def Nq {os:List Fact}:(!(Dr os k0).whole)=true↔ ∀l∈os,(Ad l).2=false->(Ad l).1.op=2:=by
 rw[L6,Bool.not_eq_true',<-Bool.not_eq_true];simp only[k0,Bool.false_or,GY,A4,Bool.not_eq_true',beq_eq_false_iff_ne];constructor
 .intro h l hl hb
  rcases Classical.em ((Ad l).1.op=2)with e|e
  .exact e
  .exact absurd ⟨l,hl,hb,e⟩ h
 .rintro h ⟨l,hl,hb,e⟩
  exact e (h l hl hb)
def Y1 {os:List Fact} {n:Nat} (hn:n<=64) (h:Gm n os):(!(Dr os k0).whole&&(H5 (Dr os k0).BO (1|||2 ^ 2)&&((Dr os k0).Dm&&&(1|||2 ^ 2)==0)))=os.all fun l=> !SI (Ad l):=by
 rw[Hl,A4,A4,Mm (Nat.lt_of_lt_of_le (Ma h) (Nat.pow_le_pow_right (by decide) hn)),IS,Nq,Cu];simp only[Gz,PF,UD,EW,CF,cu];constructor
 .rintro⟨h0,h1,h2⟩ l hl
  refine⟨fun hb=>?_,fun hb ⟨ho,hc⟩=>h2 _ ⟨l,hl,ho,hb,rfl⟩ (by omega)⟩;have ho:=h0 l hl hb;have hc:=h l hl ho;have:=h1 _ ⟨l,hl,ho,hb,rfl⟩;exact⟨ho,by omega⟩
 .intro h1
  refine⟨fun l hl hb=>((h1 l hl).1 hb).1,?_,?_⟩
  .rintro b ⟨l,hl,ho,hb,rfl⟩
   have:=((h1 l hl).1 hb).2;omega
  .rintro b ⟨l,hl,ho,hb,rfl⟩ hu
   have hc:=h l hl ho;exact(h1 l hl).2 hb ⟨ho,by omega⟩
def Nu {no:List Int}: ∀(k:Nat) (m:Int),(fS no k m).isSome=true↔ ∃j:Nat,j<k/\m+j∉no
 | 0,m=>by simp[fS]
 | k + 1,m=>by
   rw[fS];split
   .rename_i h
    simp only[Option.isSome_some,true_iff];refine⟨0,by omega,fun hm=>?_⟩;rw[Cu]at h;have:=h _ hm;simp at this
   .rename_i h
    rw[Nu k]
    have hm:m∈no:=by
     rcases Classical.em (m∈no)with h'|h'
     .exact h'
     .refine absurd (Cu.2 fun x hx=>?_) h
      rw[zrJ];rintro rfl;exact h' hx
    constructor
    .rintro⟨j,hj,h'⟩
     exact⟨j+1,by omega,by rw[show m+((j+1:Nat):Int)=m+1+j by omega];exact h'⟩
    .rintro⟨j,hj,h'⟩
     cases j with
     | zero=>simp at h';exact absurd hm h'
     | succ j=>exact⟨j,by omega,by rw[show m+1+(j:Int)=m+((j+1:Nat):Int) by omega];exact h'⟩
def kA {low high n:Int} {no:List Int} (h0:low<=n) (h1:n∉no) (h2: ∀m,low<=m->m<n->m∈no):(VY (low,high,no)).isSome=decide (n<=high):=by
 rw[Hl,VY,Nu,B7];constructor
 .rintro⟨j,hj,h⟩
  rcases Int.lt_or_le (low+j) n with hlt|hle
  .exact absurd (h2 _ (by omega) hlt) h
  .simp only at hj;omega
 .intro h
  refine⟨(n - low).toNat,by simp only;omega,?_⟩;rw[show low+((n - low).toNat:Int)=n by omega];exact h1
end Go.Gl
namespace Go.Gl
open Go.Proofs
attribute [local irreducible] As Ag AY AQ AL AX AP AR AK AW AM AN Ai Ap Sat AT An AZ W
def nX (s c:Nat) (hs0:s<18446744073709551616) (hc:c<64):Pure zP 342 [.a [eU s],eI c] (.a [eU (s|||2 ^ c)]):=by
 refine uy kZ ?_;have hs:=Sn
 conv=>whnf
 repeat'((first|clear U K|apply st|(apply zk;intro K U)|refine zY ?_|refine zs fun Z hs=>?_|refine⟨Int.natCast_nonneg _,?_⟩|refine zo fun nn hnn Z hs=>?_|fail)<;>conv=>whnf)
 refine AG ?_;simp only[GR,UL hc,Hf hs0 (GI hc)];rfl
def zM (s t:Nat) (hs0:s<18446744073709551616) (ht0:t<18446744073709551616):Pure zP 343 [.a [eU s],.a [eU t]] (.a [eU (s|||t)]):=by
 refine ux kZ ?_;have hs:=Sn
 conv=>whnf
 repeat'((first|clear U K|apply st|(apply zk;intro K U)|refine zY ?_|refine zs fun Z hs=>?_|refine zo fun nn hnn Z hs=>?_|fail)<;>conv=>whnf)
 refine AG ?_;simp only[Hf hs0 ht0];rfl
def Vt (s:Nat) (c:Int) (hs0:s<18446744073709551616) (h0:0<=c) (hc:c<64):Pure zP 342 [.a [eU s],eI c] (.a [eU (s|||2 ^ c.toNat)]):=by
 have:=nX s c.toNat hs0 (by omega);rw[Int.toNat_of_nonneg h0]at this;exact this
def Gp {a b:Nat} (ha:a<18446744073709551616) (hb:b<18446744073709551616):a|||b<18446744073709551616:=by
 have:=Nat.or_lt_two_pow (n:=64) (x:=a) (y:=b) (by simpa using ha) (by simpa using hb);simpa using this
def JZ (g:List (List Int)):List (List Int×Bool):=[([],true),([],true),([],true)]++g.map fun l=>(l,false)
def kV (g:List (List Int)):(JZ g).length=3+g.length:=by simp[JZ];omega
def aK (g:List (List Int)) {k:Nat} (hk:k<3+g.length): ∃b,(JZ g)[k]? =some (A3 g (k:Int),b):=by
 unfold JZ A3;by_cases h3:k<3
 .rw[if_pos (by omega),X1 (by simpa using h3)]
  refine⟨true,?_⟩;rcases k with _|_|_|k
  .rfl
  .rfl
  .rfl
  .omega
 .rw[if_neg (by omega),List.getElem?_append_right (by simp;omega)]
  refine⟨false,?_⟩;simp only[HH,List.length_nil,LY];have e:((k:Int) - 3).toNat=k - (0+1+1+1):=by omega
  rw[e,Cq,Cd (by omega)];rfl
def pR:Dj (fun u:Nat=>[eU u]) 1:=fun x=>⟨rfl,fun v hv=>by simp at hv;subst hv;rfl⟩
def zK {α:Type} {a b c d:α}: [a,b,c,d].Perm [b,d,a,c]:=by
 have h1: [a,b,c,d].Perm [b,a,c,d]:= .swap _ _ _;have h2: [a,c,d].Perm [d,a,c]:=HP (l₁:=[a,c]) (l₂:=[d]);exact h1.trans (h2.cons b)
def oT (g:List (List Int)) (f f2:Bool) (c:Int) (hg:Dv g=true) (hc0:0<=c) (hc1:c<3+g.length) :
    BL zP 287 [.l (EV g) f,.l (iL [c]) f2] [] fun r post=> ∃n mm vp vu us M,r= .ret (.t [.p n 0,.b true])/\post=gH n mm vp vu (JZ g) us M/\JS g (3+g.length) M:=by
 intro Z hs;refine As.fit (by kernel_rfl) fun hf=>?_
 have⟨g1,g2⟩:=YZ hf.1;have hM:=Mx;have hG:=D6 hg;have hgl:=hG.1;have hfn:=bP g f;rw[hg]at hfn;have hc2: [c][0]? =some c:=rfl;have hpl:=kV g;refine vN kZ ?_
 conv=>whnf
 repeat'((first|clear U K|apply st|(apply zk;intro K U)|refine zY ?_|refine hfn.use ?_|fail)<;>conv=>whnf)
 refine B4 1 (fun k (_:Unit)=>[(20,eI (A7 k))]) (fun _ _=>[]) (fun _ _=>True) () rfl trivial hs ?_;clear hs;rintro k - Z hk - hs;have hkk:k=0\/k=1:=by omega
 rcases hkk with rfl|rfl
 .conv=>whnf
  repeat'((first|clear U K|apply st|(apply zk;intro K U)|refine zY ?_|(refine zb (fun hc=>?_) (fun hc=>?_)<;>try exact⟨⟩)|fail)<;>conv=>whnf)
  all_goals try(exfalso;omega)
  exact⟨(),rfl,trivial,hs⟩
 .have hke:1= [c].length:=rfl
  refine zz ?_;(repeat clear U K);repeat intro K U
  rw[show IntKind.i64.wrap (3+((EV g).length:Nat))=((3+g.length:Nat):Int) by rw[Bc,wrap64 (by omega) (by omega)];omega];refine yy (n:=3) hs (by omega) (by omega) fun vp Z hs hv=>?_
  obtain⟨idp,rfl⟩:=hv
  conv=>whnf
  repeat'((first|clear U K|apply st|(apply zk;intro K U)|refine zY ?_|refine zo fun nn hnn Z hs=>?_|fail)<;>conv=>whnf)
  obtain⟨mm,hs⟩: ∃mm,Sat Z [.box nn [.sl idp 3 (3+g.length),.l [] true,.m mm],.map mm [],.own (.sl idp 3 (3+g.length)) 1 (List.replicate 3 [.l [] true])]:=⟨_,hs⟩
  generalize nn=n0 at *;have hgr:=Ew DQ g;refine hAppend hs 2 rfl (by simp;omega) hgr.1 hgr.2 fun vp Z hs=>?_
  have hps:List.replicate 3 [.l [] true]++EV g=pL (JZ g):=by simp[pL,JZ,List.replicate,EV]
  rw[hps]at hs;clear hps;have hs1p:=FZ hs 2 rfl
  conv=>whnf
  repeat'((first|clear U K|apply st|(apply zk;intro K U)|refine zY ?_|refine zs fun Z hs=>?_|fail)<;>conv=>whnf)
  replace hs:Sat Z [.box n0 [vp,.l [] true,.m mm],.map mm [],.own vp 1 (pL (JZ g))]:=hs;refine B4 (JZ g).length (fun k (_:V×List Nat)=>[(55,eI (A7 k))]) (fun _ x=>[.own x.1 1 (x.2.map fun u=>[eU u]),.box n0 [vp,x.1,.m mm],.map mm [],.own vp 1 (pL (JZ g))]) (fun k x=>x.2.length=k/\ ∀u∈x.2,u<18446744073709551616) (.l [] true,[]) rfl ⟨rfl,fun u hu=>by cases hu⟩ (Ch hs 1) ?_;clear hs;rintro k ⟨vu,us⟩ Z hk ⟨hul,hus⟩ hs;dsimp only at hul hus hs;rcases A9 (JZ g) hk with⟨⟨l,lb⟩,hl,hlt⟩|hke2
  .have hck:A7 k=k:=AS (by omega)
   obtain⟨b',hpa⟩:=aK g (k:=k) (by omega);have hle:l=A3 g (k:Int):=by rw[hl]at hpa;exact(Prod.mk.inj (Option.some.inj hpa)).1
   have hll:=DF hG (k:Int);rw[<-hle]at hll;have hlm: ∀p∈l,3<=p/\p<(k:Int):=fun p hp=>Df hG (by rw[<-hle];exact hp)
   have hs1:(0|||2 ^ (A7 k).toNat)<18446744073709551616:=by
    rw[Nat.zero_or,hck,GR];exact GI (by omega)
   have hs1u:=FZ hs 0 rfl;have hl':(JZ g)[(A7 k).toNat]? =some (l,lb):=by rw[hck,GR];exact hl
   conv=>whnf
   repeat'((first|clear U K|apply st|(apply zk;intro K U)|refine zY ?_|refine zs fun Z hs=>?_|refine Pure.use (Vt 0 (A7 k) (by decide) (by omega) (by omega)) ?_|refine Pure.use (Vt _ _ (by first|omega|exact hs1) (by omega) (by omega)) ?_|refine zo fun nn hnn Z hs=>?_|fail)<;>conv=>whnf)
   have hs0:(0|||2 ^ (A7 k).toNat|||2 ^ Int.toNat 0)<18446744073709551616:=Gp hs1 (by decide);generalize (0|||2 ^ (A7 k).toNat|||2 ^ Int.toNat 0)=s0 at *;refine B4 l.length (fun j (_:Nat)=>[(66,eI (A7 j))]) (fun _ s=>[.box nn [eU s],.own vu 1 (us.map fun u=>[eU u]),.box n0 [vp,vu,.m mm],.map mm [],.own vp 1 (pL (JZ g))]) (fun _ s=>s<18446744073709551616) s0 rfl hs0 hs ?_;clear hs hs0;rintro j s Z hj hsb hs;rcases A9 l hj with⟨p,hp,hjlt⟩|hje
   .obtain⟨hp3,hpk⟩:=hlm p (B6 hp)
    obtain⟨u,hu⟩: ∃u,us[p.toNat]? =some u:=⟨_,Cd (by omega)⟩
    have hub:=hus u (B6 hu)
    conv=>whnf
    repeat'((first|clear U K|apply st|(apply zk;intro K U)|refine zY ?_|refine zs fun Z hs=>?_|refine Pure.use (zM _ _ hsb hub) ?_|fail)<;>conv=>whnf)
    exact⟨hjlt,s|||u,rfl,Gp hsb hub,hs⟩
   .refine zz ?_;(repeat clear U K);repeat intro K U
    refine G5 (GO hs 1 (enc:=fun u:Nat=>[eU u]) (xs:=us) (x:=s) rfl (by omega) pR fun vu' Z hs hsl=>?_);have hs2u:=FZ hs 1 rfl
    conv=>whnf
    repeat'((first|clear U K|apply st|(apply zk;intro K U)|refine zY ?_|refine zs fun Z hs=>?_|fail)<;>conv=>whnf)
    refine⟨hlt,(vu',us++[s]),rfl,⟨by simp[hul],fun u hu=>?_⟩,hs.less (Gg _ _)⟩;rcases Dn.1 hu with hu|hu
    .exact hus u hu
    .rw[Jf.1 hu];exact hsb
  .have hs1u:=FZ hs 0 rfl
   refine zz ?_;(repeat clear U K);repeat intro K U
   replace hs:Sat Z (gH n0 mm vp vu (JZ g) us []):=hs.perm zK;refine B4 (JZ g).length (fun k (_:List Ord)=>[(96,eI (A7 k))]) (fun _ M=>gH n0 mm vp vu (JZ g) us M) (fun k M=>JS g k M) [] rfl JS.nil hs ?_;clear hs;rintro k M Z hk hkn hs;rcases A9 (JZ g) hk with⟨⟨l,lb⟩,hl,hlt⟩|hke3
   .have hck:A7 k=k:=AS (by omega)
    obtain⟨b',hpa⟩:=aK g (k:=k) (by omega);have hle:l=A3 g (k:Int):=by rw[hl]at hpa;exact(Prod.mk.inj (Option.some.inj hpa)).1
    have hll:=DF hG (k:Int);rw[<-hle]at hll;have hlm: ∀p∈l,3<=p/\p<(k:Int):=fun p hp=>Df hG (by rw[<-hle];exact hp)
    have hlo:=df hG hkn hll (fun x hx=>by have:=hlm x hx;omega);have hord:=kY n0 mm vp vu (JZ g) us M (A7 k) l lb (by omega) (by rw[hck,GR];exact hl) hll (fun c=>by have:=(Ms hG hkn c).1;omega) (fun e he=>by have:=hkn.keys e he;omega) hlo.1 hlo.2;refine zz ?_;(repeat clear U K);repeat intro K U
    refine hord.use (rest:=[]) (by simpa using hs) ?_;clear hs;rintro r post Z ⟨rfl,M',rfl,hM'⟩ hs;rw[D8]at hs;rw[hck]at hM';refine zz ?_;(repeat clear U K);repeat intro K U
    exact⟨hlt,M',rfl,hkn.step hle (fun p hp=>by have:=hlm p hp;omega) (by omega) hM',hs⟩
   .refine zz ?_;(repeat clear U K);repeat intro K U
    exact Au hs (List.Sublist.refl _) (.refl _) fun Z' hs'=>⟨_,⟨_,_,_,_,_,_,rfl,rfl,by rw[<-hpl,<-hke3];exact hkn⟩,hs'⟩
def x8 {M:List Ord} {c:Int} {Z:AE} {fx:List At} (hs:Sat Z (fx++M.map fH)) (hl:(CA M c).length<=Ab) (hne:CA M c≠[]) {k kp:V->AE->Prop} (hk: ∀Z',Sat Z' (fx++M.map fH)->k (.l (iL (CA M c)) false) Z'):As zP 138 [Jh M c] Z (qk k kp):=by
 rcases QE M c with⟨h1,h2⟩|⟨j,hj⟩
 .exact absurd h1 hne
 .have hj':(fx++M.map fH)[fx.length+j]? =some (At.own (Jh M c) 1 (iL (CA M c))):=by
   rw[List.getElem?_append_right (by omega),Nat.add_sub_cancel_left,hj]
  have hcl:BL zP 138 [Jh M c] [.own (Jh M c) 1 (iL (CA M c))] fun r post=>r= .ret (.l (iL (CA M c)) false)/\post= [.own (Jh M c) 1 (iL (CA M c))]:=by
   clear hk hj' hj;generalize Jh M c=v at *;generalize CA M c=l at *;intro Z hs;refine jF kZ ?_;have hgr:=Ew Cs l
   have hend: ∀ {Z:AE} {w u:V},Sat Z [.own w 1 (iL l),.own u 1 (iL l)]->Ag Z w fun r Z'=> ∃post,(r= .ret (.l (iL l) false)/\post= [.own u 1 (iL l)])/\Sat Z' post:=fun hs=>by
    obtain⟨Z2,h1,h2,h3⟩:=HT hs 0 rfl;exact Fx h1 h2 ⟨_,⟨rfl,rfl⟩,h3⟩
   have hM:=Mx;rcases hs.get (i:=0) rfl with⟨rfl,_⟩|⟨n,cap,rfl,hn⟩
   .conv=>whnf
    repeat'((first|clear U K|apply st|(apply zk;intro K U)|fail)<;>conv=>whnf)
    refine⟨fun e=>absurd (List.map_eq_nil_iff.1 e) hne,fun _=>?_⟩;refine zz ?_;(repeat clear U K);repeat intro K U
    replace hs:=Ch hs 1;refine bD hs 0 1 rfl rfl (by simp;omega) hgr.1 hgr.2 fun w Z hs=>?_
    refine zz ?_;(repeat clear U K);repeat intro K U
    exact hend hs
   .refine zz ?_;(repeat clear U K);repeat intro K U
    replace hs:=Ch hs 1;refine bD hs 0 1 rfl rfl (by simp;omega) hgr.1 hgr.2 fun w Z hs=>?_
    refine zz ?_;(repeat clear U K);repeat intro K U
    exact hend hs
  refine hcl.qg (Φ:=fun r=>r= .ret (.l (iL (CA M c)) false)) hs hj' ?_;rintro r Z' rfl hs';exact hk Z' hs'
def tq (g:List (List Int)) (f:Bool) (c:Int) (hg:Dv g=true) (hc0:0<=c) (hc1:c<3+g.length) :
    Pure zP 303 [.l (EV g) f,eI c] (if((B9 g).getD c.toNat []).isEmpty then .t [.l [] true,eI 7]else .t [.l (iL ((B9 g).getD c.toNat [])) false,eI 0]):=by
 have hop:=oT g f true c hg hc0 hc1;refine vL kZ ?_;have hs:=Sn;have hM:=Mx;have hG:=D6 hg
 conv=>whnf
 repeat'((first|clear U K|apply st|(apply zk;intro K U)|fail)<;>conv=>whnf)
 refine hop.use (rest:=[]) hs ?_;clear hs;rintro r post Z ⟨n,mm,vp,vu,us,M,rfl,rfl,hkn⟩ hs;rw[D8]at hs;have hol:=(Ms hG hkn c).1;have hor:=hkn.fW c hc0 (by omega);by_cases hne:CA M c= []
 .have hl0:(CA M c).length=0:=by rw[hne];rfl
  conv=>whnf
  repeat'((first|clear U K|apply st|(apply zk;intro K U)|refine zY ?_|refine lkO ?_|refine QF (fx:=_::_::_::_:: []) hs (by omega) ?_|(refine zb (fun hc=>?_) (fun hc=>?_)<;>try exact⟨⟩)|fail)<;>conv=>whnf)
  all_goals try(exfalso;omega)
  rw[<-hor,hne];exact AG rfl
 .have hl0:0<(CA M c).length:=List.length_pos_iff.2 hne
  conv=>whnf
  repeat'((first|clear U K|apply st|(apply zk;intro K U)|refine zY ?_|refine lkO ?_|refine QF (fx:=_::_::_::_:: []) hs (by omega) ?_|(refine zb (fun hc=>?_) (fun hc=>?_)<;>try exact⟨⟩)|fail)<;>conv=>whnf)
  all_goals try(exfalso;omega)
  refine x8 (fx:=_::_::_::_:: []) hs (by omega) hne fun Z hs=>?_
  refine zz ?_;(repeat clear U K);repeat intro K U
  rw[<-hor]
  have:(CA M c).isEmpty=false:=by
   cases h:(CA M c).isEmpty
   .rfl
   .exact absurd (List.isEmpty_iff.1 h) hne
  rw[this];exact AG rfl
end Go.Gl
