import Derived.Test.YtnidfcmdimehdaaGreatV14
import Derived.Test.YtnidfcmdimehdaaGreatV15
import Derived.Test.YtnidfcmdimehdaaGreatV16
set_option linter.all false
set_option linter.defProp false
set_option maxHeartbeats 8000000
noncomputable section
namespace Go.Gl
open Go.Proofs
attribute [local irreducible] Av An Af AQ AL Ac AP AS AK Ab AN AO As A3 Sat AV A0 Ag W
def EE (g os:List (List Int)) (c:Int):List Int:=
 match EX g os c with
 | none=>[]
 | some l=>if(CL l).2 then [c]++(CL l).1++[0]else []
def BZ (g:List (List Int)):Nat->List (List Int)
 | 0=>[[0]]
 | k+1=>BZ g k++[EE g (BZ g k) ((k:Int)+1)]
def B9 (g:List (List Int)):List (List Int):=BZ g (2+g.length)
def I7 (g:List (List Int)):Prop:=g.length<=16/\ ∀(i:Nat) (l:List Int),g[i]? =some l->l.length<=3/\l.Nodup/\ ∀c∈l,(3:Int)<=c/\c<3+(i:Int)
def Cj (g:List (List Int)): ∀k,(BZ g k).length=k+1
 | 0=>rfl
 | k+1=>by simp[BZ,Cj g k]
def Ip: ∀(n:Nat) (ls:List (List Int)) (out:List Int),(DM n ls out).1.length<=out.length+n
 | 0,ls,out=>by simp[DM]
 | n + 1,ls,out=>by
   simp only[DM];split
   .simp
   .rename_i x _
    have:=Ip n (ls.map fun l=>l.filter (· != x)) (out++[x]);simp only[Ri,List.length_singleton]at this;refine Nat.le_trans this ?_;omega
def XW {ls:List (List Int)} (h: ∀l∈ls,∀x∈l,(0:Int)<=x) {x:Int} (hp:pick ls=some x):0<=x:=by
 unfold pick at hp;rw[Option.bind_eq_some_iff]at hp;obtain⟨l,h1,h2⟩:=hp;have hm:=List.mem_of_find?_eq_some h1;cases l with
 | nil=>cases h2
 | cons y r=>cases h2;exact h _ hm _ (.head _)
def K5: ∀(n:Nat) (ls:List (List Int)) (out:List Int),(∀l∈ls,∀x∈l,(0:Int)<=x)->(∀x∈out,(0:Int)<=x)-> ∀x∈(DM n ls out).1,(0:Int)<=x
 | 0,ls,out,_,h2=>h2
 | n + 1,ls,out,h1,h2=>by
   simp only[DM];split
   .exact h2
   .rename_i y hy
    refine K5 n _ _ (fun l hl x hx=>?_) fun x hx=>?_
    .obtain⟨l',hl',rfl⟩:=Hc.1 hl
     exact h1 _ hl' _ (Kj.1 hx).1
    .rcases Ds.1 hx with hx|hx
     .exact h2 x hx
     .rw[Lu.1 hx];exact XW h1 hy
def De {g:List (List Int)} (hg:I7 g) {c p:Int} (hp:p∈Ax g c):3<=p/\p<c:=by
 unfold Ax at hp;split at hp
 .cases hp
 .rename_i hc
  rw[DK]at hp;cases hq:g[(c - 3).toNat]? with
  | none=>rw[hq]at hp;cases hp
  | some l=>
    rw[hq]at hp;obtain⟨_,_,h⟩:=hg.2 _ _ hq;have:=h p hp;omega
def C9 {g:List (List Int)} (hg:I7 g) (c:Int):(Ax g c).length<=3:=by
 unfold Ax;split
 .simp
 .rw[DK]
  cases hq:g[(c - 3).toNat]? with
  | none=>simp
  | some l=>exact(hg.2 _ _ hq).1
def HC {g os:List (List Int)} {c:Int} {ls:List (List Int)} (h:EX g os c=some ls):ls=(Ax g c).map (fun p=>(os.getD p.toNat []).filter (· != 0))++[Ax g c]:=by
 unfold EX at h;split at h
 .cases h
 .exact(Option.some.inj h).symm
def Wo {os:List (List Int)} {B:Nat} (h: ∀o∈os,o.length<=B) (n:Nat):(os.getD n []).length<=B:=by
 rw[DK];cases hq:os[n]? with
 | none=>simp
 | some l=>exact h _ (Cm hq)
def QX {os:List (List Int)} {Q:Int->Prop} (h: ∀o∈os,∀x∈o,Q x) (n:Nat): ∀x∈os.getD n [],Q x:=by
 rw[DK];cases hq:os[n]? with
 | none=>simp
 | some l=>exact h _ (Cm hq)
def Ff {g os:List (List Int)} {c:Int} {ls:List (List Int)} (h:EX g os c=some ls) {B:Nat} (hB: ∀o∈os,o.length<=B):total ls<=(Ax g c).length*(B+1):=by
 rw[HC h];simp only[total,VB,xp,List.sum_append,EZ,List.map_nil,List.sum_cons,List.sum_nil,Nat.add_zero]
 have: ∀ps:List Int,(ps.map (List.length∘fun p=>(os.getD p.toNat []).filter (· != 0))).sum<=ps.length*B:=fun ps=>by
  induction ps with
  | nil=>simp
  | cons p r ih=>
    simp only[EZ,List.sum_cons,Function.comp,NM,Nat.succ_mul];have h1:=Xv (· != 0) (os.getD p.toNat []);have h2:=Wo hB p.toNat;simp only[Function.comp_def]at *;omega
 have:=this (Ax g c);rw[Nat.mul_add,Nat.mul_one];simp only[Function.comp_def]at *;omega
def XY {g os:List (List Int)} {c:Int} {B:Nat} (hB: ∀o∈os,o.length<=B):(EE g os c).length<=(Ax g c).length*(B+1)+2:=by
 unfold EE;split
 .simp
 .rename_i ls h
  have h1:=Ff h hB;have h2:=Ip (total ls) ls [];simp only[List.length_nil,Gq]at h2;split
  .simp only[Ri,List.length_singleton,CL]
   omega
  .simp
def Rh {g os:List (List Int)} {c:Int} (hg:I7 g) (hc:0<=c) (h: ∀o∈os,∀x∈o,(0:Int)<=x): ∀x∈EE g os c,0<=x:=by
 unfold EE;split
 .simp
 .rename_i ls hl
  split
  .intro x hx
   have hls: ∀l∈ls,∀x∈l,(0:Int)<=x:=by
    rw[HC hl];intro l hl x hx;rcases Ds.1 hl with hl|hl
    .obtain⟨p,_,rfl⟩:=Hc.1 hl
     exact QX h p.toNat x (Kj.1 hx).1
    .rw[Lu.1 hl]at hx
     have:=De hg hx;omega
   simp only[Ds,Lu]at hx;rcases hx with(rfl|hx)|rfl
   .exact hc
   .exact K5 _ _ _ hls (by simp) x hx
   .exact Int.le_refl _
  .simp
def JU (k:Nat):Nat:=5*3 ^ (k - 3) - 3
def sj (n:Nat):1<=3 ^ n:=Nat.one_le_pow _ _ (by omega)
def Iw {g : List (List Int)} (hg:I7 g): ∀(k:Nat),∀o∈BZ g k,o.length<=JU k/\ ∀x∈o,(0:Int)<=x
 | 0,o,ho=>by
   simp only[BZ,Lu]at ho;subst ho;simp[JU]
 | k + 1,o,ho=>by
   have ih:=Iw hg k
   have hmono:JU k<=JU (k+1):=by
    unfold JU;have:3 ^ (k - 3)<=3 ^ (k+1 - 3):=Nat.pow_le_pow_right (by omega) (by omega);omega
   simp only[BZ,Ds,Lu]at ho;rcases ho with ho|rfl
   .exact⟨Nat.le_trans (ih o ho).1 hmono,(ih o ho).2⟩
   .refine⟨?_,Rh hg (by omega) fun o ho=>(ih o ho).2⟩
    have h1:=XY (g:=g) (c:=(k:Int)+1) fun o ho=>(ih o ho).1
    by_cases hk:k<3
    .have:Ax g ((k:Int)+1)= []:=by
      apply List.eq_nil_iff_forall_not_mem.2;intro p hp;have:=De hg hp;omega
     rw[this]at h1
     have:JU (k+1)=2:=by
      have:k+1 - 3=0:=by omega
      simp[JU,this]
     simpa[this]using h1
    .have h2:=C9 hg ((k:Int)+1)
     have h3:(Ax g ((k:Int)+1)).length*(JU k+1)<=3*(JU k+1):=VC _ h2;have:k+1 - 3=(k - 3)+1:=by omega
     unfold JU at *;rw[this,Nat.pow_succ];have:=sj (k - 3);omega
def bK {k:Nat} (h:k<=18):JU k<=71744535:=by
 unfold JU;have:3 ^ (k - 3)<=3 ^ 15:=Nat.pow_le_pow_right (by omega) (by omega);have e:(3:Nat) ^ 15=14348907:=by decide
 omega
def FB {g:List (List Int)}: ∀ {k j:Nat},j<=k->(BZ g k)[j]? =(BZ g j)[j]?
 | 0,j,h=>by(obtain rfl:j=0:=by omega);rfl
 | k+1,j,h=>by
   by_cases e:j=k+1
   .subst e;rfl
   .rw[<-FB (k:=k) (by omega),BZ,ec (by rw[Cj];omega)]
def Yx {g os:List (List Int)} {c:Int} {ls:List (List Int)} (hg:I7 g) (h:EX g os c=some ls) {B:Nat} (hB: ∀o∈os,o.length<=B/\ ∀x∈o,(0:Int)<=x) (hb:B<=100000000):NU ls/\total ls<Ad:=by
 have h3:=C9 hg c;have ht:=Ff h fun o ho=>(hB o ho).1
 have:(Ax g c).length*(B+1)<=3*(B+1):=VC _ h3;have htl:total ls<Ad:=by simp only[Ad];omega
 refine⟨⟨?_,fun l hl=>⟨?_,?_⟩⟩,htl⟩
 .rw[HC h]
  simp only[Ri,CW,List.length_singleton,Ad];omega
 .have:=cI hl
  simp only[Ad]at *;omega
 .intro x hx
  rw[HC h]at hl;rcases Ds.1 hl with hl|hl
  .obtain⟨p,_,rfl⟩:=Hc.1 hl
   exact QX (fun o ho=>(hB o ho).2) p.toNat x (Kj.1 hx).1
  .rw[Lu.1 hl]at hx
   have:=De hg hx;omega
def cz (g : List (List Int)) (f:Bool) (hg:I7 g):Pure zP 211 [.l (Es g) f] (.l (Es (B9 g)) false):=by
 refine vU kZ ?_
 conv=>whnf
 repeat((first|clear U K|apply st|(apply zk;intro K U)|fail);conv=>whnf)
 have hg16:=hg.1;have hgm:g.length<=Ad:=by simp only[Ad];omega
 refine⟨.l (Es [[0]]) true,emp,fun _ _ h=>h,.l (fun _=>rfl) (.cons (.cons (.l (fun h=>(by cases h)) (.refl _ _ _)) .nil) .nil),?_⟩;refine zh ?_;(repeat clear U K);repeat intro K U
 refine Cn (2+g.length) (fun k v=>[(3,v),(4,eI (L2 1 k))]) (fun k v=>[.own v 1 (Es (BZ g k))]) (fun _ _=>True) (.l (Es [[0]]) true) rfl trivial (r8 Sat.nil (by simp)) ?_;rintro k v Z hk - hs;have hc1:L2 1 k=(k:Int)+1:=by rw[Pb (by omega) (by omega)];omega
 have hw:IntKind.i64.wrap (3+((Es g).length:Nat))=3+(g.length:Int):=by rw[CW,wrap64 (by omega) (by omega)]
 refine zh ?_;(repeat clear U K);repeat intro K U
 rw[hc1];rw[hw];refine fork (fun hlt=>?_) (fun hlt=>?_)
 .have hlt':k<2+g.length:=by omega
  have hB:=Iw hg k;have hb18:JU k<=71744535:=bK (by omega);have hc2:L2 1 (k+1)=IntKind.i64.wrap ((k:Int)+1+1):=by rw[L2,hc1]
  refine zh ?_;(repeat clear U K);repeat intro K U
  refine⟨.l (iL []) false,Z,fun _ _ h=>h,.l (fun h=>(by cases h)) (.refl _ _ _),?_⟩
  conv=>whnf
  repeat((first|clear U K|apply st|(apply zk;intro K U)|fail);conv=>whnf)
  refine(kS g (BZ g k) f v ((k:Int)+1) (by omega) hgm (fun o ho=>by have:=(hB o ho).1;simp only[Ad];omega) (by have:=C9 hg ((k:Int)+1);omega)
   (fun p hp=>by have:=De hg hp;rw[Cj];omega)).use (rest:=[]) hs ?_
  rintro r post Z' ⟨rfl,rfl⟩ hs;cases hl:EX g (BZ g k) ((k:Int)+1)with
  | none=>
    refine zh ?_;(repeat clear U K);repeat intro K U
    refine GR hs 0 (x:=[]) rfl (by rw[Cj];simp only[Ad];omega) DJ fun v' Z' hs'=>?_
    conv=>whnf
    refine⟨v',Z',fun _ _ h=>h,.refl _,?_⟩;refine zh ?_;(repeat clear U K);repeat intro K U
    refine⟨hlt',v',?_,trivial,?_⟩
    .skip
     rw[hc2];rfl
    .have:EE g (BZ g k) ((k:Int)+1)= []:=by simp[EE,hl,]
     rw[BZ,this];exact hs'
  | some ls=>
    obtain⟨hok,htot⟩:=Yx hg hl hB (by omega);refine zh ?_;(repeat clear U K);repeat intro K U
    refine(kN ls false hok htot).use ?_;have hml:=Ip (total ls) ls [];simp only[List.length_nil,Gq]at hml;refine zh ?_;(repeat clear U K);repeat intro K U
    refine⟨fun h=>?_,fun h=>?_⟩<;>(try rw[h])
    .conv=>whnf
     repeat((first|clear U K|(apply zk;intro K U)|fail);conv=>whnf)
     refine Kx (r8 hs (by simp)) 1 (xs:=[(k:Int)+1]) rfl (by simp[CL];have:=Ff hl fun o ho=>(hB o ho).1;have h3:=C9 hg ((k:Int)+1);have:(Ax g ((k:Int)+1)).length*(JU k+1)<=3*(JU k+1):=VC _ h3;simp only[Ad]at *;omega) Cy fun u Z1 hs=>?_
     conv=>whnf
     refine GR hs 1 (x:=0) rfl (by simp[CL];have:=Ff hl fun o ho=>(hB o ho).1;have h3:=C9 hg ((k:Int)+1);have:(Ax g ((k:Int)+1)).length*(JU k+1)<=3*(JU k+1):=VC _ h3;simp only[Ad]at *;omega) Cy fun u Z1 hs=>?_
     conv=>whnf
     refine r9 hs 1 rfl fun Z' hs=>?_
     conv=>whnf
     repeat((first|clear U K|apply st|(apply zk;intro K U)|fail);conv=>whnf)
     refine GR hs 0 (x:=([(k:Int)+1]++(CL ls).1++[0])) rfl (by rw[Cj];simp only[Ad];omega) DJ fun v' Z' hs'=>?_
     conv=>whnf
     refine⟨v',Z',fun _ _ h=>h,.refl _,?_⟩;refine zh ?_;(repeat clear U K);repeat intro K U
     refine⟨hlt',v',?_,trivial,?_⟩
     .skip
      rw[hc2];rfl
     .have:EE g (BZ g k) ((k:Int)+1)=([(k:Int)+1]++(CL ls).1++[0]):=by simp[EE,hl,h]
      rw[BZ,this];exact hs'
    .refine zh ?_;(repeat clear U K);repeat intro K U
     refine GR hs 0 (x:=[]) rfl (by rw[Cj];simp only[Ad];omega) DJ fun v' Z' hs'=>?_
     conv=>whnf
     refine⟨v',Z',fun _ _ h=>h,.refl _,?_⟩;refine zh ?_;(repeat clear U K);repeat intro K U
     refine⟨hlt',v',?_,trivial,?_⟩
     .skip
      rw[hc2];rfl
     .have:EE g (BZ g k) ((k:Int)+1)= []:=by simp[EE,hl,h]
      rw[BZ,this];exact hs'
 .refine zh ?_;(repeat clear U K);repeat intro K U
  have hke:k=2+g.length:=by omega
  subst hke;exact Ge hs 0 rfl rfl
def tU (g:List (List Int)) (f:Bool) (c:Int) (hg:I7 g) (h0:0<=c) (h1:c<3+g.length):Pure zP 160 [.l (Es g) f,eI c] (.t [.l (iL ((B9 g).getD c.toNat [])) false,.b (!((B9 g).getD c.toNat []).isEmpty)]):=by
 refine wP kZ ?_
 conv=>whnf
 repeat((first|clear U K|apply st|(apply zk;intro K U)|fail);conv=>whnf)
 refine(cz g f hg).use ?_
 conv=>whnf
 have hlen:=Cj g (2+g.length);have hlt:c.toNat<(B9 g).length:=by unfold B9;omega
 have hq:=Dp hlt;refine VX c.toNat hq (by omega) rfl ?_;refine zh ?_;(repeat clear U K);repeat intro K U
 refine AJ ?_;rw[DK,hq,Option.getD_some];cases(B9 g)[c.toNat]with
 | nil=>rfl
 | cons _ _=>simp
def wFit (w:AG):Prop:=w.parents.length<=1000/\(∀l∈w.parents,l.length<=Ad)/\w.owner.length<=Ad
def sw {ps:List (List Int)} {c:Nat} (h3:3<=c) (hc:c<3+ps.length):ps[c - 3]? =some (par ps c):=by
 unfold par;rw[if_neg (by omega),DK,Dp (by omega)];rfl
def Zm {bs:List Bool} {j:Nat} (h:j<bs.length):(bL bs)[j]? =some [.b (bs.getD j false)]:=by
 rw[OU,DK,Dp h];rfl
def Ya (bs:List Bool) (j:Nat) (x:Bool):(bL bs).set j [.b x]=bL (bs.set j x):=by
 simp[bL,List.map_set]
def yT (w : AG) (c:Nat) (hw:wFit w) (ho:ordered w.parents) (hc:c<3+w.parents.length):Pure zP 258 [.a (BL w),eI c] (.l (bL (Hf w.parents (3+w.parents.length) c (c - 2))) false):=by
 obtain⟨hw1,hw2,hw3⟩:=hw;have hmL:3+w.parents.length<=Ad:=by simp only[Ad];omega
 refine uo kZ ?_;refine zh ?_;(repeat clear U K);repeat intro K U
 rw[show IntKind.i64.wrap (3+((Es w.parents).length:Nat))=((3+w.parents.length:Nat):Int) by rw[CW,wrap64 (by omega) (by omega)];omega];refine hMk Sat.nil (by omega) fun v Z hs hv=>?_
 obtain⟨id,rfl⟩:=hv
 conv=>whnf
 repeat((first|clear U K|apply st|(apply zk;intro K U)|fail);conv=>whnf)
 refine fH hs 0 c rfl rfl (by simpa using hc) ?_
 conv=>whnf
 refine Mq hs 0 rfl (e:=[.b false]) (by simp[hc]) rfl rfl rfl rfl rfl fun Z hs=>?_
 have e0:(List.replicate (3+w.parents.length) [V.b false]).set c [V.b true]=bL (Hf w.parents (3+w.parents.length) c 0):=by
  simp only[Hf];rw[<-Ya];simp[bL]
 refine zh ?_;(repeat clear U K);repeat intro K U
 refine Cn (c - 2) (fun k (_:Unit)=>[(6,eI (b7 c k))]) (fun k _=>[.own (.sl id (3+w.parents.length) (3+w.parents.length)) 1 (bL (Hf w.parents (3+w.parents.length) c k))]) (fun _ _=>True) () rfl trivial (e0 ▸ hs) ?_;rintro k - Z hk - hs;have hd:b7 c k=(c:Int) - k:=bD (by omega) (by omega);have hul:=ME w.parents (3+w.parents.length) c k;refine zh ?_;(repeat clear U K);repeat intro K U
 refine fork (fun hlt=>?_) (fun hlt=>?_)
 .rw [hd]at hlt
  have h3:3<=c - k:=by omega
  have hpar:=sw (ps:=w.parents) h3 (by omega);have hpl:=hw2 _ (Cm hpar);refine zh ?_;(repeat clear U K);repeat intro K U
  refine VX (c - k - 3) hpar (by rw[hd,wrap64 (by omega) (by omega)];omega) rfl ?_;refine zh ?_;(repeat clear U K);repeat intro K U
  refine Cn (par w.parents (c - k)).length (fun j (_:Unit)=>[(29,eI (BR j))]) (fun j _=>[.own (.sl id (3+w.parents.length) (3+w.parents.length)) 1 (bL (Fk (Hf w.parents (3+w.parents.length) c k) (c - k) ((par w.parents (c - k)).take j)))]) (fun _ _=>True) () rfl trivial hs ?_;rintro j - Z hj - hs;have hml:=OB (c - k) ((par w.parents (c - k)).take j) (Hf w.parents (3+w.parents.length) c k);refine zh ?_;(repeat clear U K);repeat intro K U
  refine GZ hj hpl (fun p hp hjlt=>?_) fun hj=>?_
  .have hpp:=ho _ p (Cm hp)
   have hm:(Fk (Hf w.parents (3+w.parents.length) c k) (c - k) ((par w.parents (c - k)).take (j+1)))=(Fk (Hf w.parents (3+w.parents.length) c k) (c - k) ((par w.parents (c - k)).take j)).set p.toNat
    ((Fk (Hf w.parents (3+w.parents.length) c k) (c - k) ((par w.parents (c - k)).take j)).getD p.toNat false||(Fk (Hf w.parents (3+w.parents.length) c k) (c - k) ((par w.parents (c - k)).take j)).getD (c - k) false):=by
    rw[AU hp,M9];rfl
   generalize hbs:Fk (Hf w.parents (3+w.parents.length) c k) (c - k) ((par w.parents (c - k)).take j)=bs at *;have hlp:p.toNat<bs.length:=by omega
   have hlc:c - k<bs.length:=by omega
   refine zh ?_;(repeat clear U K);repeat intro K U
   refine JV hp hpl rfl ?_;refine zh ?_;(repeat clear U K);repeat intro K U
   refine fH hs 0 p.toNat rfl (by omega) (by simpa using hlp) ?_
   conv=>whnf
   refine Ie hs 0 rfl (Zm hlp) ?_
   conv=>whnf
   cases hb:bs.getD p.toNat false with
   | true=>
     rw[hb]at hm;refine zh ?_;(repeat clear U K);repeat intro K U
     refine fH hs 0 p.toNat rfl (by omega) (by simpa using hlp) ?_
     conv=>whnf
     refine Mq hs 0 rfl (Zm hlp) rfl rfl rfl rfl rfl fun Z hs=>?_
     refine zh ?_;(repeat clear U K);repeat intro K U
     refine⟨hjlt,(),rfl,trivial,?_⟩;rw[hm,<-Ya];exact hs
   | false=>
     rw[hb]at hm;refine zh ?_;(repeat clear U K);repeat intro K U
     refine fH hs 0 (c - k) rfl (by rw[hd];omega) (by simpa using hlc) ?_;refine zh ?_;(repeat clear U K);repeat intro K U
     refine Ie hs 0 rfl (Zm hlc) ?_
     conv=>whnf
     refine fH hs 0 p.toNat rfl (by omega) (by simpa using hlp) ?_
     conv=>whnf
     refine Mq hs 0 rfl (Zm hlp) rfl rfl rfl rfl rfl fun Z hs=>?_
     refine zh ?_;(repeat clear U K);repeat intro K U
     refine⟨hjlt,(),rfl,trivial,?_⟩;rw[hm,<-Ya];exact hs
  .rw[BI hj]at hs
   refine zh ?_;(repeat clear U K);repeat intro K U
   refine⟨by omega,(),rfl,trivial,hs⟩
 .rw[hd]at hlt
  refine zh ?_;(repeat clear U K);repeat intro K U
  have:k=c - 2:=by omega
  subst this;exact Ge hs 0 rfl rfl
def Tn (n:Int):Bool:=decide (-1000000000<=n)&&decide (n<=1000000000)
def qf (n:Int):Pure zP 162 [eI n] (.b (Tn n)):=by
 refine wN kZ ?_
 conv=>whnf
 repeat'((first|clear U K|apply st|(apply zk;intro K U)|refine zn ?_|refine za (fun hc=>?_) fun hc=>?_|fail)<;>conv=>whnf)
 all_goals exact AJ (by simp[Tn, *]<;>omega)
def Ks (k:Int):Bool:=k==1||k==4
def tJ (k:Int):Pure zP 105 [eI k] (.b (Ks k)):=by
 refine xE kZ ?_
 conv=>whnf
 repeat'((first|clear U K|apply st|(apply zk;intro K U)|refine zn ?_|refine za (fun hc=>?_) fun hc=>?_|fail)<;>conv=>whnf)
 all_goals exact AJ (by simp[Ks, *])
def I9 {p:Prog} (h:FF (.a (BT p))):p.AM.length<=Ad/\p.Dr.length<=Ad/\p.methods.length<=Ad/\p.nodes.length<=Ad:=by
 simp only[BT,Ji,Eo,IZ,CW]at h;exact⟨h.1.1,h.2.2.1.1,h.2.2.2.1.1,h.2.2.2.2.1.1⟩
def Jb (p:Prog) (x:Node):Int:=
 if x.op=1\/x.op=2\/x.op=3\/x.op=6\/x.op=18 then 0 else
 if x.op=4\/x.op=8\/x.op=17 then 1 else
 if x.op=7\/x.op=9\/x.op=11\/x.op=12\/x.op=13\/x.op=14\/x.op=15\/x.op=16 then 2 else
 if x.op=10 then 3 else
 if x.op=5/\0<=x.n/\x.n<p.Dr.length then p.Dr.getD x.n.toNat 0 else -1
def oO (p:Prog) (x:Node):Pure zP 167 [.a (BT p),.a (JC x)] (eI (Jb p x)):=by
 refine Pure.fit (by kernel_rfl) fun hf=>?_
 have⟨p1,p2,p3,p4⟩:=I9 hf.1;have hM:=Mx;refine wI kZ ?_
 conv=>whnf
 repeat'((first|clear U K|apply st|(apply zk;intro K U)|refine zn ?_|refine ze fun x hx=>?_|(refine zd (fun hc=>?_) (fun hc=>?_)<;>try exact⟨⟩)|fail)<;>conv=>whnf)
 all_goals first
  | (refine AJ ?_;simp[Jb, *];done)
  | (refine AJ ?_;simp[Jb, *];intros;omega)
  | (have hd:=(JM.1 hx).2;refine AJ ?_;simp[Jb, *];done)
def NV (p:Prog) (x:Node) (size:Int):Bool:=
 if x.op=1 then Tn x.n else if x.op=3 then decide (0<=x.n)&&decide (x.n<size)else if x.op=4\/x.op=7 then decide (0<=x.n)&&decide (x.n<p.AF)else
 if x.op=5 then decide (0<=x.n)&&decide (x.n<p.Dr.length)else if x.op=6\/x.op=8 then decide (3<=x.n)&&decide (x.n<3+p.AM.length)else x.n==0
def dA (p:Prog) (x:Node) (size:Int):Pure zP 168 [.a (BT p),.a (JC x),eI size] (.b (NV p x size)):=by
 refine Pure.fit (by kernel_rfl) fun hf=>?_
 have⟨p1,p2,p3,p4⟩:=I9 hf.1;have hM:=Mx;refine wH kZ ?_
 conv=>whnf
 repeat'((first|clear U K|apply st|(apply zk;intro K U)|refine zn ?_|refine Pure.use (qf _) ?_|refine za (fun hc=>?_) fun hc=>?_|fail)<;>conv=>whnf)
 all_goals first
  | (refine AJ ?_;simp[NV, *];done)
  | (refine AJ ?_;rw[CW,wrap64 (by omega) (by omega)];simp[NV, *];done)
  | (refine AJ ?_;simp[NV, *];intros;omega)
def Na (ps:List (List Int)) (a b:Int):Bool:=a==b||(b==0||(decide (3<=a)&&GA ps a.toNat b.toNat))
def lh (w:AG) (a b:Int) (hl:w.parents.length<=1000) (ho:ordered w.parents) (ha:0<=a) (ha':a<3+w.parents.length) (hb:0<=b) (hb':b<3+w.parents.length):Pure zP 212 [.a (BL w),eI a,eI b] (.b (Na w.parents a b)):=by
 refine Pure.fit (by kernel_rfl) fun hf=>?_
 have⟨w1,w2,w3⟩:=Vo hf.1;have hM:=Mx;refine vT kZ ?_
 conv=>whnf
 repeat'((first|clear U K|apply st|(apply zk;intro K U)|refine zn ?_|refine za (fun hc=>?_) fun hc=>?_|fail)<;>conv=>whnf)
 .exact AJ (by simp[Na,hc])
 .exact AJ (by simp[Na, *];omega)
 .have hc':0<=a:=ha
  obtain⟨a,rfl⟩: ∃n:Nat,a=n:=⟨a.toNat,by omega⟩
  refine(yT w a ⟨hl,w2,w3⟩ ho (by omega)).use ?_;have hul:=ME w.parents (3+w.parents.length) a (a - 2)
  conv=>whnf
  repeat'((first|clear U K|apply st|(apply zk;intro K U)|refine ze fun x hx=>?_|fail)<;>conv=>whnf)
  refine AJ ?_;have hu:=Zt ho (n:=3+w.parents.length) (c:=a) (by omega) b.toNat;rw[DK,hx]at hu;simp at hu;have e1:((a:Int)==b)=false:=by simpa using ‹(a:Int)≠b›
  have e2:(b==0)=false:=by simpa using ‹b≠0›
  simp[Na,e1,e2,hc,hu]
 .exact AJ (by simp[Na,hc])
structure He (w:AG):Prop where
 len:w.parents.length<=60
 ord:ordered w.parents
 own: ∀c∈w.owner,(3:Int)<=c/\c<3+w.parents.length
 olen:w.owner.length<=40
def Bh (w:AG) (s:Int):Int:=w.owner.getD s.toNat 0
def hasB (w:AG) (c s:Int):Bool:=decide (3<=c)&&Na w.parents c (Bh w s)
def te (w:AG) (c s:Int) (hw:He w) (hc0:0<=c) (hc1:c<3+w.parents.length) (hs0:0<=s) (hs1:s<w.owner.length):Pure zP 161 [.a (BL w),eI c,eI s] (.b (hasB w c s)):=by
 refine Pure.fit (by kernel_rfl) fun hf=>?_
 have⟨w1,w2,w3⟩:=Vo hf.1;have hM:=Mx;have hl:=hw.len;refine wO kZ ?_
 conv=>whnf
 repeat'((first|clear U K|apply st|(apply zk;intro K U)|refine zn ?_|refine ze fun x hx=>?_|refine za (fun hc=>?_) fun hc=>?_|fail)<;>conv=>whnf)
 .have:=hw.own x (Cm hx)
  refine(lh w c x (by omega) hw.ord hc0 hc1 (by omega) (by omega)).use ?_;refine zu ?_;(repeat clear U K);repeat intro K U
  exact AJ (by simp[hasB,Bh,hx,hc])
 .exact AJ (by simp[hasB];omega)
def T8 {xs:List Int} {f:Bool} (h:FF (.l (iL xs) f)):xs.length<=Ad:=Vp h
def kI:Pure zP 245 [.b true] (.t []):=by
 refine iU kZ ?_;have hs:=Sn;exact zW
abbrev D4:V:= .FD 368 (.a [])
def r6 (xs:List Int) (x:Int):Int:=(Bp (fun y (_:Unit)=>(x==y,())) xs 0 ()).1
def Mu {α:Type} (f:α->Bool): ∀(xs:List α) (k:Nat),(decide ((Bp (fun y (_:Unit)=>(f y,())) xs k ()).1≥0))=xs.any f
 | [],_=>rfl
 | y::r,k=>by
   simp only[Bp,Rj];cases f y
   .simpa using Mu f r (k+1)
   .simp
def U4 (xs:List Int) (x:Int):xs.any (x== ·)=xs.contains x:=by
 induction xs with
 | nil=>rfl
 | cons y r ih=>rw[Rj,List.contains_cons,ih]
def oT (xs:List Int) (x:Int):decide (r6 xs x≥0)=xs.contains x:=by
 rw[<-U4];exact Mu (x== ·) xs 0
def ko (xs:List Int) (f:Bool) (x:Int):Pure zP 46 [.l (iL xs) f,eI x] (eI (r6 xs x)):=by
 refine Pure.fit (by kernel_rfl) fun hf=>?_
 have hxl:=T8 hf.1;have hM:=Mx;refine zO kZ ?_;have hs:=Sn;refine zv ?_;(repeat clear U K);repeat intro K U
 refine Cn xs.length (fun k (_:Unit)=>[(8,eI (BR k))]) (fun _ _=>[]) (fun k _=>r6 xs x=(Bp (fun y (_:Unit)=>(x==y,())) (xs.drop k) k ()).1) () rfl rfl hs ?_;clear hs;rintro k - Z hk hn hs;have hck:BR k=k:=Ae (by omega);rcases BK xs hk with⟨y,hy,hlt⟩|hke
 .rw[drop_cons hy,Bp]at hn
  conv=>whnf
  repeat'((first|clear U K|apply st|(apply zk;intro K U)|refine zX ?_|refine za (fun hc=>?_) fun hc=>?_|fail)<;>conv=>whnf)
  .exact AJ (by rw[hn,hc,hck];simp)
  .exact⟨hlt,(),rfl,by rw[hn];simp[hc],hs⟩
 .rw[Au hke,Bp]at hn
  refine zv ?_;(repeat clear U K);repeat intro K U
  exact AJ (by rw[hn])
def Cl (xs:List Int) (f:Bool) (x:Int):Pure zP 11 [.l (iL xs) f,eI x] (.b (xs.contains x)):=by
 refine zj kZ ?_;have hs:=Sn
 conv=>whnf
 repeat'((first|clear U K|apply st|(apply zk;intro K U)|refine zX ?_|refine Pure.use (ko _ _ _) ?_|fail)<;>conv=>whnf)
 all_goals exact AJ (by rw[<-oT])
def Ra (n:Int):Pure zP 292 [eI n] (.b (Tn n)):=by
 refine uW kZ ?_;have hs:=Sn
 conv=>whnf
 repeat'((first|clear U K|apply st|(apply zk;intro K U)|refine zX ?_|refine za (fun hc=>?_) fun hc=>?_|fail)<;>conv=>whnf)
 all_goals exact AJ (by simp[Tn, *]<;>omega)
def Mm (f:Fact):B4 f=(decide (2<=f.op)&&decide (f.op<=4)):=by
 rw[Hb];simp only[B4,EP,A4,C1,Cp];omega
def UZ (f:Fact):Pure zP 122 [.a (xF f)] (.b (B4 f)):=by
 refine wx kZ ?_;have hs:=Sn
 conv=>whnf
 repeat'((first|clear U K|apply st|(apply zk;intro K U)|refine zX ?_|refine za (fun hc=>?_) fun hc=>?_|fail)<;>conv=>whnf)
 all_goals exact AJ (by rw[Mm];simp[*]<;>omega)
def Zs (s c:Nat) (hs0:s<18446744073709551616) (hc:c<64):Pure zP 179 [eU s,eI c] (eU (s|||2 ^ c)):=by
 refine wD kZ ?_;have hs:=Sn
 conv=>whnf
 repeat'((first|clear U K|apply st|(apply zk;intro K U)|fail)<;>conv=>whnf)
 refine⟨Int.natCast_nonneg _,?_⟩;refine zv ?_;(repeat clear U K);repeat intro K U
 exact AJ (by rw[HX,UN hc,G7 hs0 (GW hc)])
def T4 (s c:Nat) (hs0:s<18446744073709551616) (hc:c<64):Pure zP 133 [eU s,eI c] (.b (s.testBit c)):=by
 refine we kZ ?_;have hs:=Sn
 conv=>whnf
 repeat'((first|clear U K|apply st|(apply zk;intro K U)|fail)<;>conv=>whnf)
 refine⟨Int.natCast_nonneg _,?_⟩;refine zv ?_;(repeat clear U K);repeat intro K U
 refine AJ ?_;rw[HX,UM hc];have h1:s >>> c<18446744073709551616:=by rw[Nat.shiftRight_eq_div_pow];exact Nat.lt_of_le_of_lt (Nat.div_le_self _ _) hs0
 have h2:bits .and .u64 ((s >>> c:Nat):Int) 1=((s >>> c&&&1:Nat):Int):=Fs h1 (show 1<_ by decide);rw[h2];simp only[Nat.testBit,Nat.and_comm 1];congr 1;rcases Nat.mod_two_eq_zero_or_one (s >>> c)with h|h<;>simp[Nat.and_one_is_mod,h]
def oN (op:Int):Pure zP 230 [eI op] (eI (CD op)):=by
 refine vK kZ ?_;have hs:=Sn
 conv=>whnf
 repeat'((first|clear U K|apply st|(apply zk;intro K U)|refine zX ?_|refine za (fun hc=>?_) fun hc=>?_|fail)<;>conv=>whnf)
 all_goals exact AJ (by simp[CD, *])
def Yo (b:Bool):Pure zP 178 [.b b] (eI (if b then 0 else 2)):=by
 refine wE kZ ?_;have hs:=Sn
 conv=>whnf
 repeat'((first|clear U K|apply st|(apply zk;intro K U)|refine za (fun hc=>?_) fun hc=>?_|fail)<;>conv=>whnf)
 all_goals exact AJ (by simp[*])
def Ix {S:Type} (g:FuncId) (fi ca:List V) (H:S->List At) (stp:Int->S->Bool×S) (D:Int->S->Prop) (hx:DG zP (.f (.func g) fi ca) eI H stp D) (xs:List Int) (f:Bool) (s0:S) (hd:Xz stp D xs s0) :
    BO zP 114 [.l (iL xs) f,.f (.func g) fi ca] (H s0) fun r post=>r= .ret (eI (Bp stp xs 0 s0).1)/\post=H (Bp stp xs 0 s0).2:=by
 intro Z hs;refine Av.fit (by kernel_rfl) fun hf=>?_
 have hxl:=T8 hf.1;have hM:=Mx;refine ie kZ ?_;refine zv ?_;(repeat clear U K);repeat intro K U
 refine Cn xs.length (fun k (_:S)=>[(8,eI (BR k))]) (fun _ s=>H s) (fun k s=>Xz stp D (xs.drop k) s/\Bp stp xs 0 s0=Bp stp (xs.drop k) k s) s0 rfl ⟨hd,rfl⟩ hs ?_;clear hs;rintro k s Z hk ⟨hd,hn⟩ hs;have hck:BR k=k:=Ae (by omega);rcases BK xs hk with⟨y,hy,hlt⟩|hke
 .rw[drop_cons hy]at hn hd
  obtain⟨hd1,hd2⟩:=hd;rw[Bp]at hn;refine zv ?_;(repeat clear U K);repeat intro K U
  refine hx.use hd1 hs ?_;clear hs;intro Z hs
  conv=>whnf
  repeat'((first|clear U K|apply st|(apply zk;intro K U)|refine zX ?_|refine za (fun hc=>?_) fun hc=>?_|fail)<;>conv=>whnf)
  .rw[hc,if_pos rfl]at hn
   rw[hn];exact Ay hs (List.Sublist.refl _) (by rw[hck];exact .refl _) fun Z' hs'=>⟨_,⟨rfl,rfl⟩,hs'⟩
  .rw[hc,if_neg (by decide)]at hn
   exact⟨hlt,_,rfl,⟨hd2,hn⟩,hs⟩
 .rw[Au hke,Bp]at hn
  refine zv ?_;(repeat clear U K);repeat intro K U
  rw[hn];exact Ay hs (List.Sublist.refl _) (.refl _) fun Z' hs'=>⟨_,⟨rfl,rfl⟩,hs'⟩
section
variable {S:Type} (g:FuncId) (fi ca:List V) (H:S->List At)
def Gn (stp:Int->S->Bool×S) (D:Int->S->Prop) (hx:DG zP (.f (.func g) fi ca) eI H stp D) (xs:List Int) (f:Bool) (s0:S) (hd:Xz stp D xs s0) :
    BO zP 66 [.l (iL xs) f,.f (.func g) fi ca] (H s0) fun r post=>r= .ret (.b (decide ((Bp stp xs 0 s0).1≥0)))/\post=H (Bp stp xs 0 s0).2:=by
 intro Z hs;refine qu kZ ?_
 conv=>whnf
 repeat'((first|clear U K|apply st|(apply zk;intro K U)|fail)<;>conv=>whnf)
 refine(Ix g fi ca H stp D hx xs f s0 hd).use (rest:=[]) (by simpa using hs) ?_;rintro r post Z ⟨rfl,rfl⟩ hs;refine zv ?_;(repeat clear U K);repeat intro K U
 exact Ay hs (by simp) (.refl _) fun Z' hs'=>⟨_,⟨rfl,rfl⟩,hs'⟩
def tL (stp:Int->S->Bool×S) (D:Int->S->Prop) (hx:DG zP (.f (.func g) fi ca) eI H stp D):DG zP (.f (.func 227) [] [.rp [.f (.func g) fi ca]]) eI H (fun y s=>(!(stp y s).1,(stp y s).2)) D:=by
 intro y s hd Z hs;refine BH ?_;show Av zP 227 ([]++[eI y]++[.rp [.f (.func g) fi ca]]) Z _;refine iV kZ ?_;refine zv ?_;(repeat clear U K);repeat intro K U
 refine hx.use hd hs ?_;clear hs;intro Z hs;refine zv ?_;(repeat clear U K);repeat intro K U
 exact Ay hs (List.Sublist.refl _) (.refl _) fun Z' hs'=>⟨rfl,hs'⟩
def iz (stp:Int->S->Bool×S) (D:Int->S->Prop) (hx:DG zP (.f (.func g) fi ca) eI H stp D) (xs:List Int) (f:Bool) (s0:S) (hd:Xz stp D xs s0) :
    BO zP 180 [.l (iL xs) f,.f (.func g) fi ca] (H s0) fun r post=>r= .ret (.b (CK stp xs s0).1)/\post=H (CK stp xs s0).2:=by
 intro Z hs;obtain⟨e1,e2⟩:=OH (stp:=stp) xs 0 s0;refine iZ kZ ?_
 conv=>whnf
 repeat'((first|clear U K|apply st|(apply zk;intro K U)|fail)<;>conv=>whnf)
 refine(Gn 227 [] [.rp [.f (.func g) fi ca]] H _ D (tL g fi ca H stp D hx) xs f s0 (UR xs s0 hd)).use (rest:=[]) (by simpa using hs) ?_;rintro r post Z ⟨rfl,rfl⟩ hs;rw[e2];rw[e1]at hs;refine zv ?_;(repeat clear U K);repeat intro K U
 exact Ay hs (by simp) (by rw[Bool.not_not];exact .refl _) fun Z' hs'=>⟨_,⟨rfl,rfl⟩,hs'⟩
def Uy (stp:Fact->S->Bool×S) (D:Fact->S->Prop) (hx:DG zP (.f (.func g) fi ca) (fun y=> .a (xF y)) H stp D) (xs:List Fact) (f:Bool) (s0:S) (hxl:xs.length<=Ad) (hd:Xz stp D xs s0) :
    BO zP 273 [.l (facts xs) f,.f (.func g) fi ca] (H s0) fun r post=>r= .ret (eI (Bp stp xs 0 s0).1)/\post=H (Bp stp xs 0 s0).2:=by
 intro Z hs;have hM:=Mx;refine ue kZ ?_;refine zv ?_;(repeat clear U K);repeat intro K U
 refine Cn xs.length (fun k (_:S)=>[(8,eI (BR k))]) (fun _ s=>H s) (fun k s=>Xz stp D (xs.drop k) s/\Bp stp xs 0 s0=Bp stp (xs.drop k) k s) s0 rfl ⟨hd,rfl⟩ hs ?_;clear hs;rintro k s Z hk ⟨hd,hn⟩ hs;have hck:BR k=k:=Ae (by omega);rcases BK xs hk with⟨y,hy,hlt⟩|hke
 .rw[drop_cons hy]at hn hd
  obtain⟨hd1,hd2⟩:=hd;rw[Bp]at hn;refine zv ?_;(repeat clear U K);repeat intro K U
  refine hx.use hd1 hs ?_;clear hs;intro Z hs
  conv=>whnf
  repeat'((first|clear U K|apply st|(apply zk;intro K U)|refine zX ?_|refine za (fun hc=>?_) fun hc=>?_|fail)<;>conv=>whnf)
  .rw[hc,if_pos rfl]at hn
   rw[hn];exact Ay hs (List.Sublist.refl _) (by rw[hck];exact .refl _) fun Z' hs'=>⟨_,⟨rfl,rfl⟩,hs'⟩
  .rw[hc,if_neg (by decide)]at hn
   exact⟨hlt,_,rfl,⟨hd2,hn⟩,hs⟩
 .rw[Au hke,Bp]at hn
  refine zv ?_;(repeat clear U K);repeat intro K U
  rw[hn];exact Ay hs (List.Sublist.refl _) (.refl _) fun Z' hs'=>⟨_,⟨rfl,rfl⟩,hs'⟩
def PG (stp:Fact->S->Bool×S) (D:Fact->S->Prop) (hx:DG zP (.f (.func g) fi ca) (fun y=> .a (xF y)) H stp D) (xs:List Fact) (f:Bool) (s0:S) (hxl:xs.length<=Ad) (hd:Xz stp D xs s0) :
    BO zP 228 [.l (facts xs) f,.f (.func g) fi ca] (H s0) fun r post=>r= .ret (.b (decide ((Bp stp xs 0 s0).1≥0)))/\post=H (Bp stp xs 0 s0).2:=by
 intro Z hs;refine vM kZ ?_
 conv=>whnf
 repeat'((first|clear U K|apply st|(apply zk;intro K U)|fail)<;>conv=>whnf)
 refine(Uy g fi ca H stp D hx xs f s0 hxl hd).use (rest:=[]) (by simpa using hs) ?_;rintro r post Z ⟨rfl,rfl⟩ hs;refine zv ?_;(repeat clear U K);repeat intro K U
 exact Ay hs (by simp) (.refl _) fun Z' hs'=>⟨_,⟨rfl,rfl⟩,hs'⟩
def tK (stp:Fact->S->Bool×S) (D:Fact->S->Prop) (hx:DG zP (.f (.func g) fi ca) (fun y=> .a (xF y)) H stp D):DG zP (.f (.func 229) [] [.rp [.f (.func g) fi ca]]) (fun y=> .a (xF y)) H (fun y s=>(!(stp y s).1,(stp y s).2)) D:=by
 intro y s hd Z hs;refine BH ?_;show Av zP 229 ([]++[.a (xF y)]++[.rp [.f (.func g) fi ca]]) Z _;refine vL kZ ?_;refine zv ?_;(repeat clear U K);repeat intro K U
 refine hx.use hd hs ?_;clear hs;intro Z hs;refine zv ?_;(repeat clear U K);repeat intro K U
 exact Ay hs (List.Sublist.refl _) (.refl _) fun Z' hs'=>⟨rfl,hs'⟩
def iy (stp:Fact->S->Bool×S) (D:Fact->S->Prop) (hx:DG zP (.f (.func g) fi ca) (fun y=> .a (xF y)) H stp D) (xs:List Fact) (f:Bool) (s0:S) (hxl:xs.length<=Ad) (hd:Xz stp D xs s0) :
    BO zP 182 [.l (facts xs) f,.f (.func g) fi ca] (H s0) fun r post=>r= .ret (.b (CK stp xs s0).1)/\post=H (CK stp xs s0).2:=by
 intro Z hs;obtain⟨e1,e2⟩:=OH (stp:=stp) xs 0 s0;refine wA kZ ?_
 conv=>whnf
 repeat'((first|clear U K|apply st|(apply zk;intro K U)|fail)<;>conv=>whnf)
 refine(PG 229 [] [.rp [.f (.func g) fi ca]] H _ D (tK g fi ca H stp D hx) xs f s0 hxl (UR xs s0 hd)).use (rest:=[]) (by simpa using hs) ?_;rintro r post Z ⟨rfl,rfl⟩ hs;rw[e2];rw[e1]at hs;refine zv ?_;(repeat clear U K);repeat intro K U
 exact Ay hs (by simp) (by rw[Bool.not_not];exact .refl _) fun Z' hs'=>⟨_,⟨rfl,rfl⟩,hs'⟩
end
abbrev Vk (f:Int->Bool):Int->Unit->Bool×Unit:=fun y _=>(f y,())
def Qr {g:FuncId} {fi ca:List V} {f:Int->Bool} {D:Int->Unit->Prop} (h: ∀y,D y ()->Pure zP g (fi++[eI y]++ca) (.b (f y))):DG zP (.f (.func g) fi ca) eI (fun _=>[]) (Vk f) D:=by
 intro y s hd Z hs;refine BH ?_;show Av zP g (fi++[eI y]++ca) Z _;refine Av.mono ((h y hd).use (k:=fun v Z'=>v= .b (f y)/\Sat Z' []) (kp:=fun _ _=>False) ⟨rfl,Sat.nil⟩) ?_;rintro(v|v) Z' hq
 .obtain⟨rfl,h⟩:=hq
  exact⟨rfl,h⟩
 .exact hq.elim
def pz {g:FuncId} {fi ca:List V} {f:Int->Bool} {xs:List Int} (b:Bool) (h: ∀y∈xs,Pure zP g (fi++[eI y]++ca) (.b (f y))):Pure zP 180 [.l (iL xs) b,.f (.func g) fi ca] (.b (xs.all f)):=by
 have:=iz g fi ca (fun _=>[]) (Vk f) (fun y _=>y∈xs) (Qr fun y hy=>h y hy) xs b () (HN fun y hy _=>hy);rw[Kh]at this;exact Pure.of (Av.mono (this emp Sat.nil) fun r Z' ⟨post,⟨h1,h2⟩,h3⟩=>h1)
end Go.Gl
