import Derived.Test.YtcfkfhaedllcpaaGreatW14
import Derived.Test.YtcfkfhaedllcpaaGreatW15
import Derived.Test.YtcfkfhaedllcpaaGreatW16
set_option linter.all false
set_option linter.defProp false
set_option maxHeartbeats 8000000
noncomputable section
namespace Go.Gl
open Go.Proofs
attribute [local irreducible] A3 Aq Af AR AJ Ad AQ AT AK Ac AM AN Ax A5 Sat AX A4 Ah W
def Dt (g os:List (List Int)) (c:Int):List Int:=
 match ED g os c with
 | none=>[]
 | some l=>if(CE l).2 then [c]++(CE l).1++[0]else []
def BX (g:List (List Int)):Nat->List (List Int)
 | 0=>[[0]]
 | k+1=>BX g k++[Dt g (BX g k) ((k:Int)+1)]
def Bz (g:List (List Int)):List (List Int):=BX g (2+g.length)
def Ia (g:List (List Int)):Prop:=g.length<=16/\ ∀(i:Nat) (l:List Int),g[i]? =some l->l.length<=3/\l.Nodup/\ ∀c∈l,(3:Int)<=c/\c<3+(i:Int)
def Cb (g:List (List Int)): ∀k,(BX g k).length=k+1
 | 0=>rfl
 | k+1=>by simp[BX,Cb g k]
def ID: ∀(n:Nat) (ls:List (List Int)) (out:List Int),(DB n ls out).1.length<=out.length+n
 | 0,ls,out=>by simp[DB]
 | n + 1,ls,out=>by
   simp only[DB];split
   .simp
   .rename_i x _
    have:=ID n (ls.map fun l=>l.filter (· != x)) (out++[x]);simp only[RQ,List.length_singleton]at this;refine Nat.le_trans this ?_;omega
def Wa {ls:List (List Int)} (h: ∀l∈ls,∀x∈l,(0:Int)<=x) {x:Int} (hp:pick ls=some x):0<=x:=by
 unfold pick at hp;rw[Option.bind_eq_some_iff]at hp;obtain⟨l,h1,h2⟩:=hp;have hm:=List.mem_of_find?_eq_some h1;cases l with
 | nil=>cases h2
 | cons y r=>cases h2;exact h _ hm _ (.head _)
def KB: ∀(n:Nat) (ls:List (List Int)) (out:List Int),(∀l∈ls,∀x∈l,(0:Int)<=x)->(∀x∈out,(0:Int)<=x)-> ∀x∈(DB n ls out).1,(0:Int)<=x
 | 0,ls,out,_,h2=>h2
 | n + 1,ls,out,h1,h2=>by
   simp only[DB];split
   .exact h2
   .rename_i y hy
    refine KB n _ _ (fun l hl x hx=>?_) fun x hx=>?_
    .obtain⟨l',hl',rfl⟩:=Mg.1 hl
     exact h1 _ hl' _ (LH.1 hx).1
    .rcases E4.1 hx with hx|hx
     .exact h2 x hx
     .rw[LD.1 hx];exact Wa h1 hy
def DR {g:List (List Int)} (hg:Ia g) {c p:Int} (hp:p∈Aw g c):3<=p/\p<c:=by
 unfold Aw at hp;split at hp
 .cases hp
 .rename_i hc
  rw[DH]at hp;cases hq:g[(c - 3).toNat]? with
  | none=>rw[hq]at hp;cases hp
  | some l=>
    rw[hq]at hp;obtain⟨_,_,h⟩:=hg.2 _ _ hq;have:=h p hp;omega
def Cv {g:List (List Int)} (hg:Ia g) (c:Int):(Aw g c).length<=3:=by
 unfold Aw;split
 .simp
 .rw[DH]
  cases hq:g[(c - 3).toNat]? with
  | none=>simp
  | some l=>exact(hg.2 _ _ hq).1
def Gi {g os:List (List Int)} {c:Int} {ls:List (List Int)} (h:ED g os c=some ls):ls=(Aw g c).map (fun p=>(os.getD p.toNat []).filter (· != 0))++[Aw g c]:=by
 unfold ED at h;split at h
 .cases h
 .exact(Option.some.inj h).symm
def Vv {os:List (List Int)} {B:Nat} (h: ∀o∈os,o.length<=B) (n:Nat):(os.getD n []).length<=B:=by
 rw[DH];cases hq:os[n]? with
 | none=>simp
 | some l=>exact h _ (B1 hq)
def Po {os:List (List Int)} {Q:Int->Prop} (h: ∀o∈os,∀x∈o,Q x) (n:Nat): ∀x∈os.getD n [],Q x:=by
 rw[DH];cases hq:os[n]? with
 | none=>simp
 | some l=>exact h _ (B1 hq)
def FU {g os:List (List Int)} {c:Int} {ls:List (List Int)} (h:ED g os c=some ls) {B:Nat} (hB: ∀o∈os,o.length<=B):total ls<=(Aw g c).length*(B+1):=by
 rw[Gi h];simp only[total,Uf,List.map_map,List.sum_append,Ex,List.map_nil,List.sum_cons,List.sum_nil,Nat.add_zero]
 have: ∀ps:List Int,(ps.map (List.length∘fun p=>(os.getD p.toNat []).filter (· != 0))).sum<=ps.length*B:=fun ps=>by
  induction ps with
  | nil=>simp
  | cons p r ih=>
    simp only[Ex,List.sum_cons,Function.comp,LF,Nat.succ_mul];have h1:=Qs (· != 0) (os.getD p.toNat []);have h2:=Vv hB p.toNat;simp only[Function.comp_def]at *;omega
 have:=this (Aw g c);rw[Nat.mul_add,Nat.mul_one];simp only[Function.comp_def]at *;omega
def Wc {g os:List (List Int)} {c:Int} {B:Nat} (hB: ∀o∈os,o.length<=B):(Dt g os c).length<=(Aw g c).length*(B+1)+2:=by
 unfold Dt;split
 .simp
 .rename_i ls h
  have h1:=FU h hB;have h2:=ID (total ls) ls [];simp only[List.length_nil,Gj]at h2;split
  .simp only[RQ,List.length_singleton,CE]
   omega
  .simp
def Qr {g os:List (List Int)} {c:Int} (hg:Ia g) (hc:0<=c) (h: ∀o∈os,∀x∈o,(0:Int)<=x): ∀x∈Dt g os c,0<=x:=by
 unfold Dt;split
 .simp
 .rename_i ls hl
  split
  .intro x hx
   have hls: ∀l∈ls,∀x∈l,(0:Int)<=x:=by
    rw[Gi hl];intro l hl x hx;rcases E4.1 hl with hl|hl
    .obtain⟨p,_,rfl⟩:=Mg.1 hl
     exact Po h p.toNat x (LH.1 hx).1
    .rw[LD.1 hl]at hx
     have:=DR hg hx;omega
   simp only[E4,LD]at hx;rcases hx with(rfl|hx)|rfl
   .exact hc
   .exact KB _ _ _ hls (by simp) x hx
   .exact Int.le_refl _
  .simp
def I1 (k:Nat):Nat:=5*3 ^ (k - 3) - 3
def qW (n:Nat):1<=3 ^ n:=Nat.one_le_pow _ _ (by omega)
def IK {g : List (List Int)} (hg:Ia g): ∀(k:Nat),∀o∈BX g k,o.length<=I1 k/\ ∀x∈o,(0:Int)<=x
 | 0,o,ho=>by
   simp only[BX,LD]at ho;subst ho;simp[I1]
 | k + 1,o,ho=>by
   have ih:=IK hg k
   have hmono:I1 k<=I1 (k+1):=by
    unfold I1;have:3 ^ (k - 3)<=3 ^ (k+1 - 3):=Nat.pow_le_pow_right (by omega) (by omega);omega
   simp only[BX,E4,LD]at ho;rcases ho with ho|rfl
   .exact⟨Nat.le_trans (ih o ho).1 hmono,(ih o ho).2⟩
   .refine⟨?_,Qr hg (by omega) fun o ho=>(ih o ho).2⟩
    have h1:=Wc (g:=g) (c:=(k:Int)+1) fun o ho=>(ih o ho).1
    by_cases hk:k<3
    .have:Aw g ((k:Int)+1)= []:=by
      apply List.eq_nil_iff_forall_not_mem.2;intro p hp;have:=DR hg hp;omega
     rw[this]at h1
     have:I1 (k+1)=2:=by
      have:k+1 - 3=0:=by omega
      simp[I1,this]
     simpa[this]using h1
    .have h2:=Cv hg ((k:Int)+1)
     have h3:(Aw g ((k:Int)+1)).length*(I1 k+1)<=3*(I1 k+1):=UW _ h2;have:k+1 - 3=(k - 3)+1:=by omega
     unfold I1 at *;rw[this,Nat.pow_succ];have:=qW (k - 3);omega
def Z8 {k:Nat} (h:k<=18):I1 k<=71744535:=by
 unfold I1;have:3 ^ (k - 3)<=3 ^ 15:=Nat.pow_le_pow_right (by omega) (by omega);have e:(3:Nat) ^ 15=14348907:=by decide
 omega
def Ev {g:List (List Int)}: ∀ {k j:Nat},j<=k->(BX g k)[j]? =(BX g j)[j]?
 | 0,j,h=>by(obtain rfl:j=0:=by omega);rfl
 | k+1,j,h=>by
   by_cases e:j=k+1
   .subst e;rfl
   .rw[<-Ev (k:=k) (by omega),BX,jq (by rw[Cb];omega)]
def X5 {g os:List (List Int)} {c:Int} {ls:List (List Int)} (hg:Ia g) (h:ED g os c=some ls) {B:Nat} (hB: ∀o∈os,o.length<=B/\ ∀x∈o,(0:Int)<=x) (hb:B<=100000000):Mj ls/\total ls<AY:=by
 have h3:=Cv hg c;have ht:=FU h fun o ho=>(hB o ho).1
 have:(Aw g c).length*(B+1)<=3*(B+1):=UW _ h3;have htl:total ls<AY:=by simp only[AY];omega
 refine⟨⟨?_,fun l hl=>⟨?_,?_⟩⟩,htl⟩
 .rw[Gi h]
  simp only[RQ,BU,List.length_singleton,AY];omega
 .have:=bI hl
  simp only[AY]at *;omega
 .intro x hx
  rw[Gi h]at hl;rcases E4.1 hl with hl|hl
  .obtain⟨p,_,rfl⟩:=Mg.1 hl
   exact Po (fun o ho=>(hB o ho).2) p.toNat x (LH.1 hx).1
  .rw[LD.1 hl]at hx
   have:=DR hg hx;omega
def bk (g : List (List Int)) (f:Bool) (hg:Ia g):Pure zP 251 [.l (Ee g) f] (.l (Ee (Bz g)) false):=by
 refine tt kZ ?_
 conv=>whnf
 repeat((first|clear U K|apply st|(apply zk;intro K U)|fail);conv=>whnf)
 have hg16:=hg.1;have hgm:g.length<=AY:=by simp only[AY];omega
 refine⟨.l (Ee [[0]]) true,emp,fun _ _ h=>h,.l (fun _=>rfl) (.cons (.cons (.l (fun h=>(by cases h)) (.refl _ _ _)) .nil) .nil),?_⟩;refine zh ?_;(repeat clear U K);repeat intro K U
 refine B0 (2+g.length) (fun k v=>[(3,v),(4,eI (LP 1 k))]) (fun k v=>[.own v 1 (Ee (BX g k))]) (fun _ _=>True) (.l (Ee [[0]]) true) rfl trivial (kP Sat.nil (by simp)) ?_;rintro k v Z hk - hs;have hc1:LP 1 k=(k:Int)+1:=by rw[Ot (by omega) (by omega)];omega
 have hw:IntKind.i64.wrap (3+((Ee g).length:Nat))=3+(g.length:Int):=by rw[BU,wrap64 (by omega) (by omega)]
 refine zh ?_;(repeat clear U K);repeat intro K U
 rw[hc1];rw[hw];refine fork (fun hlt=>?_) (fun hlt=>?_)
 .have hlt':k<2+g.length:=by omega
  have hB:=IK hg k;have hb18:I1 k<=71744535:=Z8 (by omega);have hc2:LP 1 (k+1)=IntKind.i64.wrap ((k:Int)+1+1):=by rw[LP,hc1]
  refine zh ?_;(repeat clear U K);repeat intro K U
  refine⟨.l (iL []) false,Z,fun _ _ h=>h,.l (fun h=>(by cases h)) (.refl _ _ _),?_⟩
  conv=>whnf
  repeat((first|clear U K|apply st|(apply zk;intro K U)|fail);conv=>whnf)
  refine(ia g (BX g k) f v ((k:Int)+1) (by omega) hgm (fun o ho=>by have:=(hB o ho).1;simp only[AY];omega) (by have:=Cv hg ((k:Int)+1);omega)
   (fun p hp=>by have:=DR hg hp;rw[Cb];omega)).use (rest:=[]) hs ?_
  rintro r post Z' ⟨rfl,rfl⟩ hs;cases hl:ED g (BX g k) ((k:Int)+1)with
  | none=>
    refine zh ?_;(repeat clear U K);repeat intro K U
    refine Fj hs 0 (x:=[]) rfl (by rw[Cb];simp only[AY];omega) C3 fun v' Z' hs'=>?_
    conv=>whnf
    refine⟨v',Z',fun _ _ h=>h,.refl _,?_⟩;refine zh ?_;(repeat clear U K);repeat intro K U
    refine⟨hlt',v',?_,trivial,?_⟩
    .skip
     rw[hc2];rfl
    .have:Dt g (BX g k) ((k:Int)+1)= []:=by simp[Dt,hl,]
     rw[BX,this];exact hs'
  | some ls=>
    obtain⟨hok,htot⟩:=X5 hg hl hB (by omega);refine zh ?_;(repeat clear U K);repeat intro K U
    refine(iW ls false hok htot).use ?_;have hml:=ID (total ls) ls [];simp only[List.length_nil,Gj]at hml;refine zh ?_;(repeat clear U K);repeat intro K U
    refine⟨fun h=>?_,fun h=>?_⟩<;>(try rw[h])
    .conv=>whnf
     repeat((first|clear U K|(apply zk;intro K U)|fail);conv=>whnf)
     refine F9 (kP hs (by simp)) 1 (xs:=[(k:Int)+1]) rfl (by simp[CE];have:=FU hl fun o ho=>(hB o ho).1;have h3:=Cv hg ((k:Int)+1);have:(Aw g ((k:Int)+1)).length*(I1 k+1)<=3*(I1 k+1):=UW _ h3;simp only[AY]at *;omega) BZ fun u Z1 hs=>?_
     conv=>whnf
     refine Fj hs 1 (x:=0) rfl (by simp[CE];have:=FU hl fun o ho=>(hB o ho).1;have h3:=Cv hg ((k:Int)+1);have:(Aw g ((k:Int)+1)).length*(I1 k+1)<=3*(I1 k+1):=UW _ h3;simp only[AY]at *;omega) BZ fun u Z1 hs=>?_
     conv=>whnf
     refine pq hs 1 rfl fun Z' hs=>?_
     conv=>whnf
     repeat((first|clear U K|apply st|(apply zk;intro K U)|fail);conv=>whnf)
     refine Fj hs 0 (x:=([(k:Int)+1]++(CE ls).1++[0])) rfl (by rw[Cb];simp only[AY];omega) C3 fun v' Z' hs'=>?_
     conv=>whnf
     refine⟨v',Z',fun _ _ h=>h,.refl _,?_⟩;refine zh ?_;(repeat clear U K);repeat intro K U
     refine⟨hlt',v',?_,trivial,?_⟩
     .skip
      rw[hc2];rfl
     .have:Dt g (BX g k) ((k:Int)+1)=([(k:Int)+1]++(CE ls).1++[0]):=by simp[Dt,hl,h]
      rw[BX,this];exact hs'
    .refine zh ?_;(repeat clear U K);repeat intro K U
     refine Fj hs 0 (x:=[]) rfl (by rw[Cb];simp only[AY];omega) C3 fun v' Z' hs'=>?_
     conv=>whnf
     refine⟨v',Z',fun _ _ h=>h,.refl _,?_⟩;refine zh ?_;(repeat clear U K);repeat intro K U
     refine⟨hlt',v',?_,trivial,?_⟩
     .skip
      rw[hc2];rfl
     .have:Dt g (BX g k) ((k:Int)+1)= []:=by simp[Dt,hl,h]
      rw[BX,this];exact hs'
 .refine zh ?_;(repeat clear U K);repeat intro K U
  have hke:k=2+g.length:=by omega
  subst hke;exact EC hs 0 rfl rfl
def rA (g:List (List Int)) (f:Bool) (c:Int) (hg:Ia g) (h0:0<=c) (h1:c<3+g.length):Pure zP 180 [.l (Ee g) f,eI c] (.t [.l (iL ((Bz g).getD c.toNat [])) false,.b (!((Bz g).getD c.toNat []).isEmpty)]):=by
 refine uh kZ ?_
 conv=>whnf
 repeat((first|clear U K|apply st|(apply zk;intro K U)|fail);conv=>whnf)
 refine(bk g f hg).use ?_
 conv=>whnf
 have hlen:=Cb g (2+g.length);have hlt:c.toNat<(Bz g).length:=by unfold Bz;omega
 have hq:=Cy hlt;refine Uy c.toNat hq (by omega) rfl ?_;refine zh ?_;(repeat clear U K);repeat intro K U
 refine AF ?_;rw[DH,hq,Option.getD_some];cases(Bz g)[c.toNat]with
 | nil=>rfl
 | cons _ _=>simp
def yU (w:AI):Prop:=w.parents.length<=1000/\(∀l∈w.parents,l.length<=AY)/\w.owner.length<=AY
def fF {ps:List (List Int)} {c:Nat} (h3:3<=c) (hc:c<3+ps.length):ps[c - 3]? =some (par ps c):=by
 unfold par;rw[if_neg (by omega),DH,Cy (by omega)];rfl
def Y3 {bs:List Bool} {j:Nat} (h:j<bs.length):(bL bs)[j]? =some [.b (bs.getD j false)]:=by
 rw[Md,DH,Cy h];rfl
def Xi (bs:List Bool) (j:Nat) (x:Bool):(bL bs).set j [.b x]=bL (bs.set j x):=by
 simp[bL,List.map_set]
def we (w : AI) (c:Nat) (hw:yU w) (ho:ordered w.parents) (hc:c<3+w.parents.length):Pure zP 291 [.a (A1 w),eI c] (.l (bL (HA w.parents (3+w.parents.length) c (c - 2))) false):=by
 obtain⟨hw1,hw2,hw3⟩:=hw;have hmL:3+w.parents.length<=AY:=by simp only[AY];omega
 refine tV kZ ?_;refine zh ?_;(repeat clear U K);repeat intro K U
 rw[show IntKind.i64.wrap (3+((Ee w.parents).length:Nat))=((3+w.parents.length:Nat):Int) by rw[BU,wrap64 (by omega) (by omega)];omega];refine yM Sat.nil (by omega) fun v Z hs hv=>?_
 obtain⟨id,rfl⟩:=hv
 conv=>whnf
 repeat((first|clear U K|apply st|(apply zk;intro K U)|fail);conv=>whnf)
 refine dd hs 0 c rfl rfl (by simpa using hc) ?_
 conv=>whnf
 refine MA hs 0 rfl (e:=[.b false]) (by simp[hc]) rfl rfl rfl rfl rfl fun Z hs=>?_
 have e0:(List.replicate (3+w.parents.length) [V.b false]).set c [V.b true]=bL (HA w.parents (3+w.parents.length) c 0):=by
  simp only[HA];rw[<-Xi];simp[bL]
 refine zh ?_;(repeat clear U K);repeat intro K U
 refine B0 (c - 2) (fun k (_:Unit)=>[(6,eI (OQ c k))]) (fun k _=>[.own (.sl id (3+w.parents.length) (3+w.parents.length)) 1 (bL (HA w.parents (3+w.parents.length) c k))]) (fun _ _=>True) () rfl trivial (e0 ▸ hs) ?_;rintro k - Z hk - hs;have hd:OQ c k=(c:Int) - k:=UC (by omega) (by omega);have hul:=Ld w.parents (3+w.parents.length) c k;refine zh ?_;(repeat clear U K);repeat intro K U
 refine fork (fun hlt=>?_) (fun hlt=>?_)
 .rw [hd]at hlt
  have h3:3<=c - k:=by omega
  have hpar:=fF (ps:=w.parents) h3 (by omega);have hpl:=hw2 _ (B1 hpar);refine zh ?_;(repeat clear U K);repeat intro K U
  refine Uy (c - k - 3) hpar (by rw[hd,wrap64 (by omega) (by omega)];omega) rfl ?_;refine zh ?_;(repeat clear U K);repeat intro K U
  refine B0 (par w.parents (c - k)).length (fun j (_:Unit)=>[(29,eI (A8 j))]) (fun j _=>[.own (.sl id (3+w.parents.length) (3+w.parents.length)) 1 (bL (FX (HA w.parents (3+w.parents.length) c k) (c - k) ((par w.parents (c - k)).take j)))]) (fun _ _=>True) () rfl trivial hs ?_;rintro j - Z hj - hs;have hml:=NP (c - k) ((par w.parents (c - k)).take j) (HA w.parents (3+w.parents.length) c k);refine zh ?_;(repeat clear U K);repeat intro K U
  refine GD hj hpl (fun p hp hjlt=>?_) fun hj=>?_
  .have hpp:=ho _ p (B1 hp)
   have hm:(FX (HA w.parents (3+w.parents.length) c k) (c - k) ((par w.parents (c - k)).take (j+1)))=(FX (HA w.parents (3+w.parents.length) c k) (c - k) ((par w.parents (c - k)).take j)).set p.toNat
    ((FX (HA w.parents (3+w.parents.length) c k) (c - k) ((par w.parents (c - k)).take j)).getD p.toNat false||(FX (HA w.parents (3+w.parents.length) c k) (c - k) ((par w.parents (c - k)).take j)).getD (c - k) false):=by
    rw[AL hp,MP];rfl
   generalize hbs:FX (HA w.parents (3+w.parents.length) c k) (c - k) ((par w.parents (c - k)).take j)=bs at *;have hlp:p.toNat<bs.length:=by omega
   have hlc:c - k<bs.length:=by omega
   refine zh ?_;(repeat clear U K);repeat intro K U
   refine I2 hp hpl rfl ?_;refine zh ?_;(repeat clear U K);repeat intro K U
   refine dd hs 0 p.toNat rfl (by omega) (by simpa using hlp) ?_
   conv=>whnf
   refine H0 hs 0 rfl (Y3 hlp) ?_
   conv=>whnf
   cases hb:bs.getD p.toNat false with
   | true=>
     rw[hb]at hm;refine zh ?_;(repeat clear U K);repeat intro K U
     refine dd hs 0 p.toNat rfl (by omega) (by simpa using hlp) ?_
     conv=>whnf
     refine MA hs 0 rfl (Y3 hlp) rfl rfl rfl rfl rfl fun Z hs=>?_
     refine zh ?_;(repeat clear U K);repeat intro K U
     refine⟨hjlt,(),rfl,trivial,?_⟩;rw[hm,<-Xi];exact hs
   | false=>
     rw[hb]at hm;refine zh ?_;(repeat clear U K);repeat intro K U
     refine dd hs 0 (c - k) rfl (by rw[hd];omega) (by simpa using hlc) ?_;refine zh ?_;(repeat clear U K);repeat intro K U
     refine H0 hs 0 rfl (Y3 hlc) ?_
     conv=>whnf
     refine dd hs 0 p.toNat rfl (by omega) (by simpa using hlp) ?_
     conv=>whnf
     refine MA hs 0 rfl (Y3 hlp) rfl rfl rfl rfl rfl fun Z hs=>?_
     refine zh ?_;(repeat clear U K);repeat intro K U
     refine⟨hjlt,(),rfl,trivial,?_⟩;rw[hm,<-Xi];exact hs
  .rw[Au hj]at hs
   refine zh ?_;(repeat clear U K);repeat intro K U
   refine⟨by omega,(),rfl,trivial,hs⟩
 .rw[hd]at hlt
  refine zh ?_;(repeat clear U K);repeat intro K U
  have:k=c - 2:=by omega
  subst this;exact EC hs 0 rfl rfl
def TI (n:Int):Bool:=decide (-1000000000<=n)&&decide (n<=1000000000)
def oX (n:Int):Pure zP 182 [eI n] (.b (TI n)):=by
 refine uf kZ ?_
 conv=>whnf
 repeat'((first|clear U K|apply st|(apply zk;intro K U)|refine zn ?_|refine za (fun hc=>?_) fun hc=>?_|fail)<;>conv=>whnf)
 all_goals exact AF (by simp[TI, *]<;>omega)
def J4 (k:Int):Bool:=k==1||k==4
def qs (k:Int):Pure zP 132 [eI k] (.b (J4 k)):=by
 refine ux kZ ?_
 conv=>whnf
 repeat'((first|clear U K|apply st|(apply zk;intro K U)|refine zn ?_|refine za (fun hc=>?_) fun hc=>?_|fail)<;>conv=>whnf)
 all_goals exact AF (by simp[J4, *])
def Fk {p:Prog} (h:E0 (.a (A9 p))):p.AH.length<=AY/\p.Br.length<=AY/\p.methods.length<=AY/\p.nodes.length<=AY:=by
 simp only[A9,Gy,DQ,Gx,BU]at h;exact⟨h.1.1,h.2.2.1.1,h.2.2.2.1.1,h.2.2.2.2.1.1⟩
def I6 (p:Prog) (x:Node):Int:=
 if x.op=1\/x.op=2\/x.op=3\/x.op=6\/x.op=18 then 0 else
 if x.op=4\/x.op=8\/x.op=17 then 1 else
 if x.op=7\/x.op=9\/x.op=11\/x.op=12\/x.op=13\/x.op=14\/x.op=15\/x.op=16 then 2 else
 if x.op=10 then 3 else
 if x.op=5/\0<=x.n/\x.n<p.Br.length then p.Br.getD x.n.toNat 0 else -1
def mK (p:Prog) (x:Node):Pure zP 187 [.a (A9 p),.a (Ig x)] (eI (I6 p x)):=by
 refine Pure.fit (by kernel_rfl) fun hf=>?_
 have⟨p1,p2,p3,p4⟩:=Fk hf.1;have hM:=Mx;refine ua kZ ?_
 conv=>whnf
 repeat'((first|clear U K|apply st|(apply zk;intro K U)|refine zn ?_|refine ze fun x hx=>?_|(refine zd (fun hc=>?_) (fun hc=>?_)<;>try exact⟨⟩)|fail)<;>conv=>whnf)
 all_goals first
  | (refine AF ?_;simp[I6, *];done)
  | (refine AF ?_;simp[I6, *];intros;omega)
  | (have hd:=(IN.1 hx).2;refine AF ?_;simp[I6, *];done)
def Mk (p:Prog) (x:Node) (size:Int):Bool:=
 if x.op=1 then TI x.n else if x.op=3 then decide (0<=x.n)&&decide (x.n<size)else if x.op=4\/x.op=7 then decide (0<=x.n)&&decide (x.n<p.AG)else
 if x.op=5 then decide (0<=x.n)&&decide (x.n<p.Br.length)else if x.op=6\/x.op=8 then decide (3<=x.n)&&decide (x.n<3+p.AH.length)else x.n==0
def bq (p:Prog) (x:Node) (size:Int):Pure zP 188 [.a (A9 p),.a (Ig x),eI size] (.b (Mk p x size)):=by
 refine Pure.fit (by kernel_rfl) fun hf=>?_
 have⟨p1,p2,p3,p4⟩:=Fk hf.1;have hM:=Mx;refine uZ kZ ?_
 conv=>whnf
 repeat'((first|clear U K|apply st|(apply zk;intro K U)|refine zn ?_|refine Pure.use (oX _) ?_|refine za (fun hc=>?_) fun hc=>?_|fail)<;>conv=>whnf)
 all_goals first
  | (refine AF ?_;simp[Mk, *];done)
  | (refine AF ?_;rw[BU,wrap64 (by omega) (by omega)];simp[Mk, *];done)
  | (refine AF ?_;simp[Mk, *];intros;omega)
def Ux (ps:List (List Int)) (a b:Int):Bool:=a==b||(b==0||(decide (3<=a)&&Jv ps a.toNat b.toNat))
def jg (w:AI) (a b:Int) (hl:w.parents.length<=1000) (ho:ordered w.parents) (ha:0<=a) (ha':a<3+w.parents.length) (hb:0<=b) (hb':b<3+w.parents.length):Pure zP 252 [.a (A1 w),eI a,eI b] (.b (Ux w.parents a b)):=by
 refine Pure.fit (by kernel_rfl) fun hf=>?_
 have⟨w1,w2,w3⟩:=U7 hf.1;have hM:=Mx;refine ts kZ ?_
 conv=>whnf
 repeat'((first|clear U K|apply st|(apply zk;intro K U)|refine zn ?_|refine za (fun hc=>?_) fun hc=>?_|fail)<;>conv=>whnf)
 .exact AF (by simp[Ux,hc])
 .exact AF (by simp[Ux, *];omega)
 .have hc':0<=a:=ha
  obtain⟨a,rfl⟩: ∃n:Nat,a=n:=⟨a.toNat,by omega⟩
  refine(we w a ⟨hl,w2,w3⟩ ho (by omega)).use ?_;have hul:=Ld w.parents (3+w.parents.length) a (a - 2)
  conv=>whnf
  repeat'((first|clear U K|apply st|(apply zk;intro K U)|refine ze fun x hx=>?_|fail)<;>conv=>whnf)
  refine AF ?_;have hu:=Y8 ho (n:=3+w.parents.length) (c:=a) (by omega) b.toNat;rw[DH,hx]at hu;simp at hu;have e1:((a:Int)==b)=false:=by simpa using ‹(a:Int)≠b›
  have e2:(b==0)=false:=by simpa using ‹b≠0›
  simp[Ux,e1,e2,hc,hu]
 .exact AF (by simp[Ux,hc])
structure UZ (w:AI):Prop where
 len:w.parents.length<=60
 ord:ordered w.parents
 own: ∀c∈w.owner,(3:Int)<=c/\c<3+w.parents.length
 yb:w.owner.length<=40
def Cm (w:AI) (s:Int):Int:=w.owner.getD s.toNat 0
def hasB (w:AI) (c s:Int):Bool:=decide (3<=c)&&Ux w.parents c (Cm w s)
def rM (w:AI) (c s:Int) (hw:UZ w) (hc0:0<=c) (hc1:c<3+w.parents.length) (hs0:0<=s) (hs1:s<w.owner.length):Pure zP 181 [.a (A1 w),eI c,eI s] (.b (hasB w c s)):=by
 refine Pure.fit (by kernel_rfl) fun hf=>?_
 have⟨w1,w2,w3⟩:=U7 hf.1;have hM:=Mx;have hl:=hw.len;refine ug kZ ?_
 conv=>whnf
 repeat'((first|clear U K|apply st|(apply zk;intro K U)|refine zn ?_|refine ze fun x hx=>?_|refine za (fun hc=>?_) fun hc=>?_|fail)<;>conv=>whnf)
 .have:=hw.own x (B1 hx)
  refine(jg w c x (by omega) hw.ord hc0 hc1 (by omega) (by omega)).use ?_;refine zu ?_;(repeat clear U K);repeat intro K U
  exact AF (by simp[hasB,Cm,hx,hc])
 .exact AF (by simp[hasB];omega)
def PN {xs:List Int} {f:Bool} (h:E0 (.l (iL xs) f)):xs.length<=AY:=LX h
def iR:Pure zP 198 [.b true] (.t []):=by
 refine fw kZ ?_;have hs:=Sn;exact zW
abbrev Dk:V:= .Ey 318 (.a [])
def pj (xs:List Int) (x:Int):Int:=(Bk (fun y (_:Unit)=>(x==y,())) xs 0 ()).1
def MD {α:Type} (f:α->Bool): ∀(xs:List α) (k:Nat),(decide ((Bk (fun y (_:Unit)=>(f y,())) xs k ()).1≥0))=xs.any f
 | [],_=>rfl
 | y::r,k=>by
   simp only[Bk,Q1];cases f y
   .simpa using MD f r (k+1)
   .simp
def US (xs:List Int) (x:Int):xs.any (x== ·)=xs.contains x:=by
 induction xs with
 | nil=>rfl
 | cons y r ih=>rw[Q1,List.contains_cons,ih]
def mN (xs:List Int) (x:Int):decide (pj xs x≥0)=xs.contains x:=by
 rw[<-US];exact MD (x== ·) xs 0
def im (xs:List Int) (f:Bool) (x:Int):Pure zP 237 [.l (iL xs) f,eI x] (eI (pj xs x)):=by
 refine Pure.fit (by kernel_rfl) fun hf=>?_
 have hxl:=PN hf.1;have hM:=Mx;refine tv kZ ?_;have hs:=Sn;refine zv ?_;(repeat clear U K);repeat intro K U
 refine B0 xs.length (fun k (_:Unit)=>[(8,eI (A8 k))]) (fun _ _=>[]) (fun k _=>pj xs x=(Bk (fun y (_:Unit)=>(x==y,())) (xs.drop k) k ()).1) () rfl rfl hs ?_;clear hs;rintro k - Z hk hn hs;have hck:A8 k=k:=AO (by omega);rcases BC xs hk with⟨y,hy,hlt⟩|hke
 .rw[drop_cons hy,Bk]at hn
  conv=>whnf
  repeat'((first|clear U K|apply st|(apply zk;intro K U)|refine zX ?_|refine za (fun hc=>?_) fun hc=>?_|fail)<;>conv=>whnf)
  .exact AF (by rw[hn,hc,hck];simp)
  .exact⟨hlt,(),rfl,by rw[hn];simp[hc],hs⟩
 .rw[Ao hke,Bk]at hn
  refine zv ?_;(repeat clear U K);repeat intro K U
  exact AF (by rw[hn])
def Dp (xs:List Int) (f:Bool) (x:Int):Pure zP 206 [.l (iL xs) f,eI x] (.b (xs.contains x)):=by
 refine uH kZ ?_;have hs:=Sn
 conv=>whnf
 repeat'((first|clear U K|apply st|(apply zk;intro K U)|refine zX ?_|refine Pure.use (im _ _ _) ?_|fail)<;>conv=>whnf)
 all_goals exact AF (by rw[<-mN])
def Qm (n:Int):Pure zP 263 [eI n] (.b (TI n)):=by
 refine tg kZ ?_;have hs:=Sn
 conv=>whnf
 repeat'((first|clear U K|apply st|(apply zk;intro K U)|refine zX ?_|refine za (fun hc=>?_) fun hc=>?_|fail)<;>conv=>whnf)
 all_goals exact AF (by simp[TI, *]<;>omega)
def Pg (f:Fact):B7 f=(decide (2<=f.op)&&decide (f.op<=4)):=by
 rw[J1];simp only[B7,Fl,BD,EU,CN];omega
def Tz (f:Fact):Pure zP 304 [.a (xF f)] (.b (B7 f)):=by
 refine tM kZ ?_;have hs:=Sn
 conv=>whnf
 repeat'((first|clear U K|apply st|(apply zk;intro K U)|refine zX ?_|refine za (fun hc=>?_) fun hc=>?_|fail)<;>conv=>whnf)
 all_goals exact AF (by rw[Pg];simp[*]<;>omega)
def Y7 (s c:Nat) (hs0:s<18446744073709551616) (hc:c<64):Pure zP 329 [eU s,eI c] (eU (s|||2 ^ c)):=by
 refine s6 kZ ?_;have hs:=Sn
 conv=>whnf
 repeat'((first|clear U K|apply st|(apply zk;intro K U)|fail)<;>conv=>whnf)
 refine⟨Int.natCast_nonneg _,?_⟩;refine zv ?_;(repeat clear U K);repeat intro K U
 exact AF (by rw[JP,ZD hc,Lq hs0 (KX hc)])
def TW (s c:Nat) (hs0:s<18446744073709551616) (hc:c<64):Pure zP 306 [eU s,eI c] (.b (s.testBit c)):=by
 refine tL kZ ?_;have hs:=Sn
 conv=>whnf
 repeat'((first|clear U K|apply st|(apply zk;intro K U)|fail)<;>conv=>whnf)
 refine⟨Int.natCast_nonneg _,?_⟩;refine zv ?_;(repeat clear U K);repeat intro K U
 refine AF ?_;rw[JP,ZC hc];have h1:s >>> c<18446744073709551616:=by rw[Nat.shiftRight_eq_div_pow];exact Nat.lt_of_le_of_lt (Nat.div_le_self _ _) hs0
 have h2:bits .and .u64 ((s >>> c:Nat):Int) 1=((s >>> c&&&1:Nat):Int):=ME h1 (show 1<_ by decide);rw[h2];simp only[Nat.testBit,Nat.and_comm 1];congr 1;rcases Nat.mod_two_eq_zero_or_one (s >>> c)with h|h<;>simp[Nat.and_one_is_mod,h]
def mJ (op:Int):Pure zP 365 [eI op] (eI (CR op)):=by
 refine sa kZ ?_;have hs:=Sn
 conv=>whnf
 repeat'((first|clear U K|apply st|(apply zk;intro K U)|refine zX ?_|refine za (fun hc=>?_) fun hc=>?_|fail)<;>conv=>whnf)
 all_goals exact AF (by simp[CR, *])
def Xw (b:Bool):Pure zP 267 [.b b] (eI (if b then 0 else 2)):=by
 refine td kZ ?_;have hs:=Sn
 conv=>whnf
 repeat'((first|clear U K|apply st|(apply zk;intro K U)|refine za (fun hc=>?_) fun hc=>?_|fail)<;>conv=>whnf)
 all_goals exact AF (by simp[*])
def IM {S:Type} (g:FuncId) (fi ca:List V) (H:S->List At) (stp:Int->S->Bool×S) (D:Int->S->Prop) (hx:Cz zP (.f (.func g) fi ca) eI H stp D) (xs:List Int) (f:Bool) (s0:S) (hd:W8 stp D xs s0) :
    Bc zP 207 [.l (iL xs) f,.f (.func g) fi ca] (H s0) fun r post=>r= .ret (eI (Bk stp xs 0 s0).1)/\post=H (Bk stp xs 0 s0).2:=by
 intro Z hs;refine A3.fit (by kernel_rfl) fun hf=>?_
 have hxl:=PN hf.1;have hM:=Mx;refine fv kZ ?_;refine zv ?_;(repeat clear U K);repeat intro K U
 refine B0 xs.length (fun k (_:S)=>[(8,eI (A8 k))]) (fun _ s=>H s) (fun k s=>W8 stp D (xs.drop k) s/\Bk stp xs 0 s0=Bk stp (xs.drop k) k s) s0 rfl ⟨hd,rfl⟩ hs ?_;clear hs;rintro k s Z hk ⟨hd,hn⟩ hs;have hck:A8 k=k:=AO (by omega);rcases BC xs hk with⟨y,hy,hlt⟩|hke
 .rw[drop_cons hy]at hn hd
  obtain⟨hd1,hd2⟩:=hd;rw[Bk]at hn;refine zv ?_;(repeat clear U K);repeat intro K U
  refine hx.use hd1 hs ?_;clear hs;intro Z hs
  conv=>whnf
  repeat'((first|clear U K|apply st|(apply zk;intro K U)|refine zX ?_|refine za (fun hc=>?_) fun hc=>?_|fail)<;>conv=>whnf)
  .rw[hc,if_pos rfl]at hn
   rw[hn];exact Ak hs (List.Sublist.refl _) (by rw[hck];exact .refl _) fun Z' hs'=>⟨_,⟨rfl,rfl⟩,hs'⟩
  .rw[hc,if_neg (by decide)]at hn
   exact⟨hlt,_,rfl,⟨hd2,hn⟩,hs⟩
 .rw[Ao hke,Bk]at hn
  refine zv ?_;(repeat clear U K);repeat intro K U
  rw[hn];exact Ak hs (List.Sublist.refl _) (.refl _) fun Z' hs'=>⟨_,⟨rfl,rfl⟩,hs'⟩
section
variable {S:Type} (g:FuncId) (fi ca:List V) (H:S->List At)
def GQ (stp:Int->S->Bool×S) (D:Int->S->Prop) (hx:Cz zP (.f (.func g) fi ca) eI H stp D) (xs:List Int) (f:Bool) (s0:S) (hd:W8 stp D xs s0) :
    Bc zP 139 [.l (iL xs) f,.f (.func g) fi ca] (H s0) fun r post=>r= .ret (.b (decide ((Bk stp xs 0 s0).1≥0)))/\post=H (Bk stp xs 0 s0).2:=by
 intro Z hs;refine gC kZ ?_
 conv=>whnf
 repeat'((first|clear U K|apply st|(apply zk;intro K U)|fail)<;>conv=>whnf)
 refine(IM g fi ca H stp D hx xs f s0 hd).use (rest:=[]) (by simpa using hs) ?_;rintro r post Z ⟨rfl,rfl⟩ hs;refine zv ?_;(repeat clear U K);repeat intro K U
 exact Ak hs (by simp) (.refl _) fun Z' hs'=>⟨_,⟨rfl,rfl⟩,hs'⟩
def qu (stp:Int->S->Bool×S) (D:Int->S->Prop) (hx:Cz zP (.f (.func g) fi ca) eI H stp D):Cz zP (.f (.func 362) [] [.rp [.f (.func g) fi ca]]) eI H (fun y s=>(!(stp y s).1,(stp y s).2)) D:=by
 intro y s hd Z hs;refine By ?_;show A3 zP 362 ([]++[eI y]++[.rp [.f (.func g) fi ca]]) Z _;refine fo kZ ?_;refine zv ?_;(repeat clear U K);repeat intro K U
 refine hx.use hd hs ?_;clear hs;intro Z hs;refine zv ?_;(repeat clear U K);repeat intro K U
 exact Ak hs (List.Sublist.refl _) (.refl _) fun Z' hs'=>⟨rfl,hs'⟩
def gM (stp:Int->S->Bool×S) (D:Int->S->Prop) (hx:Cz zP (.f (.func g) fi ca) eI H stp D) (xs:List Int) (f:Bool) (s0:S) (hd:W8 stp D xs s0) :
    Bc zP 330 [.l (iL xs) f,.f (.func g) fi ca] (H s0) fun r post=>r= .ret (.b (Ce stp xs s0).1)/\post=H (Ce stp xs s0).2:=by
 intro Z hs;obtain⟨e1,e2⟩:=Nb (stp:=stp) xs 0 s0;refine fp kZ ?_
 conv=>whnf
 repeat'((first|clear U K|apply st|(apply zk;intro K U)|fail)<;>conv=>whnf)
 refine(GQ 362 [] [.rp [.f (.func g) fi ca]] H _ D (qu g fi ca H stp D hx) xs f s0 (Tt xs s0 hd)).use (rest:=[]) (by simpa using hs) ?_;rintro r post Z ⟨rfl,rfl⟩ hs;rw[e2];rw[e1]at hs;refine zv ?_;(repeat clear U K);repeat intro K U
 exact Ak hs (by simp) (by rw[Bool.not_not];exact .refl _) fun Z' hs'=>⟨_,⟨rfl,rfl⟩,hs'⟩
def UM (stp:Fact->S->Bool×S) (D:Fact->S->Prop) (hx:Cz zP (.f (.func g) fi ca) (fun y=> .a (xF y)) H stp D) (xs:List Fact) (f:Bool) (s0:S) (hxl:xs.length<=AY) (hd:W8 stp D xs s0) :
    Bc zP 384 [.l (facts xs) f,.f (.func g) fi ca] (H s0) fun r post=>r= .ret (eI (Bk stp xs 0 s0).1)/\post=H (Bk stp xs 0 s0).2:=by
 intro Z hs;have hM:=Mx;refine sQ kZ ?_;refine zv ?_;(repeat clear U K);repeat intro K U
 refine B0 xs.length (fun k (_:S)=>[(8,eI (A8 k))]) (fun _ s=>H s) (fun k s=>W8 stp D (xs.drop k) s/\Bk stp xs 0 s0=Bk stp (xs.drop k) k s) s0 rfl ⟨hd,rfl⟩ hs ?_;clear hs;rintro k s Z hk ⟨hd,hn⟩ hs;have hck:A8 k=k:=AO (by omega);rcases BC xs hk with⟨y,hy,hlt⟩|hke
 .rw[drop_cons hy]at hn hd
  obtain⟨hd1,hd2⟩:=hd;rw[Bk]at hn;refine zv ?_;(repeat clear U K);repeat intro K U
  refine hx.use hd1 hs ?_;clear hs;intro Z hs
  conv=>whnf
  repeat'((first|clear U K|apply st|(apply zk;intro K U)|refine zX ?_|refine za (fun hc=>?_) fun hc=>?_|fail)<;>conv=>whnf)
  .rw[hc,if_pos rfl]at hn
   rw[hn];exact Ak hs (List.Sublist.refl _) (by rw[hck];exact .refl _) fun Z' hs'=>⟨_,⟨rfl,rfl⟩,hs'⟩
  .rw[hc,if_neg (by decide)]at hn
   exact⟨hlt,_,rfl,⟨hd2,hn⟩,hs⟩
 .rw[Ao hke,Bk]at hn
  refine zv ?_;(repeat clear U K);repeat intro K U
  rw[hn];exact Ak hs (List.Sublist.refl _) (.refl _) fun Z' hs'=>⟨_,⟨rfl,rfl⟩,hs'⟩
def OW (stp:Fact->S->Bool×S) (D:Fact->S->Prop) (hx:Cz zP (.f (.func g) fi ca) (fun y=> .a (xF y)) H stp D) (xs:List Fact) (f:Bool) (s0:S) (hxl:xs.length<=AY) (hd:W8 stp D xs s0) :
    Bc zP 363 [.l (facts xs) f,.f (.func g) fi ca] (H s0) fun r post=>r= .ret (.b (decide ((Bk stp xs 0 s0).1≥0)))/\post=H (Bk stp xs 0 s0).2:=by
 intro Z hs;refine sc kZ ?_
 conv=>whnf
 repeat'((first|clear U K|apply st|(apply zk;intro K U)|fail)<;>conv=>whnf)
 refine(UM g fi ca H stp D hx xs f s0 hxl hd).use (rest:=[]) (by simpa using hs) ?_;rintro r post Z ⟨rfl,rfl⟩ hs;refine zv ?_;(repeat clear U K);repeat intro K U
 exact Ak hs (by simp) (.refl _) fun Z' hs'=>⟨_,⟨rfl,rfl⟩,hs'⟩
def qt (stp:Fact->S->Bool×S) (D:Fact->S->Prop) (hx:Cz zP (.f (.func g) fi ca) (fun y=> .a (xF y)) H stp D):Cz zP (.f (.func 364) [] [.rp [.f (.func g) fi ca]]) (fun y=> .a (xF y)) H (fun y s=>(!(stp y s).1,(stp y s).2)) D:=by
 intro y s hd Z hs;refine By ?_;show A3 zP 364 ([]++[.a (xF y)]++[.rp [.f (.func g) fi ca]]) Z _;refine sb kZ ?_;refine zv ?_;(repeat clear U K);repeat intro K U
 refine hx.use hd hs ?_;clear hs;intro Z hs;refine zv ?_;(repeat clear U K);repeat intro K U
 exact Ak hs (List.Sublist.refl _) (.refl _) fun Z' hs'=>⟨rfl,hs'⟩
def gL (stp:Fact->S->Bool×S) (D:Fact->S->Prop) (hx:Cz zP (.f (.func g) fi ca) (fun y=> .a (xF y)) H stp D) (xs:List Fact) (f:Bool) (s0:S) (hxl:xs.length<=AY) (hd:W8 stp D xs s0) :
    Bc zP 332 [.l (facts xs) f,.f (.func g) fi ca] (H s0) fun r post=>r= .ret (.b (Ce stp xs s0).1)/\post=H (Ce stp xs s0).2:=by
 intro Z hs;obtain⟨e1,e2⟩:=Nb (stp:=stp) xs 0 s0;refine sy kZ ?_
 conv=>whnf
 repeat'((first|clear U K|apply st|(apply zk;intro K U)|fail)<;>conv=>whnf)
 refine(OW 364 [] [.rp [.f (.func g) fi ca]] H _ D (qt g fi ca H stp D hx) xs f s0 hxl (Tt xs s0 hd)).use (rest:=[]) (by simpa using hs) ?_;rintro r post Z ⟨rfl,rfl⟩ hs;rw[e2];rw[e1]at hs;refine zv ?_;(repeat clear U K);repeat intro K U
 exact Ak hs (by simp) (by rw[Bool.not_not];exact .refl _) fun Z' hs'=>⟨_,⟨rfl,rfl⟩,hs'⟩
end
abbrev U4 (f:Int->Bool):Int->Unit->Bool×Unit:=fun y _=>(f y,())
def QA {g:FuncId} {fi ca:List V} {f:Int->Bool} {D:Int->Unit->Prop} (h: ∀y,D y ()->Pure zP g (fi++[eI y]++ca) (.b (f y))):Cz zP (.f (.func g) fi ca) eI (fun _=>[]) (U4 f) D:=by
 intro y s hd Z hs;refine By ?_;show A3 zP g (fi++[eI y]++ca) Z _;refine A3.mono ((h y hd).use (k:=fun v Z'=>v= .b (f y)/\Sat Z' []) (kp:=fun _ _=>False) ⟨rfl,Sat.nil⟩) ?_;rintro(v|v) Z' hq
 .obtain⟨rfl,h⟩:=hq
  exact⟨rfl,h⟩
 .exact hq.elim
def nf {g:FuncId} {fi ca:List V} {f:Int->Bool} {xs:List Int} (b:Bool) (h: ∀y∈xs,Pure zP g (fi++[eI y]++ca) (.b (f y))):Pure zP 330 [.l (iL xs) b,.f (.func g) fi ca] (.b (xs.all f)):=by
 have:=gM g fi ca (fun _=>[]) (U4 f) (fun y _=>y∈xs) (QA fun y hy=>h y hy) xs b () (Gw fun y hy _=>hy);rw[Jt]at this;exact Pure.of (A3.mono (this emp Sat.nil) fun r Z' ⟨post,⟨h1,h2⟩,h3⟩=>h1)
end Go.Gl
