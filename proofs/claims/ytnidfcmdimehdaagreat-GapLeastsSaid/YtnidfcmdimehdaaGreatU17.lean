import Derived.Test.YtnidfcmdimehdaaGreatU14
import Derived.Test.YtnidfcmdimehdaaGreatU15
import Derived.Test.YtnidfcmdimehdaaGreatU16
set_option linter.all false
set_option linter.defProp false
set_option maxHeartbeats 8000000
noncomputable section
namespace Go.Gl
open Go.Proofs
attribute [local irreducible] As Af AV AQ AI AU AP AR AJ AT AM AN Ag Ar Sat AS Ap AX W
def EC (g os:List (List Int)) (c:Int):List Int:=
 match Eg g os c with
 | none=>[]
 | some l=>if(CH l).2 then [c]++(CH l).1++[0]else []
def BX (g:List (List Int)):Nat->List (List Int)
 | 0=>[[0]]
 | k+1=>BX g k++[EC g (BX g k) ((k:Int)+1)]
def B6 (g:List (List Int)):List (List Int):=BX g (2+g.length)
def JI (g:List (List Int)):Prop:=g.length<=16/\ ∀(i:Nat) (l:List Int),g[i]? =some l->l.length<=3/\l.Nodup/\ ∀c∈l,(3:Int)<=c/\c<3+(i:Int)
def Cb (g:List (List Int)): ∀k,(BX g k).length=k+1
 | 0=>rfl
 | k+1=>by simp[BX,Cb g k]
def Iz: ∀(n:Nat) (ls:List (List Int)) (out:List Int),(DN n ls out).1.length<=out.length+n
 | 0,ls,out=>by simp[DN]
 | n + 1,ls,out=>by
   simp only[DN];split
   .simp
   .rename_i x _
    have:=Iz n (ls.map fun l=>l.filter (· != x)) (out++[x]);simp only[Kt,List.length_singleton]at this;refine Nat.le_trans this ?_;omega
def XI {ls:List (List Int)} (h: ∀l∈ls,∀x∈l,(0:Int)<=x) {x:Int} (hp:pick ls=some x):0<=x:=by
 unfold pick at hp;rw[Option.bind_eq_some_iff]at hp;obtain⟨l,h1,h2⟩:=hp;have hm:=List.mem_of_find?_eq_some h1;cases l with
 | nil=>cases h2
 | cons y r=>cases h2;exact h _ hm _ (.head _)
def LF: ∀(n:Nat) (ls:List (List Int)) (out:List Int),(∀l∈ls,∀x∈l,(0:Int)<=x)->(∀x∈out,(0:Int)<=x)-> ∀x∈(DN n ls out).1,(0:Int)<=x
 | 0,ls,out,_,h2=>h2
 | n + 1,ls,out,h1,h2=>by
   simp only[DN];split
   .exact h2
   .rename_i y hy
    refine LF n _ _ (fun l hl x hx=>?_) fun x hx=>?_
    .obtain⟨l',hl',rfl⟩:=GL.1 hl
     exact h1 _ hl' _ (Ia.1 hx).1
    .rcases Du.1 hx with hx|hx
     .exact h2 x hx
     .rw[JT.1 hx];exact XI h1 hy
def Dh {g:List (List Int)} (hg:JI g) {c p:Int} (hp:p∈A4 g c):3<=p/\p<c:=by
 unfold A4 at hp;split at hp
 .cases hp
 .rename_i hc
  rw[Co]at hp;cases hq:g[(c - 3).toNat]? with
  | none=>rw[hq]at hp;cases hp
  | some l=>
    rw[hq]at hp;obtain⟨_,_,h⟩:=hg.2 _ _ hq;have:=h p hp;omega
def C5 {g:List (List Int)} (hg:JI g) (c:Int):(A4 g c).length<=3:=by
 unfold A4;split
 .simp
 .rw[Co]
  cases hq:g[(c - 3).toNat]? with
  | none=>simp
  | some l=>exact(hg.2 _ _ hq).1
def HS {g os:List (List Int)} {c:Int} {ls:List (List Int)} (h:Eg g os c=some ls):ls=(A4 g c).map (fun p=>(os.getD p.toNat []).filter (· != 0))++[A4 g c]:=by
 unfold Eg at h;split at h
 .cases h
 .exact(Option.some.inj h).symm
def Wc {os:List (List Int)} {B:Nat} (h: ∀o∈os,o.length<=B) (n:Nat):(os.getD n []).length<=B:=by
 rw[Co];cases hq:os[n]? with
 | none=>simp
 | some l=>exact h _ (BY hq)
def QW {os:List (List Int)} {Q:Int->Prop} (h: ∀o∈os,∀x∈o,Q x) (n:Nat): ∀x∈os.getD n [],Q x:=by
 rw[Co];cases hq:os[n]? with
 | none=>simp
 | some l=>exact h _ (BY hq)
def Fu {g os:List (List Int)} {c:Int} {ls:List (List Int)} (h:Eg g os c=some ls) {B:Nat} (hB: ∀o∈os,o.length<=B):total ls<=(A4 g c).length*(B+1):=by
 rw[HS h];simp only[total,ND,qG,List.sum_append,Cn,List.map_nil,List.sum_cons,List.sum_nil,Nat.add_zero]
 have: ∀ps:List Int,(ps.map (List.length∘fun p=>(os.getD p.toNat []).filter (· != 0))).sum<=ps.length*B:=fun ps=>by
  induction ps with
  | nil=>simp
  | cons p r ih=>
    simp only[Cn,List.sum_cons,Function.comp,JU,Nat.succ_mul];have h1:=NI (· != 0) (os.getD p.toNat []);have h2:=Wc hB p.toNat;simp only[Function.comp_def]at *;omega
 have:=this (A4 g c);rw[Nat.mul_add,Nat.mul_one];simp only[Function.comp_def]at *;omega
def XK {g os:List (List Int)} {c:Int} {B:Nat} (hB: ∀o∈os,o.length<=B):(EC g os c).length<=(A4 g c).length*(B+1)+2:=by
 unfold EC;split
 .simp
 .rename_i ls h
  have h1:=Fu h hB;have h2:=Iz (total ls) ls [];simp only[List.length_nil,G7]at h2;split
  .simp only[Kt,List.length_singleton,CH]
   omega
  .simp
def Rh {g os:List (List Int)} {c:Int} (hg:JI g) (hc:0<=c) (h: ∀o∈os,∀x∈o,(0:Int)<=x): ∀x∈EC g os c,0<=x:=by
 unfold EC;split
 .simp
 .rename_i ls hl
  split
  .intro x hx
   have hls: ∀l∈ls,∀x∈l,(0:Int)<=x:=by
    rw[HS hl];intro l hl x hx;rcases Du.1 hl with hl|hl
    .obtain⟨p,_,rfl⟩:=GL.1 hl
     exact QW h p.toNat x (Ia.1 hx).1
    .rw[JT.1 hl]at hx
     have:=Dh hg hx;omega
   simp only[Du,JT]at hx;rcases hx with(rfl|hx)|rfl
   .exact hc
   .exact LF _ _ _ hls (by simp) x hx
   .exact Int.le_refl _
  .simp
def Jj (k:Nat):Nat:=5*3 ^ (k - 3) - 3
def rZ (n:Nat):1<=3 ^ n:=Nat.one_le_pow _ _ (by omega)
def I8 {g : List (List Int)} (hg:JI g): ∀(k:Nat),∀o∈BX g k,o.length<=Jj k/\ ∀x∈o,(0:Int)<=x
 | 0,o,ho=>by
   simp only[BX,JT]at ho;subst ho;simp[Jj]
 | k + 1,o,ho=>by
   have ih:=I8 hg k
   have hmono:Jj k<=Jj (k+1):=by
    unfold Jj;have:3 ^ (k - 3)<=3 ^ (k+1 - 3):=Nat.pow_le_pow_right (by omega) (by omega);omega
   simp only[BX,Du,JT]at ho;rcases ho with ho|rfl
   .exact⟨Nat.le_trans (ih o ho).1 hmono,(ih o ho).2⟩
   .refine⟨?_,Rh hg (by omega) fun o ho=>(ih o ho).2⟩
    have h1:=XK (g:=g) (c:=(k:Int)+1) fun o ho=>(ih o ho).1
    by_cases hk:k<3
    .have:A4 g ((k:Int)+1)= []:=by
      apply List.eq_nil_iff_forall_not_mem.2;intro p hp;have:=Dh hg hp;omega
     rw[this]at h1
     have:Jj (k+1)=2:=by
      have:k+1 - 3=0:=by omega
      simp[Jj,this]
     simpa[this]using h1
    .have h2:=C5 hg ((k:Int)+1)
     have h3:(A4 g ((k:Int)+1)).length*(Jj k+1)<=3*(Jj k+1):=Ta _ h2;have:k+1 - 3=(k - 3)+1:=by omega
     unfold Jj at *;rw[this,Nat.pow_succ];have:=rZ (k - 3);omega
def bH {k:Nat} (h:k<=18):Jj k<=71744535:=by
 unfold Jj;have:3 ^ (k - 3)<=3 ^ 15:=Nat.pow_le_pow_right (by omega) (by omega);have e:(3:Nat) ^ 15=14348907:=by decide
 omega
def FW {g:List (List Int)}: ∀ {k j:Nat},j<=k->(BX g k)[j]? =(BX g j)[j]?
 | 0,j,h=>by(obtain rfl:j=0:=by omega);rfl
 | k+1,j,h=>by
   by_cases e:j=k+1
   .subst e;rfl
   .rw[<-FW (k:=k) (by omega),BX,Xm (by rw[Cb];omega)]
def Yk {g os:List (List Int)} {c:Int} {ls:List (List Int)} (hg:JI g) (h:Eg g os c=some ls) {B:Nat} (hB: ∀o∈os,o.length<=B/\ ∀x∈o,(0:Int)<=x) (hb:B<=100000000):NN ls/\total ls<AZ:=by
 have h3:=C5 hg c;have ht:=Fu h fun o ho=>(hB o ho).1
 have:(A4 g c).length*(B+1)<=3*(B+1):=Ta _ h3;have htl:total ls<AZ:=by simp only[AZ];omega
 refine⟨⟨?_,fun l hl=>⟨?_,?_⟩⟩,htl⟩
 .rw[HS h]
  simp only[Kt,Bh,List.length_singleton,AZ];omega
 .have:=br hl
  simp only[AZ]at *;omega
 .intro x hx
  rw[HS h]at hl;rcases Du.1 hl with hl|hl
  .obtain⟨p,_,rfl⟩:=GL.1 hl
   exact QW (fun o ho=>(hB o ho).2) p.toNat x (Ia.1 hx).1
  .rw[JT.1 hl]at hx
   have:=Dh hg hx;omega
def cO (g : List (List Int)) (f:Bool) (hg:JI g):Pure zP 211 [.l (EF g) f] (.l (EF (B6 g)) false):=by
 refine uw kZ ?_
 conv=>whnf
 repeat((first|clear U K|apply st|(apply zk;intro K U)|fail);conv=>whnf)
 have hg16:=hg.1;have hgm:g.length<=AZ:=by simp only[AZ];omega
 refine⟨.l (EF [[0]]) true,emp,fun _ _ h=>h,.l (fun _=>rfl) (.cons (.cons (.l (fun h=>(by cases h)) (.refl _ _ _)) .nil) .nil),?_⟩;refine zh ?_;(repeat clear U K);repeat intro K U
 refine Ba (2+g.length) (fun k v=>[(3,v),(4,eI (L0 1 k))]) (fun k v=>[.own v 1 (EF (BX g k))]) (fun _ _=>True) (.l (EF [[0]]) true) rfl trivial (lq Sat.nil (by simp)) ?_;rintro k v Z hk - hs;have hc1:L0 1 k=(k:Int)+1:=by rw[PO (by omega) (by omega)];omega
 have hw:IntKind.i64.wrap (3+((EF g).length:Nat))=3+(g.length:Int):=by rw[Bh,wrap64 (by omega) (by omega)]
 refine zh ?_;(repeat clear U K);repeat intro K U
 rw[hc1];rw[hw];refine fork (fun hlt=>?_) (fun hlt=>?_)
 .have hlt':k<2+g.length:=by omega
  have hB:=I8 hg k;have hb18:Jj k<=71744535:=bH (by omega);have hc2:L0 1 (k+1)=IntKind.i64.wrap ((k:Int)+1+1):=by rw[L0,hc1]
  refine zh ?_;(repeat clear U K);repeat intro K U
  refine⟨.l (iL []) false,Z,fun _ _ h=>h,.l (fun h=>(by cases h)) (.refl _ _ _),?_⟩
  conv=>whnf
  repeat((first|clear U K|apply st|(apply zk;intro K U)|fail);conv=>whnf)
  refine(jl g (BX g k) f v ((k:Int)+1) (by omega) hgm (fun o ho=>by have:=(hB o ho).1;simp only[AZ];omega) (by have:=C5 hg ((k:Int)+1);omega)
   (fun p hp=>by have:=Dh hg hp;rw[Cb];omega)).use (rest:=[]) hs ?_
  rintro r post Z' ⟨rfl,rfl⟩ hs;cases hl:Eg g (BX g k) ((k:Int)+1)with
  | none=>
    refine zh ?_;(repeat clear U K);repeat intro K U
    refine GJ hs 0 (x:=[]) rfl (by rw[Cb];simp only[AZ];omega) DI fun v' Z' hs'=>?_
    conv=>whnf
    refine⟨v',Z',fun _ _ h=>h,.refl _,?_⟩;refine zh ?_;(repeat clear U K);repeat intro K U
    refine⟨hlt',v',?_,trivial,?_⟩
    .skip
     rw[hc2];rfl
    .have:EC g (BX g k) ((k:Int)+1)= []:=by simp[EC,hl,]
     rw[BX,this];exact hs'
  | some ls=>
    obtain⟨hok,htot⟩:=Yk hg hl hB (by omega);refine zh ?_;(repeat clear U K);repeat intro K U
    refine(jj ls false hok htot).use ?_;have hml:=Iz (total ls) ls [];simp only[List.length_nil,G7]at hml;refine zh ?_;(repeat clear U K);repeat intro K U
    refine⟨fun h=>?_,fun h=>?_⟩<;>(try rw[h])
    .conv=>whnf
     repeat((first|clear U K|(apply zk;intro K U)|fail);conv=>whnf)
     refine EH (lq hs (by simp)) 1 (xs:=[(k:Int)+1]) rfl (by simp[CH];have:=Fu hl fun o ho=>(hB o ho).1;have h3:=C5 hg ((k:Int)+1);have:(A4 g ((k:Int)+1)).length*(Jj k+1)<=3*(Jj k+1):=Ta _ h3;simp only[AZ]at *;omega) Bg fun u Z1 hs=>?_
     conv=>whnf
     refine GJ hs 1 (x:=0) rfl (by simp[CH];have:=Fu hl fun o ho=>(hB o ho).1;have h3:=C5 hg ((k:Int)+1);have:(A4 g ((k:Int)+1)).length*(Jj k+1)<=3*(Jj k+1):=Ta _ h3;simp only[AZ]at *;omega) Bg fun u Z1 hs=>?_
     conv=>whnf
     refine qp hs 1 rfl fun Z' hs=>?_
     conv=>whnf
     repeat((first|clear U K|apply st|(apply zk;intro K U)|fail);conv=>whnf)
     refine GJ hs 0 (x:=([(k:Int)+1]++(CH ls).1++[0])) rfl (by rw[Cb];simp only[AZ];omega) DI fun v' Z' hs'=>?_
     conv=>whnf
     refine⟨v',Z',fun _ _ h=>h,.refl _,?_⟩;refine zh ?_;(repeat clear U K);repeat intro K U
     refine⟨hlt',v',?_,trivial,?_⟩
     .skip
      rw[hc2];rfl
     .have:EC g (BX g k) ((k:Int)+1)=([(k:Int)+1]++(CH ls).1++[0]):=by simp[EC,hl,h]
      rw[BX,this];exact hs'
    .refine zh ?_;(repeat clear U K);repeat intro K U
     refine GJ hs 0 (x:=[]) rfl (by rw[Cb];simp only[AZ];omega) DI fun v' Z' hs'=>?_
     conv=>whnf
     refine⟨v',Z',fun _ _ h=>h,.refl _,?_⟩;refine zh ?_;(repeat clear U K);repeat intro K U
     refine⟨hlt',v',?_,trivial,?_⟩
     .skip
      rw[hc2];rfl
     .have:EC g (BX g k) ((k:Int)+1)= []:=by simp[EC,hl,h]
      rw[BX,this];exact hs'
 .refine zh ?_;(repeat clear U K);repeat intro K U
  have hke:k=2+g.length:=by omega
  subst hke;exact Ee hs 0 rfl rfl
def sS (g:List (List Int)) (f:Bool) (c:Int) (hg:JI g) (h0:0<=c) (h1:c<3+g.length):Pure zP 160 [.l (EF g) f,eI c] (.t [.l (iL ((B6 g).getD c.toNat [])) false,.b (!((B6 g).getD c.toNat []).isEmpty)]):=by
 refine vd kZ ?_
 conv=>whnf
 repeat((first|clear U K|apply st|(apply zk;intro K U)|fail);conv=>whnf)
 refine(cO g f hg).use ?_
 conv=>whnf
 have hlen:=Cb g (2+g.length);have hlt:c.toNat<(B6 g).length:=by unfold B6;omega
 have hq:=CQ hlt;refine VQ c.toNat hq (by omega) rfl ?_;refine zh ?_;(repeat clear U K);repeat intro K U
 refine AF ?_;rw[Co,hq,Option.getD_some];cases(B6 g)[c.toNat]with
 | nil=>rfl
 | cons _ _=>simp
def wFit (w:AE):Prop:=w.parents.length<=1000/\(∀l∈w.parents,l.length<=AZ)/\w.owner.length<=AZ
def fm {ps:List (List Int)} {c:Nat} (h3:3<=c) (hc:c<3+ps.length):ps[c - 3]? =some (par ps c):=by
 unfold par;rw[if_neg (by omega),Co,CQ (by omega)];rfl
def Zd {bs:List Bool} {j:Nat} (h:j<bs.length):(bL bs)[j]? =some [.b (bs.getD j false)]:=by
 rw[JV,Co,CQ h];rfl
def YN (bs:List Bool) (j:Nat) (x:Bool):(bL bs).set j [.b x]=bL (bs.set j x):=by
 simp[bL,List.map_set]
def yD (w : AE) (c:Nat) (hw:wFit w) (ho:ordered w.parents) (hc:c<3+w.parents.length):Pure zP 258 [.a (Ax w),eI c] (.l (bL (Hr w.parents (3+w.parents.length) c (c - 2))) false):=by
 obtain⟨hw1,hw2,hw3⟩:=hw;have hmL:3+w.parents.length<=AZ:=by simp only[AZ];omega
 refine uE kZ ?_;refine zh ?_;(repeat clear U K);repeat intro K U
 rw[show IntKind.i64.wrap (3+((EF w.parents).length:Nat))=((3+w.parents.length:Nat):Int) by rw[Bh,wrap64 (by omega) (by omega)];omega];refine hMk Sat.nil (by omega) fun v Z hs hv=>?_
 obtain⟨id,rfl⟩:=hv
 conv=>whnf
 repeat((first|clear U K|apply st|(apply zk;intro K U)|fail);conv=>whnf)
 refine eE hs 0 c rfl rfl (by simpa using hc) ?_
 conv=>whnf
 refine Mo hs 0 rfl (e:=[.b false]) (by simp[hc]) rfl rfl rfl rfl rfl fun Z hs=>?_
 have e0:(List.replicate (3+w.parents.length) [V.b false]).set c [V.b true]=bL (Hr w.parents (3+w.parents.length) c 0):=by
  simp only[Hr];rw[<-YN];simp[bL]
 refine zh ?_;(repeat clear U K);repeat intro K U
 refine Ba (c - 2) (fun k (_:Unit)=>[(6,eI (Ou c k))]) (fun k _=>[.own (.sl id (3+w.parents.length) (3+w.parents.length)) 1 (bL (Hr w.parents (3+w.parents.length) c k))]) (fun _ _=>True) () rfl trivial (e0 ▸ hs) ?_;rintro k - Z hk - hs;have hd:Ou c k=(c:Int) - k:=Uo (by omega) (by omega);have hul:=MG w.parents (3+w.parents.length) c k;refine zh ?_;(repeat clear U K);repeat intro K U
 refine fork (fun hlt=>?_) (fun hlt=>?_)
 .rw [hd]at hlt
  have h3:3<=c - k:=by omega
  have hpar:=fm (ps:=w.parents) h3 (by omega);have hpl:=hw2 _ (BY hpar);refine zh ?_;(repeat clear U K);repeat intro K U
  refine VQ (c - k - 3) hpar (by rw[hd,wrap64 (by omega) (by omega)];omega) rfl ?_;refine zh ?_;(repeat clear U K);repeat intro K U
  refine Ba (par w.parents (c - k)).length (fun j (_:Unit)=>[(29,eI (Au j))]) (fun j _=>[.own (.sl id (3+w.parents.length) (3+w.parents.length)) 1 (bL (Fx (Hr w.parents (3+w.parents.length) c k) (c - k) ((par w.parents (c - k)).take j)))]) (fun _ _=>True) () rfl trivial hs ?_;rintro j - Z hj - hs;have hml:=Nw (c - k) ((par w.parents (c - k)).take j) (Hr w.parents (3+w.parents.length) c k);refine zh ?_;(repeat clear U K);repeat intro K U
  refine Gh hj hpl (fun p hp hjlt=>?_) fun hj=>?_
  .have hpp:=ho _ p (BY hp)
   have hm:(Fx (Hr w.parents (3+w.parents.length) c k) (c - k) ((par w.parents (c - k)).take (j+1)))=(Fx (Hr w.parents (3+w.parents.length) c k) (c - k) ((par w.parents (c - k)).take j)).set p.toNat
    ((Fx (Hr w.parents (3+w.parents.length) c k) (c - k) ((par w.parents (c - k)).take j)).getD p.toNat false||(Fx (Hr w.parents (3+w.parents.length) c k) (c - k) ((par w.parents (c - k)).take j)).getD (c - k) false):=by
    rw[AO hp,M4];rfl
   generalize hbs:Fx (Hr w.parents (3+w.parents.length) c k) (c - k) ((par w.parents (c - k)).take j)=bs at *;have hlp:p.toNat<bs.length:=by omega
   have hlc:c - k<bs.length:=by omega
   refine zh ?_;(repeat clear U K);repeat intro K U
   refine Jl hp hpl rfl ?_;refine zh ?_;(repeat clear U K);repeat intro K U
   refine eE hs 0 p.toNat rfl (by omega) (by simpa using hlp) ?_
   conv=>whnf
   refine Ip hs 0 rfl (Zd hlp) ?_
   conv=>whnf
   cases hb:bs.getD p.toNat false with
   | true=>
     rw[hb]at hm;refine zh ?_;(repeat clear U K);repeat intro K U
     refine eE hs 0 p.toNat rfl (by omega) (by simpa using hlp) ?_
     conv=>whnf
     refine Mo hs 0 rfl (Zd hlp) rfl rfl rfl rfl rfl fun Z hs=>?_
     refine zh ?_;(repeat clear U K);repeat intro K U
     refine⟨hjlt,(),rfl,trivial,?_⟩;rw[hm,<-YN];exact hs
   | false=>
     rw[hb]at hm;refine zh ?_;(repeat clear U K);repeat intro K U
     refine eE hs 0 (c - k) rfl (by rw[hd];omega) (by simpa using hlc) ?_;refine zh ?_;(repeat clear U K);repeat intro K U
     refine Ip hs 0 rfl (Zd hlc) ?_
     conv=>whnf
     refine eE hs 0 p.toNat rfl (by omega) (by simpa using hlp) ?_
     conv=>whnf
     refine Mo hs 0 rfl (Zd hlp) rfl rfl rfl rfl rfl fun Z hs=>?_
     refine zh ?_;(repeat clear U K);repeat intro K U
     refine⟨hjlt,(),rfl,trivial,?_⟩;rw[hm,<-YN];exact hs
  .rw[Ak hj]at hs
   refine zh ?_;(repeat clear U K);repeat intro K U
   refine⟨by omega,(),rfl,trivial,hs⟩
 .rw[hd]at hlt
  refine zh ?_;(repeat clear U K);repeat intro K U
  have:k=c - 2:=by omega
  subst this;exact Ee hs 0 rfl rfl
def Tp (n:Int):Bool:=decide (-1000000000<=n)&&decide (n<=1000000000)
def pb (n:Int):Pure zP 162 [eI n] (.b (Tp n)):=by
 refine vY kZ ?_
 conv=>whnf
 repeat'((first|clear U K|apply st|(apply zk;intro K U)|refine zn ?_|refine za (fun hc=>?_) fun hc=>?_|fail)<;>conv=>whnf)
 all_goals exact AF (by simp[Tp, *]<;>omega)
def K5 (k:Int):Bool:=k==1||k==4
def sH (k:Int):Pure zP 105 [eI k] (.b (K5 k)):=by
 refine wc kZ ?_
 conv=>whnf
 repeat'((first|clear U K|apply st|(apply zk;intro K U)|refine zn ?_|refine za (fun hc=>?_) fun hc=>?_|fail)<;>conv=>whnf)
 all_goals exact AF (by simp[K5, *])
def F0 {p:Prog} (h:Fb (.a (A3 p))):p.AK.length<=AZ/\p.Cc.length<=AZ/\p.methods.length<=AZ/\p.nodes.length<=AZ:=by
 simp only[A3,Hk,Dg,Hj,Bh]at h;exact⟨h.1.1,h.2.2.1.1,h.2.2.2.1.1,h.2.2.2.2.1.1⟩
def Jq (p:Prog) (x:Node):Int:=
 if x.op=1\/x.op=2\/x.op=3\/x.op=6\/x.op=18 then 0 else
 if x.op=4\/x.op=8\/x.op=17 then 1 else
 if x.op=7\/x.op=9\/x.op=11\/x.op=12\/x.op=13\/x.op=14\/x.op=15\/x.op=16 then 2 else
 if x.op=10 then 3 else
 if x.op=5/\0<=x.n/\x.n<p.Cc.length then p.Cc.getD x.n.toNat 0 else -1
def nU (p:Prog) (x:Node):Pure zP 167 [.a (A3 p),.a (JL x)] (eI (Jq p x)):=by
 refine Pure.fit (by kernel_rfl) fun hf=>?_
 have⟨p1,p2,p3,p4⟩:=F0 hf.1;have hM:=Mx;refine vT kZ ?_
 conv=>whnf
 repeat'((first|clear U K|apply st|(apply zk;intro K U)|refine zn ?_|refine ze fun x hx=>?_|(refine zd (fun hc=>?_) (fun hc=>?_)<;>try exact⟨⟩)|fail)<;>conv=>whnf)
 all_goals first
  | (refine AF ?_;simp[Jq, *];done)
  | (refine AF ?_;simp[Jq, *];intros;omega)
  | (have hd:=(JA.1 hx).2;refine AF ?_;simp[Jq, *];done)
def NO (p:Prog) (x:Node) (size:Int):Bool:=
 if x.op=1 then Tp x.n else if x.op=3 then decide (0<=x.n)&&decide (x.n<size)else if x.op=4\/x.op=7 then decide (0<=x.n)&&decide (x.n<p.AL)else
 if x.op=5 then decide (0<=x.n)&&decide (x.n<p.Cc.length)else if x.op=6\/x.op=8 then decide (3<=x.n)&&decide (x.n<3+p.AK.length)else x.n==0
def cS (p:Prog) (x:Node) (size:Int):Pure zP 168 [.a (A3 p),.a (JL x),eI size] (.b (NO p x size)):=by
 refine Pure.fit (by kernel_rfl) fun hf=>?_
 have⟨p1,p2,p3,p4⟩:=F0 hf.1;have hM:=Mx;refine vS kZ ?_
 conv=>whnf
 repeat'((first|clear U K|apply st|(apply zk;intro K U)|refine zn ?_|refine Pure.use (pb _) ?_|refine za (fun hc=>?_) fun hc=>?_|fail)<;>conv=>whnf)
 all_goals first
  | (refine AF ?_;simp[NO, *];done)
  | (refine AF ?_;rw[Bh,wrap64 (by omega) (by omega)];simp[NO, *];done)
  | (refine AF ?_;simp[NO, *];intros;omega)
def Jk (ps:List (List Int)) (a b:Int):Bool:=a==b||(b==0||(decide (3<=a)&&G3 ps a.toNat b.toNat))
def Wr (w:AE) (a b:Int) (hl:w.parents.length<=1000) (ho:ordered w.parents) (ha:0<=a) (ha':a<3+w.parents.length) (hb:0<=b) (hb':b<3+w.parents.length):Pure zP 212 [.a (Ax w),eI a,eI b] (.b (Jk w.parents a b)):=by
 refine Pure.fit (by kernel_rfl) fun hf=>?_
 have⟨w1,w2,w3⟩:=Vi hf.1;have hM:=Mx;refine uv kZ ?_
 conv=>whnf
 repeat'((first|clear U K|apply st|(apply zk;intro K U)|refine zn ?_|refine za (fun hc=>?_) fun hc=>?_|fail)<;>conv=>whnf)
 .exact AF (by simp[Jk,hc])
 .exact AF (by simp[Jk, *];omega)
 .have hc':0<=a:=ha
  obtain⟨a,rfl⟩: ∃n:Nat,a=n:=⟨a.toNat,by omega⟩
  refine(yD w a ⟨hl,w2,w3⟩ ho (by omega)).use ?_;have hul:=MG w.parents (3+w.parents.length) a (a - 2)
  conv=>whnf
  repeat'((first|clear U K|apply st|(apply zk;intro K U)|refine ze fun x hx=>?_|fail)<;>conv=>whnf)
  refine AF ?_;have hu:=Zk ho (n:=3+w.parents.length) (c:=a) (by omega) b.toNat;rw[Co,hx]at hu;simp at hu;have e1:((a:Int)==b)=false:=by simpa using ‹(a:Int)≠b›
  have e2:(b==0)=false:=by simpa using ‹b≠0›
  simp[Jk,e1,e2,hc,hu]
 .exact AF (by simp[Jk,hc])
structure Ig (w:AE):Prop where
 len:w.parents.length<=60
 ord:ordered w.parents
 own: ∀c∈w.owner,(3:Int)<=c/\c<3+w.parents.length
 olen:w.owner.length<=40
def Bb (w:AE) (s:Int):Int:=w.owner.getD s.toNat 0
def hasB (w:AE) (c s:Int):Bool:=decide (3<=c)&&Jk w.parents c (Bb w s)
def gI (w:AE) (c s:Int) (hw:Ig w) (hc0:0<=c) (hc1:c<3+w.parents.length) (hs0:0<=s) (hs1:s<w.owner.length):Pure zP 161 [.a (Ax w),eI c,eI s] (.b (hasB w c s)):=by
 refine Pure.fit (by kernel_rfl) fun hf=>?_
 have⟨w1,w2,w3⟩:=Vi hf.1;have hM:=Mx;have hl:=hw.len;refine vZ kZ ?_
 conv=>whnf
 repeat'((first|clear U K|apply st|(apply zk;intro K U)|refine zn ?_|refine ze fun x hx=>?_|refine za (fun hc=>?_) fun hc=>?_|fail)<;>conv=>whnf)
 .have:=hw.own x (BY hx)
  refine(Wr w c x (by omega) hw.ord hc0 hc1 (by omega) (by omega)).use ?_;refine zu ?_;(repeat clear U K);repeat intro K U
  exact AF (by simp[hasB,Bb,hx,hc])
 .exact AF (by simp[hasB];omega)
def Nc {xs:List Int} {f:Bool} (h:Fb (.l (iL xs) f)):xs.length<=AZ:=L8 h
def jf:Pure zP 245 [.b true] (.t []):=by
 refine gU kZ ?_;have hs:=Sn;exact zW
abbrev D4:V:= .Lx 368 (.a [])
def qn (xs:List Int) (x:Int):Int:=(Bc (fun y (_:Unit)=>(x==y,())) xs 0 ()).1
def Mr {α:Type} (f:α->Bool): ∀(xs:List α) (k:Nat),(decide ((Bc (fun y (_:Unit)=>(f y,())) xs k ()).1≥0))=xs.any f
 | [],_=>rfl
 | y::r,k=>by
   simp only[Bc,Oj];cases f y
   .simpa using Mr f r (k+1)
   .simp
def U7 (xs:List Int) (x:Int):xs.any (x== ·)=xs.contains x:=by
 induction xs with
 | nil=>rfl
 | cons y r ih=>rw[Oj,List.contains_cons,ih]
def nZ (xs:List Int) (x:Int):decide (qn xs x≥0)=xs.contains x:=by
 rw[<-U7];exact Mr (x== ·) xs 0
def ju (xs:List Int) (f:Bool) (x:Int):Pure zP 46 [.l (iL xs) f,eI x] (eI (qn xs x)):=by
 refine Pure.fit (by kernel_rfl) fun hf=>?_
 have hxl:=Nc hf.1;have hM:=Mx;refine zR kZ ?_;have hs:=Sn;refine zv ?_;(repeat clear U K);repeat intro K U
 refine Ba xs.length (fun k (_:Unit)=>[(8,eI (Au k))]) (fun _ _=>[]) (fun k _=>qn xs x=(Bc (fun y (_:Unit)=>(x==y,())) (xs.drop k) k ()).1) () rfl rfl hs ?_;clear hs;rintro k - Z hk hn hs;have hck:Au k=k:=AW (by omega);rcases Aw xs hk with⟨y,hy,hlt⟩|hke
 .rw[drop_cons hy,Bc]at hn
  conv=>whnf
  repeat'((first|clear U K|apply st|(apply zk;intro K U)|refine zX ?_|refine za (fun hc=>?_) fun hc=>?_|fail)<;>conv=>whnf)
  .exact AF (by rw[hn,hc,hck];simp)
  .exact⟨hlt,(),rfl,by rw[hn];simp[hc],hs⟩
 .rw[Ad hke,Bc]at hn
  refine zv ?_;(repeat clear U K);repeat intro K U
  exact AF (by rw[hn])
def CP (xs:List Int) (f:Bool) (x:Int):Pure zP 11 [.l (iL xs) f,eI x] (.b (xs.contains x)):=by
 refine zx kZ ?_;have hs:=Sn
 conv=>whnf
 repeat'((first|clear U K|apply st|(apply zk;intro K U)|refine zX ?_|refine Pure.use (ju _ _ _) ?_|fail)<;>conv=>whnf)
 all_goals exact AF (by rw[<-nZ])
def Ra (n:Int):Pure zP 292 [eI n] (.b (Tp n)):=by
 refine tf kZ ?_;have hs:=Sn
 conv=>whnf
 repeat'((first|clear U K|apply st|(apply zk;intro K U)|refine zX ?_|refine za (fun hc=>?_) fun hc=>?_|fail)<;>conv=>whnf)
 all_goals exact AF (by simp[Tp, *]<;>omega)
def Mj (f:Fact):Bu f=(decide (2<=f.op)&&decide (f.op<=4)):=by
 rw[KF];simp only[Bu,Ew,A7,Cd,CF];omega
def Uc (f:Fact):Pure zP 122 [.a (xF f)] (.b (Bu f)):=by
 refine wP kZ ?_;have hs:=Sn
 conv=>whnf
 repeat'((first|clear U K|apply st|(apply zk;intro K U)|refine zX ?_|refine za (fun hc=>?_) fun hc=>?_|fail)<;>conv=>whnf)
 all_goals exact AF (by rw[Mj];simp[*]<;>omega)
def Zj (s c:Nat) (hs0:s<18446744073709551616) (hc:c<64):Pure zP 179 [eU s,eI c] (eU (s|||2 ^ c)):=by
 refine vL kZ ?_;have hs:=Sn
 conv=>whnf
 repeat'((first|clear U K|apply st|(apply zk;intro K U)|fail)<;>conv=>whnf)
 refine⟨Int.natCast_nonneg _,?_⟩;refine zv ?_;(repeat clear U K);repeat intro K U
 exact AF (by rw[FZ,UK hc,HP hs0 (Ge hc)])
def T7 (s c:Nat) (hs0:s<18446744073709551616) (hc:c<64):Pure zP 133 [eU s,eI c] (.b (s.testBit c)):=by
 refine wG kZ ?_;have hs:=Sn
 conv=>whnf
 repeat'((first|clear U K|apply st|(apply zk;intro K U)|fail)<;>conv=>whnf)
 refine⟨Int.natCast_nonneg _,?_⟩;refine zv ?_;(repeat clear U K);repeat intro K U
 refine AF ?_;rw[FZ,UJ hc];have h1:s >>> c<18446744073709551616:=by rw[Nat.shiftRight_eq_div_pow];exact Nat.lt_of_le_of_lt (Nat.div_le_self _ _) hs0
 have h2:bits .and .u64 ((s >>> c:Nat):Int) 1=((s >>> c&&&1:Nat):Int):=F4 h1 (show 1<_ by decide);rw[h2];simp only[Nat.testBit,Nat.and_comm 1];congr 1;rcases Nat.mod_two_eq_zero_or_one (s >>> c)with h|h<;>simp[Nat.and_one_is_mod,h]
def nT (op:Int):Pure zP 230 [eI op] (eI (B2 op)):=by
 refine uc kZ ?_;have hs:=Sn
 conv=>whnf
 repeat'((first|clear U K|apply st|(apply zk;intro K U)|refine zX ?_|refine za (fun hc=>?_) fun hc=>?_|fail)<;>conv=>whnf)
 all_goals exact AF (by simp[B2, *])
def Yb (b:Bool):Pure zP 178 [.b b] (eI (if b then 0 else 2)):=by
 refine vM kZ ?_;have hs:=Sn
 conv=>whnf
 repeat'((first|clear U K|apply st|(apply zk;intro K U)|refine za (fun hc=>?_) fun hc=>?_|fail)<;>conv=>whnf)
 all_goals exact AF (by simp[*])
def I9 {S:Type} (g:FuncId) (fi ca:List V) (H:S->List At) (stp:Int->S->Bool×S) (D:Int->S->Prop) (hx:Cq zP (.f (.func g) fi ca) eI H stp D) (xs:List Int) (f:Bool) (s0:S) (hd:Tc stp D xs s0) :
    BL zP 114 [.l (iL xs) f,.f (.func g) fi ca] (H s0) fun r post=>r= .ret (eI (Bc stp xs 0 s0).1)/\post=H (Bc stp xs 0 s0).2:=by
 intro Z hs;refine As.fit (by kernel_rfl) fun hf=>?_
 have hxl:=Nc hf.1;have hM:=Mx;refine gp kZ ?_;refine zv ?_;(repeat clear U K);repeat intro K U
 refine Ba xs.length (fun k (_:S)=>[(8,eI (Au k))]) (fun _ s=>H s) (fun k s=>Tc stp D (xs.drop k) s/\Bc stp xs 0 s0=Bc stp (xs.drop k) k s) s0 rfl ⟨hd,rfl⟩ hs ?_;clear hs;rintro k s Z hk ⟨hd,hn⟩ hs;have hck:Au k=k:=AW (by omega);rcases Aw xs hk with⟨y,hy,hlt⟩|hke
 .rw[drop_cons hy]at hn hd
  obtain⟨hd1,hd2⟩:=hd;rw[Bc]at hn;refine zv ?_;(repeat clear U K);repeat intro K U
  refine hx.use hd1 hs ?_;clear hs;intro Z hs
  conv=>whnf
  repeat'((first|clear U K|apply st|(apply zk;intro K U)|refine zX ?_|refine za (fun hc=>?_) fun hc=>?_|fail)<;>conv=>whnf)
  .rw[hc,if_pos rfl]at hn
   rw[hn];exact Aj hs (List.Sublist.refl _) (by rw[hck];exact .refl _) fun Z' hs'=>⟨_,⟨rfl,rfl⟩,hs'⟩
  .rw[hc,if_neg (by decide)]at hn
   exact⟨hlt,_,rfl,⟨hd2,hn⟩,hs⟩
 .rw[Ad hke,Bc]at hn
  refine zv ?_;(repeat clear U K);repeat intro K U
  rw[hn];exact Aj hs (List.Sublist.refl _) (.refl _) fun Z' hs'=>⟨_,⟨rfl,rfl⟩,hs'⟩
section
variable {S:Type} (g:FuncId) (fi ca:List V) (H:S->List At)
def Gy (stp:Int->S->Bool×S) (D:Int->S->Prop) (hx:Cq zP (.f (.func g) fi ca) eI H stp D) (xs:List Int) (f:Bool) (s0:S) (hd:Tc stp D xs s0) :
    BL zP 66 [.l (iL xs) f,.f (.func g) fi ca] (H s0) fun r post=>r= .ret (.b (decide ((Bc stp xs 0 s0).1≥0)))/\post=H (Bc stp xs 0 s0).2:=by
 intro Z hs;refine ph kZ ?_
 conv=>whnf
 repeat'((first|clear U K|apply st|(apply zk;intro K U)|fail)<;>conv=>whnf)
 refine(I9 g fi ca H stp D hx xs f s0 hd).use (rest:=[]) (by simpa using hs) ?_;rintro r post Z ⟨rfl,rfl⟩ hs;refine zv ?_;(repeat clear U K);repeat intro K U
 exact Aj hs (by simp) (.refl _) fun Z' hs'=>⟨_,⟨rfl,rfl⟩,hs'⟩
def sJ (stp:Int->S->Bool×S) (D:Int->S->Prop) (hx:Cq zP (.f (.func g) fi ca) eI H stp D):Cq zP (.f (.func 227) [] [.rp [.f (.func g) fi ca]]) eI H (fun y s=>(!(stp y s).1,(stp y s).2)) D:=by
 intro y s hd Z hs;refine A6 ?_;show As zP 227 ([]++[eI y]++[.rp [.f (.func g) fi ca]]) Z _;refine gX kZ ?_;refine zv ?_;(repeat clear U K);repeat intro K U
 refine hx.use hd hs ?_;clear hs;intro Z hs;refine zv ?_;(repeat clear U K);repeat intro K U
 exact Aj hs (List.Sublist.refl _) (.refl _) fun Z' hs'=>⟨rfl,hs'⟩
def iE (stp:Int->S->Bool×S) (D:Int->S->Prop) (hx:Cq zP (.f (.func g) fi ca) eI H stp D) (xs:List Int) (f:Bool) (s0:S) (hd:Tc stp D xs s0) :
    BL zP 180 [.l (iL xs) f,.f (.func g) fi ca] (H s0) fun r post=>r= .ret (.b (By stp xs s0).1)/\post=H (By stp xs s0).2:=by
 intro Z hs;obtain⟨e1,e2⟩:=N5 (stp:=stp) xs 0 s0;refine gi kZ ?_
 conv=>whnf
 repeat'((first|clear U K|apply st|(apply zk;intro K U)|fail)<;>conv=>whnf)
 refine(Gy 227 [] [.rp [.f (.func g) fi ca]] H _ D (sJ g fi ca H stp D hx) xs f s0 (UR xs s0 hd)).use (rest:=[]) (by simpa using hs) ?_;rintro r post Z ⟨rfl,rfl⟩ hs;rw[e2];rw[e1]at hs;refine zv ?_;(repeat clear U K);repeat intro K U
 exact Aj hs (by simp) (by rw[Bool.not_not];exact .refl _) fun Z' hs'=>⟨_,⟨rfl,rfl⟩,hs'⟩
def U1 (stp:Fact->S->Bool×S) (D:Fact->S->Prop) (hx:Cq zP (.f (.func g) fi ca) (fun y=> .a (xF y)) H stp D) (xs:List Fact) (f:Bool) (s0:S) (hxl:xs.length<=AZ) (hd:Tc stp D xs s0) :
    BL zP 273 [.l (facts xs) f,.f (.func g) fi ca] (H s0) fun r post=>r= .ret (eI (Bc stp xs 0 s0).1)/\post=H (Bc stp xs 0 s0).2:=by
 intro Z hs;have hM:=Mx;refine tp kZ ?_;refine zv ?_;(repeat clear U K);repeat intro K U
 refine Ba xs.length (fun k (_:S)=>[(8,eI (Au k))]) (fun _ s=>H s) (fun k s=>Tc stp D (xs.drop k) s/\Bc stp xs 0 s0=Bc stp (xs.drop k) k s) s0 rfl ⟨hd,rfl⟩ hs ?_;clear hs;rintro k s Z hk ⟨hd,hn⟩ hs;have hck:Au k=k:=AW (by omega);rcases Aw xs hk with⟨y,hy,hlt⟩|hke
 .rw[drop_cons hy]at hn hd
  obtain⟨hd1,hd2⟩:=hd;rw[Bc]at hn;refine zv ?_;(repeat clear U K);repeat intro K U
  refine hx.use hd1 hs ?_;clear hs;intro Z hs
  conv=>whnf
  repeat'((first|clear U K|apply st|(apply zk;intro K U)|refine zX ?_|refine za (fun hc=>?_) fun hc=>?_|fail)<;>conv=>whnf)
  .rw[hc,if_pos rfl]at hn
   rw[hn];exact Aj hs (List.Sublist.refl _) (by rw[hck];exact .refl _) fun Z' hs'=>⟨_,⟨rfl,rfl⟩,hs'⟩
  .rw[hc,if_neg (by decide)]at hn
   exact⟨hlt,_,rfl,⟨hd2,hn⟩,hs⟩
 .rw[Ad hke,Bc]at hn
  refine zv ?_;(repeat clear U K);repeat intro K U
  rw[hn];exact Aj hs (List.Sublist.refl _) (.refl _) fun Z' hs'=>⟨_,⟨rfl,rfl⟩,hs'⟩
def JS (stp:Fact->S->Bool×S) (D:Fact->S->Prop) (hx:Cq zP (.f (.func g) fi ca) (fun y=> .a (xF y)) H stp D) (xs:List Fact) (f:Bool) (s0:S) (hxl:xs.length<=AZ) (hd:Tc stp D xs s0) :
    BL zP 228 [.l (facts xs) f,.f (.func g) fi ca] (H s0) fun r post=>r= .ret (.b (decide ((Bc stp xs 0 s0).1≥0)))/\post=H (Bc stp xs 0 s0).2:=by
 intro Z hs;refine ue kZ ?_
 conv=>whnf
 repeat'((first|clear U K|apply st|(apply zk;intro K U)|fail)<;>conv=>whnf)
 refine(U1 g fi ca H stp D hx xs f s0 hxl hd).use (rest:=[]) (by simpa using hs) ?_;rintro r post Z ⟨rfl,rfl⟩ hs;refine zv ?_;(repeat clear U K);repeat intro K U
 exact Aj hs (by simp) (.refl _) fun Z' hs'=>⟨_,⟨rfl,rfl⟩,hs'⟩
def sI (stp:Fact->S->Bool×S) (D:Fact->S->Prop) (hx:Cq zP (.f (.func g) fi ca) (fun y=> .a (xF y)) H stp D):Cq zP (.f (.func 229) [] [.rp [.f (.func g) fi ca]]) (fun y=> .a (xF y)) H (fun y s=>(!(stp y s).1,(stp y s).2)) D:=by
 intro y s hd Z hs;refine A6 ?_;show As zP 229 ([]++[.a (xF y)]++[.rp [.f (.func g) fi ca]]) Z _;refine ud kZ ?_;refine zv ?_;(repeat clear U K);repeat intro K U
 refine hx.use hd hs ?_;clear hs;intro Z hs;refine zv ?_;(repeat clear U K);repeat intro K U
 exact Aj hs (List.Sublist.refl _) (.refl _) fun Z' hs'=>⟨rfl,hs'⟩
def iD (stp:Fact->S->Bool×S) (D:Fact->S->Prop) (hx:Cq zP (.f (.func g) fi ca) (fun y=> .a (xF y)) H stp D) (xs:List Fact) (f:Bool) (s0:S) (hxl:xs.length<=AZ) (hd:Tc stp D xs s0) :
    BL zP 182 [.l (facts xs) f,.f (.func g) fi ca] (H s0) fun r post=>r= .ret (.b (By stp xs s0).1)/\post=H (By stp xs s0).2:=by
 intro Z hs;obtain⟨e1,e2⟩:=N5 (stp:=stp) xs 0 s0;refine vJ kZ ?_
 conv=>whnf
 repeat'((first|clear U K|apply st|(apply zk;intro K U)|fail)<;>conv=>whnf)
 refine(JS 229 [] [.rp [.f (.func g) fi ca]] H _ D (sI g fi ca H stp D hx) xs f s0 hxl (UR xs s0 hd)).use (rest:=[]) (by simpa using hs) ?_;rintro r post Z ⟨rfl,rfl⟩ hs;rw[e2];rw[e1]at hs;refine zv ?_;(repeat clear U K);repeat intro K U
 exact Aj hs (by simp) (by rw[Bool.not_not];exact .refl _) fun Z' hs'=>⟨_,⟨rfl,rfl⟩,hs'⟩
end
abbrev VZ (f:Int->Bool):Int->Unit->Bool×Unit:=fun y _=>(f y,())
def Qv {g:FuncId} {fi ca:List V} {f:Int->Bool} {D:Int->Unit->Prop} (h: ∀y,D y ()->Pure zP g (fi++[eI y]++ca) (.b (f y))):Cq zP (.f (.func g) fi ca) eI (fun _=>[]) (VZ f) D:=by
 intro y s hd Z hs;refine A6 ?_;show As zP g (fi++[eI y]++ca) Z _;refine As.mono ((h y hd).use (k:=fun v Z'=>v= .b (f y)/\Sat Z' []) (kp:=fun _ _=>False) ⟨rfl,Sat.nil⟩) ?_;rintro(v|v) Z' hq
 .obtain⟨rfl,h⟩:=hq
  exact⟨rfl,h⟩
 .exact hq.elim
def oh {g:FuncId} {fi ca:List V} {f:Int->Bool} {xs:List Int} (b:Bool) (h: ∀y∈xs,Pure zP g (fi++[eI y]++ca) (.b (f y))):Pure zP 180 [.l (iL xs) b,.f (.func g) fi ca] (.b (xs.all f)):=by
 have:=iE g fi ca (fun _=>[]) (VZ f) (fun y _=>y∈xs) (Qv fun y hy=>h y hy) xs b () (Hf fun y hy _=>hy);rw[Kr]at this;exact Pure.of (As.mono (this emp Sat.nil) fun r Z' ⟨post,⟨h1,h2⟩,h3⟩=>h1)
end Go.Gl
