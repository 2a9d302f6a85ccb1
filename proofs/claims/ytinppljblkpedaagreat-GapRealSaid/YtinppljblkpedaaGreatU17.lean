import Derived.Test.YtinppljblkpedaaGreatU14
import Derived.Test.YtinppljblkpedaaGreatU15
import Derived.Test.YtinppljblkpedaaGreatU16
set_option linter.all false
set_option linter.defProp false
set_option maxHeartbeats 8000000
noncomputable section
namespace Go.Gl
open Go.Proofs
attribute [local irreducible] As Ag AY AQ AL AX AP AR AK AW AM AN Ai Ap Sat AT An AZ W
def EA (g os:List (List Int)) (c:Int):List Int:=
 match Ed g os c with
 | none=>[]
 | some l=>if(CH l).2 then [c]++(CH l).1++[0]else []
def Bb (g:List (List Int)):Nat->List (List Int)
 | 0=>[[0]]
 | k+1=>Bb g k++[EA g (Bb g k) ((k:Int)+1)]
def B9 (g:List (List Int)):List (List Int):=Bb g (2+g.length)
def JJ (g:List (List Int)):Prop:=g.length<=16/\ ∀(i:Nat) (l:List Int),g[i]? =some l->l.length<=3/\l.Nodup/\ ∀c∈l,(3:Int)<=c/\c<3+(i:Int)
def Cb (g:List (List Int)): ∀k,(Bb g k).length=k+1
 | 0=>rfl
 | k+1=>by simp[Bb,Cb g k]
def I7: ∀(n:Nat) (ls:List (List Int)) (out:List Int),(DT n ls out).1.length<=out.length+n
 | 0,ls,out=>by simp[DT]
 | n + 1,ls,out=>by
   simp only[DT];split
   .simp
   .rename_i x _
    have:=I7 n (ls.map fun l=>l.filter (· != x)) (out++[x]);simp only[HQ,List.length_singleton]at this;refine Nat.le_trans this ?_;omega
def XU {ls:List (List Int)} (h: ∀l∈ls,∀x∈l,(0:Int)<=x) {x:Int} (hp:pick ls=some x):0<=x:=by
 unfold pick at hp;rw[Option.bind_eq_some_iff]at hp;obtain⟨l,h1,h2⟩:=hp;have hm:=List.mem_of_find?_eq_some h1;cases l with
 | nil=>cases h2
 | cons y r=>cases h2;exact h _ hm _ (.head _)
def LR: ∀(n:Nat) (ls:List (List Int)) (out:List Int),(∀l∈ls,∀x∈l,(0:Int)<=x)->(∀x∈out,(0:Int)<=x)-> ∀x∈(DT n ls out).1,(0:Int)<=x
 | 0,ls,out,_,h2=>h2
 | n + 1,ls,out,h1,h2=>by
   simp only[DT];split
   .exact h2
   .rename_i y hy
    refine LR n _ _ (fun l hl x hx=>?_) fun x hx=>?_
    .obtain⟨l',hl',rfl⟩:=GK.1 hl
     exact h1 _ hl' _ (HD.1 hx).1
    .rcases Dn.1 hx with hx|hx
     .exact h2 x hx
     .rw[Jf.1 hx];exact XU h1 hy
def Df {g:List (List Int)} (hg:JJ g) {c p:Int} (hp:p∈A3 g c):3<=p/\p<c:=by
 unfold A3 at hp;split at hp
 .cases hp
 .rename_i hc
  rw[Cq]at hp;cases hq:g[(c - 3).toNat]? with
  | none=>rw[hq]at hp;cases hp
  | some l=>
    rw[hq]at hp;obtain⟨_,_,h⟩:=hg.2 _ _ hq;have:=h p hp;omega
def DF {g:List (List Int)} (hg:JJ g) (c:Int):(A3 g c).length<=3:=by
 unfold A3;split
 .simp
 .rw[Cq]
  cases hq:g[(c - 3).toNat]? with
  | none=>simp
  | some l=>exact(hg.2 _ _ hq).1
def Hj {g os:List (List Int)} {c:Int} {ls:List (List Int)} (h:Ed g os c=some ls):ls=(A3 g c).map (fun p=>(os.getD p.toNat []).filter (· != 0))++[A3 g c]:=by
 unfold Ed at h;split at h
 .cases h
 .exact(Option.some.inj h).symm
def Wo {os:List (List Int)} {B:Nat} (h: ∀o∈os,o.length<=B) (n:Nat):(os.getD n []).length<=B:=by
 rw[Cq];cases hq:os[n]? with
 | none=>simp
 | some l=>exact h _ (B6 hq)
def Qe {os:List (List Int)} {Q:Int->Prop} (h: ∀o∈os,∀x∈o,Q x) (n:Nat): ∀x∈os.getD n [],Q x:=by
 rw[Cq];cases hq:os[n]? with
 | none=>simp
 | some l=>exact h _ (B6 hq)
def F0 {g os:List (List Int)} {c:Int} {ls:List (List Int)} (h:Ed g os c=some ls) {B:Nat} (hB: ∀o∈os,o.length<=B):total ls<=(A3 g c).length*(B+1):=by
 rw[Hj h];simp only[total,LX,rV,List.sum_append,CK,List.map_nil,List.sum_cons,List.sum_nil,Nat.add_zero]
 have: ∀ps:List Int,(ps.map (List.length∘fun p=>(os.getD p.toNat []).filter (· != 0))).sum<=ps.length*B:=fun ps=>by
  induction ps with
  | nil=>simp
  | cons p r ih=>
    simp only[CK,List.sum_cons,Function.comp,HH,Nat.succ_mul];have h1:=TZ (· != 0) (os.getD p.toNat []);have h2:=Wo hB p.toNat;simp only[Function.comp_def]at *;omega
 have:=this (A3 g c);rw[Nat.mul_add,Nat.mul_one];simp only[Function.comp_def]at *;omega
def XW {g os:List (List Int)} {c:Int} {B:Nat} (hB: ∀o∈os,o.length<=B):(EA g os c).length<=(A3 g c).length*(B+1)+2:=by
 unfold EA;split
 .simp
 .rename_i ls h
  have h1:=F0 h hB;have h2:=I7 (total ls) ls [];simp only[List.length_nil,GZ]at h2;split
  .simp only[HQ,List.length_singleton,CH]
   omega
  .simp
def Rh {g os:List (List Int)} {c:Int} (hg:JJ g) (hc:0<=c) (h: ∀o∈os,∀x∈o,(0:Int)<=x): ∀x∈EA g os c,0<=x:=by
 unfold EA;split
 .simp
 .rename_i ls hl
  split
  .intro x hx
   have hls: ∀l∈ls,∀x∈l,(0:Int)<=x:=by
    rw[Hj hl];intro l hl x hx;rcases Dn.1 hl with hl|hl
    .obtain⟨p,_,rfl⟩:=GK.1 hl
     exact Qe h p.toNat x (HD.1 hx).1
    .rw[Jf.1 hl]at hx
     have:=Df hg hx;omega
   simp only[Dn,Jf]at hx;rcases hx with(rfl|hx)|rfl
   .exact hc
   .exact LR _ _ _ hls (by simp) x hx
   .exact Int.le_refl _
  .simp
def Jl (k:Nat):Nat:=5*3 ^ (k - 3) - 3
def tB (n:Nat):1<=3 ^ n:=Nat.one_le_pow _ _ (by omega)
def JD {g : List (List Int)} (hg:JJ g): ∀(k:Nat),∀o∈Bb g k,o.length<=Jl k/\ ∀x∈o,(0:Int)<=x
 | 0,o,ho=>by
   simp only[Bb,Jf]at ho;subst ho;simp[Jl]
 | k + 1,o,ho=>by
   have ih:=JD hg k
   have hmono:Jl k<=Jl (k+1):=by
    unfold Jl;have:3 ^ (k - 3)<=3 ^ (k+1 - 3):=Nat.pow_le_pow_right (by omega) (by omega);omega
   simp only[Bb,Dn,Jf]at ho;rcases ho with ho|rfl
   .exact⟨Nat.le_trans (ih o ho).1 hmono,(ih o ho).2⟩
   .refine⟨?_,Rh hg (by omega) fun o ho=>(ih o ho).2⟩
    have h1:=XW (g:=g) (c:=(k:Int)+1) fun o ho=>(ih o ho).1
    by_cases hk:k<3
    .have:A3 g ((k:Int)+1)= []:=by
      apply List.eq_nil_iff_forall_not_mem.2;intro p hp;have:=Df hg hp;omega
     rw[this]at h1
     have:Jl (k+1)=2:=by
      have:k+1 - 3=0:=by omega
      simp[Jl,this]
     simpa[this]using h1
    .have h2:=DF hg ((k:Int)+1)
     have h3:(A3 g ((k:Int)+1)).length*(Jl k+1)<=3*(Jl k+1):=SE _ h2;have:k+1 - 3=(k - 3)+1:=by omega
     unfold Jl at *;rw[this,Nat.pow_succ];have:=tB (k - 3);omega
def bk {k:Nat} (h:k<=18):Jl k<=71744535:=by
 unfold Jl;have:3 ^ (k - 3)<=3 ^ 15:=Nat.pow_le_pow_right (by omega) (by omega);have e:(3:Nat) ^ 15=14348907:=by decide
 omega
def FO {g:List (List Int)}: ∀ {k j:Nat},j<=k->(Bb g k)[j]? =(Bb g j)[j]?
 | 0,j,h=>by(obtain rfl:j=0:=by omega);rfl
 | k+1,j,h=>by
   by_cases e:j=k+1
   .subst e;rfl
   .rw[<-FO (k:=k) (by omega),Bb,X1 (by rw[Cb];omega)]
def Y3 {g os:List (List Int)} {c:Int} {ls:List (List Int)} (hg:JJ g) (h:Ed g os c=some ls) {B:Nat} (hB: ∀o∈os,o.length<=B/\ ∀x∈o,(0:Int)<=x) (hb:B<=100000000):NW ls/\total ls<Ab:=by
 have h3:=DF hg c;have ht:=F0 h fun o ho=>(hB o ho).1
 have:(A3 g c).length*(B+1)<=3*(B+1):=SE _ h3;have htl:total ls<Ab:=by simp only[Ab];omega
 refine⟨⟨?_,fun l hl=>⟨?_,?_⟩⟩,htl⟩
 .rw[Hj h]
  simp only[HQ,Bc,List.length_singleton,Ab];omega
 .have:=cf hl
  simp only[Ab]at *;omega
 .intro x hx
  rw[Hj h]at hl;rcases Dn.1 hl with hl|hl
  .obtain⟨p,_,rfl⟩:=GK.1 hl
   exact Qe (fun o ho=>(hB o ho).2) p.toNat x (HD.1 hx).1
  .rw[Jf.1 hl]at hx
   have:=Df hg hx;omega
def dW (g : List (List Int)) (f:Bool) (hg:JJ g):Pure zP 316 [.l (EV g) f] (.l (EV (B9 g)) false):=by
 refine vH kZ ?_
 conv=>whnf
 repeat((first|clear U K|apply st|(apply zk;intro K U)|fail);conv=>whnf)
 have hg16:=hg.1;have hgm:g.length<=Ab:=by simp only[Ab];omega
 refine⟨.l (EV [[0]]) true,emp,fun _ _ h=>h,.l (fun _=>rfl) (.cons (.cons (.l (fun h=>(by cases h)) (.refl _ _ _)) .nil) .nil),?_⟩;refine zh ?_;(repeat clear U K);repeat intro K U
 refine B4 (2+g.length) (fun k v=>[(3,v),(4,eI (HO 1 k))]) (fun k v=>[.own v 1 (EV (Bb g k))]) (fun _ _=>True) (.l (EV [[0]]) true) rfl trivial (sJ Sat.nil (by simp)) ?_;rintro k v Z hk - hs;have hc1:HO 1 k=(k:Int)+1:=by rw[Kl (by omega) (by omega)];omega
 have hw:IntKind.i64.wrap (3+((EV g).length:Nat))=3+(g.length:Int):=by rw[Bc,wrap64 (by omega) (by omega)]
 refine zh ?_;(repeat clear U K);repeat intro K U
 rw[hc1];rw[hw];refine fork (fun hlt=>?_) (fun hlt=>?_)
 .have hlt':k<2+g.length:=by omega
  have hB:=JD hg k;have hb18:Jl k<=71744535:=bk (by omega);have hc2:HO 1 (k+1)=IntKind.i64.wrap ((k:Int)+1+1):=by rw[HO,hc1]
  refine zh ?_;(repeat clear U K);repeat intro K U
  refine⟨.l (iL []) false,Z,fun _ _ h=>h,.l (fun h=>(by cases h)) (.refl _ _ _),?_⟩
  conv=>whnf
  repeat((first|clear U K|apply st|(apply zk;intro K U)|fail);conv=>whnf)
  refine(lI g (Bb g k) f v ((k:Int)+1) (by omega) hgm (fun o ho=>by have:=(hB o ho).1;simp only[Ab];omega) (by have:=DF hg ((k:Int)+1);omega)
   (fun p hp=>by have:=Df hg hp;rw[Cb];omega)).use (rest:=[]) hs ?_
  rintro r post Z' ⟨rfl,rfl⟩ hs;cases hl:Ed g (Bb g k) ((k:Int)+1)with
  | none=>
    refine zh ?_;(repeat clear U K);repeat intro K U
    refine GO hs 0 (x:=[]) rfl (by rw[Cb];simp only[Ab];omega) DQ fun v' Z' hs'=>?_
    conv=>whnf
    refine⟨v',Z',fun _ _ h=>h,.refl _,?_⟩;refine zh ?_;(repeat clear U K);repeat intro K U
    refine⟨hlt',v',?_,trivial,?_⟩
    .skip
     rw[hc2];rfl
    .have:EA g (Bb g k) ((k:Int)+1)= []:=by simp[EA,hl,]
     rw[Bb,this];exact hs'
  | some ls=>
    obtain⟨hok,htot⟩:=Y3 hg hl hB (by omega);refine zh ?_;(repeat clear U K);repeat intro K U
    refine(lG ls false hok htot).use ?_;have hml:=I7 (total ls) ls [];simp only[List.length_nil,GZ]at hml;refine zh ?_;(repeat clear U K);repeat intro K U
    refine⟨fun h=>?_,fun h=>?_⟩<;>(try rw[h])
    .conv=>whnf
     repeat((first|clear U K|(apply zk;intro K U)|fail);conv=>whnf)
     refine JI (sJ hs (by simp)) 1 (xs:=[(k:Int)+1]) rfl (by simp[CH];have:=F0 hl fun o ho=>(hB o ho).1;have h3:=DF hg ((k:Int)+1);have:(A3 g ((k:Int)+1)).length*(Jl k+1)<=3*(Jl k+1):=SE _ h3;simp only[Ab]at *;omega) Cs fun u Z1 hs=>?_
     conv=>whnf
     refine GO hs 1 (x:=0) rfl (by simp[CH];have:=F0 hl fun o ho=>(hB o ho).1;have h3:=DF hg ((k:Int)+1);have:(A3 g ((k:Int)+1)).length*(Jl k+1)<=3*(Jl k+1):=SE _ h3;simp only[Ab]at *;omega) Cs fun u Z1 hs=>?_
     conv=>whnf
     refine sK hs 1 rfl fun Z' hs=>?_
     conv=>whnf
     repeat((first|clear U K|apply st|(apply zk;intro K U)|fail);conv=>whnf)
     refine GO hs 0 (x:=([(k:Int)+1]++(CH ls).1++[0])) rfl (by rw[Cb];simp only[Ab];omega) DQ fun v' Z' hs'=>?_
     conv=>whnf
     refine⟨v',Z',fun _ _ h=>h,.refl _,?_⟩;refine zh ?_;(repeat clear U K);repeat intro K U
     refine⟨hlt',v',?_,trivial,?_⟩
     .skip
      rw[hc2];rfl
     .have:EA g (Bb g k) ((k:Int)+1)=([(k:Int)+1]++(CH ls).1++[0]):=by simp[EA,hl,h]
      rw[Bb,this];exact hs'
    .refine zh ?_;(repeat clear U K);repeat intro K U
     refine GO hs 0 (x:=[]) rfl (by rw[Cb];simp only[Ab];omega) DQ fun v' Z' hs'=>?_
     conv=>whnf
     refine⟨v',Z',fun _ _ h=>h,.refl _,?_⟩;refine zh ?_;(repeat clear U K);repeat intro K U
     refine⟨hlt',v',?_,trivial,?_⟩
     .skip
      rw[hc2];rfl
     .have:EA g (Bb g k) ((k:Int)+1)= []:=by simp[EA,hl,h]
      rw[Bb,this];exact hs'
 .refine zh ?_;(repeat clear U K);repeat intro K U
  have hke:k=2+g.length:=by omega
  subst hke;exact G0 hs 0 rfl rfl
def tr (g:List (List Int)) (f:Bool) (c:Int) (hg:JJ g) (h0:0<=c) (h1:c<3+g.length):Pure zP 255 [.l (EV g) f,eI c] (.t [.l (iL ((B9 g).getD c.toNat [])) false,.b (!((B9 g).getD c.toNat []).isEmpty)]):=by
 refine wB kZ ?_
 conv=>whnf
 repeat((first|clear U K|apply st|(apply zk;intro K U)|fail);conv=>whnf)
 refine(dW g f hg).use ?_
 conv=>whnf
 have hlen:=Cb g (2+g.length);have hlt:c.toNat<(B9 g).length:=by unfold B9;omega
 have hq:=Cd hlt;refine VR c.toNat hq (by omega) rfl ?_;refine zh ?_;(repeat clear U K);repeat intro K U
 refine AG ?_;rw[Cq,hq,Option.getD_some];cases(B9 g)[c.toNat]with
 | nil=>rfl
 | cons _ _=>simp
def wFit (w:AF):Prop:=w.parents.length<=1000/\(∀l∈w.parents,l.length<=Ab)/\w.owner.length<=Ab
def tF {ps:List (List Int)} {c:Nat} (h3:3<=c) (hc:c<3+ps.length):ps[c - 3]? =some (par ps c):=by
 unfold par;rw[if_neg (by omega),Cq,Cd (by omega)];rfl
def Zw {bs:List Bool} {j:Nat} (h:j<bs.length):(bL bs)[j]? =some [.b (bs.getD j false)]:=by
 rw[LY,Cq,Cd h];rfl
def Yg (bs:List Bool) (j:Nat) (x:Bool):(bL bs).set j [.b x]=bL (bs.set j x):=by
 simp[bL,List.map_set]
def y9 (w : AF) (c:Nat) (hw:wFit w) (ho:ordered w.parents) (hc:c<3+w.parents.length):Pure zP 179 [.a (A5 w),eI c] (.l (bL (H2 w.parents (3+w.parents.length) c (c - 2))) false):=by
 obtain⟨hw1,hw2,hw3⟩:=hw;have hmL:3+w.parents.length<=Ab:=by simp only[Ab];omega
 refine xE kZ ?_;refine zh ?_;(repeat clear U K);repeat intro K U
 rw[show IntKind.i64.wrap (3+((EV w.parents).length:Nat))=((3+w.parents.length:Nat):Int) by rw[Bc,wrap64 (by omega) (by omega)];omega];refine hMk Sat.nil (by omega) fun v Z hs hv=>?_
 obtain⟨id,rfl⟩:=hv
 conv=>whnf
 repeat((first|clear U K|apply st|(apply zk;intro K U)|fail);conv=>whnf)
 refine fG hs 0 c rfl rfl (by simpa using hc) ?_
 conv=>whnf
 refine M1 hs 0 rfl (e:=[.b false]) (by simp[hc]) rfl rfl rfl rfl rfl fun Z hs=>?_
 have e0:(List.replicate (3+w.parents.length) [V.b false]).set c [V.b true]=bL (H2 w.parents (3+w.parents.length) c 0):=by
  simp only[H2];rw[<-Yg];simp[bL]
 refine zh ?_;(repeat clear U K);repeat intro K U
 refine B4 (c - 2) (fun k (_:Unit)=>[(6,eI (cS c k))]) (fun k _=>[.own (.sl id (3+w.parents.length) (3+w.parents.length)) 1 (bL (H2 w.parents (3+w.parents.length) c k))]) (fun _ _=>True) () rfl trivial (e0 ▸ hs) ?_;rintro k - Z hk - hs;have hd:cS c k=(c:Int) - k:=bW (by omega) (by omega);have hul:=MV w.parents (3+w.parents.length) c k;refine zh ?_;(repeat clear U K);repeat intro K U
 refine fork (fun hlt=>?_) (fun hlt=>?_)
 .rw [hd]at hlt
  have h3:3<=c - k:=by omega
  have hpar:=tF (ps:=w.parents) h3 (by omega);have hpl:=hw2 _ (B6 hpar);refine zh ?_;(repeat clear U K);repeat intro K U
  refine VR (c - k - 3) hpar (by rw[hd,wrap64 (by omega) (by omega)];omega) rfl ?_;refine zh ?_;(repeat clear U K);repeat intro K U
  refine B4 (par w.parents (c - k)).length (fun j (_:Unit)=>[(29,eI (A7 j))]) (fun j _=>[.own (.sl id (3+w.parents.length) (3+w.parents.length)) 1 (bL (F4 (H2 w.parents (3+w.parents.length) c k) (c - k) ((par w.parents (c - k)).take j)))]) (fun _ _=>True) () rfl trivial hs ?_;rintro j - Z hj - hs;have hml:=N0 (c - k) ((par w.parents (c - k)).take j) (H2 w.parents (3+w.parents.length) c k);refine zh ?_;(repeat clear U K);repeat intro K U
  refine Gv hj hpl (fun p hp hjlt=>?_) fun hj=>?_
  .have hpp:=ho _ p (B6 hp)
   have hm:(F4 (H2 w.parents (3+w.parents.length) c k) (c - k) ((par w.parents (c - k)).take (j+1)))=(F4 (H2 w.parents (3+w.parents.length) c k) (c - k) ((par w.parents (c - k)).take j)).set p.toNat
    ((F4 (H2 w.parents (3+w.parents.length) c k) (c - k) ((par w.parents (c - k)).take j)).getD p.toNat false||(F4 (H2 w.parents (3+w.parents.length) c k) (c - k) ((par w.parents (c - k)).take j)).getD (c - k) false):=by
    rw[AU hp,NI];rfl
   generalize hbs:F4 (H2 w.parents (3+w.parents.length) c k) (c - k) ((par w.parents (c - k)).take j)=bs at *;have hlp:p.toNat<bs.length:=by omega
   have hlc:c - k<bs.length:=by omega
   refine zh ?_;(repeat clear U K);repeat intro K U
   refine Jm hp hpl rfl ?_;refine zh ?_;(repeat clear U K);repeat intro K U
   refine fG hs 0 p.toNat rfl (by omega) (by simpa using hlp) ?_
   conv=>whnf
   refine I0 hs 0 rfl (Zw hlp) ?_
   conv=>whnf
   cases hb:bs.getD p.toNat false with
   | true=>
     rw[hb]at hm;refine zh ?_;(repeat clear U K);repeat intro K U
     refine fG hs 0 p.toNat rfl (by omega) (by simpa using hlp) ?_
     conv=>whnf
     refine M1 hs 0 rfl (Zw hlp) rfl rfl rfl rfl rfl fun Z hs=>?_
     refine zh ?_;(repeat clear U K);repeat intro K U
     refine⟨hjlt,(),rfl,trivial,?_⟩;rw[hm,<-Yg];exact hs
   | false=>
     rw[hb]at hm;refine zh ?_;(repeat clear U K);repeat intro K U
     refine fG hs 0 (c - k) rfl (by rw[hd];omega) (by simpa using hlc) ?_;refine zh ?_;(repeat clear U K);repeat intro K U
     refine I0 hs 0 rfl (Zw hlc) ?_
     conv=>whnf
     refine fG hs 0 p.toNat rfl (by omega) (by simpa using hlp) ?_
     conv=>whnf
     refine M1 hs 0 rfl (Zw hlp) rfl rfl rfl rfl rfl fun Z hs=>?_
     refine zh ?_;(repeat clear U K);repeat intro K U
     refine⟨hjlt,(),rfl,trivial,?_⟩;rw[hm,<-Yg];exact hs
  .rw[BA hj]at hs
   refine zh ?_;(repeat clear U K);repeat intro K U
   refine⟨by omega,(),rfl,trivial,hs⟩
 .rw[hd]at hlt
  refine zh ?_;(repeat clear U K);repeat intro K U
  have:k=c - 2:=by omega
  subst this;exact G0 hs 0 rfl rfl
def Tq (n:Int):Bool:=decide (-1000000000<=n)&&decide (n<=1000000000)
def q9 (n:Int):Pure zP 256 [eI n] (.b (Tq n)):=by
 refine wA kZ ?_
 conv=>whnf
 repeat'((first|clear U K|apply st|(apply zk;intro K U)|refine zn ?_|refine za (fun hc=>?_) fun hc=>?_|fail)<;>conv=>whnf)
 all_goals exact AG (by simp[Tq, *]<;>omega)
def LJ (k:Int):Bool:=k==1||k==4
def tc (k:Int):Pure zP 174 [eI k] (.b (LJ k)):=by
 refine xJ kZ ?_
 conv=>whnf
 repeat'((first|clear U K|apply st|(apply zk;intro K U)|refine zn ?_|refine za (fun hc=>?_) fun hc=>?_|fail)<;>conv=>whnf)
 all_goals exact AG (by simp[LJ, *])
def Gq {p:Prog} (h:Fc (.a (BF p))):p.AO.length<=Ab/\p.Ce.length<=Ab/\p.methods.length<=Ab/\p.nodes.length<=Ab:=by
 simp only[BF,J0,Ey,Gw,Bc]at h;exact⟨h.1.1,h.2.2.1.1,h.2.2.2.1.1,h.2.2.2.2.1.1⟩
def Jt (p:Prog) (x:Node):Int:=
 if x.op=1\/x.op=2\/x.op=3\/x.op=6\/x.op=18 then 0 else
 if x.op=4\/x.op=8\/x.op=17 then 1 else
 if x.op=7\/x.op=9\/x.op=11\/x.op=12\/x.op=13\/x.op=14\/x.op=15\/x.op=16 then 2 else
 if x.op=10 then 3 else
 if x.op=5/\0<=x.n/\x.n<p.Ce.length then p.Ce.getD x.n.toNat 0 else -1
def o9 (p:Prog) (x:Node):Pure zP 257 [.a (BF p),.a (JN x)] (eI (Jt p x)):=by
 refine Pure.fit (by kernel_rfl) fun hf=>?_
 have⟨p1,p2,p3,p4⟩:=Gq hf.1;have hM:=Mx;refine v8 kZ ?_
 conv=>whnf
 repeat'((first|clear U K|apply st|(apply zk;intro K U)|refine zn ?_|refine ze fun x hx=>?_|(refine zd (fun hc=>?_) (fun hc=>?_)<;>try exact⟨⟩)|fail)<;>conv=>whnf)
 all_goals first
  | (refine AG ?_;simp[Jt, *];done)
  | (refine AG ?_;simp[Jt, *];intros;omega)
  | (have hd:=(Ip.1 hx).2;refine AG ?_;simp[Jt, *];done)
def NX (p:Prog) (x:Node) (size:Int):Bool:=
 if x.op=1 then Tq x.n else if x.op=3 then decide (0<=x.n)&&decide (x.n<size)else if x.op=4\/x.op=7 then decide (0<=x.n)&&decide (x.n<p.AI)else
 if x.op=5 then decide (0<=x.n)&&decide (x.n<p.Ce.length)else if x.op=6\/x.op=8 then decide (3<=x.n)&&decide (x.n<3+p.AO.length)else x.n==0
def da (p:Prog) (x:Node) (size:Int):Pure zP 258 [.a (BF p),.a (JN x),eI size] (.b (NX p x size)):=by
 refine Pure.fit (by kernel_rfl) fun hf=>?_
 have⟨p1,p2,p3,p4⟩:=Gq hf.1;have hM:=Mx;refine v7 kZ ?_
 conv=>whnf
 repeat'((first|clear U K|apply st|(apply zk;intro K U)|refine zn ?_|refine Pure.use (q9 _) ?_|refine za (fun hc=>?_) fun hc=>?_|fail)<;>conv=>whnf)
 all_goals first
  | (refine AG ?_;simp[NX, *];done)
  | (refine AG ?_;rw[Bc,wrap64 (by omega) (by omega)];simp[NX, *];done)
  | (refine AG ?_;simp[NX, *];intros;omega)
def Gn (ps:List (List Int)) (a b:Int):Bool:=a==b||(b==0||(decide (3<=a)&&FQ ps a.toNat b.toNat))
def mL (w:AF) (a b:Int) (hl:w.parents.length<=1000) (ho:ordered w.parents) (ha:0<=a) (ha':a<3+w.parents.length) (hb:0<=b) (hb':b<3+w.parents.length):Pure zP 99 [.a (A5 w),eI a,eI b] (.b (Gn w.parents a b)):=by
 refine Pure.fit (by kernel_rfl) fun hf=>?_
 have⟨w1,w2,w3⟩:=Vn hf.1;have hM:=Mx;refine AAH kZ ?_
 conv=>whnf
 repeat'((first|clear U K|apply st|(apply zk;intro K U)|refine zn ?_|refine za (fun hc=>?_) fun hc=>?_|fail)<;>conv=>whnf)
 .exact AG (by simp[Gn,hc])
 .exact AG (by simp[Gn, *];omega)
 .have hc':0<=a:=ha
  obtain⟨a,rfl⟩: ∃n:Nat,a=n:=⟨a.toNat,by omega⟩
  refine(y9 w a ⟨hl,w2,w3⟩ ho (by omega)).use ?_;have hul:=MV w.parents (3+w.parents.length) a (a - 2)
  conv=>whnf
  repeat'((first|clear U K|apply st|(apply zk;intro K U)|refine ze fun x hx=>?_|fail)<;>conv=>whnf)
  refine AG ?_;have hu:=Z2 ho (n:=3+w.parents.length) (c:=a) (by omega) b.toNat;rw[Cq,hx]at hu;simp at hu;have e1:((a:Int)==b)=false:=by simpa using ‹(a:Int)≠b›
  have e2:(b==0)=false:=by simpa using ‹b≠0›
  simp[Gn,e1,e2,hc,hu]
 .exact AG (by simp[Gn,hc])
structure Fu (w:AF):Prop where
 len:w.parents.length<=60
 ord:ordered w.parents
 own: ∀c∈w.owner,(3:Int)<=c/\c<3+w.parents.length
 sC:w.owner.length<=40
def BG (w:AF) (s:Int):Int:=w.owner.getD s.toNat 0
def hasB (w:AF) (c s:Int):Bool:=decide (3<=c)&&Gn w.parents c (BG w s)
def uE (w:AF) (c s:Int) (hw:Fu w) (hc0:0<=c) (hc1:c<3+w.parents.length) (hs0:0<=s) (hs1:s<w.owner.length):Pure zP 157 [.a (A5 w),eI c,eI s] (.b (hasB w c s)):=by
 refine Pure.fit (by kernel_rfl) fun hf=>?_
 have⟨w1,w2,w3⟩:=Vn hf.1;have hM:=Mx;have hl:=hw.len;refine xN kZ ?_
 conv=>whnf
 repeat'((first|clear U K|apply st|(apply zk;intro K U)|refine zn ?_|refine ze fun x hx=>?_|refine za (fun hc=>?_) fun hc=>?_|fail)<;>conv=>whnf)
 .have:=hw.own x (B6 hx)
  refine(mL w c x (by omega) hw.ord hc0 hc1 (by omega) (by omega)).use ?_;refine zu ?_;(repeat clear U K);repeat intro K U
  exact AG (by simp[hasB,BG,hx,hc])
 .exact AG (by simp[hasB];omega)
def Nj {xs:List Int} {f:Bool} (h:Fc (.l (iL xs) f)):xs.length<=Ab:=OR h
def lC:Pure zP 239 [.b true] (.t []):=by
 refine ir kZ ?_;have hs:=Sn;exact zW
abbrev D2:V:= .ME 424 (.a [])
def fg (xs:List Int) (x:Int):Int:=(Bf (fun y (_:Unit)=>(x==y,())) xs 0 ()).1
def M5 {α:Type} (f:α->Bool): ∀(xs:List α) (k:Nat),(decide ((Bf (fun y (_:Unit)=>(f y,())) xs k ()).1≥0))=xs.any f
 | [],_=>rfl
 | y::r,k=>by
   simp only[Bf,Rq];cases f y
   .simpa using M5 f r (k+1)
   .simp
def U7 (xs:List Int) (x:Int):xs.any (x== ·)=xs.contains x:=by
 induction xs with
 | nil=>rfl
 | cons y r ih=>rw[Rq,List.contains_cons,ih]
def pD (xs:List Int) (x:Int):decide (fg xs x≥0)=xs.contains x:=by
 rw[<-U7];exact M5 (x== ·) xs 0
def Wh (xs:List Int) (f:Bool) (x:Int):Pure zP 70 [.l (iL xs) f,eI x] (eI (fg xs x)):=by
 refine Pure.fit (by kernel_rfl) fun hf=>?_
 have hxl:=Nj hf.1;have hM:=Mx;refine AAP kZ ?_;have hs:=Sn;refine zv ?_;(repeat clear U K);repeat intro K U
 refine B4 xs.length (fun k (_:Unit)=>[(8,eI (A7 k))]) (fun _ _=>[]) (fun k _=>fg xs x=(Bf (fun y (_:Unit)=>(x==y,())) (xs.drop k) k ()).1) () rfl rfl hs ?_;clear hs;rintro k - Z hk hn hs;have hck:A7 k=k:=AS (by omega);rcases A9 xs hk with⟨y,hy,hlt⟩|hke
 .rw[drop_cons hy,Bf]at hn
  conv=>whnf
  repeat'((first|clear U K|apply st|(apply zk;intro K U)|refine zX ?_|refine za (fun hc=>?_) fun hc=>?_|fail)<;>conv=>whnf)
  .exact AG (by rw[hn,hc,hck];simp)
  .exact⟨hlt,(),rfl,by rw[hn];simp[hc],hs⟩
 .rw[Aj hke,Bf]at hn
  refine zv ?_;(repeat clear U K);repeat intro K U
  exact AG (by rw[hn])
def B3 (xs:List Int) (f:Bool) (x:Int):Pure zP 18 [.l (iL xs) f,eI x] (.b (xs.contains x)):=by
 refine AAp kZ ?_;have hs:=Sn
 conv=>whnf
 repeat'((first|clear U K|apply st|(apply zk;intro K U)|refine zX ?_|refine Pure.use (Wh _ _ _) ?_|fail)<;>conv=>whnf)
 all_goals exact AG (by rw[<-pD])
def Rb (n:Int):Pure zP 304 [eI n] (.b (Tq n)):=by
 refine vK kZ ?_;have hs:=Sn
 conv=>whnf
 repeat'((first|clear U K|apply st|(apply zk;intro K U)|refine zX ?_|refine za (fun hc=>?_) fun hc=>?_|fail)<;>conv=>whnf)
 all_goals exact AG (by simp[Tq, *]<;>omega)
def Mw (f:Fact):Be f=(decide (2<=f.op)&&decide (f.op<=4)):=by
 rw[Hl];simp only[Be,EW,A4,CF,B7];omega
def PI (f:Fact):Pure zP 124 [.a (xF f)] (.b (Be f)):=by
 refine xg kZ ?_;have hs:=Sn
 conv=>whnf
 repeat'((first|clear U K|apply st|(apply zk;intro K U)|refine zX ?_|refine za (fun hc=>?_) fun hc=>?_|fail)<;>conv=>whnf)
 all_goals exact AG (by rw[Mw];simp[*]<;>omega)
def Z1 (s c:Nat) (hs0:s<18446744073709551616) (hc:c<64):Pure zP 201 [eU s,eI c] (eU (s|||2 ^ c)):=by
 refine wh kZ ?_;have hs:=Sn
 conv=>whnf
 repeat'((first|clear U K|apply st|(apply zk;intro K U)|fail)<;>conv=>whnf)
 refine⟨Int.natCast_nonneg _,?_⟩;refine zv ?_;(repeat clear U K);repeat intro K U
 exact AG (by rw[GR,UL hc,Hf hs0 (GI hc)])
def P5 (s c:Nat) (hs0:s<18446744073709551616) (hc:c<64):Pure zP 135 [eU s,eI c] (.b (s.testBit c)):=by
 refine xV kZ ?_;have hs:=Sn
 conv=>whnf
 repeat'((first|clear U K|apply st|(apply zk;intro K U)|fail)<;>conv=>whnf)
 refine⟨Int.natCast_nonneg _,?_⟩;refine zv ?_;(repeat clear U K);repeat intro K U
 refine AG ?_;rw[GR,UK hc];have h1:s >>> c<18446744073709551616:=by rw[Nat.shiftRight_eq_div_pow];exact Nat.lt_of_le_of_lt (Nat.div_le_self _ _) hs0
 have h2:bits .and .u64 ((s >>> c:Nat):Int) 1=((s >>> c&&&1:Nat):Int):=GA h1 (show 1<_ by decide);rw[h2];simp only[Nat.testBit,Nat.and_comm 1];congr 1;rcases Nat.mod_two_eq_zero_or_one (s >>> c)with h|h<;>simp[Nat.and_one_is_mod,h]
def o8 (op:Int):Pure zP 272 [eI op] (eI (Bp op)):=by
 refine vd kZ ?_;have hs:=Sn
 conv=>whnf
 repeat'((first|clear U K|apply st|(apply zk;intro K U)|refine zX ?_|refine za (fun hc=>?_) fun hc=>?_|fail)<;>conv=>whnf)
 all_goals exact AG (by simp[Bp, *])
def Yu (b:Bool):Pure zP 145 [.b b] (eI (if b then 0 else 2)):=by
 refine xO kZ ?_;have hs:=Sn
 conv=>whnf
 repeat'((first|clear U K|apply st|(apply zk;intro K U)|refine za (fun hc=>?_) fun hc=>?_|fail)<;>conv=>whnf)
 all_goals exact AG (by simp[*])
def JE {S:Type} (g:FuncId) (fi ca:List V) (H:S->List At) (stp:Int->S->Bool×S) (D:Int->S->Prop) (hx:Cw zP (.f (.func g) fi ca) eI H stp D) (xs:List Int) (f:Bool) (s0:S) (hd:Tc stp D xs s0) :
    BL zP 182 [.l (iL xs) f,.f (.func g) fi ca] (H s0) fun r post=>r= .ret (eI (Bf stp xs 0 s0).1)/\post=H (Bf stp xs 0 s0).2:=by
 intro Z hs;refine As.fit (by kernel_rfl) fun hf=>?_
 have hxl:=Nj hf.1;have hM:=Mx;refine jC kZ ?_;refine zv ?_;(repeat clear U K);repeat intro K U
 refine B4 xs.length (fun k (_:S)=>[(8,eI (A7 k))]) (fun _ s=>H s) (fun k s=>Tc stp D (xs.drop k) s/\Bf stp xs 0 s0=Bf stp (xs.drop k) k s) s0 rfl ⟨hd,rfl⟩ hs ?_;clear hs;rintro k s Z hk ⟨hd,hn⟩ hs;have hck:A7 k=k:=AS (by omega);rcases A9 xs hk with⟨y,hy,hlt⟩|hke
 .rw[drop_cons hy]at hn hd
  obtain⟨hd1,hd2⟩:=hd;rw[Bf]at hn;refine zv ?_;(repeat clear U K);repeat intro K U
  refine hx.use hd1 hs ?_;clear hs;intro Z hs
  conv=>whnf
  repeat'((first|clear U K|apply st|(apply zk;intro K U)|refine zX ?_|refine za (fun hc=>?_) fun hc=>?_|fail)<;>conv=>whnf)
  .rw[hc,if_pos rfl]at hn
   rw[hn];exact Au hs (List.Sublist.refl _) (by rw[hck];exact .refl _) fun Z' hs'=>⟨_,⟨rfl,rfl⟩,hs'⟩
  .rw[hc,if_neg (by decide)]at hn
   exact⟨hlt,_,rfl,⟨hd2,hn⟩,hs⟩
 .rw[Aj hke,Bf]at hn
  refine zv ?_;(repeat clear U K);repeat intro K U
  rw[hn];exact Au hs (List.Sublist.refl _) (.refl _) fun Z' hs'=>⟨_,⟨rfl,rfl⟩,hs'⟩
section
variable {S:Type} (g:FuncId) (fi ca:List V) (H:S->List At)
def HA (stp:Int->S->Bool×S) (D:Int->S->Prop) (hx:Cw zP (.f (.func g) fi ca) eI H stp D) (xs:List Int) (f:Bool) (s0:S) (hd:Tc stp D xs s0) :
    BL zP 102 [.l (iL xs) f,.f (.func g) fi ca] (H s0) fun r post=>r= .ret (.b (decide ((Bf stp xs 0 s0).1≥0)))/\post=H (Bf stp xs 0 s0).2:=by
 intro Z hs;refine jH kZ ?_
 conv=>whnf
 repeat'((first|clear U K|apply st|(apply zk;intro K U)|fail)<;>conv=>whnf)
 refine(JE g fi ca H stp D hx xs f s0 hd).use (rest:=[]) (by simpa using hs) ?_;rintro r post Z ⟨rfl,rfl⟩ hs;refine zv ?_;(repeat clear U K);repeat intro K U
 exact Au hs (by simp) (.refl _) fun Z' hs'=>⟨_,⟨rfl,rfl⟩,hs'⟩
def te (stp:Int->S->Bool×S) (D:Int->S->Prop) (hx:Cw zP (.f (.func g) fi ca) eI H stp D):Cw zP (.f (.func 269) [] [.rp [.f (.func g) fi ca]]) eI H (fun y s=>(!(stp y s).1,(stp y s).2)) D:=by
 intro y s hd Z hs;refine A0 ?_;show As zP 269 ([]++[eI y]++[.rp [.f (.func g) fi ca]]) Z _;refine ij kZ ?_;refine zv ?_;(repeat clear U K);repeat intro K U
 refine hx.use hd hs ?_;clear hs;intro Z hs;refine zv ?_;(repeat clear U K);repeat intro K U
 exact Au hs (List.Sublist.refl _) (.refl _) fun Z' hs'=>⟨rfl,hs'⟩
def jW (stp:Int->S->Bool×S) (D:Int->S->Prop) (hx:Cw zP (.f (.func g) fi ca) eI H stp D) (xs:List Int) (f:Bool) (s0:S) (hd:Tc stp D xs s0) :
    BL zP 202 [.l (iL xs) f,.f (.func g) fi ca] (H s0) fun r post=>r= .ret (.b (By stp xs s0).1)/\post=H (By stp xs s0).2:=by
 intro Z hs;obtain⟨e1,e2⟩:=N7 (stp:=stp) xs 0 s0;refine iz kZ ?_
 conv=>whnf
 repeat'((first|clear U K|apply st|(apply zk;intro K U)|fail)<;>conv=>whnf)
 refine(HA 269 [] [.rp [.f (.func g) fi ca]] H _ D (te g fi ca H stp D hx) xs f s0 (UU xs s0 hd)).use (rest:=[]) (by simpa using hs) ?_;rintro r post Z ⟨rfl,rfl⟩ hs;rw[e2];rw[e1]at hs;refine zv ?_;(repeat clear U K);repeat intro K U
 exact Au hs (by simp) (by rw[Bool.not_not];exact .refl _) fun Z' hs'=>⟨_,⟨rfl,rfl⟩,hs'⟩
def U2 (stp:Fact->S->Bool×S) (D:Fact->S->Prop) (hx:Cw zP (.f (.func g) fi ca) (fun y=> .a (xF y)) H stp D) (xs:List Fact) (f:Bool) (s0:S) (hxl:xs.length<=Ab) (hd:Tc stp D xs s0) :
    BL zP 325 [.l (facts xs) f,.f (.func g) fi ca] (H s0) fun r post=>r= .ret (eI (Bf stp xs 0 s0).1)/\post=H (Bf stp xs 0 s0).2:=by
 intro Z hs;have hM:=Mx;refine vA kZ ?_;refine zv ?_;(repeat clear U K);repeat intro K U
 refine B4 xs.length (fun k (_:S)=>[(8,eI (A7 k))]) (fun _ s=>H s) (fun k s=>Tc stp D (xs.drop k) s/\Bf stp xs 0 s0=Bf stp (xs.drop k) k s) s0 rfl ⟨hd,rfl⟩ hs ?_;clear hs;rintro k s Z hk ⟨hd,hn⟩ hs;have hck:A7 k=k:=AS (by omega);rcases A9 xs hk with⟨y,hy,hlt⟩|hke
 .rw[drop_cons hy]at hn hd
  obtain⟨hd1,hd2⟩:=hd;rw[Bf]at hn;refine zv ?_;(repeat clear U K);repeat intro K U
  refine hx.use hd1 hs ?_;clear hs;intro Z hs
  conv=>whnf
  repeat'((first|clear U K|apply st|(apply zk;intro K U)|refine zX ?_|refine za (fun hc=>?_) fun hc=>?_|fail)<;>conv=>whnf)
  .rw[hc,if_pos rfl]at hn
   rw[hn];exact Au hs (List.Sublist.refl _) (by rw[hck];exact .refl _) fun Z' hs'=>⟨_,⟨rfl,rfl⟩,hs'⟩
  .rw[hc,if_neg (by decide)]at hn
   exact⟨hlt,_,rfl,⟨hd2,hn⟩,hs⟩
 .rw[Aj hke,Bf]at hn
  refine zv ?_;(repeat clear U K);repeat intro K U
  rw[hn];exact Au hs (List.Sublist.refl _) (.refl _) fun Z' hs'=>⟨_,⟨rfl,rfl⟩,hs'⟩
def JW (stp:Fact->S->Bool×S) (D:Fact->S->Prop) (hx:Cw zP (.f (.func g) fi ca) (fun y=> .a (xF y)) H stp D) (xs:List Fact) (f:Bool) (s0:S) (hxl:xs.length<=Ab) (hd:Tc stp D xs s0) :
    BL zP 270 [.l (facts xs) f,.f (.func g) fi ca] (H s0) fun r post=>r= .ret (.b (decide ((Bf stp xs 0 s0).1≥0)))/\post=H (Bf stp xs 0 s0).2:=by
 intro Z hs;refine vg kZ ?_
 conv=>whnf
 repeat'((first|clear U K|apply st|(apply zk;intro K U)|fail)<;>conv=>whnf)
 refine(U2 g fi ca H stp D hx xs f s0 hxl hd).use (rest:=[]) (by simpa using hs) ?_;rintro r post Z ⟨rfl,rfl⟩ hs;refine zv ?_;(repeat clear U K);repeat intro K U
 exact Au hs (by simp) (.refl _) fun Z' hs'=>⟨_,⟨rfl,rfl⟩,hs'⟩
def td (stp:Fact->S->Bool×S) (D:Fact->S->Prop) (hx:Cw zP (.f (.func g) fi ca) (fun y=> .a (xF y)) H stp D):Cw zP (.f (.func 271) [] [.rp [.f (.func g) fi ca]]) (fun y=> .a (xF y)) H (fun y s=>(!(stp y s).1,(stp y s).2)) D:=by
 intro y s hd Z hs;refine A0 ?_;show As zP 271 ([]++[.a (xF y)]++[.rp [.f (.func g) fi ca]]) Z _;refine ve kZ ?_;refine zv ?_;(repeat clear U K);repeat intro K U
 refine hx.use hd hs ?_;clear hs;intro Z hs;refine zv ?_;(repeat clear U K);repeat intro K U
 exact Au hs (List.Sublist.refl _) (.refl _) fun Z' hs'=>⟨rfl,hs'⟩
def jV (stp:Fact->S->Bool×S) (D:Fact->S->Prop) (hx:Cw zP (.f (.func g) fi ca) (fun y=> .a (xF y)) H stp D) (xs:List Fact) (f:Bool) (s0:S) (hxl:xs.length<=Ab) (hd:Tc stp D xs s0) :
    BL zP 204 [.l (facts xs) f,.f (.func g) fi ca] (H s0) fun r post=>r= .ret (.b (By stp xs s0).1)/\post=H (By stp xs s0).2:=by
 intro Z hs;obtain⟨e1,e2⟩:=N7 (stp:=stp) xs 0 s0;refine wg kZ ?_
 conv=>whnf
 repeat'((first|clear U K|apply st|(apply zk;intro K U)|fail)<;>conv=>whnf)
 refine(JW 271 [] [.rp [.f (.func g) fi ca]] H _ D (td g fi ca H stp D hx) xs f s0 hxl (UU xs s0 hd)).use (rest:=[]) (by simpa using hs) ?_;rintro r post Z ⟨rfl,rfl⟩ hs;rw[e2];rw[e1]at hs;refine zv ?_;(repeat clear U K);repeat intro K U
 exact Au hs (by simp) (by rw[Bool.not_not];exact .refl _) fun Z' hs'=>⟨_,⟨rfl,rfl⟩,hs'⟩
end
abbrev Vd (f:Int->Bool):Int->Unit->Bool×Unit:=fun y _=>(f y,())
def Qz {g:FuncId} {fi ca:List V} {f:Int->Bool} {D:Int->Unit->Prop} (h: ∀y,D y ()->Pure zP g (fi++[eI y]++ca) (.b (f y))):Cw zP (.f (.func g) fi ca) eI (fun _=>[]) (Vd f) D:=by
 intro y s hd Z hs;refine A0 ?_;show As zP g (fi++[eI y]++ca) Z _;refine As.mono ((h y hd).use (k:=fun v Z'=>v= .b (f y)/\Sat Z' []) (kp:=fun _ _=>False) ⟨rfl,Sat.nil⟩) ?_;rintro(v|v) Z' hq
 .obtain⟨rfl,h⟩:=hq
  exact⟨rfl,h⟩
 .exact hq.elim
def qQ {g:FuncId} {fi ca:List V} {f:Int->Bool} {xs:List Int} (b:Bool) (h: ∀y∈xs,Pure zP g (fi++[eI y]++ca) (.b (f y))):Pure zP 202 [.l (iL xs) b,.f (.func g) fi ca] (.b (xs.all f)):=by
 have:=jW g fi ca (fun _=>[]) (Vd f) (fun y _=>y∈xs) (Qz fun y hy=>h y hy) xs b () (Hs fun y hy _=>hy);rw[K2]at this;exact Pure.of (As.mono (this emp Sat.nil) fun r Z' ⟨post,⟨h1,h2⟩,h3⟩=>h1)
end Go.Gl
